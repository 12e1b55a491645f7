/- The plain law of lexical analysis: the token at the head of a list of bytes, and facts on spans and decimal values; no program in sight. -/
namespace Go.Proofs.Ytjfpaglnadfppaa.Lex

def letB (c : UInt8) : Bool := decide (65 ≤ c.toNat ∧ c.toNat ≤ 90 ∨ 97 ≤ c.toNat ∧ c.toNat ≤ 122 ∨ c.toNat = 95)
def digB (c : UInt8) : Bool := decide (48 ≤ c.toNat ∧ c.toNat ≤ 57)
def wordB (c : UInt8) : Bool := letB c || digB c
def blankB (c : UInt8) : Bool := decide (c.toNat = 32 ∨ c.toNat = 10)
/-- How many bytes at the head are of a class. -/
def span (p : UInt8 → Bool) (l : List UInt8) : Nat := (l.takeWhile p).length

theorem span_nil (p) : span p [] = 0 := rfl
theorem span_cons (p) (c : UInt8) (t) : span p (c :: t) = if p c then span p t + 1 else 0 := by
  unfold span; rw [List.takeWhile_cons]; split <;> rfl
theorem span_le (p) (l : List UInt8) : span p l ≤ l.length := by
  induction l with
  | nil => simp [span_nil]
  | cons c t ih => rw [span_cons]; split <;> simp <;> omega
theorem take_span (p) (l : List UInt8) : l.take (span p l) = l.takeWhile p := by
  induction l with
  | nil => rfl
  | cons c t ih => rw [span_cons, List.takeWhile_cons]; split <;> simp [ih]
theorem span_all (p) (l : List UInt8) : (span p l = l.length) ↔ l.all p = true := by
  induction l with
  | nil => simp [span_nil]
  | cons c t ih => rw [span_cons]; by_cases h : p c <;> simp [h, ih]

structure T where
  kind : Int
  val : Int
  text : List UInt8
  len : Nat
  err : Int
def bad (e : Int) : T := ⟨0, 0, [], 0, e⟩

def minusB (x : List UInt8) : Bool := decide (x.head? = some 45)
def trim (x : List UInt8) : List UInt8 := if minusB x then x.tail else x
/-- Digits without a superfluous zero ahead. -/
def plainB (d : List UInt8) : Bool := d.all digB && !(d.isEmpty) && !(decide (d.head? = some 48) && decide (1 < d.length))
def canonL (x : List UInt8) : Bool := plainB (trim x) && !decide (x = [45, 48])
def valFrom (n : Nat) (d : List UInt8) : Nat := d.foldl (fun n c => 10 * n + (c.toNat - 48)) n
def top : Nat := 9223372036854775808
def parseL (x : List UInt8) : Option Int :=
  if canonL x then
    if minusB x then (if valFrom 0 (trim x) ≤ top then some (-(valFrom 0 (trim x) : Int)) else none)
    else (if valFrom 0 (trim x) < top then some (valFrom 0 (trim x) : Int) else none)
  else none
def numL (l : List UInt8) (n : Nat) : T :=
  if (!canonL (l.take n)) || (l.drop n).head?.any letB then bad 3
  else match parseL (l.take n) with
    | some v => ⟨2, v, [], n, 0⟩
    | none => bad 10
def signN (c : UInt8) : Nat := if c = 45 then 1 else 0
def punctB (c : UInt8) : Bool := decide (c.toNat = 40 ∨ c.toNat = 41 ∨ c.toNat = 61)
/-- The token at the head of 'c :: t', which is no blank. -/
def tokL (c : UInt8) (t : List UInt8) : T :=
  if letB c then (if 24 < span wordB (c :: t) then bad 6 else ⟨1, 0, (c :: t).take (span wordB (c :: t)), span wordB (c :: t), 0⟩)
  else if punctB c then ⟨3, 0, [c], 1, 0⟩
  else if span digB ((c :: t).drop (signN c)) = 0 then bad 12
  else numL (c :: t) (signN c + span digB ((c :: t).drop (signN c)))

theorem numL_len (l n) (h : (numL l n).err = 0) : (numL l n).len = n := by
  unfold numL at h ⊢
  split
  · rw [if_pos (by assumption)] at h; simp [bad] at h
  · rw [if_neg (by assumption)] at h
    split
    · rfl
    · rw [show parseL (l.take n) = none from by assumption] at h; simp [bad] at h
theorem tokL_len (c t) (h : (tokL c t).err = 0) : 1 ≤ (tokL c t).len ∧ (tokL c t).len ≤ t.length + 1 := by
  have hl := span_le wordB (c :: t)
  have hd := span_le digB ((c :: t).drop (signN c))
  unfold tokL at h ⊢
  by_cases h1 : letB c = true
  · rw [if_pos h1] at h ⊢
    by_cases h2 : 24 < span wordB (c :: t)
    · rw [if_pos h2] at h; simp [bad] at h
    · rw [if_neg h2]; simp at hl ⊢; rw [span_cons] at hl ⊢; simp [wordB, h1] at hl ⊢; omega
  · rw [if_neg h1] at h ⊢
    by_cases h2 : punctB c = true
    · rw [if_pos h2]; simp
    · rw [if_neg h2] at h ⊢
      by_cases h3 : span digB ((c :: t).drop (signN c)) = 0
      · rw [if_pos h3] at h; simp [bad] at h
      · rw [if_neg h3] at h ⊢
        rw [numL_len _ _ h]
        have : signN c ≤ 1 := by unfold signN; split <;> omega
        simp at hd ⊢
        omega

structure Tk where
  kind : Int
  off : Nat
  val : Int
  text : List UInt8
/-- The tokens of a list of bytes that begins at an offset, behind those that were read; or an error and its offset. -/
def scanF : Nat → List UInt8 → Nat → List Tk → List Tk × Int × Int
  | 0, _, _, acc => (acc, 0, 0)
  | f + 1, l, o, acc =>
    match l.drop (span blankB l) with
    | [] => (acc, 0, 0)
    | c :: t =>
      if 20000 ≤ acc.length then ([], ((o + span blankB l : Nat) : Int), 11)
      else if (tokL c t).err ≠ 0 then ([], ((o + span blankB l : Nat) : Int), (tokL c t).err)
      else scanF f ((c :: t).drop (tokL c t).len) (o + span blankB l + (tokL c t).len) (acc ++ [⟨(tokL c t).kind, o + span blankB l, (tokL c t).val, (tokL c t).text⟩])

/-! decimal values -/
theorem valFrom_cons (n c d) : valFrom n (c :: d) = valFrom (10 * n + (c.toNat - 48)) d := by unfold valFrom; rw [List.foldl_cons]
theorem valFrom_ge (d : List UInt8) : ∀ n, n ≤ valFrom n d := by
  induction d with
  | nil => intro n; exact Nat.le_refl _
  | cons c d ih => intro n; rw [valFrom_cons]; exact Nat.le_trans (by omega) (ih _)
theorem valFrom_pow (d : List UInt8) : ∀ n, n * 10 ^ d.length ≤ valFrom n d := by
  induction d with
  | nil => intro n; simp [valFrom]
  | cons c d ih =>
    intro n; rw [valFrom_cons]
    refine Nat.le_trans ?_ (ih _)
    rw [List.length_cons, Nat.pow_succ, show n * (10 ^ d.length * 10) = (10 * n) * 10 ^ d.length by rw [← Nat.mul_assoc, Nat.mul_comm (n * _) 10, ← Nat.mul_assoc]]
    exact Nat.mul_le_mul_right _ (by omega)
theorem valFrom_lt (d : List UInt8) (h : d.all digB = true) : ∀ n, valFrom n d < (n + 1) * 10 ^ d.length := by
  induction d with
  | nil => intro n; simp [valFrom]
  | cons c d ih =>
    intro n
    simp only [List.all_cons, Bool.and_eq_true] at h
    have hc : c.toNat ≤ 57 := by have := h.1; simp [digB] at this; exact this.2
    rw [valFrom_cons]
    refine Nat.lt_of_lt_of_le (ih h.2 _) ?_
    rw [List.length_cons, Nat.pow_succ, show (n + 1) * (10 ^ d.length * 10) = (10 * (n + 1)) * 10 ^ d.length by rw [← Nat.mul_assoc, Nat.mul_comm ((n + 1) * _) 10, ← Nat.mul_assoc]]
    exact Nat.mul_le_mul_right _ (by omega)
/-- What the program's magnitude answers, digit by digit. -/
def magR (m : Nat) : Nat → List UInt8 → Int × Bool
  | n, [] => (n, true)
  | n, c :: d => if (m - (c.toNat - 48)) / 10 < n then (0, false) else magR m (10 * n + (c.toNat - 48)) d
theorem magR_val (m : Nat) (hm : 10 ≤ m) (d : List UInt8) (h : d.all digB = true) : ∀ n, n ≤ m → magR m n d = if valFrom n d ≤ m then ((valFrom n d : Int), true) else (0, false) := by
  induction d with
  | nil => intro n hn; simp [magR, valFrom, hn]
  | cons c d ih =>
    intro n hn
    simp only [List.all_cons, Bool.and_eq_true] at h
    have hc : 48 ≤ c.toNat ∧ c.toNat ≤ 57 := by have := h.1; simpa [digB] using this
    rw [magR, valFrom_cons]
    by_cases h1 : (m - (c.toNat - 48)) / 10 < n
    · rw [if_pos h1, if_neg]
      have := valFrom_ge d (10 * n + (c.toNat - 48))
      omega
    · rw [if_neg h1, ih h.2 _ (by omega)]
end Go.Proofs.Ytjfpaglnadfppaa.Lex
