/- What the reference's functions of lexical analysis answer, in the words of the plain law. -/
import Derived.Test.YtjfpaglnadfppaaLexImpl
namespace Go.Proofs.Ytjfpaglnadfppaa.Pure
open Go.RowKit Go.Proofs.Ytjfpaglnadfppaa.P Go.Proofs.YtjfpaglnadfppaaW.PrintWords Go.Proofs.YtjfpaglnadfppaaW.PrintLast Lex


theorem rend_word (s : ByteArray) (hs : s.size ≤ 140737488351232) : ∀ d i : Nat, s.size - i = d → i ≤ s.size → Ev (fun k => burnishref13_end.l0 k s (i : Int) true) ((i + span wordB ((L s).drop i) : Nat) : Int) := by
  intro d
  induction d with
  | zero =>
    intro i hd hi
    have g : ((i : Int) < (s.size : Int)) = False := eq_false (by omega)
    refine Ev_up ?_
    simp only [burnishref13_end.l0, g, if_false]
    rw [drop_end s i (by omega), span_nil]; exact Ev_now rfl
  | succ d ih =>
    intro i hd hi
    have g : ((i : Int) < (s.size : Int)) = True := eq_true (by omega)
    have g1 : (0 ≤ (i : Int)) = True := eq_true (by omega)
    have hw : wrap64 ((i : Int) + 1) = ((i + 1 : Nat) : Int) := by rw [show (i : Int) + 1 = ((i + 1 : Nat) : Int) by omega]; exact wrap_nat _ (by omega)
    have h1 := ih (i + 1) (by omega) (by omega)
    rw [drop_cons s i (by omega), span_cons]
    refine Ev_up ?_
    simp only [burnishref13_end.l0, g, g1, if_true, bt_L, rdigit_f, rletter_f, Option.bind_some, hw]
    cases hd1 : digB ((L s).getD i 0) with
    | true =>
      simp only [wordB, hd1, Bool.or_true, if_true]
      rw [show i + (span wordB ((L s).drop (i + 1)) + 1) = i + 1 + span wordB ((L s).drop (i + 1)) by omega]; exact h1
    | false =>
      simp only [wordB, hd1, Bool.or_false, Bool.false_eq_true, if_false]
      cases hl1 : letB ((L s).getD i 0) with
      | true =>
        simp only [if_true]
        rw [show i + (span wordB ((L s).drop (i + 1)) + 1) = i + 1 + span wordB ((L s).drop (i + 1)) by omega]; exact h1
      | false => simp only [Bool.false_eq_true, if_false]; exact Ev_now rfl
theorem rendf_word (s : ByteArray) (hs : s.size ≤ 140737488351232) (i : Nat) (hi : i ≤ s.size) : Ev (fun k => burnishref13_end.f k s (i : Int) true) ((i + span wordB ((L s).drop i) : Nat) : Int) := by
  unfold burnishref13_end.f
  exact rend_word s hs (s.size - i) i rfl hi

theorem rend_digit (s : ByteArray) (hs : s.size ≤ 140737488351232) : ∀ d i : Nat, s.size - i = d → i ≤ s.size → Ev (fun k => burnishref13_end.l0 k s (i : Int) false) ((i + span digB ((L s).drop i) : Nat) : Int) := by
  intro d
  induction d with
  | zero =>
    intro i hd hi
    have g : ((i : Int) < (s.size : Int)) = False := eq_false (by omega)
    refine Ev_up ?_
    simp only [burnishref13_end.l0, g, if_false]
    rw [drop_end s i (by omega), span_nil]; exact Ev_now rfl
  | succ d ih =>
    intro i hd hi
    have g : ((i : Int) < (s.size : Int)) = True := eq_true (by omega)
    have g1 : (0 ≤ (i : Int)) = True := eq_true (by omega)
    have hw : wrap64 ((i : Int) + 1) = ((i + 1 : Nat) : Int) := by rw [show (i : Int) + 1 = ((i + 1 : Nat) : Int) by omega]; exact wrap_nat _ (by omega)
    have h1 := ih (i + 1) (by omega) (by omega)
    rw [drop_cons s i (by omega), span_cons]
    refine Ev_up ?_
    simp only [burnishref13_end.l0, g, g1, if_true, bt_L, rdigit_f, rletter_f, Option.bind_some, hw]
    cases hd1 : digB ((L s).getD i 0) with
    | true =>
      simp only [if_true]
      rw [show i + (span digB ((L s).drop (i + 1)) + 1) = i + 1 + span digB ((L s).drop (i + 1)) by omega]; exact h1
    | false => simp only [Bool.false_eq_true, if_false]; exact Ev_now rfl
theorem rendf_digit (s : ByteArray) (hs : s.size ≤ 140737488351232) (i : Nat) (hi : i ≤ s.size) : Ev (fun k => burnishref13_end.f k s (i : Int) false) ((i + span digB ((L s).drop i) : Nat) : Int) := by
  unfold burnishref13_end.f
  exact rend_digit s hs (s.size - i) i rfl hi

/-- What the reference answers of a sign and a value. -/
def finR (m : Bool) (V : Nat) : Int × Bool :=
  if m then (if V ≤ 9223372036854775808 then (-(V : Int), true) else (0, false)) else (if V < 9223372036854775808 then ((V : Int), true) else (0, false))
theorem rj4 (m : Bool) (V : Nat) (hV : V < 18446744073709551616) (b : Bool) (hb : b = (m && decide (9223372036854775808 < V))) : Ev (fun k => burnishref13_ParseInt.j4 k m (V : Int) b) (finR m V) := by
  refine Ev_up ?_
  simp only [burnishref13_ParseInt.j4]
  refine Ev.congr (f := fun _ => some (finR m V)) (fun k => ?_) (Ev.now _)
  cases m with
  | true =>
    by_cases h : V ≤ 9223372036854775808
    · have hb' : b = false := by rw [hb]; simp; omega
      rw [hb', if_neg (by decide), if_pos rfl]
      have : wrap64 (IntKind.u64.wrap (-(V : Int))) = -(V : Int) := by rw [IntKind.wrap_u64]; unfold wrap64; omega
      rw [this]; simp [finR, h]
    · have hb' : b = true := by rw [hb]; simp; omega
      rw [hb', if_pos rfl]; simp [finR, h]
  | false =>
    have hb' : b = false := by rw [hb]; rfl
    rw [hb', if_neg (by decide), if_neg (by decide)]
    by_cases h : V < 9223372036854775808
    · rw [if_neg (by omega)]
      have : wrap64 (V : Int) = (V : Int) := by unfold wrap64; omega
      rw [this]; simp [finR, h]
    · rw [if_pos (by omega)]; simp [finR, h]
theorem rl0 (m : Bool) (s : ByteArray) (hs : s.size ≤ 140737488351232) : ∀ d i n : Nat, s.size - i = d → i ≤ s.size → ((L s).drop i).all digB = true → valFrom n ((L s).drop i) < 18446744073709551616 →
    Ev (fun k => burnishref13_ParseInt.l0 k m s (n : Int) (i : Int)) (finR m (valFrom n ((L s).drop i))) := by
  intro d
  induction d with
  | zero =>
    intro i n hd hi ha hv
    have g : ((i : Int) < (s.size : Int)) = False := eq_false (by omega)
    refine Ev_up ?_
    rw [drop_end s i (by omega)] at hv ⊢
    have hv' : n < 18446744073709551616 := hv
    simp only [burnishref13_ParseInt.l0, g, if_false]
    cases m with
    | true => simp only [if_true]; exact rj4 true n hv' _ (by simp; omega)
    | false => simp only [Bool.false_eq_true, if_false]; exact rj4 false n hv' _ rfl
  | succ d ih =>
    intro i n hd hi ha hv
    have hx := drop_cons s i (by omega)
    obtain ⟨c, hc⟩ : ∃ c, c = (L s).getD i 0 := ⟨_, rfl⟩
    rw [← hc] at hx
    rw [hx] at ha hv ⊢
    simp only [List.all_cons, Bool.and_eq_true] at ha
    obtain ⟨hc1, hc2⟩ := dig_range c ha.1
    rw [valFrom_cons] at hv ⊢
    have hge := valFrom_ge ((L s).drop (i + 1)) (10 * n + (c.toNat - 48))
    have g : ((i : Int) < (s.size : Int)) = True := eq_true (by omega)
    have g1 : (0 ≤ (i : Int)) = True := eq_true (by omega)
    have hw : wrap64 ((i : Int) + 1) = ((i + 1 : Nat) : Int) := by rw [show (i : Int) + 1 = ((i + 1 : Nat) : Int) by omega]; exact wrap_nat _ (by omega)
    have hu : IntKind.u64.wrap ((IntKind.u64.wrap ((n : Int) * 10)) + (((c.toNat : Int) - 48) % 256)) = ((10 * n + (c.toNat - 48) : Nat) : Int) := by rw [IntKind.wrap_u64, IntKind.wrap_u64]; omega
    refine Ev_up ?_
    simp only [burnishref13_ParseInt.l0, g, g1, if_true, bt_L, ← hc, hw, hu]
    exact ih (i + 1) _ (by omega) (by omega) ha.2 hv
theorem rj2_true (m : Bool) (s : ByteArray) : Ev (fun k => burnishref13_ParseInt.j2 k m s true) (0, false) := by
  refine Ev_up ?_
  simp only [burnishref13_ParseInt.j2, if_true]; exact Ev_now rfl
theorem rj2_false (m : Bool) (s : ByteArray) (hs : s.size ≤ 19) (ha : (L s).all digB = true) : Ev (fun k => burnishref13_ParseInt.j2 k m s false) (finR m (valFrom 0 (L s))) := by
  refine Ev_up ?_
  simp only [burnishref13_ParseInt.j2, Bool.false_eq_true, if_false]
  have hv := valFrom_lt (L s) ha 0
  have hp : 10 ^ (L s).length ≤ 10 ^ 19 := Nat.pow_le_pow_right (by omega) (by rw [L_length]; exact hs)
  exact rl0 m s (by omega) s.size 0 0 (by omega) (by omega) (by simpa using ha) (by rw [List.drop_zero]; omega)
/-- The reference's answer of the digits behind a sign. -/
def digR (m : Bool) (d : List UInt8) : Int × Bool := if plainB d && !(m && decide (d = [48])) then finR m (valFrom 0 d) else (0, false)
theorem plain_big (m : Bool) (d : List UInt8) (h : 19 < d.length) : digR m d = (0, false) := by
  unfold digR
  by_cases hp : plainB d = true
  · have : 9223372036854775808 < valFrom 0 d := by
      cases d with
      | nil => simp at h
      | cons c t =>
        simp only [plainB, List.all_cons, Bool.and_eq_true, List.head?_cons, Option.some.injEq, List.isEmpty_cons, Bool.not_false, and_true] at hp
        have hc := dig_range c hp.1.1
        have h48 : c ≠ 48 := by
          intro e
          have := hp.2
          simp [e] at this
          simp [this] at h
        have hc2 : 49 ≤ c.toNat := by
          have : c.toNat ≠ 48 := fun e => h48 (UInt8.toNat_inj.1 e)
          omega
        rw [valFrom_cons]
        have h1 := valFrom_pow t (10 * 0 + (c.toNat - 48))
        have h2 : 10 ^ 19 ≤ 10 ^ t.length := Nat.pow_le_pow_right (by omega) (by simp at h; omega)
        have h3 : 1 * 10 ^ t.length ≤ (10 * 0 + (c.toNat - 48)) * 10 ^ t.length := Nat.mul_le_mul_right _ (by omega)
        omega
    have h1 : ¬ (valFrom 0 d ≤ 9223372036854775808) := by omega
    have h2 : ¬ (valFrom 0 d < 9223372036854775808) := by omega
    cases m <;> simp [finR, h1, h2]
  · have : plainB d = false := by simpa using hp
    simp [this]
theorem rj1 (m : Bool) (s : ByteArray) (hs : s.size ≤ 140737488351232) : Ev (fun k => burnishref13_ParseInt.j1 k m s) (digR m (L s)) := by
  refine Ev_up ?_
  simp only [burnishref13_ParseInt.j1, L_toList]
  cases hl : L s with
  | nil =>
    simp only [if_true]
    rw [show digR m [] = (0, false) from rfl]
    exact rj2_true m s
  | cons c t =>
    obtain ⟨hb, h0, hsz⟩ := at_head s c t hl
    have gne : (c :: t = []) = False := eq_false (by simp)
    simp only [gne, if_false]
    have he := rendf_digit s hs 0 (by omega)
    rw [List.drop_zero, Nat.zero_add] at he
    refine Ev.bind he ?_
    have ha := span_all digB (L s)
    rw [L_length] at ha
    by_cases h1 : span digB (L s) = s.size
    · have hall := ha.1 h1
      have g1 : (((span digB (L s) : Nat) : Int) = (s.size : Int)) = True := eq_true (by omega)
      simp only [g1, if_true]
      by_cases h19 : s.size > 19
      · have g2 : ((s.size : Int) > 19) = True := eq_true (by omega)
        simp only [g2, if_true]
        rw [plain_big m _ (by rw [← hl, L_length]; exact h19)]
        exact rj2_true m s
      · have g2 : ((s.size : Int) > 19) = False := eq_false (by omega)
        simp only [g2, if_false]
        have hf := rj2_false m s (by omega) hall
        rw [hl] at hf
        rw [hl] at hall
        by_cases hgt : s.size > 1
        · have g3 : ((s.size : Int) > 1) = True := eq_true (by omega)
          have g4 : (0 < (s.size : Int)) = True := eq_true (by omega)
          simp only [g3, g4, if_true, hb]
          have htl : 1 < (c :: t).length := by rw [List.length_cons]; omega
          have hn1 : (c :: t == [48]) = false := by
            cases t with
            | nil => simp at htl
            | cons b t => simp
          have hn2 : ¬ (c :: t = [48]) := by simpa using hn1
          by_cases h48 : c = 48
          · have g5 : ((c.toNat : Int) = 48) = True := eq_true (by rw [h48]; rfl)
            simp only [g5, if_true]
            rw [show digR m (c :: t) = (0, false) by unfold digR plainB; simp [h48]; cases t with | nil => simp at htl | cons b t => simp]
            exact rj2_true m s
          · have g5 : ((c.toNat : Int) = 48) = False := eq_false (by intro e; apply h48; apply UInt8.toNat_inj.1; have : (48 : UInt8).toNat = 48 := rfl; omega)
            simp only [g5, if_false, hn1]
            have hres : digR m (c :: t) = finR m (valFrom 0 (c :: t)) := by unfold digR plainB; rw [hall]; simp [h48]
            rw [hres]
            cases m <;> simp only [if_true, Bool.false_eq_true, if_false] <;> exact hf
        · have g3 : ((s.size : Int) > 1) = False := eq_false (by omega)
          have ht : t = [] := List.eq_nil_of_length_eq_zero (by omega)
          subst ht
          simp only [g3, if_false]
          have hpl : plainB [c] = true := by unfold plainB; rw [hall]; simp
          cases m with
          | false =>
            simp only [Bool.false_eq_true, if_false]
            rw [show digR false [c] = finR false (valFrom 0 [c]) by unfold digR; rw [hpl]; rfl]
            exact hf
          | true =>
            simp only [if_true]
            by_cases h48 : c = 48
            · subst h48
              exact rj2_true true s
            · have hn1 : (([c] : List UInt8) == [48]) = false := by simp [h48]
              rw [hn1]
              rw [show digR true [c] = finR true (valFrom 0 [c]) by unfold digR; rw [hpl]; simp [h48]]
              exact hf
    · have g1 : (((span digB (L s) : Nat) : Int) = (s.size : Int)) = False := eq_false (by omega)
      simp only [g1, if_false]
      have hall : (L s).all digB = false := by
        cases hx : (L s).all digB with
        | false => rfl
        | true => exact absurd (ha.2 hx) h1
      rw [show digR m (c :: t) = (0, false) by unfold digR plainB; rw [← hl, hall]; rfl]
      exact rj2_true m s
theorem digR_parse (x : List UInt8) : digR (minusB x) (trim x) = optI (parseL x) := by
  unfold digR parseL canonL
  have h48 : decide (x = [45, 48]) = (minusB x && decide (trim x = [48])) := by
    cases x with
    | nil => rfl
    | cons c t => by_cases hc : c = 45 <;> simp [minusB, trim, hc]
  rw [h48]
  by_cases hp : (plainB (trim x) && !(minusB x && decide (trim x = [48]))) = true
  · rw [if_pos hp, if_pos hp]
    unfold finR top
    cases minusB x
    · simp only [Bool.false_eq_true, if_false]
      by_cases h : valFrom 0 (trim x) < 9223372036854775808 <;> simp [h, optI]
    · simp only [if_true]
      by_cases h : valFrom 0 (trim x) ≤ 9223372036854775808 <;> simp [h, optI]
  · rw [if_neg hp, if_neg hp]; rfl
theorem rparse_f (s : ByteArray) (hs : s.size ≤ 140737488351232) : Ev (fun k => burnishref13_ParseInt.f k s) (optI (parseL (L s))) := by
  rw [← digR_parse]
  cases hl : L s with
  | nil =>
    have g : ((s.size : Int) > 0) = False := eq_false (by rw [size_nil s hl]; decide)
    unfold burnishref13_ParseInt.f
    simp only [g, if_false]
    refine Ev_up ?_
    simp only [burnishref13_ParseInt.j0, Bool.false_eq_true, if_false]
    have := rj1 false s hs
    rw [hl] at this; exact this
  | cons c t =>
    obtain ⟨hb, h0, hsz⟩ := at_head s c t hl
    have g : ((s.size : Int) > 0) = True := eq_true (by omega)
    have g1 : (1 ≤ (s.size : Int)) = True := eq_true (by omega)
    unfold burnishref13_ParseInt.f
    simp only [g, if_true, hb]
    refine Ev_up ?_
    by_cases hc : c = 45
    · have e : ((c.toNat : Int) == 45) = true := by rw [hc]; rfl
      simp only [burnishref13_ParseInt.j0, e, g1, if_true]
      have := rj1 true (s.extract 1 s.size) (by rw [ByteArray.size_extract]; omega)
      rw [L_tail, hl] at this
      simp [minusB, trim, hc]; simpa using this
    · have e : ((c.toNat : Int) == 45) = false := by
        rw [beq_eq_false_iff_ne]; intro h; apply hc; apply UInt8.toNat_inj.1; have : (45 : UInt8).toNat = 45 := rfl; omega
      simp only [burnishref13_ParseInt.j0, e, Bool.false_eq_true, if_false]
      have := rj1 false s hs
      rw [hl] at this
      simp [minusB, trim, hc]; exact this

theorem rnum_j1 (s : ByteArray) (hs : s.size ≤ 140737488351232) (i n : Nat) (hn : i + n ≤ s.size) (b : Bool) :
    Ev (fun k => burnishref13_number.j1 k s (i : Int) ((i + n : Nat) : Int) b) (if b then (0, 0, 0, (⟨#[]⟩ : ByteArray), 3) else match parseL (((L s).drop i).take n) with | some v => (2, (i : Int), v, (⟨#[]⟩ : ByteArray), 0) | none => (0, 0, 0, (⟨#[]⟩ : ByteArray), 10)) := by
  refine Ev_up ?_
  cases b with
  | true => simp only [burnishref13_number.j1, if_true]; exact Ev_now rfl
  | false =>
    have g1 : (0 ≤ (i : Int)) = True := eq_true (by omega)
    have g2 : ((i : Int) ≤ ((i + n : Nat) : Int)) = True := eq_true (by omega)
    have g3 : (((i + n : Nat) : Int) ≤ (s.size : Int)) = True := eq_true (by omega)
    have hp := rparse_f (s.extract i (i + n)) (by rw [ByteArray.size_extract]; omega)
    rw [L_extract, Nat.add_sub_cancel_left] at hp
    simp only [burnishref13_number.j1, Bool.false_eq_true, if_false, g1, g2, g3, if_true, Int.toNat_natCast]
    refine Ev.bind hp ?_
    cases parseL (((L s).drop i).take n) <;> exact Ev.now _
/-- The answer of number, of the bytes from i on and the number's length. -/
def numR (l : List UInt8) (i n : Nat) : Int × Int × Int × ByteArray × Int :=
  let x := numL l n
  if x.err = 0 then (x.kind, (i : Int), x.val, (⟨#[]⟩ : ByteArray), 0) else (0, 0, 0, (⟨#[]⟩ : ByteArray), x.err)
theorem numR_eq (l : List UInt8) (i n : Nat) : numR l i n = (if ((!canonL (l.take n)) || (l.drop n).head?.any letB) = true then ((0, 0, 0, (⟨#[]⟩ : ByteArray), 3) : Int × Int × Int × ByteArray × Int) else match parseL (l.take n) with | some v => (2, (i : Int), v, (⟨#[]⟩ : ByteArray), 0) | none => (0, 0, 0, (⟨#[]⟩ : ByteArray), 10)) := by
  unfold numR numL
  cases h : ((!canonL (l.take n)) || (l.drop n).head?.any letB) with
  | true => rfl
  | false => cases parseL (l.take n) <;> rfl
theorem rnum_tail (s : ByteArray) (hs : s.size ≤ 140737488351232) (i n : Nat) (hn : i + n ≤ s.size) (hz : canonL (((L s).drop i).take n) = !decide (((L s).drop i).take n = [45, 48])) :
    Ev (fun k => (if 0 ≤ (i : Int) then (if (i : Int) ≤ ((i + n : Nat) : Int) then (if ((i + n : Nat) : Int) ≤ (s.size : Int) then (if (s.extract ((i : Int) : Int).toNat (((i + n : Nat) : Int) : Int).toNat).toList = ([45, 48] : List UInt8) then (burnishref13_number.j1 k s (i : Int) ((i + n : Nat) : Int) true) else (if ((i + n : Nat) : Int) < (s.size : Int) then (if 0 ≤ ((i + n : Nat) : Int) then ((burnishref13_letter.f (bt s ((i + n : Nat) : Int))).bind fun t161 => (burnishref13_number.j1 k s (i : Int) ((i + n : Nat) : Int) t161)) else (none)) else (burnishref13_number.j1 k s (i : Int) ((i + n : Nat) : Int) false))) else (none)) else (none)) else (none))) (numR ((L s).drop i) i n) := by
  have g1 : (0 ≤ (i : Int)) = True := eq_true (by omega)
  have g2 : ((i : Int) ≤ ((i + n : Nat) : Int)) = True := eq_true (by omega)
  have g3 : (((i + n : Nat) : Int) ≤ (s.size : Int)) = True := eq_true (by omega)
  have g4 : (0 ≤ ((i + n : Nat) : Int)) = True := eq_true (by omega)
  rw [numR_eq]
  simp only [g1, g2, g3, if_true, Int.toNat_natCast, L_toList, L_extract, Nat.add_sub_cancel_left, bt_L, rletter_f, Option.bind_some]
  by_cases h0 : ((L s).drop i).take n = [45, 48]
  · have e : (List.take n (List.drop i (L s)) = [45, 48]) = True := eq_true h0
    simp only [e, if_true]
    rw [hz]
    simp only [e, decide_true, Bool.not_true, Bool.not_false, Bool.true_or, if_true]
    exact rnum_j1 s hs i n hn true
  · have e : (List.take n (List.drop i (L s)) = [45, 48]) = False := eq_false h0
    rw [hz]
    simp only [e, if_false, decide_false, Bool.not_false, Bool.not_true, Bool.false_or, List.drop_drop]
    by_cases hlt : i + n < s.size
    · have g5 : (((i + n : Nat) : Int) < (s.size : Int)) = True := eq_true (by omega)
      rw [drop_cons s (i + n) hlt]
      simp only [g5, g4, if_true, List.head?_cons, Option.any_some]
      exact rnum_j1 s hs i n hn _
    · have g5 : (((i + n : Nat) : Int) < (s.size : Int)) = False := eq_false (by omega)
      rw [drop_end s (i + n) (by omega)]
      simp only [g5, if_false, List.head?_nil, Option.any_none]
      exact rnum_j1 s hs i n hn false
theorem canon_of (x : List UInt8) (h1 : (trim x).all digB = true) (h2 : trim x ≠ []) (h3 : ¬ ((trim x).head? = some 48 ∧ 1 < (trim x).length)) : canonL x = !decide (x = [45, 48]) := by
  unfold canonL plainB
  rw [h1]
  have : (trim x).isEmpty = false := by cases hx : trim x with | nil => exact absurd hx h2 | cons a l => rfl
  rw [this]
  have : (decide ((trim x).head? = some 48) && decide (1 < (trim x).length)) = false := by
    rw [← Bool.not_eq_true, Bool.and_eq_true, decide_eq_true_eq, decide_eq_true_eq]; exact h3
  rw [this]; simp
theorem rnum_j0 (s : ByteArray) (hs : s.size ≤ 140737488351232) (i n : Nat) (hn : i + n ≤ s.size) (d : ByteArray) (hd : L d = trim (((L s).drop i).take n)) (h1 : (L d).all digB = true) (h2 : L d ≠ []) :
    Ev (fun k => burnishref13_number.j0 k s (i : Int) ((i + n : Nat) : Int) d) (numR ((L s).drop i) i n) := by
  refine Ev_up ?_
  simp only [burnishref13_number.j0]
  cases hl : L d with
  | nil => exact absurd hl h2
  | cons c t =>
    obtain ⟨hb, h0, hsz⟩ := at_head d c t hl
    have g0 : (0 < (d.size : Int)) = True := eq_true (by omega)
    rw [hd] at h1 h2
    by_cases hbig : 1 < d.size
    · have g1 : ((d.size : Int) > 1) = True := eq_true (by omega)
      simp only [g1, g0, if_true, hb]
      by_cases h48 : c = 48
      · have g5 : ((c.toNat : Int) = 48) = True := eq_true (by rw [h48]; rfl)
        simp only [g5, if_true]
        have hcan : canonL (((L s).drop i).take n) = false := by
          unfold canonL plainB
          rw [← hd, hl, h48]
          cases t with
          | nil => simp at hsz; omega
          | cons b t => simp
        rw [numR_eq, hcan]
        simp only [Bool.not_false, Bool.true_or, if_true]
        exact rnum_j1 s hs i n hn true
      · have g5 : ((c.toNat : Int) = 48) = False := eq_false (by intro e; apply h48; apply UInt8.toNat_inj.1; have : (48 : UInt8).toNat = 48 := rfl; omega)
        simp only [g5, if_false]
        refine rnum_tail s hs i n hn (canon_of _ h1 h2 ?_)
        rw [← hd, hl]; simp [h48]
    · have g1 : ((d.size : Int) > 1) = False := eq_false (by omega)
      simp only [g1, if_false]
      refine rnum_tail s hs i n hn (canon_of _ h1 h2 ?_)
      rw [← hd, hl]; intro h; have := h.2; rw [List.length_cons] at this; omega
/-- number, where a sign (or none) and at least one digit stand at i, and the digits end behind n bytes. -/
theorem rnum_f (s : ByteArray) (hs : s.size ≤ 140737488351232) (i n : Nat) (hn : i + n ≤ s.size) (h1 : (trim (((L s).drop i).take n)).all digB = true) (h2 : trim (((L s).drop i).take n) ≠ []) :
    Ev (fun k => burnishref13_number.f k s (i : Int) ((i + n : Nat) : Int)) (numR ((L s).drop i) i n) := by
  have g1 : (0 ≤ (i : Int)) = True := eq_true (by omega)
  have g2 : ((i : Int) ≤ ((i + n : Nat) : Int)) = True := eq_true (by omega)
  have g3 : (((i + n : Nat) : Int) ≤ (s.size : Int)) = True := eq_true (by omega)
  obtain ⟨x, hx⟩ : ∃ x, x = s.extract i (i + n) := ⟨_, rfl⟩
  have hL : L x = ((L s).drop i).take n := by rw [hx, L_extract, Nat.add_sub_cancel_left]
  unfold burnishref13_number.f
  simp only [g1, g2, g3, if_true, Int.toNat_natCast, ← hx]
  cases hl : L x with
  | nil => rw [← hL, hl] at h2; exact absurd rfl h2
  | cons c t =>
    obtain ⟨hb, h0, hsz⟩ := at_head x c t hl
    have g4 : (0 < (x.size : Int)) = True := eq_true (by omega)
    have g5 : (1 ≤ (x.size : Int)) = True := eq_true (by omega)
    simp only [g4, g5, if_true, hb]
    by_cases hc : c = 45
    · have e : ((c.toNat : Int) = 45) = True := eq_true (by rw [hc]; rfl)
      simp only [e, if_true]
      refine rnum_j0 s hs i n hn _ ?_ ?_ ?_
      · rw [L_tail, ← hL, hl]; simp [trim, minusB, hc]
      · rw [← hL, hl] at h1; rw [L_tail, hl]; simpa [trim, minusB, hc] using h1
      · rw [← hL, hl] at h2; rw [L_tail, hl]; simpa [trim, minusB, hc] using h2
    · have e : ((c.toNat : Int) = 45) = False := eq_false (by intro h; apply hc; apply UInt8.toNat_inj.1; have : (45 : UInt8).toNat = 45 := rfl; omega)
      simp only [e, if_false]
      have ht : trim (L x) = L x := by rw [hl]; simp [trim, minusB, hc]
      refine rnum_j0 s hs i n hn _ ?_ ?_ ?_
      · rw [← hL, ht]
      · rw [← hL, ht] at h1; exact h1
      · rw [← hL, ht] at h2; exact h2
/-- What next answers: the reference's token, or its error. -/
def NextR (c : UInt8) (t : List UInt8) (i : Nat) (v : Int × Int × Int × ByteArray × Int × Int) : Prop :=
  v.2.2.2.2.2 = (tokL c t).err ∧ ((tokL c t).err = 0 → v = ((tokL c t).kind, (i : Int), (tokL c t).val, (⟨(tokL c t).text.toArray⟩ : ByteArray), ((i + (tokL c t).len : Nat) : Int), 0))
theorem rnext_num (s : ByteArray) (hs : s.size ≤ 140737488351232) (i : Nat) (c : UInt8) (t : List UInt8) (h : (L s).drop i = c :: t) (hi : i < s.size) (hl : letB c = false) (hp : punctB c = false) (hd : span digB ((c :: t).drop (signN c)) ≠ 0) :
    ∃ v, Ev (fun k => burnishref13_next.j0 k s (i : Int) (c.toNat : Int) true) v ∧ NextR c t i v := by
  have hw : wrap64 ((i : Int) + 1) = ((i + 1 : Nat) : Int) := by rw [show (i : Int) + 1 = ((i + 1 : Nat) : Int) by omega]; exact wrap_nat _ (by omega)
  have he := rendf_digit s hs (i + 1) (by omega)
  have hdt : (L s).drop (i + 1) = t := by rw [← List.drop_drop, h]; rfl
  rw [hdt] at he
  have hlen : t.length = s.size - (i + 1) := by rw [← hdt, List.length_drop, L_length]
  have hsp := span_le digB t
  -- the number's length
  obtain ⟨n, hn⟩ : ∃ n, n = signN c + span digB ((c :: t).drop (signN c)) := ⟨_, rfl⟩
  have hn1 : n = 1 + span digB t := by
    rw [hn]
    by_cases hc : c = 45
    · simp [signN, hc]
    · have h0 : signN c = 0 := by simp [signN, hc]
      rw [h0] at hd ⊢
      rw [List.drop_zero, span_cons] at hd ⊢
      by_cases hdc : digB c = true
      · rw [if_pos hdc]; omega
      · rw [if_neg hdc] at hd; exact absurd rfl hd
  have htake : (c :: t).take n = c :: t.takeWhile digB := by
    rw [hn1, Nat.add_comm, List.take_succ_cons, take_span]
  have htrim : (trim ((c :: t).take n)).all digB = true ∧ trim ((c :: t).take n) ≠ [] := by
    rw [htake]
    have hall : (t.takeWhile digB).all digB = true := List.all_takeWhile
    by_cases hc : c = 45
    · have e : trim (c :: t.takeWhile digB) = t.takeWhile digB := by simp [trim, minusB, hc]
      rw [e]
      refine ⟨hall, fun e2 => hd ?_⟩
      simp [signN, hc]
      unfold span; rw [e2]; rfl
    · have e : trim (c :: t.takeWhile digB) = c :: t.takeWhile digB := by simp [trim, minusB, hc]
      rw [e]
      have h0 : signN c = 0 := by simp [signN, hc]
      rw [h0, List.drop_zero, span_cons] at hd
      by_cases hdc : digB c = true
      · exact ⟨by rw [List.all_cons, hdc, hall]; rfl, by simp⟩
      · rw [if_neg hdc] at hd; exact absurd rfl hd
  have hnum := rnum_f s hs i n (by omega) (by rw [h]; exact htrim.1) (by rw [h]; exact htrim.2)
  rw [h] at hnum
  have htok : tokL c t = numL (c :: t) n := by
    unfold tokL
    rw [if_neg (by rw [hl]; decide), if_neg (by rw [hp]; decide), if_neg hd, ← hn]
  obtain ⟨R, hR⟩ : ∃ R, R = numR (c :: t) i n := ⟨_, rfl⟩
  rw [← hR] at hnum
  refine ⟨(R.1, R.2.1, R.2.2.1, R.2.2.2.1, ((i + n : Nat) : Int), R.2.2.2.2), ?_, ?_⟩
  · refine Ev_up ?_
    simp only [burnishref13_next.j0, if_true, hw]
    refine Ev.bind he ?_
    rw [show ((i + 1 + span digB t : Nat) : Int) = ((i + n : Nat) : Int) by omega]
    refine Ev.bind hnum ?_
    exact Ev_now rfl
  · unfold NextR
    rw [htok]
    have hl0 := numL_len (c :: t) n
    unfold numR at hR
    by_cases h0 : (numL (c :: t) n).err = 0
    · rw [if_pos h0] at hR
      have htx : (numL (c :: t) n).text = [] := by
        unfold numL at h0 ⊢
        split
        · rw [if_pos (by assumption)] at h0; simp [bad] at h0
        · cases parseL ((c :: t).take n) <;> rfl
      rw [hR, h0, htx, hl0 h0]
      exact ⟨rfl, fun _ => rfl⟩
    · rw [if_neg h0] at hR
      rw [hR]
      exact ⟨rfl, fun h => absurd h h0⟩

theorem cval (c : UInt8) (k : UInt8) : ((c.toNat : Int) = (k.toNat : Int)) ↔ c = k := ⟨fun h => UInt8.toNat_inj.1 (by omega), fun h => by rw [h]⟩
theorem rnext_other (s : ByteArray) (hs : s.size ≤ 140737488351232) (i : Nat) (c : UInt8) (t : List UInt8) (h : (L s).drop i = c :: t) (hi : i < s.size) (hl : letB c = false) (hd : punctB c = true ∨ punctB c = false ∧ span digB ((c :: t).drop (signN c)) = 0) :
    ∃ v, Ev (fun k => burnishref13_next.j0 k s (i : Int) (c.toNat : Int) false) v ∧ NextR c t i v := by
  have hw : wrap64 ((i : Int) + 1) = ((i + 1 : Nat) : Int) := by rw [show (i : Int) + 1 = ((i + 1 : Nat) : Int) by omega]; exact wrap_nat _ (by omega)
  have g1 : (0 ≤ (i : Int)) = True := eq_true (by omega)
  have g2 : ((i : Int) ≤ ((i + 1 : Nat) : Int)) = True := eq_true (by omega)
  have g3 : (((i + 1 : Nat) : Int) ≤ (s.size : Int)) = True := eq_true (by omega)
  have hx : s.extract i (i + 1) = ⟨[c].toArray⟩ := by
    refine L_inj ?_
    rw [L_extract, h, Nat.add_sub_cancel_left]; rfl
  rcases hd with hp | ⟨hp, hd⟩
  · have hp' : c.toNat = 40 ∨ c.toNat = 41 ∨ c.toNat = 61 := by simpa [punctB] using hp
    have htok : tokL c t = ⟨3, 0, [c], 1, 0⟩ := by unfold tokL; rw [if_neg (by rw [hl]; decide), if_pos hp]
    refine ⟨(3, (i : Int), 0, ⟨[c].toArray⟩, ((i + 1 : Nat) : Int), 0), ?_, ?_⟩
    · refine Ev_up ?_
      simp only [burnishref13_next.j0, Bool.false_eq_true, if_false, hw, g1, g2, g3, if_true, Int.toNat_natCast, hx]
      rcases hp' with e | e | e
      · have e1 : ((c.toNat : Int) = 40) = True := eq_true (by omega)
        simp only [e1, if_true]; exact Ev.now _
      · have e1 : ((c.toNat : Int) = 40) = False := eq_false (by omega)
        have e2 : ((c.toNat : Int) = 41) = True := eq_true (by omega)
        simp only [e1, e2, if_true, if_false]; exact Ev.now _
      · have e1 : ((c.toNat : Int) = 40) = False := eq_false (by omega)
        have e2 : ((c.toNat : Int) = 41) = False := eq_false (by omega)
        have e3 : ((c.toNat : Int) = 61) = True := eq_true (by omega)
        simp only [e1, e2, e3, if_true, if_false]; exact Ev.now _
    · unfold NextR; rw [htok]; exact ⟨rfl, fun _ => rfl⟩
  · have hp' : ¬ (c.toNat = 40 ∨ c.toNat = 41 ∨ c.toNat = 61) := by simpa [punctB] using hp
    have htok : tokL c t = bad 12 := by unfold tokL; rw [if_neg (by rw [hl]; decide), if_neg (by rw [hp]; decide), if_pos hd]
    refine ⟨(0, 0, 0, (⟨#[]⟩ : ByteArray), 0, 12), ?_, ?_⟩
    · refine Ev_up ?_
      have e1 : ((c.toNat : Int) = 40) = False := eq_false (by omega)
      have e2 : ((c.toNat : Int) = 41) = False := eq_false (by omega)
      have e3 : ((c.toNat : Int) = 61) = False := eq_false (by omega)
      simp only [burnishref13_next.j0, Bool.false_eq_true, if_false, e1, e2, e3]; exact Ev.now _
    · unfold NextR; rw [htok]; exact ⟨rfl, fun e => by simp [bad] at e⟩
theorem rnext_f (s : ByteArray) (hs : s.size ≤ 140737488351232) (i : Nat) (c : UInt8) (t : List UInt8) (h : (L s).drop i = c :: t) (hi : i < s.size) :
    ∃ v, Ev (fun k => burnishref13_next.f k s (i : Int)) v ∧ NextR c t i v := by
  have g1 : (0 ≤ (i : Int)) = True := eq_true (by omega)
  have g2 : ((i : Int) < (s.size : Int)) = True := eq_true (by omega)
  have hc : (L s).getD i 0 = c := by
    have := drop_cons s i hi
    rw [h] at this; injection this with e _; exact e.symm
  have hdt : (L s).drop (i + 1) = t := by rw [← List.drop_drop, h]; rfl
  have hw : wrap64 ((i : Int) + 1) = ((i + 1 : Nat) : Int) := by rw [show (i : Int) + 1 = ((i + 1 : Nat) : Int) by omega]; exact wrap_nat _ (by omega)
  cases hl : letB c with
  | true =>
    have he := rendf_word s hs i (by omega)
    rw [h] at he
    have hle := span_le wordB (c :: t)
    rw [← h, List.length_drop, L_length] at hle
    obtain ⟨n, hn⟩ : ∃ n, n = span wordB (c :: t) := ⟨_, rfl⟩
    rw [h, ← hn] at hle
    rw [← hn] at he
    have hw2 : wrap64 (((i + n : Nat) : Int) - (i : Int)) = (n : Int) := by rw [show ((i + n : Nat) : Int) - (i : Int) = (n : Int) by omega]; exact wrap_nat _ (by omega)
    have g3 : ((i : Int) ≤ ((i + n : Nat) : Int)) = True := eq_true (by omega)
    have g4 : (((i + n : Nat) : Int) ≤ (s.size : Int)) = True := eq_true (by omega)
    by_cases hbig : 24 < n
    · have htok : tokL c t = bad 6 := by unfold tokL; rw [if_pos hl, if_pos (by omega)]
      have g5 : ((n : Int) > 24) = True := eq_true (by omega)
      refine ⟨(0, 0, 0, (⟨#[]⟩ : ByteArray), 0, 6), ?_, ?_⟩
      · unfold burnishref13_next.f
        simp only [g1, g2, if_true, bt_L, hc, rletter_f, hl, Option.bind_some]
        refine Ev.bind he ?_
        simp only [hw2, g5, if_true]; exact Ev.now _
      · unfold NextR; rw [htok]; exact ⟨rfl, fun e => by simp [bad] at e⟩
    · have htok : tokL c t = ⟨1, 0, (c :: t).take n, n, 0⟩ := by unfold tokL; rw [if_pos hl, if_neg (by omega), ← hn]
      have g5 : ((n : Int) > 24) = False := eq_false (by omega)
      have hx : s.extract i (i + n) = ⟨((c :: t).take n).toArray⟩ := by
        refine L_inj ?_
        rw [L_extract, h, Nat.add_sub_cancel_left]; rfl
      refine ⟨(1, (i : Int), 0, ⟨((c :: t).take n).toArray⟩, ((i + n : Nat) : Int), 0), ?_, ?_⟩
      · unfold burnishref13_next.f
        simp only [g1, g2, if_true, bt_L, hc, rletter_f, hl, Option.bind_some]
        refine Ev.bind he ?_
        simp only [hw2, g5, if_false, g3, g4, if_true, Int.toNat_natCast, hx]; exact Ev.now _
      · unfold NextR; rw [htok]; exact ⟨rfl, fun _ => rfl⟩
  | false =>
    have hf : ∀ k, burnishref13_next.f k s (i : Int) = (if digB c = true then (burnishref13_next.j0 k s (i : Int) (c.toNat : Int) true) else (if (c.toNat : Int) = 45 then (if ((i + 1 : Nat) : Int) < (s.size : Int) then (burnishref13_next.j0 k s (i : Int) (c.toNat : Int) (digB ((L s).getD (i + 1) 0))) else (burnishref13_next.j0 k s (i : Int) (c.toNat : Int) false)) else (burnishref13_next.j0 k s (i : Int) (c.toNat : Int) false))) := by
      intro k
      have g4 : (0 ≤ ((i + 1 : Nat) : Int)) = True := eq_true (by omega)
      unfold burnishref13_next.f
      simp only [g1, g2, if_true, bt_L, hc, rletter_f, rdigit_f, hl, Option.bind_some, Bool.false_eq_true, if_false, hw, g4]
    have hm : (45 : UInt8).toNat = 45 := rfl
    have pd : ∀ x : UInt8, digB x = true → punctB x = false := by
      intro x hx; have := dig_range x hx; simp [punctB]; omega
    by_cases hdc : digB c = true
    · have hc45 : c ≠ 45 := by intro e; rw [e] at hdc; exact absurd hdc (by decide)
      obtain ⟨v, hv, hr⟩ := rnext_num s hs i c t h hi hl (pd c hdc) (by simp [signN, hc45, span_cons, hdc])
      refine ⟨v, ?_, hr⟩
      refine Ev.congr (fun k => ?_) hv
      rw [hf, if_pos hdc]
    · have hdc' : digB c = false := by simpa using hdc
      by_cases h45 : c = 45
      · have e45 : (c.toNat : Int) = 45 := by rw [h45]; rfl
        have hpn : punctB c = false := by rw [h45]; rfl
        by_cases hlt : i + 1 < s.size
        · have hdr := drop_cons s (i + 1) hlt
          rw [hdt] at hdr
          cases hdn : digB ((L s).getD (i + 1) 0) with
          | true =>
            obtain ⟨v, hv, hr⟩ := rnext_num s hs i c t h hi hl hpn (by rw [hdr, show signN c = 1 by simp [signN, h45]]; show span digB (_ :: _) ≠ 0; rw [span_cons, hdn]; simp)
            refine ⟨v, ?_, hr⟩
            refine Ev.congr (fun k => ?_) hv
            rw [hf, if_neg hdc, if_pos e45, if_pos (by omega), hdn]
          | false =>
            obtain ⟨v, hv, hr⟩ := rnext_other s hs i c t h hi hl (.inr ⟨hpn, by rw [hdr, show signN c = 1 by simp [signN, h45]]; show span digB (_ :: _) = 0; rw [span_cons, hdn]; simp⟩)
            refine ⟨v, ?_, hr⟩
            refine Ev.congr (fun k => ?_) hv
            rw [hf, if_neg hdc, if_pos e45, if_pos (by omega), hdn]
        · have ht : t = [] := by rw [← hdt]; exact drop_end s (i + 1) (by omega)
          obtain ⟨v, hv, hr⟩ := rnext_other s hs i c t h hi hl (.inr ⟨hpn, by rw [ht]; simp [signN, h45, span_nil]⟩)
          refine ⟨v, ?_, hr⟩
          refine Ev.congr (fun k => ?_) hv
          rw [hf, if_neg hdc, if_pos e45, if_neg (by omega)]
      · have e45 : ¬ (c.toNat : Int) = 45 := by intro e; apply h45; apply UInt8.toNat_inj.1; omega
        have hspan : span digB ((c :: t).drop (signN c)) = 0 := by simp [signN, h45, span_cons, hdc']
        obtain ⟨v, hv, hr⟩ := rnext_other s hs i c t h hi hl (by cases hp : punctB c with | true => exact .inl rfl | false => exact .inr ⟨rfl, hspan⟩)
        refine ⟨v, ?_, hr⟩
        refine Ev.congr (fun k => ?_) hv
        rw [hf, if_neg hdc, if_neg e45]

def to36 (x : Tk) : S36 := ⟨x.kind, x.off, x.val, ⟨x.text.toArray⟩⟩
def res36 (r : List Tk × Int × Int) : List S36 × Int × Int := (r.1.map to36, r.2.1, r.2.2)
theorem rblank (s : ByteArray) (hs : s.size ≤ 140737488351232) (acc : List S36) (r : List S36 × Int × Int) : ∀ n i : Nat, span blankB ((L s).drop i) = n → i ≤ s.size →
    Ev (fun k => burnishref13_Scan.l0 k s acc ((i + n : Nat) : Int)) r → Ev (fun k => burnishref13_Scan.l0 k s acc (i : Int)) r := by
  intro n
  induction n with
  | zero => intro i _ _ h; exact h
  | succ n ih =>
    intro i hn hi h
    have hlt : i < s.size := by
      by_cases hlt : i < s.size
      · exact hlt
      · rw [drop_end s i (by omega), span_nil] at hn; omega
    have hd := drop_cons s i hlt
    rw [hd, span_cons] at hn
    have hb : blankB ((L s).getD i 0) = true := by
      cases hx : blankB ((L s).getD i 0) with
      | true => rfl
      | false => rw [hx] at hn; simp at hn
    rw [if_pos hb] at hn
    have g1 : (0 ≤ (i : Int)) = True := eq_true (by omega)
    have g2 : ((i : Int) < (s.size : Int)) = True := eq_true (by omega)
    have hw : wrap64 ((i : Int) + 1) = ((i + 1 : Nat) : Int) := by rw [show (i : Int) + 1 = ((i + 1 : Nat) : Int) by omega]; exact wrap_nat _ (by omega)
    have h2 := ih (i + 1) (by omega) (by omega) (by rw [show i + 1 + n = i + (n + 1) by omega]; exact h)
    have hb' : ((L s).getD i 0).toNat = 32 ∨ ((L s).getD i 0).toNat = 10 := by simpa [blankB] using hb
    have hj : Ev (fun k => burnishref13_Scan.j1 k s acc (i : Int) true) r := by
      refine Ev_up ?_
      simp only [burnishref13_Scan.j1, if_true, hw]; exact h2
    refine Ev_up ?_
    simp only [burnishref13_Scan.l0, g1, g2, if_true, bt_L]
    rcases hb' with e | e
    · have e1 : ((((L s).getD i 0).toNat : Int) = 32) = True := eq_true (by omega)
      simp only [e1, if_true]; exact hj
    · have e1 : ((((L s).getD i 0).toNat : Int) = 32) = False := eq_false (by omega)
      have e2 : ((((L s).getD i 0).toNat : Int) == 10) = true := by rw [beq_iff_eq]; omega
      simp only [e1, if_false, e2]; exact hj
theorem rscan_l0 (s : ByteArray) (hs : s.size ≤ 140737488351232) : ∀ (f i : Nat) (acc : List Tk), s.size - i ≤ f → i ≤ s.size → acc.length ≤ 20000 →
    Ev (fun k => burnishref13_Scan.l0 k s (acc.map to36) (i : Int)) (res36 (scanF (f + 1) ((L s).drop i) i acc)) := by
  intro f
  induction f with
  | zero =>
    intro i acc hf hi ha
    have g2 : ((i : Int) < (s.size : Int)) = False := eq_false (by omega)
    refine Ev_up ?_
    simp only [burnishref13_Scan.l0, g2, if_false]
    rw [drop_end s i (by omega)]
    exact Ev_now rfl
  | succ f ih =>
    intro i acc hf hi ha
    have hle := span_le blankB ((L s).drop i)
    rw [List.length_drop, L_length] at hle
    obtain ⟨n, hn⟩ : ∃ n, n = span blankB ((L s).drop i) := ⟨_, rfl⟩
    refine rblank s hs _ _ n i hn.symm hi ?_
    rw [scanF]
    rw [← hn] at hle ⊢
    rw [List.drop_drop]
    obtain ⟨p, hpp⟩ : ∃ p, p = i + n := ⟨_, rfl⟩
    rw [← hpp]
    by_cases he : p = s.size
    · have g2 : ((p : Int) < (s.size : Int)) = False := eq_false (by omega)
      refine Ev_up ?_
      simp only [burnishref13_Scan.l0, g2, if_false]
      rw [drop_end s p (by omega)]
      exact Ev_now rfl
    · have hd := drop_cons s p (by omega)
      have hdt : (L s).drop p = (L s).getD p 0 :: (L s).drop (p + 1) := hd
      have hnb : blankB ((L s).getD p 0) = false := by
        cases hx : blankB ((L s).getD p 0) with
        | false => rfl
        | true =>
          exfalso
          have h1 : span blankB ((L s).drop i) = n := hn.symm
          have h2 : ((L s).drop i) = ((L s).drop i).take n ++ (L s).drop p := by rw [hpp, ← List.drop_drop, List.take_append_drop]
          have h3 : (((L s).drop i).take n).all blankB = true := by rw [hn, take_span]; exact List.all_takeWhile
          have h4 : ∀ (a : List UInt8) (b : List UInt8), a.all blankB = true → span blankB (a ++ b) = a.length + span blankB b := by
            intro a b
            induction a with
            | nil => intro _; simp
            | cons x a iha => intro hall; simp only [List.all_cons, Bool.and_eq_true] at hall; rw [List.cons_append, span_cons, if_pos hall.1, iha hall.2, List.length_cons]; omega
          rw [h2, h4 _ _ h3, List.length_take, List.length_drop, L_length, hdt, span_cons, if_pos hx] at h1
          omega
      obtain ⟨c, hc⟩ : ∃ c, c = (L s).getD p 0 := ⟨_, rfl⟩
      rw [← hc] at hd hdt hnb
      have g1 : (0 ≤ (p : Int)) = True := eq_true (by omega)
      have g2 : ((p : Int) < (s.size : Int)) = True := eq_true (by omega)
      have hb' : ¬ (c.toNat = 32 ∨ c.toNat = 10) := by simpa [blankB] using hnb
      have e1 : ((c.toNat : Int) = 32) = False := eq_false (by omega)
      have e2 : ((c.toNat : Int) == 10) = false := by rw [beq_eq_false_iff_ne]; omega
      refine Ev_up ?_
      simp only [burnishref13_Scan.l0, g1, g2, if_true, bt_L, ← hc, e1, if_false, e2]
      rw [hd]
      refine Ev_up ?_
      simp only [burnishref13_Scan.j1, Bool.false_eq_true, if_false, List.length_map]
      by_cases hf2 : 20000 ≤ acc.length
      · have g6 : ((acc.length : Int) ≥ 20000) = True := eq_true (by omega)
        simp only [g6, if_true]
        rw [if_pos hf2]
        exact Ev_now rfl
      · have g6 : ((acc.length : Int) ≥ 20000) = False := eq_false (by omega)
        obtain ⟨v, hv, hr⟩ := rnext_f s hs p c ((L s).drop (p + 1)) hd (by omega)
        simp only [g6, if_false]
        rw [if_neg hf2]
        refine Ev.bind hv ?_
        have hlen := tokL_len c ((L s).drop (p + 1))
        unfold NextR at hr
        obtain ⟨x, hx⟩ : ∃ x, x = tokL c ((L s).drop (p + 1)) := ⟨_, rfl⟩
        rw [← hx] at hlen hr ⊢
        obtain ⟨hr1, hr2⟩ := hr
        by_cases h0 : x.err = 0
        · have hl2 := hlen h0
          rw [List.length_drop, L_length] at hl2
          have e1 : s.size - (p + x.len) ≤ f := by clear hlen hx hv ih; omega
          have e2 : p + x.len ≤ s.size := by clear hlen hx hv ih; omega
          have e3 : (acc ++ [(⟨x.kind, p, x.val, x.text⟩ : Tk)]).length ≤ 20000 := by rw [List.length_append, List.length_singleton]; clear hlen hx hv ih; omega
          have g7 : (acc.length < 3518437208883) = True := eq_true (by omega)
          rw [hr2 h0]
          simp only [if_true, g7]
          rw [if_neg (by simp [h0]), ← hdt, List.drop_drop]
          have hm : acc.map to36 ++ [(⟨x.kind, (p : Int), x.val, ⟨x.text.toArray⟩⟩ : S36)] = (acc ++ [(⟨x.kind, p, x.val, x.text⟩ : Tk)]).map to36 := by rw [List.map_append]; rfl
          rw [hm]
          exact ih (p + x.len) (acc ++ [(⟨x.kind, p, x.val, x.text⟩ : Tk)]) e1 e2 e3
        · simp only [hr1, h0, if_false]
          rw [if_pos (by simpa using h0)]
          exact Ev_now rfl
theorem rscan_f (s : ByteArray) (hs : s.size ≤ 60000) : Ev (fun k => burnishref13_Scan.f k s) (res36 (scanF (s.size + 1) (L s) 0 [])) := by
  have h := rscan_l0 s (by omega) s.size 0 [] (by omega) (by omega) (by simp)
  have g : ((s.size : Int) > 60000) = False := eq_false (by omega)
  unfold burnishref13_Scan.f
  simp only [g, if_false]
  exact h

end Go.Proofs.Ytjfpaglnadfppaa.Pure
