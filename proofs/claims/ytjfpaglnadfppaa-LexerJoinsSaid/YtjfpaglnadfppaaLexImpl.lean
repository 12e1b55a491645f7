/- What the program's functions of lexical analysis answer, in the words of the plain law. -/
import Derived.Test.YtjfpaglnadfppaaPx4
import Derived.Test.YtjfpaglnadfppaaLex
namespace Go.Proofs.Ytjfpaglnadfppaa.Pure
open Go.RowKit Go.Proofs.Ytjfpaglnadfppaa.P Go.Proofs.YtjfpaglnadfppaaW.PrintWords Go.Proofs.YtjfpaglnadfppaaW.PrintLast Lex

/-- A string's bytes. -/
def L (s : ByteArray) : List UInt8 := s.data.toList
theorem L_length (s : ByteArray) : (L s).length = s.size := by unfold L; simp
theorem L_inj {a b : ByteArray} (h : L a = L b) : a = b := by
  cases a; cases b; simp [L] at h; rw [h]
theorem L_toList (s : ByteArray) : s.toList = L s := ByteArray.toList_eq s
theorem bt_L (s : ByteArray) (i : Nat) : bt s (i : Int) = (((L s).getD i 0).toNat : Int) := by
  unfold bt L
  split
  · rename_i h
    simp at h
    rw [List.getD_eq_getElem?_getD, List.getElem?_eq_getElem (by simpa using h)]
    rfl
  · rename_i h
    simp at h
    rw [List.getD_eq_getElem?_getD, List.getElem?_eq_none (by simpa using h)]
    rfl
theorem drop_cons (s : ByteArray) (i : Nat) (h : i < s.size) : (L s).drop i = (L s).getD i 0 :: (L s).drop (i + 1) := by
  have h2 : i < (L s).length := by rw [L_length]; exact h
  rw [List.drop_eq_getElem_cons h2, List.getD_eq_getElem?_getD, List.getElem?_eq_getElem h2]; rfl
theorem drop_end (s : ByteArray) (i : Nat) (h : s.size ≤ i) : (L s).drop i = [] := List.drop_eq_nil_of_le (by rw [L_length]; exact h)
theorem L_extract (s : ByteArray) (a b : Nat) : L (s.extract a b) = ((L s).drop a).take (b - a) := by
  unfold L; rw [ByteArray.data_extract]; simp [Array.toList_extract, List.extract_eq_take_drop]
theorem L_tail (s : ByteArray) (a : Nat) : L (s.extract a s.size) = (L s).drop a := by
  rw [L_extract, List.take_of_length_le (by rw [List.length_drop, L_length]; exact Nat.le_refl _)]
theorem wrap_nat (n : Nat) (h : n ≤ 140737488355328) : wrap64 (n : Int) = n := by unfold wrap64; omega

theorem letter_f (c : UInt8) : lexer_letter.f (c.toNat : Int) = some (letB c) := by
  unfold lexer_letter.f letB
  repeat' split
  all_goals (congr 1; rw [Bool.eq_iff_iff]; simp; omega)
theorem digit_f (c : UInt8) : lexer_digit.f (c.toNat : Int) = some (digB c) := by
  unfold lexer_digit.f digB
  repeat' split
  all_goals (congr 1; rw [Bool.eq_iff_iff]; simp; omega)
theorem word_f (c : UInt8) : lexer_word.f (c.toNat : Int) = some (wordB c) := by
  unfold lexer_word.f
  rw [letter_f, digit_f]
  simp only [Option.bind_some, wordB]
  cases letB c <;> simp
theorem blank_f (c : UInt8) : lexer_Scan_1.f (c.toNat : Int) = some (blankB c) := by
  unfold lexer_Scan_1.f blankB
  split
  all_goals (congr 1; rw [Bool.eq_iff_iff]; simp; omega)


theorem span_word (s : ByteArray) (hs : s.size ≤ 140737488351232) : ∀ d i : Nat, s.size - i = d → i ≤ s.size → Ev (fun k => lexer_prefix_word.l0 k s (i : Int)) ((i + span wordB ((L s).drop i) : Nat) : Int) := by
  intro d
  induction d with
  | zero =>
    intro i hd hi
    refine Ev.step (f := fun _ => some (i : Int)) (fun k => ?_) ?_
    · simp only [lexer_prefix_word.l0]; rw [if_neg (by omega)]
    · rw [drop_end s i (by omega), span_nil]; exact Ev.now _
  | succ d ih =>
    intro i hd hi
    have hlt : i < s.size := by omega
    rw [drop_cons s i hlt, span_cons]
    cases hc : wordB ((L s).getD i 0) with
    | true =>
      rw [if_pos rfl, show i + (span wordB ((L s).drop (i + 1)) + 1) = i + 1 + span wordB ((L s).drop (i + 1)) by omega]
      refine Ev.step (fun k => ?_) (ih (i + 1) (by omega) (by omega))
      · simp only [lexer_prefix_word.l0]
        rw [if_pos (by omega), if_pos (by omega), bt_L, word_f, hc]
        simp only [Option.bind_some, if_true]
        rw [show (i : Int) + 1 = ((i + 1 : Nat) : Int) by omega, wrap_nat _ (by omega)]
    | false =>
      refine Ev.step (f := fun _ => some (i : Int)) (fun k => ?_) ?_
      · simp only [lexer_prefix_word.l0]
        rw [if_pos (by omega), if_pos (by omega), bt_L, word_f, hc]
        simp
      · simp; exact Ev.now _
theorem prefix_word (s : ByteArray) (hs : s.size ≤ 140737488351232) : Ev (fun k => lexer_prefix_word.f k s) ((span wordB (L s) : Nat) : Int) := by
  have h := span_word s hs s.size 0 (by omega) (by omega)
  simpa [lexer_prefix_word.f] using h

theorem span_digit (s : ByteArray) (hs : s.size ≤ 140737488351232) : ∀ d i : Nat, s.size - i = d → i ≤ s.size → Ev (fun k => lexer_prefix_digit.l0 k s (i : Int)) ((i + span digB ((L s).drop i) : Nat) : Int) := by
  intro d
  induction d with
  | zero =>
    intro i hd hi
    refine Ev.step (f := fun _ => some (i : Int)) (fun k => ?_) ?_
    · simp only [lexer_prefix_digit.l0]; rw [if_neg (by omega)]
    · rw [drop_end s i (by omega), span_nil]; exact Ev.now _
  | succ d ih =>
    intro i hd hi
    have hlt : i < s.size := by omega
    rw [drop_cons s i hlt, span_cons]
    cases hc : digB ((L s).getD i 0) with
    | true =>
      rw [if_pos rfl, show i + (span digB ((L s).drop (i + 1)) + 1) = i + 1 + span digB ((L s).drop (i + 1)) by omega]
      refine Ev.step (fun k => ?_) (ih (i + 1) (by omega) (by omega))
      · simp only [lexer_prefix_digit.l0]
        rw [if_pos (by omega), if_pos (by omega), bt_L, digit_f, hc]
        simp only [Option.bind_some, if_true]
        rw [show (i : Int) + 1 = ((i + 1 : Nat) : Int) by omega, wrap_nat _ (by omega)]
    | false =>
      refine Ev.step (f := fun _ => some (i : Int)) (fun k => ?_) ?_
      · simp only [lexer_prefix_digit.l0]
        rw [if_pos (by omega), if_pos (by omega), bt_L, digit_f, hc]
        simp
      · simp; exact Ev.now _
theorem prefix_digit (s : ByteArray) (hs : s.size ≤ 140737488351232) : Ev (fun k => lexer_prefix_digit.f k s) ((span digB (L s) : Nat) : Int) := by
  have h := span_digit s hs s.size 0 (by omega) (by omega)
  simpa [lexer_prefix_digit.f] using h

theorem span_Scan_1 (s : ByteArray) (hs : s.size ≤ 140737488351232) : ∀ d i : Nat, s.size - i = d → i ≤ s.size → Ev (fun k => lexer_prefix_Scan_1.l0 k s (i : Int)) ((i + span blankB ((L s).drop i) : Nat) : Int) := by
  intro d
  induction d with
  | zero =>
    intro i hd hi
    refine Ev.step (f := fun _ => some (i : Int)) (fun k => ?_) ?_
    · simp only [lexer_prefix_Scan_1.l0]; rw [if_neg (by omega)]
    · rw [drop_end s i (by omega), span_nil]; exact Ev.now _
  | succ d ih =>
    intro i hd hi
    have hlt : i < s.size := by omega
    rw [drop_cons s i hlt, span_cons]
    cases hc : blankB ((L s).getD i 0) with
    | true =>
      rw [if_pos rfl, show i + (span blankB ((L s).drop (i + 1)) + 1) = i + 1 + span blankB ((L s).drop (i + 1)) by omega]
      refine Ev.step (fun k => ?_) (ih (i + 1) (by omega) (by omega))
      · simp only [lexer_prefix_Scan_1.l0]
        rw [if_pos (by omega), if_pos (by omega), bt_L, blank_f, hc]
        simp only [Option.bind_some, if_true]
        rw [show (i : Int) + 1 = ((i + 1 : Nat) : Int) by omega, wrap_nat _ (by omega)]
    | false =>
      refine Ev.step (f := fun _ => some (i : Int)) (fun k => ?_) ?_
      · simp only [lexer_prefix_Scan_1.l0]
        rw [if_pos (by omega), if_pos (by omega), bt_L, blank_f, hc]
        simp
      · simp; exact Ev.now _
theorem prefix_Scan_1 (s : ByteArray) (hs : s.size ≤ 140737488351232) : Ev (fun k => lexer_prefix_Scan_1.f k s) ((span blankB (L s) : Nat) : Int) := by
  have h := span_Scan_1 s hs s.size 0 (by omega) (by omega)
  simpa [lexer_prefix_Scan_1.f] using h

theorem at_head (s : ByteArray) (c : UInt8) (l : List UInt8) (h : L s = c :: l) : bt s 0 = (c.toNat : Int) ∧ 0 < s.size ∧ s.size = l.length + 1 := by
  have h1 : s.size = l.length + 1 := by rw [← L_length, h]; rfl
  refine ⟨?_, by omega, h1⟩
  rw [show (0 : Int) = ((0 : Nat) : Int) from rfl, bt_L, h]; rfl
theorem size_nil (s : ByteArray) (h : L s = []) : s.size = 0 := by rw [← L_length, h]; rfl
theorem trim_f (s : ByteArray) : ∃ t, strings_TrimPrefix.f s (⟨#[45]⟩ : ByteArray) = some t ∧ L t = trim (L s) ∧ t.size ≤ s.size := by
  have h1 : ((⟨#[45]⟩ : ByteArray).size : Int) = 1 := rfl
  cases hl : L s with
  | nil =>
    refine ⟨s, ?_, by rw [hl]; rfl, Nat.le_refl _⟩
    unfold strings_TrimPrefix.f stringslite_TrimPrefix.f stringslite_HasPrefix.f
    rw [h1, size_nil s hl, if_neg (by decide)]
    rfl
  | cons c l =>
    obtain ⟨_, h0, hsz⟩ := at_head s c l hl
    have hx : (s.extract 0 ((1 : Int) : Int).toNat).toList = [c] := by
      rw [L_toList, L_extract, hl]; rfl
    by_cases hc : c = 45
    · subst hc
      refine ⟨s.extract 1 s.size, ?_, ?_, by rw [ByteArray.size_extract]; omega⟩
      · unfold strings_TrimPrefix.f stringslite_TrimPrefix.f stringslite_HasPrefix.f
        rw [h1, if_pos (by omega), if_pos (by decide), if_pos (by omega), hx]
        rw [show ([45] == (⟨#[45]⟩ : ByteArray).toList) = true by rw [L_toList]; decide]
        simp only [Option.bind_some, if_true]
        rw [if_pos (by omega), if_pos (by omega)]
        rfl
      · rw [L_tail, hl]; rfl
    · refine ⟨s, ?_, ?_, Nat.le_refl _⟩
      · unfold strings_TrimPrefix.f stringslite_TrimPrefix.f stringslite_HasPrefix.f
        rw [h1, if_pos (by omega), if_pos (by decide), if_pos (by omega), hx]
        have : ([c] == (⟨#[45]⟩ : ByteArray).toList) = false := by
          rw [L_toList, show L (⟨#[45]⟩ : ByteArray) = [45] from rfl]; simp [hc]
        rw [this]; rfl
      · rw [hl]; simp [trim, minusB, hc]
theorem canonical_f (s : ByteArray) (hs : s.size ≤ 140737488351232) : Ev (fun k => lexer_canonical.f k s) (canonL (L s)) := by
  obtain ⟨t, ht, hL, hsz⟩ := trim_f s
  have e45 : (s.toList != ([45, 48] : List UInt8)) = !decide (L s = [45, 48]) := by rw [L_toList]; simp [bne, Bool.beq_eq_decide_eq]
  cases hl : L t with
  | nil =>
    refine Ev.congr (f := fun _ => some false) (fun k => ?_) ?_
    · unfold lexer_canonical.f
      rw [ht]; simp only [Option.bind_some]
      rw [if_pos (by rw [L_toList]; exact hl)]
    · rw [show canonL (L s) = false by unfold canonL plainB; rw [← hL, hl]; rfl]; exact Ev.now _
  | cons c l =>
    obtain ⟨hb, h0, hl1⟩ := at_head t c l hl
    have hp := prefix_digit t (by omega)
    refine Ev.congr (f := fun k => (lexer_prefix_digit.f k t).bind fun t107 => (if t107 = (t.size : Int) then (if 0 < (t.size : Int) then (if (bt t 0) = 48 then (if (t.size : Int) > 1 then (some false) else (some (s.toList != ([45, 48] : List UInt8)))) else (some (s.toList != ([45, 48] : List UInt8)))) else (none)) else (some false))) (fun k => ?_) (Ev.bind hp ?_)
    · unfold lexer_canonical.f
      rw [ht]; simp only [Option.bind_some]
      rw [if_neg (by rw [L_toList, hl]; simp)]
    · refine Ev.congr (f := fun _ => some (canonL (L s))) (fun k => ?_) (Ev.now _)
      have ha := span_all digB (L t)
      rw [L_length] at ha
      by_cases h1 : span digB (L t) = t.size
      · rw [if_pos (by omega), if_pos (by omega), hb, e45]
        have hall := ha.1 h1
        unfold canonL plainB
        rw [← hL, hall, hl]
        by_cases h2 : c = 48
        · subst h2
          rw [if_pos (by decide)]
          by_cases h3 : (t.size : Int) > 1
          · rw [if_pos h3]
            cases l with
            | nil => simp at hl1; omega
            | cons b l => simp
          · rw [if_neg h3]; have : l.length = 0 := by omega
            simp [List.eq_nil_of_length_eq_zero this]
        · rw [if_neg (by intro h; apply h2; apply UInt8.toNat_inj.1; have : (48 : UInt8).toNat = 48 := rfl; omega)]
          simp [h2]
      · rw [if_neg (by omega)]
        have : (L t).all digB = false := by
          cases hx : (L t).all digB with
          | false => rfl
          | true => exact absurd (ha.2 hx) h1
        unfold canonL plainB
        rw [← hL, this]; rfl

theorem dig_range (c : UInt8) (h : digB c = true) : 48 ≤ c.toNat ∧ c.toNat ≤ 57 := by simpa [digB] using h
theorem magnitude_l0 (s : ByteArray) (hs : s.size ≤ 140737488351232) : ∀ d i n : Nat, s.size - i = d → i ≤ s.size → n ≤ 9223372036854775808 → ((L s).drop i).all digB = true →
    Ev (fun k => lexer_magnitude.l0 k s (n : Int) (s.size : Int) (i : Int)) (magR 9223372036854775808 n ((L s).drop i)) := by
  intro d
  induction d with
  | zero =>
    intro i n hd hi hn ha
    refine Ev.step (f := fun _ => some ((n : Int), true)) (fun k => ?_) ?_
    · simp only [lexer_magnitude.l0]; rw [if_neg (by omega)]
    · rw [drop_end s i (by omega)]; exact Ev.now _
  | succ d ih =>
    intro i n hd hi hn ha
    have hlt : i < s.size := by omega
    have hx := drop_cons s i hlt
    obtain ⟨c, hc⟩ : ∃ c, c = (L s).getD i 0 := ⟨_, rfl⟩
    rw [← hc] at hx
    rw [hx] at ha ⊢
    simp only [List.all_cons, Bool.and_eq_true] at ha
    obtain ⟨hc1, hc2⟩ := dig_range c ha.1
    rw [magR]
    by_cases h1 : (9223372036854775808 - (c.toNat - 48)) / 10 < n
    · rw [if_pos h1]
      refine Ev.step (f := fun _ => some ((0 : Int), false)) (fun k => ?_) (Ev.now _)
      simp only [lexer_magnitude.l0]
      rw [if_pos (by omega), if_pos (by omega), if_pos (by omega), bt_L, ← hc, if_pos (by omega)]
    · rw [if_neg h1]
      refine Ev.step (fun k => ?_) (ih (i + 1) (10 * n + (c.toNat - 48)) (by omega) (by omega) (by omega) ha.2)
      simp only [lexer_magnitude.l0]
      rw [if_pos (by omega), if_pos (by omega), if_pos (by omega), bt_L, ← hc, if_neg (by omega)]
      rw [show (i : Int) + 1 = ((i + 1 : Nat) : Int) by omega, wrap_nat _ (by omega)]
      congr 1
      rw [IntKind.wrap_u64, IntKind.wrap_u64]; omega
theorem magnitude_f (s : ByteArray) (hs : s.size ≤ 140737488351232) (ha : (L s).all digB = true) :
    Ev (fun k => lexer_magnitude.f k s) (if valFrom 0 (L s) ≤ 9223372036854775808 then ((valFrom 0 (L s) : Int), true) else (0, false)) := by
  have h := magnitude_l0 s hs s.size 0 0 (by omega) (by omega) (by omega) (by simpa using ha)
  rw [List.drop_zero, magR_val _ (by omega) _ ha _ (by omega)] at h
  simpa [lexer_magnitude.f] using h
def optI : Option Int → Int × Bool
  | some v => (v, true)
  | none => (0, false)
theorem plain_of (x : List UInt8) (h : canonL x = true) : (trim x).all digB = true := by
  unfold canonL plainB at h; simp only [Bool.and_eq_true] at h; exact h.1.1.1
theorem minus_head (s : ByteArray) (h : 0 < s.size) : ((bt s 0) = 45) ↔ minusB (L s) = true := by
  cases hl : L s with
  | nil => rw [size_nil s hl] at h; omega
  | cons c l =>
    obtain ⟨hb, _, _⟩ := at_head s c l hl
    rw [hb]
    simp only [minusB, List.head?_cons, Option.some.injEq, decide_eq_true_eq]
    constructor
    · intro h; apply UInt8.toNat_inj.1; have : (45 : UInt8).toNat = 45 := rfl; omega
    · intro h; subst h; rfl
theorem parse_f (s : ByteArray) (hs : s.size ≤ 140737488351232) : Ev (fun k => lexer_ParseInt.f k s) (optI (parseL (L s))) := by
  have hc := canonical_f s hs
  unfold lexer_ParseInt.f
  refine Ev.bind hc ?_
  obtain ⟨t, ht, hL, hsz⟩ := trim_f s
  cases hcan : canonL (L s) with
  | false =>
    simp only [Bool.false_eq_true, if_false]
    rw [show parseL (L s) = none by unfold parseL; rw [hcan]; rfl]
    exact Ev.now _
  | true =>
    simp only [if_true]
    rw [ht]
    simp only [Option.bind_some]
    have hall := plain_of _ hcan
    rw [← hL] at hall
    refine Ev.bind (magnitude_f t (by omega) hall) ?_
    have h0 : 0 < s.size := by
      cases hl : L s with
      | nil => rw [hl] at hcan; simp [canonL, plainB, trim, minusB] at hcan
      | cons c l => exact (at_head s c l hl).2.1
    have hm := minus_head s h0
    unfold parseL
    rw [hcan, if_pos rfl, ← hL]
    obtain ⟨V, hV⟩ : ∃ V, V = valFrom 0 (L t) := ⟨_, rfl⟩
    rw [← hV]
    refine Ev.congr (f := fun _ => some _) (fun k => ?_) (Ev.now _)
    by_cases h1 : V ≤ 9223372036854775808
    · rw [if_pos h1]
      simp only [if_true]
      rw [if_pos (by omega)]
      cases hmb : minusB (L s) with
      | true =>
        rw [if_pos (hm.2 hmb), if_pos rfl, if_pos (by unfold top; exact h1)]
        simp only [optI]
        congr 2
        unfold wrap64; omega
      | false =>
        rw [if_neg (by rw [hm, hmb]; decide)]
        simp only [Bool.false_eq_true, if_false]
        by_cases h2 : V < 9223372036854775808
        · rw [if_neg (by unfold wrap64; omega), if_pos (by unfold top; exact h2)]
          simp only [optI]
          congr 2
          unfold wrap64; omega
        · rw [if_pos (by unfold wrap64; omega), if_neg (by unfold top; exact h2)]
          rfl
    · rw [if_neg h1]
      simp only [Bool.false_eq_true, if_false]
      cases hmb : minusB (L s) with
      | true => rw [if_pos rfl, if_neg (by unfold top; exact h1)]; rfl
      | false => simp only [Bool.false_eq_true, if_false]; rw [if_neg (by unfold top; omega)]; rfl

/-- A token as the program hands it back: its offset is still 0. -/
def tupT (x : T) : Int × Int × Int × ByteArray × Int × Int := (x.kind, 0, x.val, ⟨x.text.toArray⟩, (x.len : Int), x.err)
theorem Ev_up {α : Type} {g : Nat → Option α} {r : α} (h : Ev (fun k => g (k + 1)) r) : Ev g r := Ev.step (fun _ => rfl) h
theorem Ev_now {α : Type} {r r' : α} (h : r' = r) : Ev (fun _ => some r') r := by subst h; exact Ev.now _
theorem L_mk (l : List UInt8) : L ⟨l.toArray⟩ = l := rfl
theorem extract_head (s : ByteArray) (n : Nat) : s.extract 0 n = ⟨((L s).take n).toArray⟩ := by
  refine L_inj ?_; rw [L_extract, List.drop_zero, Nat.sub_zero]; rfl
theorem j1_f (s : ByteArray) (hs : s.size ≤ 140737488351232) (n : Nat) (hn : n ≤ s.size) (b : Bool) :
    Ev (fun k => lexer_token.j1 k s (n : Int) b) (tupT (if b then bad 3 else match parseL ((L s).take n) with | some v => ⟨2, v, [], n, 0⟩ | none => bad 10)) := by
  cases b with
  | true => refine Ev_up ?_; simp only [lexer_token.j1, if_true]; exact Ev_now rfl
  | false =>
    have hp := parse_f (s.extract 0 n) (by rw [ByteArray.size_extract]; omega)
    refine Ev.step (f := fun k => (lexer_ParseInt.f k (s.extract 0 n)).bind fun bt119 => (if bt119.2 = true then (some (2, 0, bt119.1, (⟨#[]⟩ : ByteArray), (n : Int), 0)) else (some (0, 0, 0, (⟨#[]⟩ : ByteArray), 0, 10)))) (fun k => ?_) (Ev.bind hp ?_)
    · simp only [lexer_token.j1]; rw [if_neg (by decide), if_pos (by omega), if_pos (by omega), Int.toNat_natCast]
    · rw [L_extract, List.drop_zero, Nat.sub_zero]
      cases parseL ((L s).take n) <;> exact Ev.now _
theorem j0_f (s : ByteArray) (hs : s.size ≤ 140737488351232) (g : Nat) (hg : g ≤ s.size) (hg1 : g ≤ 1) :
    Ev (fun k => lexer_token.j0 k s (g : Int)) (tupT (if span digB ((L s).drop g) = 0 then bad 12 else numL (L s) (g + span digB ((L s).drop g)))) := by
  have hp := prefix_digit (s.extract g s.size) (by rw [ByteArray.size_extract]; omega)
  rw [L_tail] at hp
  have hle := span_le digB ((L s).drop g)
  rw [List.length_drop, L_length] at hle
  obtain ⟨n, hn⟩ : ∃ n, n = span digB ((L s).drop g) := ⟨_, rfl⟩
  rw [← hn] at hp hle ⊢
  have g1 : (0 ≤ (g : Int)) = True := eq_true (by omega)
  have g2 : ((g : Int) ≤ (s.size : Int)) = True := eq_true (by omega)
  refine Ev_up ?_
  simp only [lexer_token.j0, g1, g2, if_true, Int.toNat_natCast]
  refine Ev.bind hp ?_
  by_cases h0 : n = 0
  · subst h0
    simp only [Int.natCast_zero, if_true]; exact Ev_now rfl
  · have h0' : ((n : Int) = 0) = False := eq_false (by omega)
    rw [if_neg h0]
    have hw : wrap64 ((g : Int) + (n : Int)) = ((g + n : Nat) : Int) := by rw [show (g : Int) + (n : Int) = ((g + n : Nat) : Int) by omega]; exact wrap_nat _ (by omega)
    obtain ⟨N, hN⟩ : ∃ N, N = g + n := ⟨_, rfl⟩
    rw [← hN] at hw ⊢
    have hc := canonical_f (s.extract 0 N) (by rw [ByteArray.size_extract]; omega)
    rw [L_extract, List.drop_zero, Nat.sub_zero] at hc
    have g3 : (0 ≤ (N : Int)) = True := eq_true (by omega)
    have g4 : ((N : Int) ≤ (s.size : Int)) = True := eq_true (by omega)
    simp only [h0', if_false, hw, g3, g4, if_true, Int.toNat_natCast]
    refine Ev.bind hc ?_
    unfold numL
    cases hcan : canonL ((L s).take N) with
    | false => simp only [Bool.false_eq_true, if_false]; exact j1_f s hs N (by omega) true
    | true =>
      simp only [if_true, Bool.not_true, Bool.false_or]
      by_cases hlt : N < s.size
      · have g5 : ((N : Int) < (s.size : Int)) = True := eq_true (by omega)
        simp only [g5, if_true, bt_L, letter_f, Option.bind_some]
        rw [drop_cons s N hlt]
        exact j1_f s hs N (by omega) _
      · have g5 : ((N : Int) < (s.size : Int)) = False := eq_false (by omega)
        simp only [g5, if_false]
        rw [drop_end s N (by omega)]
        exact j1_f s hs N (by omega) false
theorem token_f (s : ByteArray) (hs : s.size ≤ 140737488351232) (c : UInt8) (t : List UInt8) (h : L s = c :: t) : Ev (fun k => lexer_token.f k s) (tupT (tokL c t)) := by
  obtain ⟨hb, h0, hsz⟩ := at_head s c t h
  have hle := span_le wordB (L s)
  rw [L_length] at hle
  unfold tokL
  by_cases hl : letB c = true
  · rw [if_pos hl]
    have g1 : (0 < (s.size : Int)) = True := eq_true (by omega)
    unfold lexer_token.f
    simp only [g1, if_true, hb, letter_f, hl, Option.bind_some]
    refine Ev.bind (prefix_word s hs) ?_
    rw [h] at hle ⊢
    obtain ⟨n, hn⟩ : ∃ n, n = span wordB (c :: t) := ⟨_, rfl⟩
    rw [← hn] at hle ⊢
    by_cases h1 : 24 < n
    · have g2 : ((n : Int) > 24) = True := eq_true (by omega)
      rw [if_pos h1]
      simp only [g2, if_true]; exact Ev_now rfl
    · have g2 : ((n : Int) > 24) = False := eq_false (by omega)
      have g3 : (0 ≤ (n : Int)) = True := eq_true (by omega)
      have g4 : ((n : Int) ≤ (s.size : Int)) = True := eq_true (by omega)
      rw [if_neg h1]
      simp only [g2, g3, g4, if_true, if_false, Int.toNat_natCast, extract_head, h]; exact Ev_now rfl
  · rw [if_neg hl]
    have hl' : letB c = false := by simpa using hl
    have hf : ∀ k, lexer_token.f k s = if (c.toNat : Int) = 40 then (some (3, 0, 0, s.extract 0 1, 1, 0)) else (if (c.toNat : Int) = 41 then (some (3, 0, 0, s.extract 0 1, 1, 0)) else (if (c.toNat : Int) = 61 then (some (3, 0, 0, s.extract 0 1, 1, 0)) else (if (c.toNat : Int) = 45 then (lexer_token.j0 k s 1) else (lexer_token.j0 k s 0)))) := by
      intro k
      unfold lexer_token.f
      rw [if_pos (by omega), hb, letter_f, hl']
      simp only [Option.bind_some, Bool.false_eq_true, if_false]
      rw [if_pos (show (0 : Nat) ≤ 1 by omega), if_pos (show (1 : Int) ≤ (s.size : Int) by omega)]
    have hx : s.extract 0 1 = ⟨[c].toArray⟩ := by rw [extract_head, h]; rfl
    rw [hx] at hf
    by_cases hp : punctB c = true
    · rw [if_pos hp]
      have hp' : c.toNat = 40 ∨ c.toNat = 41 ∨ c.toNat = 61 := by simpa [punctB] using hp
      refine Ev.congr (f := fun _ => some _) (fun k => ?_) (Ev.now _)
      rw [hf]
      rcases hp' with e | e | e <;> simp [e, tupT]
    · rw [if_neg hp]
      have hp' : ¬ (c.toNat = 40 ∨ c.toNat = 41 ∨ c.toNat = 61) := by simpa [punctB] using hp
      rw [← h]
      by_cases hm : c = 45
      · have hs1 : signN c = 1 := by simp [signN, hm]
        rw [hs1]
        refine Ev.congr (fun k => ?_) (j0_f s hs 1 (by omega) (by omega))
        rw [hf, if_neg (by omega), if_neg (by omega), if_neg (by omega), if_pos (by subst hm; rfl)]
        rfl
      · have hs1 : signN c = 0 := by simp [signN, hm]
        rw [hs1]
        refine Ev.congr (fun k => ?_) (j0_f s hs 0 (by omega) (by omega))
        rw [hf, if_neg (by omega), if_neg (by omega), if_neg (by omega), if_neg (by intro e; apply hm; apply UInt8.toNat_inj.1; have : (45 : UInt8).toNat = 45 := rfl; omega)]
        rfl

def to34 (x : Tk) : S34 := ⟨x.kind, x.off, x.val, ⟨x.text.toArray⟩⟩
def res34 (r : List Tk × Int × Int) : List S34 × Int × Int := (r.1.map to34, r.2.1, r.2.2)
theorem scan_l0 (s : ByteArray) (hs : s.size ≤ 140737488351232) : ∀ (f i : Nat) (acc : List Tk), s.size - i ≤ f → i ≤ s.size → acc.length ≤ 20000 →
    Ev (fun k => lexer_Scan.l0 k s (acc.map to34) (i : Int)) (res34 (scanF (f + 1) ((L s).drop i) i acc)) := by
  intro f
  induction f with
  | zero =>
    intro i acc hf hi ha
    have g1 : (0 ≤ (i : Int)) = True := eq_true (by omega)
    have g2 : ((i : Int) ≤ (s.size : Int)) = True := eq_true (by omega)
    refine Ev_up ?_
    simp only [lexer_Scan.l0, g1, g2, if_true, Int.toNat_natCast]
    have hp := prefix_Scan_1 (s.extract i s.size) (by rw [ByteArray.size_extract]; omega)
    rw [L_tail, drop_end s i (by omega), span_nil] at hp
    refine Ev.bind hp ?_
    have hw : (wrap64 ((i : Int) + ((0 : Nat) : Int)) = (s.size : Int)) = True := eq_true (by rw [show (i : Int) + ((0 : Nat) : Int) = ((i : Nat) : Int) by omega, wrap_nat _ (by omega)]; omega)
    simp only [hw, if_true]
    rw [drop_end s i (by omega)]
    exact Ev_now rfl
  | succ f ih =>
    intro i acc hf hi ha
    have g1 : (0 ≤ (i : Int)) = True := eq_true (by omega)
    have g2 : ((i : Int) ≤ (s.size : Int)) = True := eq_true (by omega)
    refine Ev_up ?_
    simp only [lexer_Scan.l0, g1, g2, if_true, Int.toNat_natCast]
    have hp := prefix_Scan_1 (s.extract i s.size) (by rw [ByteArray.size_extract]; omega)
    rw [L_tail] at hp
    have hle := span_le blankB ((L s).drop i)
    rw [List.length_drop, L_length] at hle
    refine Ev.bind hp ?_
    rw [scanF]
    obtain ⟨n, hn⟩ : ∃ n, n = span blankB ((L s).drop i) := ⟨_, rfl⟩
    rw [← hn] at hle ⊢
    rw [List.drop_drop]
    obtain ⟨p, hpp⟩ : ∃ p, p = i + n := ⟨_, rfl⟩
    rw [← hpp]
    have hw : wrap64 ((i : Int) + (n : Int)) = (p : Int) := by rw [show (i : Int) + (n : Int) = ((p : Nat) : Int) by omega]; exact wrap_nat _ (by omega)
    simp only [hw]
    by_cases he : p = s.size
    · have g3 : ((p : Int) = (s.size : Int)) = True := eq_true (by omega)
      simp only [g3, if_true]
      rw [drop_end s p (by omega)]
      exact Ev_now rfl
    · have g3 : ((p : Int) = (s.size : Int)) = False := eq_false (by omega)
      have g4 : (0 ≤ (p : Int)) = True := eq_true (by omega)
      have g5 : ((p : Int) ≤ (s.size : Int)) = True := eq_true (by omega)
      have hd := drop_cons s p (by omega)
      obtain ⟨c, hc⟩ : ∃ c, c = (L s).getD p 0 := ⟨_, rfl⟩
      rw [← hc] at hd
      simp only [g3, g4, g5, if_true, if_false, Int.toNat_natCast, List.length_map]
      have hdd : (L s).drop p = c :: (L s).drop (p + 1) := hd
      rw [hd]
      simp only []
      by_cases hf2 : 20000 ≤ acc.length
      · have g6 : ((acc.length : Int) = 20000) = True := eq_true (by omega)
        simp only [g6, if_true]
        rw [if_pos hf2]
        exact Ev_now rfl
      · have g6 : ((acc.length : Int) = 20000) = False := eq_false (by omega)
        have ht := token_f (s.extract p s.size) (by rw [ByteArray.size_extract]; omega) c ((L s).drop (p + 1)) (by rw [L_tail]; exact hd)
        simp only [g6, if_false]
        rw [if_neg hf2]
        refine Ev.bind ht ?_
        have hlen := tokL_len c ((L s).drop (p + 1))
        obtain ⟨x, hx⟩ : ∃ x, x = tokL c ((L s).drop (p + 1)) := ⟨_, rfl⟩
        rw [← hx] at hlen ⊢
        simp only [tupT]
        by_cases h0 : x.err = 0
        · have hl2 := hlen h0
          rw [List.length_drop, L_length] at hl2
          have e1 : s.size - (p + x.len) ≤ f := by clear hlen hx ht hp ih; omega
          have e2 : p + x.len ≤ s.size := by clear hlen hx ht hp ih; omega
          have e3 : (acc ++ [(⟨x.kind, p, x.val, x.text⟩ : Tk)]).length ≤ 20000 := by rw [List.length_append, List.length_singleton]; clear hlen hx ht hp ih; omega
          have g7 : (acc.length < 3518437208883) = True := eq_true (by omega)
          have g8 : wrap64 ((p : Int) + (x.len : Int)) = ((p + x.len : Nat) : Int) := by rw [show (p : Int) + (x.len : Int) = ((p + x.len : Nat) : Int) by omega]; exact wrap_nat _ (by omega)
          simp only [h0, if_true, g7, g8]
          rw [if_neg (by simp), ← hdd, List.drop_drop]
          have hm : acc.map to34 ++ [(⟨x.kind, (p : Int), x.val, ⟨x.text.toArray⟩⟩ : S34)] = (acc ++ [(⟨x.kind, p, x.val, x.text⟩ : Tk)]).map to34 := by rw [List.map_append]; rfl
          rw [hm]
          exact ih (p + x.len) (acc ++ [(⟨x.kind, p, x.val, x.text⟩ : Tk)]) e1 e2 e3
        · simp only [h0, if_false]
          rw [if_pos (by simpa using h0)]
          exact Ev_now rfl
theorem scan_f (s : ByteArray) (hs : s.size ≤ 60000) : Ev (fun k => lexer_Scan.f k s) (res34 (scanF (s.size + 1) (L s) 0 [])) := by
  have h := scan_l0 s (by omega) s.size 0 [] (by omega) (by omega) (by simp)
  have g : ((s.size : Int) > 60000) = False := eq_false (by omega)
  unfold lexer_Scan.f
  simp only [g, if_false]
  exact h

end Go.Proofs.Ytjfpaglnadfppaa.Pure
