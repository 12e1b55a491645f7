/- The plain law of lexical analysis, more: what stands behind a blank does not change a token; what scanning a concatenation answers. -/
import Derived.Test.YtjfpaglnadfppaaLex
namespace Go.Proofs.Ytjfpaglnadfppaa.Lex

theorem span_blank (p : UInt8 → Bool) (hp : p 32 = false) (l r : List UInt8) : span p (l ++ 32 :: r) = span p l := by
  induction l with
  | nil => rw [List.nil_append, span_cons, hp]; rfl
  | cons c t ih => rw [List.cons_append, span_cons, span_cons, ih]
theorem span_app (p : UInt8 → Bool) (a b : List UInt8) (h : a.all p = true) : span p (a ++ b) = a.length + span p b := by
  induction a with
  | nil => simp
  | cons x a ih =>
    simp only [List.all_cons, Bool.and_eq_true] at h
    rw [List.cons_append, span_cons, if_pos h.1, ih h.2, List.length_cons]; omega
theorem numL_blank (l r : List UInt8) (n : Nat) (h : n ≤ l.length) : numL (l ++ 32 :: r) n = numL l n := by
  have h1 : (l ++ 32 :: r).take n = l.take n := List.take_append_of_le_length h
  have h2 : ((l ++ 32 :: r).drop n).head?.any letB = (l.drop n).head?.any letB := by
    rw [List.drop_append_of_le_length h]
    cases hd : l.drop n with
    | nil => rfl
    | cons a b => rfl
  unfold numL
  rw [h1, h2]
theorem tokL_blank (c : UInt8) (t r : List UInt8) : tokL c (t ++ 32 :: r) = tokL c t := by
  have hw := span_blank wordB rfl (c :: t) r
  rw [List.cons_append] at hw
  have hs : signN c ≤ 1 := by unfold signN; split <;> omega
  have hd : span digB ((c :: (t ++ 32 :: r)).drop (signN c)) = span digB ((c :: t).drop (signN c)) := by
    have := span_blank digB rfl ((c :: t).drop (signN c)) r
    rw [← this]
    congr 1
    rw [← List.cons_append, List.drop_append_of_le_length (by simp; omega)]
  have hle := span_le wordB (c :: t)
  have hle2 := span_le digB ((c :: t).drop (signN c))
  have ht : (c :: (t ++ 32 :: r)).take (span wordB (c :: t)) = (c :: t).take (span wordB (c :: t)) := by
    rw [← List.cons_append, List.take_append_of_le_length hle]
  unfold tokL
  rw [hw, hd, ht]
  split
  · rfl
  · split
    · rfl
    · split
      · rfl
      · rw [← List.cons_append]
        exact numL_blank (c :: t) r _ (by rw [List.length_drop] at hle2; simp at hle2 ⊢; omega)

theorem drop_span (p : UInt8 → Bool) (l : List UInt8) : l.drop (span p l) = l.dropWhile p := by
  induction l with
  | nil => rfl
  | cons c t ih => rw [span_cons, List.dropWhile_cons]; split <;> simp [ih]
/-- Blanks ahead are passed over. -/
theorem scanF_skip (f : Nat) (a r : List UInt8) (o : Nat) (acc : List Tk) (h : a.all blankB = true) : scanF (f + 1) (a ++ r) o acc = scanF (f + 1) r (o + a.length) acc := by
  have e : (a ++ r).drop (span blankB (a ++ r)) = r.drop (span blankB r) := by
    rw [span_app _ _ _ h, ← List.drop_drop, List.drop_left]
  rw [scanF, scanF, e, span_app _ _ _ h, Nat.add_assoc o]
theorem span_lt_nonblank (l : List UInt8) (c : UInt8) (t : List UInt8) (h : l.drop (span blankB l) = c :: t) : blankB c = false := by
  rw [drop_span] at h
  cases hc : blankB c with
  | false => rfl
  | true =>
    exfalso
    have : ∀ (l : List UInt8), l.dropWhile blankB = c :: t → False := by
      intro l
      induction l with
      | nil => intro h; simp at h
      | cons x l ih =>
        intro h
        rw [List.dropWhile_cons] at h
        by_cases hx : blankB x = true
        · rw [if_pos hx] at h; exact ih h
        · rw [if_neg hx] at h; injection h with h1 h2; rw [h1] at hx; exact hx hc
    exact this l h
theorem scanF_acc (f : Nat) : ∀ (l : List UInt8) (o : Nat) (acc : List Tk), (scanF f l o acc).2.2 = 0 → ∃ more, (scanF f l o acc).1 = acc ++ more := by
  induction f with
  | zero => intro l o acc _; exact ⟨[], by simp [scanF]⟩
  | succ f ih =>
    intro l o acc h
    rw [scanF] at h ⊢
    split at h
    · exact ⟨[], by simp⟩
    · rename_i c t he
      split at h
      · simp at h
      · rename_i h2
        rw [if_neg h2]
        split at h
        · rename_i h3; simp at h3 h; exact absurd h h3
        · rename_i h3
          rw [if_neg h3]
          obtain ⟨more, hm⟩ := ih _ _ _ h
          exact ⟨_ :: more, by rw [hm, List.append_assoc]; rfl⟩
theorem scanF_off (f : Nat) : ∀ (l : List UInt8) (o : Nat) (acc : List Tk), (scanF f l o acc).2.2 = 0 → (scanF f l o acc).2.1 = 0 := by
  induction f with
  | zero => intro l o acc _; rfl
  | succ f ih =>
    intro l o acc h
    rw [scanF] at h ⊢
    split at h
    · rfl
    · split at h
      · simp at h
      · rename_i h2
        rw [if_neg h2]
        split at h
        · rename_i h3; simp at h3 h; exact absurd h h3
        · rename_i h3
          rw [if_neg h3]
          exact ih _ _ _ h
/-- A text that is one token: blanks, the token, blanks. -/
theorem one_token (f : Nat) (p : List UInt8) (tk : Tk) (hf : p.length ≤ f) (h : scanF (f + 1) p 0 [] = ([tk], 0, 0)) :
    ∃ c t, p.drop (span blankB p) = c :: t ∧ (tokL c t).err = 0 ∧ ((c :: t).drop (tokL c t).len).all blankB = true ∧ tk.off = span blankB p := by
  rw [scanF] at h
  split at h
  · simp at h
  · rename_i c t he
    simp only [List.length_nil] at h
    rw [if_neg (by omega)] at h
    by_cases h0 : (tokL c t).err = 0
    · rw [if_neg (by simpa using h0)] at h
      refine ⟨c, t, he, h0, ?_, ?_⟩
      · have hlen := tokL_len c t h0
        have hl2 : (c :: t).length ≤ p.length := by rw [← he, List.length_drop]; omega
        cases f with
        | zero => simp at hl2; omega
        | succ f =>
          rw [scanF] at h
          split at h
          · rename_i he2
            have := (span_all blankB ((c :: t).drop (tokL c t).len)).1 (by
              have h3 := congrArg List.length he2
              have h4 := span_le blankB ((c :: t).drop (tokL c t).len)
              rw [List.length_drop] at h3
              simp only [List.length_nil] at h3
              omega)
            exact this
          · rename_i c2 t2 he2
            split at h
            · simp at h
            · split at h
              · simp at h
              · obtain ⟨more, hm⟩ := scanF_acc f _ _ _ (by rw [h])
                rw [h] at hm
                have := congrArg List.length hm
                simp at this
      · have : ∃ more, [tk] = [(⟨(tokL c t).kind, 0 + span blankB p, (tokL c t).val, (tokL c t).text⟩ : Tk)] ++ more := by
          obtain ⟨more, hm⟩ := scanF_acc f _ _ _ (by rw [h])
          rw [h] at hm; exact ⟨more, hm⟩
        obtain ⟨more, hm⟩ := this
        injection hm with h1 h2
        rw [h1]; simp
    · rw [if_pos (by simpa using h0)] at h; simp at h
def rep (p : List UInt8) : Nat → List UInt8
  | 0 => []
  | n + 1 => p ++ 32 :: rep p n
theorem rep_length (p : List UInt8) : ∀ n, (rep p n).length = n * (p.length + 1) := by
  intro n
  induction n with
  | zero => simp [rep]
  | succ n ih => rw [rep, List.length_append, List.length_cons, ih, Nat.succ_mul]; omega
theorem rep_snoc (p : List UInt8) : ∀ n, rep p (n + 1) = rep p n ++ (p ++ [32]) := by
  intro n
  induction n with
  | zero => simp [rep]
  | succ n ih =>
    have e : rep p (n + 1 + 1) = p ++ 32 :: rep p (n + 1) := rfl
    have e2 : rep p (n + 1) ++ (p ++ [32]) = (p ++ 32 :: rep p n) ++ (p ++ [32]) := rfl
    rw [e, e2, ih]; simp
theorem scanF_rep (p c t) (hp : p.drop (span blankB p) = c :: t) (h0 : (tokL c t).err = 0) (hq : ((c :: t).drop (tokL c t).len).all blankB = true) :
    ∀ (n f o : Nat) (acc : List Tk), n ≤ f → acc.length ≤ 20000 →
      (acc.length + n ≤ 20000 → (scanF (f + 1) (rep p n) o acc).1.length = acc.length + n ∧ (scanF (f + 1) (rep p n) o acc).2.2 = 0) ∧
      (20000 < acc.length + n → scanF (f + 1) (rep p n) o acc = ([], ((o + (20000 - acc.length) * (p.length + 1) + span blankB p : Nat) : Int), 11)) := by
  intro n
  induction n with
  | zero =>
    intro f o acc hf ha
    refine ⟨fun _ => ?_, fun h => absurd h (by omega)⟩
    rw [rep, scanF]
    exact ⟨rfl, rfl⟩
  | succ n ih =>
    intro f o acc hf ha
    obtain ⟨f, rfl⟩ : ∃ g, f = g + 1 := ⟨f - 1, by omega⟩
    have hb := span_le blankB p
    have hps : p = p.take (span blankB p) ++ c :: t := by rw [← hp, List.take_append_drop]
    have hall : (p.take (span blankB p)).all blankB = true := by rw [take_span]; exact List.all_takeWhile
    have hcb : blankB c = false := span_lt_nonblank p c t hp
    have hs : span blankB (p ++ 32 :: rep p n) = span blankB p := by
      have e : p ++ 32 :: rep p n = p.take (span blankB p) ++ (c :: (t ++ 32 :: rep p n)) := by
        have e9 := congrArg (fun z => z ++ 32 :: rep p n) hps
        simp only [List.append_assoc, List.cons_append] at e9
        exact e9
      rw [e, span_app _ _ _ hall, span_cons, hcb, List.length_take]
      simp; omega
    have hd : (p ++ 32 :: rep p n).drop (span blankB p) = c :: (t ++ 32 :: rep p n) := by
      rw [List.drop_append_of_le_length hb, hp, List.cons_append]
    have hlen := tokL_len c t h0
    have hpl : p.length = span blankB p + (t.length + 1) := by
      have := congrArg List.length hp
      rw [List.length_drop] at this; simp at this; omega
    rw [rep, scanF, hs, hd]
    simp only
    rw [tokL_blank]
    by_cases hfull : 20000 ≤ acc.length
    · rw [if_pos hfull]
      refine ⟨fun h => absurd h (by omega), fun _ => ?_⟩
      rw [show 20000 - acc.length = 0 by omega, Nat.zero_mul, Nat.add_zero]
    · rw [if_neg hfull, if_neg (by simpa using h0)]
      have hdr : (c :: (t ++ 32 :: rep p n)).drop (tokL c t).len = (((c :: t).drop (tokL c t).len) ++ [32]) ++ rep p n := by
        rw [← List.cons_append, List.drop_append_of_le_length (by simp; omega)]; simp
      rw [hdr]
      have hall2 : (((c :: t).drop (tokL c t).len) ++ [32]).all blankB = true := by rw [List.all_append, hq]; rfl
      rw [scanF_skip f _ _ _ _ hall2]
      have hbl : (((c :: t).drop (tokL c t).len) ++ [32]).length = t.length + 2 - (tokL c t).len := by rw [List.length_append, List.length_drop, List.length_cons, List.length_singleton]; omega
      obtain ⟨i1, i2⟩ := ih f (o + span blankB p + (tokL c t).len + (((c :: t).drop (tokL c t).len) ++ [32]).length) (acc ++ [(⟨(tokL c t).kind, o + span blankB p, (tokL c t).val, (tokL c t).text⟩ : Tk)]) (by omega) (by rw [List.length_append, List.length_singleton]; omega)
      rw [List.length_append, List.length_singleton] at i1 i2
      refine ⟨fun h => ?_, fun h => ?_⟩
      · obtain ⟨j1, j2⟩ := i1 (by omega)
        exact ⟨by rw [j1]; omega, j2⟩
      · rw [i2 (by omega), hbl]
        congr 2
        have h9 : 20000 - acc.length = (20000 - (acc.length + 1)) + 1 := by omega
        rw [h9, Nat.succ_mul]
        omega
end Go.Proofs.Ytjfpaglnadfppaa.Lex
