/- The plain law of joined tokens: the tokens of a text, joined by blanks, are scanned as the same tokens; and their offsets increase. -/
import Derived.Test.YtjfpaglnadfppaaLexFmt
namespace Go.Proofs.Ytjfpaglnadfppaa.Lex

def Tk.src (x : Tk) : List UInt8 := srcL x.kind x.val x.text
/-- A token that its own bytes tell. -/
def TokOK (x : Tk) : Prop :=
  (x.kind = 1 ∨ x.kind = 2 ∨ x.kind = 3) ∧ ∃ c t, x.src = c :: t ∧ blankB c = false ∧ tokL c t = ⟨x.kind, x.val, x.text, x.src.length, 0⟩
def tot (l : List Tk) : Nat := (l.map fun x => x.src.length).sum
theorem tot_cons (x : Tk) (l : List Tk) : tot (x :: l) = x.src.length + tot l := by simp [tot]
theorem tokL_kind (c : UInt8) (t : List UInt8) (h : (tokL c t).err = 0) : (tokL c t).kind = 1 ∨ (tokL c t).kind = 2 ∨ (tokL c t).kind = 3 := by
  unfold tokL at h ⊢
  split
  · rename_i h1
    rw [if_pos h1] at h
    split
    · rename_i h2; rw [if_pos h2] at h; simp [bad] at h
    · exact .inl rfl
  · rename_i h1
    rw [if_neg h1] at h
    split
    · exact .inr (.inr rfl)
    · rename_i h2
      rw [if_neg h2] at h
      split
      · rename_i h3; rw [if_pos h3] at h; simp [bad] at h
      · rename_i h3
        rw [if_neg h3] at h
        unfold numL at h ⊢
        split
        · rename_i h4; rw [if_pos h4] at h; simp [bad] at h
        · rename_i h4
          rw [if_neg h4] at h
          split
          · exact .inr (.inl rfl)
          · rename_i h5; rw [h5] at h; simp [bad] at h
theorem scan_facts : ∀ (f : Nat) (l : List UInt8) (o : Nat) (acc : List Tk), (scanF f l o acc).2.2 = 0 →
    ∃ more, (scanF f l o acc).1 = acc ++ more ∧ (∀ x ∈ more, TokOK x ∧ o ≤ x.off) ∧ tot more ≤ l.length ∧ more.Pairwise (fun a b => a.off < b.off) := by
  intro f
  induction f with
  | zero => intro l o acc _; exact ⟨[], by simp [scanF], by simp, by simp [tot], List.Pairwise.nil⟩
  | succ f ih =>
    intro l o acc h
    rw [scanF] at h ⊢
    split at h
    · exact ⟨[], by simp, by simp, by simp [tot], List.Pairwise.nil⟩
    · rename_i c t he
      split at h
      · simp at h
      · rename_i h2
        rw [if_neg h2]
        split at h
        · rename_i h3; simp at h3 h; exact absurd h h3
        · rename_i h3
          rw [if_neg h3]
          have h0 : (tokL c t).err = 0 := by simpa using h3
          obtain ⟨more, hm, hall, htot, hpw⟩ := ih _ _ _ h
          have hlen := tokL_len c t h0
          obtain ⟨hs1, t', hs2, hs3⟩ := tokL_src c t h0
          have hbl : l.length = span blankB l + (t.length + 1) := by
            have := congrArg List.length he
            have h5 := span_le blankB l
            rw [List.length_drop] at this; simp at this; omega
          have hsl : (srcL (tokL c t).kind (tokL c t).val (tokL c t).text).length = (tokL c t).len := by
            rw [← hs1, List.length_take]; simp; omega
          refine ⟨(⟨(tokL c t).kind, o + span blankB l, (tokL c t).val, (tokL c t).text⟩ : Tk) :: more, by rw [hm, List.append_assoc]; rfl, ?_, ?_, ?_⟩
          · intro x hx
            rcases List.mem_cons.1 hx with rfl | hx
            · refine ⟨⟨tokL_kind c t h0, c, t', by show srcL _ _ _ = _; rw [← hs1, hs2], span_lt_nonblank l c t he, ?_⟩, by show o ≤ o + _; omega⟩
              rw [hs3]
              show tokL c t = ⟨(tokL c t).kind, (tokL c t).val, (tokL c t).text, (srcL (tokL c t).kind (tokL c t).val (tokL c t).text).length, 0⟩
              rw [hsl]
              obtain ⟨R, hR⟩ : ∃ R, R = tokL c t := ⟨_, rfl⟩
              rw [← hR] at h0 ⊢
              obtain ⟨a1, a2, a3, a4, a5⟩ := R
              simp only at h0; rw [h0]
            · exact ⟨(hall x hx).1, by have := (hall x hx).2; omega⟩
          · rw [tot_cons]
            show (srcL _ _ _).length + _ ≤ _
            rw [hsl]
            have : ((c :: t).drop (tokL c t).len).length = t.length + 1 - (tokL c t).len := by rw [List.length_drop, List.length_cons]
            omega
          · rw [List.pairwise_cons]
            exact ⟨fun x hx => by have := (hall x hx).2; show o + span blankB l < x.off; omega, hpw⟩
/-- Words with single blanks between them. -/
def joinB : List (List UInt8) → List UInt8
  | [] => []
  | [x] => x
  | x :: y :: r => x ++ 32 :: joinB (y :: r)
theorem joinB_length (l : List Tk) : (joinB (l.map Tk.src)).length ≤ tot l + l.length := by
  induction l with
  | nil => simp [joinB]
  | cons x l ih =>
    cases l with
    | nil => simp [joinB, tot]
    | cons y r =>
      rw [tot_cons, List.length_cons]
      have e : joinB ((x :: y :: r).map Tk.src) = x.src ++ 32 :: joinB ((y :: r).map Tk.src) := rfl
      rw [e, List.length_append, List.length_cons]
      omega
theorem tot_ge (l : List Tk) (h : ∀ x ∈ l, TokOK x) : l.length ≤ tot l := by
  induction l with
  | nil => simp
  | cons x l ih =>
    obtain ⟨_, c, t, hs, _⟩ := h x (by simp)
    have := ih (fun y hy => h y (by simp [hy]))
    rw [tot_cons, hs, List.length_cons, List.length_cons]; omega
theorem rescan : ∀ (l : List Tk), (∀ x ∈ l, TokOK x) → ∀ (f o : Nat) (acc : List Tk), l.length ≤ f → acc.length + l.length ≤ 20000 →
    ∃ l' : List Tk, scanF (f + 1) (joinB (l.map Tk.src)) o acc = (acc ++ l', 0, 0) ∧ l'.map (fun x => (x.kind, x.val, x.text)) = l.map (fun x => (x.kind, x.val, x.text)) := by
  intro l
  induction l with
  | nil => intro _ f o acc _ _; exact ⟨[], by rw [scanF]; simp [joinB], rfl⟩
  | cons x l ih =>
    intro hall f o acc hf ha
    rw [List.length_cons] at hf ha
    obtain ⟨f, rfl⟩ : ∃ g, f = g + 1 := ⟨f - 1, by omega⟩
    obtain ⟨_, c, t, hs, hb, htok⟩ := hall x (by simp)
    have hrest : ∃ tail, joinB ((x :: l).map Tk.src) = c :: (t ++ tail) ∧ tokL c (t ++ tail) = tokL c t ∧ ∀ (o : Nat) (acc : List Tk), scanF (f + 1) tail o acc = scanF (f + 1) (joinB (l.map Tk.src)) (o + tail.length - (joinB (l.map Tk.src)).length) acc := by
      cases l with
      | nil => exact ⟨[], by show x.src = _; rw [hs, List.append_nil], by rw [List.append_nil], fun o acc => rfl⟩
      | cons y r =>
        refine ⟨32 :: joinB ((y :: r).map Tk.src), by show x.src ++ 32 :: joinB ((y :: r).map Tk.src) = _; rw [hs]; rfl, tokL_blank c t _, fun o acc => ?_⟩
        have := scanF_skip f [32] (joinB ((y :: r).map Tk.src)) o acc rfl
        rw [List.singleton_append] at this
        have hlen : (32 :: joinB ((y :: r).map Tk.src)).length = (joinB ((y :: r).map Tk.src)).length + 1 := List.length_cons
        rw [this]
        congr 1
        show o + 1 = _
        omega
    obtain ⟨tail, hj, htk, hsc⟩ := hrest
    have hx : (tokL c (t ++ tail)) = ⟨x.kind, x.val, x.text, x.src.length, 0⟩ := by rw [htk, htok]
    have hsp : span blankB (c :: (t ++ tail)) = 0 := by rw [span_cons, hb]; rfl
    have hdr : (c :: (t ++ tail)).drop x.src.length = tail := by
      rw [hs, ← List.cons_append, List.drop_left]
    rw [hj, scanF, hsp, List.drop_zero]
    simp only
    rw [hx, if_neg (by omega), if_neg (by simp)]
    simp only
    rw [hdr, hsc]
    obtain ⟨l', h1, h2⟩ := ih (fun y hy => hall y (by simp [hy])) f (o + 0 + x.src.length + tail.length - (joinB (l.map Tk.src)).length) (acc ++ [(⟨x.kind, o + 0, x.val, x.text⟩ : Tk)]) (by omega) (by rw [List.length_append, List.length_singleton]; omega)
    exact ⟨(⟨x.kind, o + 0, x.val, x.text⟩ : Tk) :: l', by rw [h1, List.append_assoc]; rfl, by rw [List.map_cons, List.map_cons, h2]⟩
end Go.Proofs.Ytjfpaglnadfppaa.Lex
