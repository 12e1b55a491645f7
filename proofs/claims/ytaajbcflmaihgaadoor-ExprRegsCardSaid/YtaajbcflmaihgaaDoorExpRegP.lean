/- The registers of an expression: sorted, each once; by sorting, and by putting one after another in its place. No program in sight. -/
import Derived.Lib.RowBridge
import Derived.Test.YtaajbcflmaihgaaDoorOpcNat
set_option linter.all false
namespace Go.Proofs.YtaajbcflmaihgaaDoor
open Go
theorem sorted_ext : ∀ {l m : List Int}, l.Pairwise (· < ·) → m.Pairwise (· < ·) → (∀ x, x ∈ l ↔ x ∈ m) → l = m
  | [], [], _, _, _ => rfl
  | [], y :: m, _, _, h => absurd ((h y).2 (List.mem_cons_self ..)) (by simp)
  | x :: l, [], _, _, h => absurd ((h x).1 (List.mem_cons_self ..)) (by simp)
  | x :: l, y :: m, hl, hm, h => by
    rw [List.pairwise_cons] at hl hm
    have e : x = y := by
      rcases List.mem_cons.1 ((h x).1 (List.mem_cons_self ..)) with e | e
      · exact e
      · rcases List.mem_cons.1 ((h y).2 (List.mem_cons_self ..)) with e2 | e2
        · exact e2.symm
        · have h1 := hl.1 y e2
          have h2 := hm.1 x e
          omega
    subst e
    rw [sorted_ext hl.2 hm.2 fun z => ?_]
    constructor
    · intro hz
      rcases List.mem_cons.1 ((h z).1 (List.mem_cons_of_mem _ hz)) with e | e
      · subst e; exact absurd (hl.1 z hz) (by omega)
      · exact e
    · intro hz
      rcases List.mem_cons.1 ((h z).2 (List.mem_cons_of_mem _ hz)) with e | e
      · subst e; exact absurd (hm.1 z hz) (by omega)
      · exact e
/-! Sorting, then one of each -/
theorem upTo_inv (zs : List Int) (hs : zs.Pairwise (· ≤ ·)) : ∀ m, m ≤ zs.length → (Lib.compactUpTo zs.toArray m).Pairwise (· < ·) ∧ (∀ x, x ∈ Lib.compactUpTo zs.toArray m ↔ x ∈ zs.take m) ∧
    (∀ x, x ∈ Lib.compactUpTo zs.toArray m → 0 < m → x ≤ zs.getD (m - 1) 0)
  | 0, _ => by
    simp [Lib.compactUpTo]
  | m + 1, hm => by
    obtain ⟨h1, h2, h3⟩ := upTo_inv zs hs m (by omega)
    have hg : ∀ i, i < zs.length → zs.toArray[i]! = zs.getD i 0 := fun i hi => by
      rw [getElem!_pos _ i (by simpa using hi), List.getD_eq_getElem?_getD, List.getElem?_eq_getElem hi]
      simp
    have hlast : ∀ x, x ∈ zs.take (m + 1) ↔ x ∈ zs.take m ∨ x = zs.getD m 0 := fun x => by
      have e : zs.take (m + 1) = zs.take m ++ [zs[m]'(by omega)] := by rw [List.take_add_one, List.getElem?_eq_getElem (show m < zs.length by omega)]; rfl
      rw [e, List.mem_append, List.mem_singleton, List.getD_eq_getElem?_getD, List.getElem?_eq_getElem (show m < zs.length by omega)]
      rfl
    have hle : ∀ i, i < m → zs.getD i 0 ≤ zs.getD m 0 := fun i hi => by
      rw [List.getD_eq_getElem?_getD, List.getElem?_eq_getElem (show i < zs.length by omega), List.getD_eq_getElem?_getD, List.getElem?_eq_getElem (show m < zs.length by omega)]
      exact List.pairwise_iff_getElem.1 hs i m (by omega) (by omega) hi
    rw [Lib.compactUpTo_succ]
    by_cases hk : Lib.keeps zs.toArray m = true
    · rw [if_pos hk, hg m (by omega)]
      have hlt : ∀ x, x ∈ Lib.compactUpTo zs.toArray m → x < zs.getD m 0 := fun x hx => by
        have hm0 : 0 < m := by
          rcases Nat.eq_zero_or_pos m with e | e
          · subst e; simp [Lib.compactUpTo] at hx
          · exact e
        have := h3 x hx hm0
        unfold Lib.keeps at hk
        simp only [decide_eq_true_eq] at hk
        rcases hk with e | e
        · omega
        · rw [hg m (by omega), hg (m - 1) (by omega)] at e
          have := hle (m - 1) (by omega)
          omega
      refine ⟨List.pairwise_append.2 ⟨h1, by simp, fun a ha b hb => ?_⟩, fun x => ?_, fun x hx _ => ?_⟩
      · simp only [List.mem_singleton] at hb
        subst hb
        exact hlt a ha
      · rw [List.mem_append, h2, hlast]
        simp
      · rw [Nat.add_sub_cancel]
        rcases List.mem_append.1 hx with h | h
        · have := hlt x h; omega
        · simp only [List.mem_singleton] at h; omega
    · rw [if_neg hk, List.append_nil]
      have hk : Lib.keeps zs.toArray m = false := by simpa using hk
      unfold Lib.keeps at hk
      simp only [decide_eq_false_iff_not, not_or, Decidable.not_not] at hk
      obtain ⟨hm0, e⟩ := hk
      rw [hg m (by omega), hg (m - 1) (by omega)] at e
      refine ⟨h1, fun x => ?_, fun x hx _ => ?_⟩
      · rw [h2, hlast]
        constructor
        · exact .inl
        · rintro (h | h)
          · exact h
          · subst h
            rw [e, List.mem_take_iff_getElem]
            refine ⟨m - 1, by omega, ?_⟩
            rw [List.getD_eq_getElem?_getD, List.getElem?_eq_getElem (show m - 1 < zs.length by omega)]
            rfl
      · rw [Nat.add_sub_cancel]
        have := h3 x hx (by omega)
        omega
/-! One after another in its place -/
def stepV (x : Int) (s : Bool × List Int) (y : Int) : Bool × List Int :=
  (s.1 || decide (x ≤ y), (if y = x then (if !s.1 && decide (x ≤ y) then s.2 ++ [x] else s.2) else (if !s.1 && decide (x ≤ y) then s.2 ++ [x] else s.2) ++ [y]))
def insV (x : Int) (out : List Int) : List Int := if (out.foldl (stepV x) (false, [])).1 then (out.foldl (stepV x) (false, [])).2 else (out.foldl (stepV x) (false, [])).2 ++ [x]
theorem step_inv (x : Int) : ∀ (r n : List Int) (d : Bool), n.Pairwise (· < ·) → r.Pairwise (· < ·) → (∀ a ∈ n, ∀ b ∈ r, a < b) → (d = false → ∀ a ∈ n, a < x) → (d = true → x ∈ n) →
    (r.foldl (stepV x) (d, n)).2.Pairwise (· < ·) ∧ (∀ z, z ∈ (r.foldl (stepV x) (d, n)).2 ↔ z ∈ n ∨ z ∈ r ∨ (z = x ∧ (r.foldl (stepV x) (d, n)).1 = true)) ∧
      ((r.foldl (stepV x) (d, n)).1 = false → ∀ a ∈ (r.foldl (stepV x) (d, n)).2, a < x) := by
  intro r
  induction r with
  | nil =>
    intro n d hn hr h1 h2 h3
    refine ⟨hn, fun z => ?_, h2⟩
    simp only [List.foldl_nil]
    constructor
    · exact .inl
    · rintro (h | h | ⟨rfl, h⟩)
      · exact h
      · simp at h
      · exact h3 h
  | cons y r ih =>
    intro n d hn hr h1 h2 h3
    rw [List.pairwise_cons] at hr
    simp only [List.foldl_cons]
    have pa : ∀ (l : List Int) (v : Int), l.Pairwise (· < ·) → (∀ a ∈ l, a < v) → (l ++ [v]).Pairwise (· < ·) := fun l v hl hv =>
      List.pairwise_append.2 ⟨hl, by simp, fun a ha b hb => by simp only [List.mem_singleton] at hb; subst hb; exact hv a ha⟩
    have hy : ∀ a ∈ n, a < y := fun a ha => h1 a ha y (List.mem_cons_self ..)
    cases d with
    | true =>
      have hxy := hy x (h3 rfl)
      have e : stepV x (true, n) y = (true, n ++ [y]) := by
        unfold stepV
        rw [if_neg (by omega)]
        simp
      rw [e]
      obtain ⟨i1, i2, i3⟩ := ih (n ++ [y]) true (pa n y hn hy) hr.2 (fun a ha b hb => by
        rcases List.mem_append.1 ha with h | h
        · exact h1 a h b (List.mem_cons_of_mem _ hb)
        · simp only [List.mem_singleton] at h; subst h; exact hr.1 b hb) (fun h => by cases h) (fun _ => List.mem_append.2 (.inl (h3 rfl)))
      refine ⟨i1, fun z => ?_, i3⟩
      rw [i2 z, List.mem_append, List.mem_cons]
      simp [or_assoc, or_left_comm]
    | false =>
      have hx := h2 rfl
      by_cases hle : x ≤ y
      · by_cases hxy : y = x
        · subst hxy
          have e : stepV y (false, n) y = (true, n ++ [y]) := by unfold stepV; simp
          rw [e]
          obtain ⟨i1, i2, i3⟩ := ih (n ++ [y]) true (pa n y hn hy) hr.2 (fun a ha b hb => by
            rcases List.mem_append.1 ha with h | h
            · exact h1 a h b (List.mem_cons_of_mem _ hb)
            · simp only [List.mem_singleton] at h; subst h; exact hr.1 b hb) (fun h => by cases h) (fun _ => List.mem_append.2 (.inr (by simp)))
          refine ⟨i1, fun z => ?_, i3⟩
          rw [i2 z, List.mem_append, List.mem_cons]
          simp [or_assoc, or_left_comm]
        · have e : stepV x (false, n) y = (true, n ++ [x] ++ [y]) := by
            unfold stepV
            rw [if_neg hxy]
            simp [hle]
          rw [e]
          obtain ⟨i1, i2, i3⟩ := ih (n ++ [x] ++ [y]) true (pa _ y (pa n x hn hx) fun a ha => by
            rcases List.mem_append.1 ha with h | h
            · exact hy a h
            · simp only [List.mem_singleton] at h; omega) hr.2 (fun a ha b hb => by
            have hb' := hr.1 b hb
            rcases List.mem_append.1 ha with h | h
            · rcases List.mem_append.1 h with h | h
              · exact h1 a h b (List.mem_cons_of_mem _ hb)
              · simp only [List.mem_singleton] at h; omega
            · simp only [List.mem_singleton] at h; omega) (fun h => by cases h) (fun _ => List.mem_append.2 (.inl (List.mem_append.2 (.inr (by simp)))))
          refine ⟨i1, fun z => ?_, i3⟩
          have ht : (List.foldl (stepV x) (true, n ++ [x] ++ [y]) r).1 = true := by
            have : ∀ (r : List Int) (m : List Int), (r.foldl (stepV x) (true, m)).1 = true := by
              intro r
              induction r with
              | nil => intro m; rfl
              | cons b r ih => intro m; rw [List.foldl_cons]; exact ih _
            exact this r _
          rw [i2 z, List.mem_append, List.mem_append, List.mem_singleton, List.mem_singleton, List.mem_cons]
          constructor
          · rintro (((h | h) | h) | h | h)
            · exact .inl h
            · exact .inr (.inr ⟨h, ht⟩)
            · exact .inr (.inl (.inl h))
            · exact .inr (.inl (.inr h))
            · exact .inr (.inr h)
          · rintro (h | (h | h) | h)
            · exact .inl (.inl (.inl h))
            · exact .inl (.inr h)
            · exact .inr (.inl h)
            · exact .inr (.inr h)
      · have e : stepV x (false, n) y = (false, n ++ [y]) := by
          unfold stepV
          rw [if_neg (by omega)]
          simp [hle]
        rw [e]
        obtain ⟨i1, i2, i3⟩ := ih (n ++ [y]) false (pa n y hn hy) hr.2 (fun a ha b hb => by
          rcases List.mem_append.1 ha with h | h
          · exact h1 a h b (List.mem_cons_of_mem _ hb)
          · simp only [List.mem_singleton] at h; subst h; exact hr.1 b hb) (fun _ a ha => by
          rcases List.mem_append.1 ha with h | h
          · exact hx a h
          · simp only [List.mem_singleton] at h; omega) (fun h => by cases h)
        refine ⟨i1, fun z => ?_, i3⟩
        rw [i2 z, List.mem_append, List.mem_cons]
        simp [or_assoc, or_left_comm]
theorem ins_inv (x : Int) {out : List Int} (h : out.Pairwise (· < ·)) : (insV x out).Pairwise (· < ·) ∧ ∀ z, z ∈ insV x out ↔ z ∈ out ∨ z = x := by
  obtain ⟨h1, h2, h3⟩ := step_inv x out [] false (by simp) h (by simp) (by simp) (by simp)
  unfold insV
  generalize out.foldl (stepV x) (false, []) = s at h1 h2 h3
  obtain ⟨d, n⟩ := s
  cases d with
  | true =>
    refine ⟨h1, fun z => ?_⟩
    rw [if_pos rfl]
    have := h2 z
    simpa using this
  | false =>
    rw [if_neg (by simp)]
    refine ⟨List.pairwise_append.2 ⟨h1, by simp, fun a ha b hb => ?_⟩, fun z => ?_⟩
    · simp only [List.mem_singleton] at hb
      subst hb
      exact h3 rfl a ha
    · have := h2 z
      simp only [List.not_mem_nil, Bool.false_eq_true, and_false, or_false, false_or] at this
      rw [List.mem_append, List.mem_singleton, this]
def sortedOf (l : List Int) : List Int := l.mergeSort fun x y => decide (x ≤ y)
theorem fold_inv : ∀ (l out : List Int), out.Pairwise (· < ·) → (l.foldl (fun o x => insV x o) out).Pairwise (· < ·) ∧ ∀ z, z ∈ l.foldl (fun o x => insV x o) out ↔ z ∈ out ∨ z ∈ l
  | [], out, h => ⟨h, by simp⟩
  | x :: l, out, h => by
    obtain ⟨h1, h2⟩ := ins_inv x h
    obtain ⟨h3, h4⟩ := fold_inv l (insV x out) h1
    rw [List.foldl_cons]
    refine ⟨h3, fun z => ?_⟩
    rw [h4, h2, List.mem_cons, or_assoc]
/-- The two ways give one list. -/
theorem regs_eq (l : List Int) : Lib.compact (sortedOf l) = l.foldl (fun o x => insV x o) [] := by
  have hs : (sortedOf l).Pairwise (· ≤ ·) := by
    have := List.pairwise_mergeSort (le := fun x y : Int => decide (x ≤ y)) (fun a b c h1 h2 => by simp at *; omega) (fun a b => by simp; omega) l
    exact this.imp fun h => by simpa using h
  obtain ⟨h1, h2, _⟩ := upTo_inv (sortedOf l) hs (sortedOf l).length (Nat.le_refl _)
  obtain ⟨h3, h4⟩ := fold_inv l [] (by simp)
  refine sorted_ext h1 h3 fun x => ?_
  show x ∈ Lib.compactUpTo (sortedOf l).toArray (sortedOf l).length ↔ _
  rw [h2, h4, List.take_length]
  unfold sortedOf
  rw [List.mem_mergeSort]
  simp
theorem stepV_len (x : Int) : ∀ (r n : List Int) (d : Bool), (r.foldl (stepV x) (d, n)).2.length + (if d then 1 else 0) ≤ n.length + r.length + (if (r.foldl (stepV x) (d, n)).1 then 1 else 0)
  | [], n, d => by cases d <;> simp
  | y :: r, n, d => by
    rw [List.foldl_cons]
    have := stepV_len x r (stepV x (d, n) y).2 (stepV x (d, n) y).1
    have e : (stepV x (d, n) y).2.length + (if d then 1 else 0) ≤ n.length + 1 + (if (stepV x (d, n) y).1 then 1 else 0) := by
      unfold stepV
      cases d
      · by_cases h1 : x ≤ y <;> by_cases h2 : y = x <;> simp [h1, h2] <;> omega
      · by_cases h2 : y = x <;> simp [h2]
    have e2 : stepV x (d, n) y = ((stepV x (d, n) y).1, (stepV x (d, n) y).2) := rfl
    rw [e2]
    rw [List.length_cons]
    generalize stepV x (d, n) y = s at *
    obtain ⟨d', n'⟩ := s
    simp only at *
    cases d <;> cases d' <;> simp at * <;> omega
theorem insV_len (x : Int) (out : List Int) : (insV x out).length ≤ out.length + 1 := by
  have h := stepV_len x out [] false
  unfold insV
  generalize out.foldl (stepV x) (false, []) = s at h
  obtain ⟨d, n⟩ := s
  cases d <;> simp at h ⊢ <;> omega
end Go.Proofs.YtaajbcflmaihgaaDoor
