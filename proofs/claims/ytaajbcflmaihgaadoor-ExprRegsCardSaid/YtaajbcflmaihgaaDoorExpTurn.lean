/- The contracts of slices.Sort and slices.Compact at lists of numbers. No conditions. -/
import Derived.Test.YtaajbcflmaihgaaDoorExpShG
import Derived.Test.YtaajbcflmaihgaaDoorAbTurn
import Derived.Test.YtaajbcflmaihgaaDoorExpEq
set_option linter.all false
namespace Go.Proofs.YtaajbcflmaihgaaDoor
open Go Ab
set_option maxRecDepth 100000
def len1MS (n : Nat) : Bool := Nat.ble n 1000000
def sortL (xs : List Int) : List Int := xs.mergeSort fun x y => decide (x ≤ y)
def compL (xs : List Int) : List Int := Lib.compact xs ++ List.replicate (xs.length - (Lib.compact xs).length) 0
def compN (xs : List Int) : Nat := (Lib.compact xs).length
def okS (xs : List Int) : Bool := len1MS xs.length
def ansS (_ : List Int) (_ _ : Nat) : AV := .tup []
def ansC (xs : List Int) (r g : Nat) : AV := .osl r g 0 (compN xs)
def im40 : IC := turnC .i64 okS sortL ansS
def im41 : IC := turnC .i64 okS compL ansC
theorem ik40 : IOk E0 40 im40 :=
  turnC_ok (fun _ _ _ => .tuple #[]) (fun args w => enter_of Tryd.func40 (by decide) (by rfl) args w) (fun xs _ => by simp [sortL])
    (fun w b o cap xs h hH hb hc => (Tryd.slices_Sort_int b o cap xs w hH hb (by have := Nat.le_of_ble_eq_true h; omega)).mono fun e w' he => ⟨he.1, he.2⟩)
    (fun w _ => (Tryd.slices_Sort_int_none none 0 w).mono fun e w' he => he)
    (fun _ _ _ _ _ => rfl) (fun X r g xs a cap _ _ _ => by simp only [ansS, Rel]; exact ⟨#[], rfl, by simp [RelL]⟩)
theorem compact_le : ∀ xs : List Int, (Lib.compact xs).length ≤ xs.length := by
  exact fun xs => Lib.compact_length_le xs
theorem ik41 : IOk E0 41 im41 :=
  turnC_ok (fun a cap xs => .slice a (compN xs) cap) (fun args w => enter_of Tryd.func41 (by decide) (by rfl) args w) (fun xs _ => by
      have := compact_le xs
      simp only [compL, List.length_append, List.length_replicate]
      omega)
    (fun w b o cap xs h hH hb hc => (Tryd.slices_Compact_int b o cap xs w hH (by have := Nat.le_of_ble_eq_true h; omega) hc).mono fun e w' he => by
      obtain ⟨he, q, hw⟩ := he
      exact ⟨he, q, #[], by rw [hw]; unfold turnW; rw [Sort.grow_empty]; rfl⟩)
    (fun w _ => (Tryd.slices_Compact_int_empty none 0 w).mono fun e w' he => he)
    (fun _ _ _ p h => h) (fun X r g xs a cap _ hrow h => by
      have hle := compact_le xs
      have hl : (compL xs).length = xs.length := by simp only [compL, List.length_append, List.length_replicate]; omega
      simp only [ansC, Rel] at h ⊢
      intro s zs hz
      rw [hrow] at hz
      cases hz
      refine ⟨by rw [hl]; unfold compN; omega, ?_⟩
      rcases h _ _ hrow with ⟨h1, h2, h3⟩ | ⟨b, o, cap', h1, h2, h3, h4⟩
      · simp only [Value.slice.injEq] at h3
        obtain ⟨rfl, h3, rfl⟩ := h3
        refine .inl ⟨h1, h2, ?_⟩
        have : compN xs = 0 := by unfold compN; omega
        rw [this]
      · simp only [Value.slice.injEq] at h2
        obtain ⟨rfl, _, rfl⟩ := h2
        refine .inr ⟨b, o, _, cap, h1, rfl, by unfold compN; omega, .inr ⟨?_, fun c T fr hc => ?_⟩⟩
        · simp
        · have := h4 c T fr hc
          simpa using this)
end Go.Proofs.YtaajbcflmaihgaaDoor
