/- What the package's tables hold when the call begins, in the words of the readings. No conditions. -/
import Derived.Test.YtaajbcflmaihgaaDoorRows
import Derived.Test.YtaajbcflmaihgaaDoorOpcChain
import Derived.Test.YtaajbcflmaihgaaDoorAbLaid
import Derived.ProofKit
import Derived.LaidMore
import Derived.OpenShut
import Derived.Stop.Joined
set_option linter.all false
namespace Go.Proofs.YtaajbcflmaihgaaDoor
open Go Ab
set_option maxRecDepth 100000
theorem own : ownKnob Tryd.prog.godebug = none := by kernel_rfl
theorem mixed : Tryd.prog.follows .mixedOrders = true := Tryd.checked.mixed
abbrev laidW : List (String × DataW Unit) := [("math/bits.deBruijn32tab", Rows.laid_math_bits_deBruijn32tab), ("math/bits.deBruijn64tab", Rows.laid_math_bits_deBruijn64tab), ("burnish/intn.widths", Rows.laid_burnish_intn_widths), ("internal/strconv.uint64pow10", Rows.laid_internal_strconv_uint64pow10)]
theorem of_laid {W : World} (h : laidMetH Tryd.prog laidW W) : ∃ cs T fr, W.heap[1]? = some (.cells cs T fr) ∧ cs.toList = ([0, 1, 8, 32, 64] : List Int).map fun z => Value.int .i64 z := by
  rw [MakeChecks.laidMetH_plain _ _ _ (by kernel_rfl)] at h
  exact tab_cells (t := 126) (e := 3) (n := 5) h (List.mem_cons_of_mem _ (List.mem_cons_of_mem _ (List.mem_cons_self ..))) (by kernel_rfl) (by kernel_rfl) Tryd.underlying126 Tryd.underlying3 (by kernel_rfl) (by kernel_rfl)
theorem of_laid0 {W : World} (h : laidMetH Tryd.prog laidW W) : ∃ cs T fr, W.heap[0]? = some (.cells cs T fr) ∧ cs.toList = pow10L.map fun z => Value.int .u64 z := by
  rw [MakeChecks.laidMetH_plain _ _ _ (by kernel_rfl)] at h
  exact tab_cells (t := 118) (e := 98) (n := 20) h (List.mem_cons_of_mem _ (List.mem_cons_of_mem _ (List.mem_cons_of_mem _ (List.mem_cons_self ..)))) (by kernel_rfl) (by kernel_rfl) Tryd.underlying118 Tryd.underlying98 (by kernel_rfl) (by kernel_rfl)
/-- The tables' condition of a contract. -/
theorem laid_rel {W : World} (h : laidMetH Tryd.prog laidW W) (F : Nat → Prop) (hF : F 0 ∧ F 1) : ∀ g s x, Gw g = some ⟨s, x⟩ → GRel ⟨F, fun _ => none, [], W.heap⟩ g s x := by
  intro g s x hg
  unfold Gw at hg
  split at hg
  · rename_i h0
    subst h0
    cases hg
    exact tab_rel hF.2 (of_laid h) rfl
  · split at hg
    · rename_i h0
      subst h0
      cases hg
      exact tab_rel hF.1 (of_laid0 h) rfl
    · cases hg
theorem laid_size {W : World} (h : laidMetH Tryd.prog laidW W) : 0 < W.heap.size ∧ 1 < W.heap.size := by
  obtain ⟨cs, T, fr, hh, hc⟩ := of_laid h
  have := (Array.getElem?_eq_some_iff.1 hh).1
  omega
/-- The heap that the door's own run leaves meets the condition. -/
theorem door_met (os : Os) (args : Array Value) : laidMetH Tryd.prog laidW ((World.doorLaid Tryd.prog 400 os).forCall (fun _ _ => 0) ⟨#[], args, []⟩).memory :=
  laidMetH_of_parts3 (fuel := 8) (laidMet_of_run' 8 (by kernel_rfl) (by kernel_rfl)) (by kernel_rfl) (by kernel_rfl)
end Go.Proofs.YtaajbcflmaihgaaDoor
