/- What the package's tables hold when the call begins, in the words of the readings. No conditions. -/
import Derived.Test.YtnjofponcdcfcaaDoorRows
import Derived.Test.YtnjofponcdcfcaaDoorValBase
import Derived.Test.YtnjofponcdcfcaaDoorAbLaid
import Derived.ProofKit
import Derived.LaidMore
import Derived.OpenShut
import Derived.Stop.Joined
set_option linter.all false
namespace Go.Proofs.YtnjofponcdcfcaaDoor
open Go Ab
set_option maxRecDepth 100000
theorem own : ownKnob Tryd.prog.godebug = none := by kernel_rfl
theorem mixed : Tryd.prog.follows .mixedOrders = true := Tryd.checked.mixed
abbrev laidW : List (String × DataW Unit) := [("math/bits.deBruijn32tab", Rows.laid_math_bits_deBruijn32tab), ("math/bits.deBruijn64tab", Rows.laid_math_bits_deBruijn64tab), ("burnish/intn.widths", Rows.laid_burnish_intn_widths), ("internal/strconv.uint64pow10", Rows.laid_internal_strconv_uint64pow10), ("burnish/value.poison", Rows.laid_burnish_value_poison), ("burnish/value.unknown", Rows.laid_burnish_value_unknown)]
theorem of_laid2 {W : World} (h : laidMetH Tryd.prog laidW W) : ∃ cs T fr, W.heap[2]? = some (.cells cs T fr) ∧ cs.toList = ([0, 1, 8, 32, 64] : List Int).map fun z => Value.int .i64 z := by
  rw [MakeChecks.laidMetH_plain _ _ _ (by kernel_rfl)] at h
  exact tab_cells (t := 76) (e := 3) (n := 5) h (List.mem_cons_of_mem _ (List.mem_cons_of_mem _ (List.mem_cons_self ..))) (by kernel_rfl) (by kernel_rfl) Tryd.underlying76 Tryd.underlying3 (by kernel_rfl) (by kernel_rfl)
theorem of_laid3 {W : World} (h : laidMetH Tryd.prog laidW W) : ∃ cs T fr, W.heap[3]? = some (.cells cs T fr) ∧ cs.toList = pow10L.map fun z => Value.int .u64 z := by
  rw [MakeChecks.laidMetH_plain _ _ _ (by kernel_rfl)] at h
  exact tab_cells (t := 99) (e := 58) (n := 20) h (List.mem_cons_of_mem _ (List.mem_cons_of_mem _ (List.mem_cons_of_mem _ (List.mem_cons_self ..)))) (by kernel_rfl) (by kernel_rfl) Tryd.underlying99 Tryd.underlying58 (by kernel_rfl) (by kernel_rfl)
theorem of_lane {W : World} {nm : String} {g : Nat} {n : Int} {p u : Bool} (h : laidMetH Tryd.prog laidW W) (hm : (nm, (.agg [.lit (.int .i64 n), .lit (.bool p), .lit (.bool u)] : DataW Unit)) ∈ laidW) (hg : Tryd.prog.globalNamed nm = some g) (ht : (Tryd.prog.globals[g]?).map (·.type) = some 24) :
    ∃ cs T fr, W.heap[g]? = some (.cells cs T fr) ∧ cs.toList = [.int .i64 n, .bool p, .bool u] := by
  rw [MakeChecks.laidMetH_plain _ _ _ (by kernel_rfl)] at h
  obtain ⟨ps, hlv, _⟩ := h
  obtain ⟨g', t', cs, fuel, q, hg', ht', hv, hd⟩ := laid_at hlv hm
  obtain rfl := Option.some.inj (hg.symm.trans hg')
  obtain rfl := Option.some.inj (ht.symm.trans ht')
  unfold World.var? at hv
  rw [hg] at hv
  simp only [Option.bind_some] at hv
  split at hv
  · rename_i T fr hh
    cases hv
    exact ⟨_, _, _, hh, cells_of_ibb (t := 24) Tryd.underlying24 rfl Tryd.underlying2 Tryd.underlying4 Tryd.underlying4 rfl rfl rfl (by kernel_rfl) (by kernel_rfl) (by kernel_rfl) (by kernel_rfl) hd⟩
  · cases hv
theorem lane_rel {F : Nat → Prop} {W : World} {g : Nat} {n : Int} {p u : Bool} (hF : F g) (h : ∃ cs T fr, W.heap[g]? = some (.cells cs T fr) ∧ cs.toList = [.int .i64 n, .bool p, .bool u]) :
    GRel ⟨F, fun _ => none, [], W.heap⟩ g laneS ((n, p, u, ()) : laneS.den) := by
  obtain ⟨cs, T, fr, hh, hc⟩ := h
  refine ⟨⟨g, 0, cs.toList, rfl, hF, ⟨cs, T, fr, hh, fun j hj => by simp⟩, ?_⟩, cs, T, fr, hh, ?_⟩
  · rw [hc]
    exact ⟨[.int .i64 n], [.bool p, .bool u], rfl, rfl, [.bool p], [.bool u], rfl, rfl, [.bool u], [], rfl, rfl, rfl⟩
  · have : cs.size = cs.toList.length := by simp
    rw [this, hc]
    rfl
/-- The tables' condition of a contract. -/
theorem laid_rel {W : World} (h : laidMetH Tryd.prog laidW W) (F : Nat → Prop) (hF : F 0 ∧ F 1 ∧ F 2 ∧ F 3) : ∀ g s x, Gw g = some ⟨s, x⟩ → GRel ⟨F, fun _ => none, [], W.heap⟩ g s x := by
  intro g s x hg
  unfold Gw at hg
  split at hg
  · rename_i h0
    subst h0
    cases hg
    exact lane_rel hF.1 (of_lane h (List.mem_cons_of_mem _ (List.mem_cons_of_mem _ (List.mem_cons_of_mem _ (List.mem_cons_of_mem _ (List.mem_cons_self ..))))) (by kernel_rfl) (by kernel_rfl))
  · split at hg
    · rename_i h0
      subst h0
      cases hg
      exact lane_rel hF.2.1 (of_lane h (List.mem_cons_of_mem _ (List.mem_cons_of_mem _ (List.mem_cons_of_mem _ (List.mem_cons_of_mem _ (List.mem_cons_of_mem _ (List.mem_cons_self ..)))))) (by kernel_rfl) (by kernel_rfl))
    · split at hg
      · rename_i h0
        subst h0
        cases hg
        exact tab_rel hF.2.2.1 (of_laid2 h) rfl
      · split at hg
        · rename_i h0
          subst h0
          cases hg
          exact tab_rel hF.2.2.2 (of_laid3 h) rfl
        · cases hg
theorem laid_size {W : World} (h : laidMetH Tryd.prog laidW W) : 0 < W.heap.size ∧ 1 < W.heap.size ∧ 2 < W.heap.size ∧ 3 < W.heap.size := by
  obtain ⟨cs, T, fr, hh, hc⟩ := of_laid3 h
  have := (Array.getElem?_eq_some_iff.1 hh).1
  omega
/-- The heap that the door's own run leaves meets the condition. -/
theorem door_met (os : Os) (args : Array Value) : laidMetH Tryd.prog laidW ((World.doorLaid Tryd.prog 400 os).forCall (fun _ _ => 0) ⟨#[], args, []⟩).memory :=
  laidMetH_of_parts3 (fuel := 8) (laidMet_of_run' 8 (by kernel_rfl) (by kernel_rfl)) (by kernel_rfl) (by kernel_rfl)
end Go.Proofs.YtnjofponcdcfcaaDoor
