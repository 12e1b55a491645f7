/- Tables of integers that are laid when the call begins, in the words of the readings. No conditions. -/
import Derived.Test.YtaajbcflmaihgaaDoorAbRun
import Derived.Lib.LaidTab
set_option linter.all false
namespace Go.Proofs.YtaajbcflmaihgaaDoor.Ab
open Go.RowKit Go.ChangeShapes
theorem allD_ints {F : Nat → Prop} {h : Array Obj} {k : IntKind} : ∀ zs : List Int, AllD (Den F h (.int k)) zs (zs.map fun z => Value.int k z)
  | [] => rfl
  | z :: zs => ⟨[.int k z], _, rfl, rfl, allD_ints zs⟩
theorem laid_at {P : Program} {w : World} {nm : String} {d : DataW Unit} : ∀ {l : List (String × DataW Unit)} {ps}, DataW.LaidVars P w l ps → (nm, d) ∈ l →
    ∃ g t cs fuel p, P.globalNamed nm = some g ∧ (P.globals[g]?).map (·.type) = some t ∧ w.var? P nm = some cs ∧ DataW.trod (fun _ => ()) P w 0 (fun _ => true) false fuel t cs.toList = some (d, p)
  | [], _, _, h => by cases h
  | (n, d') :: r, ps, hl, h => by
    obtain ⟨g, t, cs, fuel, p, q, h1, h2, h3, h4, h5, _⟩ := hl
    rcases List.mem_cons.1 h with h | h
    · cases h
      exact ⟨g, t, cs, fuel, p, h1, h2, h3, h4⟩
    · exact laid_at h5 h
/-- A laid table of integers lies in its variable's block. -/
theorem tab_cells {P : Program} {W : World} {laid : List (String × DataW Unit)} {nm : String} {g : Nat} {t e : TypeId} {n : Nat} {k : IntKind} {zs : List Int} (h : laidMet P laid W) (hm : (nm, Lib.tabData k zs) ∈ laid)
    (hg : P.globalNamed nm = some g) (ht : (P.globals[g]?).map (·.type) = some t) (hu : P.underlying t = some (.array n e)) (he : P.underlying e = some (.int k)) (hce : P.cellsOf e = 1) (hct : P.cellsOf t = n) :
    ∃ cs T fr, W.heap[g]? = some (.cells cs T fr) ∧ cs.toList = zs.map fun z => Value.int k z := by
  obtain ⟨ps, hlv, _⟩ := h
  obtain ⟨g', t', cs, fuel, p, hg', ht', hv, hd⟩ := laid_at hlv hm
  obtain rfl := Option.some.inj (hg.symm.trans hg')
  obtain rfl := Option.some.inj (ht.symm.trans ht')
  unfold World.var? at hv
  rw [hg] at hv
  simp only [Option.bind_some] at hv
  split at hv
  · rename_i T fr hh
    cases hv
    exact ⟨_, _, _, hh, Lib.cells_of_tab hu he hce hct hd⟩
  · cases hv
theorem tab_rel {F : Nat → Prop} {W : World} {g : Nat} {n : Nat} {k : IntKind} {zs : List Int} (hF : F g) (h : ∃ cs T fr, W.heap[g]? = some (.cells cs T fr) ∧ cs.toList = zs.map fun z => Value.int k z) (hl : zs.length = n) :
    GRel ⟨F, fun _ => none, [], W.heap⟩ g (.arr n (.int k)) zs := by
  obtain ⟨cs, T, fr, hh, hc⟩ := h
  refine ⟨⟨g, 0, cs.toList, rfl, hF, ⟨cs, T, fr, hh, fun j hj => by simp⟩, ?_⟩, cs, T, fr, hh, ?_⟩
  · rw [hc]
    exact ⟨hl, allD_ints zs⟩
  · have : cs.size = cs.toList.length := by simp
    rw [this, hc, List.length_map, hl]
    simp [Sh.size]
end Go.Proofs.YtaajbcflmaihgaaDoor.Ab
