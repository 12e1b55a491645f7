/- Tables of integers that are laid when the call begins, in the words of the readings. No conditions. -/
import Derived.Test.YtnjofponcdcfcaaDoorAbRun
import Derived.Lib.LaidTab
set_option linter.all false
namespace Go.Proofs.YtnjofponcdcfcaaDoor.Ab
open Go.RowKit Go.ChangeShapes
theorem allD_ints {F : Nat → Prop} {h : Array Obj} {k : IntKind} : ∀ zs : List Int, AllD (Den F h (.int k)) zs (zs.map fun z => Value.int k z)
  | [] => rfl
  | z :: zs => ⟨[.int k z], _, rfl, rfl, allD_ints zs⟩
theorem laid_at {P : Program} {w : World} {nm : String} {d : DataW Unit} : ∀ {l : List (String × DataW Unit)} {ps}, DataW.LaidVars P w l ps → (nm, d) ∈ l →
    ∃ g t cs fuel p, P.globalNamed nm = some g ∧ (P.globals[g]?).map (·.type) = some t ∧ w.var? P nm = some cs ∧ DataW.trod (fun _ => ()) P w 0 (fun _ => true) false fuel t cs.toList = some (d, p)
  | [], _, _, h => by cases h
  | (n, d') :: r, ps, hl, h => by
    obtain ⟨g, t, cs, fuel, p, q, h1, h2, h3, h4, h5, _⟩ := hl
    rcases List.mem_cons.1 h with h | h
    · cases h
      exact ⟨g, t, cs, fuel, p, h1, h2, h3, h4⟩
    · exact laid_at h5 h
/-- A laid table of integers lies in its variable's block. -/
theorem tab_cells {P : Program} {W : World} {laid : List (String × DataW Unit)} {nm : String} {g : Nat} {t e : TypeId} {n : Nat} {k : IntKind} {zs : List Int} (h : laidMet P laid W) (hm : (nm, Lib.tabData k zs) ∈ laid)
    (hg : P.globalNamed nm = some g) (ht : (P.globals[g]?).map (·.type) = some t) (hu : P.underlying t = some (.array n e)) (he : P.underlying e = some (.int k)) (hce : P.cellsOf e = 1) (hct : P.cellsOf t = n) :
    ∃ cs T fr, W.heap[g]? = some (.cells cs T fr) ∧ cs.toList = zs.map fun z => Value.int k z := by
  obtain ⟨ps, hlv, _⟩ := h
  obtain ⟨g', t', cs, fuel, p, hg', ht', hv, hd⟩ := laid_at hlv hm
  obtain rfl := Option.some.inj (hg.symm.trans hg')
  obtain rfl := Option.some.inj (ht.symm.trans ht')
  unfold World.var? at hv
  rw [hg] at hv
  simp only [Option.bind_some] at hv
  split at hv
  · rename_i T fr hh
    cases hv
    exact ⟨_, _, _, hh, Lib.cells_of_tab hu he hce hct hd⟩
  · cases hv
theorem tab_rel {F : Nat → Prop} {W : World} {g : Nat} {n : Nat} {k : IntKind} {zs : List Int} (hF : F g) (h : ∃ cs T fr, W.heap[g]? = some (.cells cs T fr) ∧ cs.toList = zs.map fun z => Value.int k z) (hl : zs.length = n) :
    GRel ⟨F, fun _ => none, [], W.heap⟩ g (.arr n (.int k)) zs := by
  obtain ⟨cs, T, fr, hh, hc⟩ := h
  refine ⟨⟨g, 0, cs.toList, rfl, hF, ⟨cs, T, fr, hh, fun j hj => by simp⟩, ?_⟩, cs, T, fr, hh, ?_⟩
  · rw [hc]
    exact ⟨hl, allD_ints zs⟩
  · have : cs.size = cs.toList.length := by simp
    rw [this, hc, List.length_map, hl]
    simp [Sh.size]
/-- A laid struct of a number and two truth values. -/
theorem cells_of_ibb {P : Program} {w : World} {base : Nat} {sp : Nat → Bool} {held : Bool} {fuel : Nat} {t : TypeId} {fs : Array Field} {f1 f2 f3 : Field} {k : IntKind} {cs : List Value} {n : Int} {p u : Bool} {q : List MemPlace}
    (ht : P.underlying t = some (.struct fs)) (hfs : fs.toList = [f1, f2, f3]) (h1 : P.underlying f1.type = some (.int k)) (h2 : P.underlying f2.type = some .bool) (h3 : P.underlying f3.type = some .bool)
    (o1 : f1.offset = 0) (o2 : f2.offset = 1) (o3 : f3.offset = 2) (hct : P.cellsOf t = 3) (c1 : P.cellsOf f1.type = 1) (c2 : P.cellsOf f2.type = 1) (c3 : P.cellsOf f3.type = 1)
    (h : DataW.trod (fun _ => ()) P w base sp held fuel t cs = some (.agg [.lit (.int k n), .lit (.bool p), .lit (.bool u)], q)) : cs = [.int k n, .bool p, .bool u] := by
  cases fuel with
  | zero => simp [DataW.trod] at h
  | succ fuel =>
    simp only [DataW.trod, ht, hct] at h
    split at h
    · rename_i hl
      match cs, hl with
      | [a, b, c], _ =>
        obtain ⟨xs, hm, hx⟩ := Option.map_eq_some_iff.1 h
        rw [hfs] at hm
        simp only [List.mapM_cons, List.mapM_nil, Option.bind_eq_bind, Option.bind_eq_some_iff, Option.pure_def, Option.some.injEq] at hm
        obtain ⟨x1, e1, r1, ⟨x2, e2, r2, ⟨x3, e3, r3, rfl, rfl⟩, rfl⟩, rfl⟩ := hm
        rw [o1, c1] at e1
        rw [o2, c2] at e2
        rw [o3, c3] at e3
        obtain ⟨z, d1, rfl, _⟩ := DataW.trod_int h1 e1
        obtain ⟨y, d2, rfl⟩ := DataW.trod_bool h2 e2
        obtain ⟨v, d3, rfl⟩ := DataW.trod_bool h3 e3
        simp at d1 d2 d3 hx
        obtain ⟨⟨rfl, rfl, rfl⟩, _⟩ := hx
        rw [d1, d2, d3]
    · cases h
end Go.Proofs.YtnjofponcdcfcaaDoor.Ab
