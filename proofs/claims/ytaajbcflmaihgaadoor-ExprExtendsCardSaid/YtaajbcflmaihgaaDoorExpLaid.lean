/- What the table of widths holds when the call begins, in the words of the readings. No conditions. -/
import Derived.Test.YtaajbcflmaihgaaDoorRows
import Derived.Test.YtaajbcflmaihgaaDoorOpcChain
import Derived.ProofKit
import Derived.LaidMore
import Derived.OpenShut
import Derived.Stop.Joined
import Derived.Test.YtaajbcflmaihgaaDoorExpChkR
import Derived.Test.YtaajbcflmaihgaaDoorAbRun
set_option linter.all false
namespace Go.Proofs.YtaajbcflmaihgaaDoor
open Go Ab
set_option maxRecDepth 100000
theorem own : ownKnob Tryd.prog.godebug = none := by kernel_rfl
theorem mixed : Tryd.prog.follows .mixedOrders = true := Tryd.checked.mixed
theorem gW : Tryd.prog.globalNamed "burnish/intn.widths" = some 1 := by kernel_rfl
theorem tW : (Tryd.prog.globals[1]?).map (·.type) = some 126 := by kernel_rfl
abbrev laidW : List (String × DataW Unit) := [("math/bits.deBruijn32tab", Rows.laid_math_bits_deBruijn32tab), ("math/bits.deBruijn64tab", Rows.laid_math_bits_deBruijn64tab), ("burnish/intn.widths", Rows.laid_burnish_intn_widths), ("internal/strconv.uint64pow10", Rows.laid_internal_strconv_uint64pow10)]
theorem laid_at {P : Program} {w : World} {nm : String} {d : DataW Unit} : ∀ {l : List (String × DataW Unit)} {ps}, DataW.LaidVars P w l ps → (nm, d) ∈ l →
    ∃ g t cs fuel p, P.globalNamed nm = some g ∧ (P.globals[g]?).map (·.type) = some t ∧ w.var? P nm = some cs ∧ DataW.trod (fun _ => ()) P w 0 (fun _ => true) false fuel t cs.toList = some (d, p)
  | [], _, _, h => by cases h
  | (n, d') :: r, ps, hl, h => by
    obtain ⟨g, t, cs, fuel, p, q, h1, h2, h3, h4, h5, _⟩ := hl
    rcases List.mem_cons.1 h with h | h
    · cases h
      exact ⟨g, t, cs, fuel, p, h1, h2, h3, h4⟩
    · exact laid_at h5 h
theorem of_laid {W : World} (h : laidMetH Tryd.prog laidW W) : ∃ cs T fr, W.heap[1]? = some (.cells cs T fr) ∧ cs.toList = [.int .i64 0, .int .i64 1, .int .i64 8, .int .i64 32, .int .i64 64] := by
  rw [MakeChecks.laidMetH_plain _ _ _ (by kernel_rfl)] at h
  obtain ⟨ps, hlv, -⟩ := h
  obtain ⟨g0, t0, cs0, f0, p0, hg0, ht0, hv0, hd0⟩ := laid_at (nm := "burnish/intn.widths") (d := Rows.laid_burnish_intn_widths) hlv (List.mem_cons_of_mem _ (List.mem_cons_of_mem _ (List.mem_cons_self ..)))
  clear hlv
  obtain rfl := Option.some.inj (gW.symm.trans hg0)
  obtain rfl := Option.some.inj (tW.symm.trans ht0)
  obtain ⟨xs, m1, rfl, hx1, hlen, hn3, hel⟩ := DataW.trod_array Tryd.underlying126 hd0
  have c3 : Tryd.prog.cellsOf 3 = 1 := by kernel_rfl
  have c24 : Tryd.prog.cellsOf 126 = 5 := by kernel_rfl
  have hcell : ∃ T fr, W.heap[1]? = some (.cells cs0 T fr) := by
    unfold World.var? at hv0
    rw [gW] at hv0
    simp only [Option.bind_some] at hv0
    split at hv0
    · rename_i T fr h; cases hv0; exact ⟨_, _, h⟩
    · cases hv0
  obtain ⟨T, fr, hc⟩ := hcell
  refine ⟨cs0, T, fr, hc, ?_⟩
  rw [c24] at hlen
  have e0 := hel 0 (by decide)
  have e1 := hel 1 (by decide)
  have e2 := hel 2 (by decide)
  have e3 := hel 3 (by decide)
  have e4 := hel 4 (by decide)
  rw [c3] at e0 e1 e2 e3 e4
  simp only [Prod.mk.injEq, Rows.laid_burnish_intn_widths, DataW.agg.injEq] at hx1
  match xs, hn3, hx1, e0, e1, e2, e3, e4 with
  | [x0, x1, x2, x3, x4], _, hx1, e0, e1, e2, e3, e4 =>
    simp only [List.map_cons, List.map_nil, List.cons.injEq, and_true] at hx1
    obtain ⟨⟨a0, a1, a2, a3, a4⟩, _⟩ := hx1
    match l : cs0.toList, hlen with
    | [v0, v1, v2, v3, v4], _ =>
      rw [l] at e0 e1 e2 e3 e4
      obtain ⟨k0, f0, g0, _⟩ := DataW.trod_int Tryd.underlying3 e0
      obtain ⟨k1, f1, g1, _⟩ := DataW.trod_int Tryd.underlying3 e1
      obtain ⟨k2, f2, g2, _⟩ := DataW.trod_int Tryd.underlying3 e2
      obtain ⟨k3, f3, g3, _⟩ := DataW.trod_int Tryd.underlying3 e3
      obtain ⟨k4, f4, g4, _⟩ := DataW.trod_int Tryd.underlying3 e4
      simp at f0 f1 f2 f3 f4
      rw [g0] at a0; rw [g1] at a1; rw [g2] at a2; rw [g3] at a3; rw [g4] at a4
      simp at a0 a1 a2 a3 a4
      simp [f0, f1, f2, f3, f4, ← a0, ← a1, ← a2, ← a3, ← a4]
/-- The tables' condition of a contract. -/
theorem laid_rel {W : World} (h : laidMetH Tryd.prog laidW W) (F : Nat → Prop) (hF : F 1) : ∀ g s x, Gw g = some ⟨s, x⟩ → Rel ⟨F, fun _ => none, [], W.heap⟩ (.dptr s x 0) (.pointer (some ⟨g, 0, none⟩)) := by
  intro g s x hg
  unfold Gw at hg
  split at hg
  · rename_i h0
    subst h0
    cases hg
    obtain ⟨cs, T, fr, hh, hc⟩ := of_laid h
    refine ⟨1, 0, cs.toList, rfl, hF, ⟨cs, T, fr, hh, fun j hj => by simp⟩, ?_⟩
    rw [hc]
    refine ⟨rfl, [_], _, rfl, rfl, [_], _, rfl, rfl, [_], _, rfl, rfl, [_], _, rfl, rfl, [_], _, rfl, rfl, rfl⟩
  · cases hg
theorem laid_size {W : World} (h : laidMetH Tryd.prog laidW W) : 1 < W.heap.size := by
  obtain ⟨cs, T, fr, hh, hc⟩ := of_laid h
  exact (Array.getElem?_eq_some_iff.1 hh).1
/-- The heap that the door's own run leaves meets the condition. -/
theorem door_met (os : Os) (args : Array Value) : laidMetH Tryd.prog laidW ((World.doorLaid Tryd.prog 400 os).forCall (fun _ _ => 0) ⟨#[], args, []⟩).memory :=
  laidMetH_of_parts3 (fuel := 8) (laidMet_of_run' 8 (by kernel_rfl) (by kernel_rfl)) (by kernel_rfl) (by kernel_rfl)
end Go.Proofs.YtaajbcflmaihgaaDoor
/- Numbers of nodes in memory fit. No conditions. -/
set_option linter.all false
namespace Go.Proofs.YtaajbcflmaihgaaDoor
open Go Ab
theorem wfNods_of {es : List Nod} (h : (Sh.sl nodS).Wf es) : wfNods es = true := by
  unfold wfNods
  rw [List.all_eq_true]
  intro e he
  have := (h.2 e he).2.2.1
  exact decide_eq_true (bounds_i64 this)
end Go.Proofs.YtaajbcflmaihgaaDoor
