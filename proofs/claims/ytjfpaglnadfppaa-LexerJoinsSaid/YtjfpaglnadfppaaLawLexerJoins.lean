/- The row of LexerJoins: its argument, a slice of structs, is read by Opens. The frame began as a printed row of this family. -/
import Derived.Test.YtjfpaglnadfppaaRows
import Derived.Test.YtjfpaglnadfppaaPx11
import Derived.Test.YtjfpaglnadfppaaPureLexerJoins
import Derived.Test.YtjfpaglnadfppaaOpens
import Derived.WalkKit
import Derived.ProofKit
import Derived.OpenShut
import Derived.ShutString
import Derived.ChangeOld
import Derived.Below
import Derived.SizedLaws
namespace Go.Proofs.Ytjfpaglnadfppaa.lexerJoins
open Go.ChangeShapes Go.WideShapes Go.ChangeAt Go.RowKit
open Go.ChangeMaps (open_string shut_string)
set_option linter.unusedVariables false
theorem own : ownKnob Try.prog.godebug = none := by kernel_rfl
theorem laidOut : laidOutB Try.prog = true := by kernel_rfl
theorem opens34 : Opens.Opens Try.prog P.k34 34 (fun x => Pure.I64 x.f2) := by
  have h := Opens.opens_iso (fun x : P.S34 => (x.f0, x.f1, x.f2, x.f3)) (fun p => ⟨p.1, p.2.1, p.2.2.1, p.2.2.2⟩) (fun _ => rfl)
    (Opens.opens_struct Try.underlying34 (by kernel_rfl) (Opens.opensF_cons rfl (Opens.opens_int (k := .i64) (by kernel_rfl) (by kernel_rfl)) (Opens.opensF_cons rfl (Opens.opens_int (k := .i64) (by kernel_rfl) (by kernel_rfl)) (Opens.opensF_cons rfl (Opens.opens_int (k := .i64) (by kernel_rfl) (by kernel_rfl)) (Opens.opensF_one rfl (Opens.opens_string Try.underlying9 (by kernel_rfl)))))))
  refine ⟨h.1, fun enc w spare held fuel cs x hx hs => ?_⟩
  obtain ⟨y, hy, hB⟩ := h.2 enc w spare held fuel cs x hx hs
  refine ⟨y, hy, ?_⟩
  have hb := hB.2.2.1
  have hb2 : (decide ((-9223372036854775808 : Int) ≤ y.f2) && decide (y.f2 ≤ 9223372036854775807)) = true := hb
  rw [Bool.and_eq_true, decide_eq_true_eq, decide_eq_true_eq] at hb2
  exact hb2
set_option maxRecDepth 100000 in
theorem lifted (os : Os) (started : os.Started) (H : Type) (enc : TypeId × Value → H) :
    ReturnsInHanded {} Try.checked os 5 .any (Rows.lexerJoinsSpec.pre6 enc Try.prog Try.f5 Rows.lexerJoinsRow.domain false) (Rows.lexerJoinsSpec.post enc Try.prog Try.f5 false true false false) := by
  refine returnsInHanded_of_change_sized (C := Try.checked) own started (by kernel_rfl) Try.func5
    (ChangeSpec.witness6 (enc := enc) (C := Try.checked) false ⟨#[], #[.slice none 0 0], []⟩ 8 (by kernel_rfl) (by kernel_rfl) (by kernel_rfl) (by kernel_rfl)) ?_
  intro W base args ds gs before hval0 hW hcnd hsz0 _
  have hsz : (DataW.weightsEach Try.prog (Try.f5.params.toList ++ Rows.lexerJoinsSpec.plain.varTypes Try.prog) (ds ++ gs)).all (· ≤ reachBytes) = true := hsz0
  have hval : ∀ (j : Nat) t v, Try.f5.params[j]? = some t → args[j]? = some v → Value.okWide Try.prog W .any base t v := hval0
  have hW' := hW
  obtain ⟨p, q, hA0, hV, rfl, hfz, hnd⟩ := hW
  have hA : DataW.TrodAll enc Try.prog W 0 (fun _ => true) true Try.f5.params.toList args.toList ds p := hA0
  rw [Try.params5] at hA hval hsz
  obtain ⟨v0, vs0, d0, ds0, p0, q0, hargs, rfl, rfl, h0, r0⟩ := trodAll_cons hA
  obtain ⟨rfl, rfl, rfl⟩ := trodAll_nil r0
  obtain rfl : args = #[v0] := by cases args; simp_all
  obtain ⟨rfl, rfl⟩ := trodVars_none hV
  obtain ⟨a0, len0, cap0, rfl⟩ := okWide_slice Try.underlying23 (hval 0 23 v0 rfl rfl)
  have k0 := h0
  have lt0 : ∀ x ∈ p0, x.block < W.heap.size := by obtain ⟨m, hm⟩ := k0; exact DataW.trod_lt m _ _ _ hm
  obtain ⟨z0, ⟨A0, c0, hcs, hlc, hC⟩, _, _, hB⟩ := Opens.opens_arg (Opens.opens_slice 40 Try.underlying23 (by kernel_rfl) (by kernel_rfl) opens34) hsz (j := 0) rfl rfl h0
  have hcs' : [Value.slice a0 len0 cap0] = [.slice A0 z0.length c0] := hcs
  simp only [List.cons.injEq, Value.slice.injEq, and_true] at hcs'
  obtain ⟨rfl, rfl, rfl⟩ := hcs'
  clear hA0 hval0 hsz0 hsz
  obtain ⟨k, hk⟩ := Pure.LexerJoins z0 hB
  refine (P.burnishlaw13_LexerJoins.calls k a0 cap0 z0 true W hC hlc hk).mono fun e W' ⟨he, bel⟩ => ?_
  subst he
  exact ⟨_, rfl, _, _, _, [], _, [], hW', trodAll_mk1 (shut_bool Try.underlying4 _), (trodAll_cons_mk (Below.trod laidOut (by kernel_rfl) (of_decide_eq_true (by kernel_rfl)) k0 bel lt0) trodAll_mk0), rfl, bel.frame _, fun h => by cases h⟩
theorem over : Rows.lexerJoinsRow.holds Try.pinned (OpenSpec.ofChange Rows.lexerJoinsSpec) :=
  OpenClaim.holds_of_wide 5 Try.f5 rfl rfl rfl rfl rfl rfl rfl ⟨rfl, rfl, rfl, rfl, rfl⟩ rfl rfl rfl rfl rfl (by kernel_rfl) Try.func5 (by kernel_rfl)
    (of_decide_eq_true (by kernel_rfl)) (by unfold Func.isWrapper; first | (rw [if_pos (by decide +kernel)]; kernel_rfl) | (rw [if_neg (by decide +kernel)]; exact ⟨rfl, rfl⟩))
    (fun os started H enc _ => lifted os started H enc)
theorem proved : Rows.LexerJoinsSaid := over
#print axioms proved
end Go.Proofs.Ytjfpaglnadfppaa.lexerJoins
namespace Go.Proofs.Ytjfpaglnadfppaa
/-- The row, under a short name, for the claim. -/
theorem lexerJoins_holds : Rows.LexerJoinsSaid := lexerJoins.proved
end Go.Proofs.Ytjfpaglnadfppaa
