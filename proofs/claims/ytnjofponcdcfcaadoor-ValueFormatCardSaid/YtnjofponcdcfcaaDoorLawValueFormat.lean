/- The text of any value is the reference's, and different valid values have different texts. No conditions beyond the row's own. -/
import Derived.Test.YtnjofponcdcfcaaDoorValLaid
import Derived.Test.YtnjofponcdcfcaaDoorValLaw6
import Derived.Test.YtnjofponcdcfcaaDoorAbRun
import Derived.Test.YtnjofponcdcfcaaDoorTie
import Derived.Test.YtnjofponcdcfcaaDoorCards
import Derived.SevenTiedAt
import Derived.ShutString
import Derived.ChangeMaps5
set_option linter.all false
namespace Go.Proofs.YtnjofponcdcfcaaDoor.valueFormat
open Go.ChangeShapes Go.WideShapes Go.ChangeAt Go.RowKit Go Ab
set_option linter.unusedVariables false
set_option maxRecDepth 100000
theorem calls {a b : valS.den} {v0 v1 : Value} {W : World} (h : laidMetH Tryd.prog laidW W) (ha : okF (valD a) = true) (hb : okF (valD b) = true)
    (r0 : Rel ⟨fun b => b < W.heap.size, fun _ => none, [], W.heap⟩ (valA (valD a)) v0) (r1 : Rel ⟨fun b => b < W.heap.size, fun _ => none, [], W.heap⟩ (valA (valD b)) v1) :
    Calls Tryd.prog 6 #[v0, v1] W fun e w' => e = .returned (.bool true) ∧ Below W.heap.size W w' := by
  have k : KOk E0 6 (xm6) := law6 mixed
  refine (k.valid (fun b => b < W.heap.size) W [valA (valD a), valA (valD b)] [v0, v1] _ (laid_rel h _ (laid_size h)) (fun b hb => hb) ⟨_, _, rfl, r0, _, _, rfl, r1, rfl⟩ (format6 ha hb)).mono fun e w' he => ?_
  obtain ⟨F', u, rfl, hb, _, _, _, hr⟩ := he
  have hr : u = .bool true := hr
  subst hr
  exact ⟨rfl, hb⟩
theorem ag27 : aggB Tryd.prog 27 = some true := by kernel_rfl
theorem sh27 : shC Tryd.prog 20 27 = some (valS) := by kernel_rfl
theorem laidOut : laidOutB Tryd.prog = true := by kernel_rfl
theorem lifted (os : Os) (started : os.Started) (H : Type) (enc : TypeId × Value → H) :
    ReturnsInHanded {} Tryd.checked os 6 .any (fun w args => (Rows.valueFormatSpec.pre enc Tryd.prog Tryd.f6 [] false w args ∧ laidMetH Tryd.prog laidW w) ∧ sizedMet enc Tryd.prog Tryd.f6 (OpenSpec.ofChange Rows.valueFormatSpec) false w args)
      (Rows.valueFormatSpec.post enc Tryd.prog Tryd.f6 false true false false) := by
  refine returnsInHanded_of_change_and (C := Tryd.checked) (X := fun w _ => laidMetH Tryd.prog laidW w) (fun _ _ _ hh h => h.of_heap hh) own started (by kernel_rfl) Tryd.func6
    (ChangeSpec.witness_shaped (enc := enc) (C := Tryd.checked) (os := os) (X := fun w _ => laidMetH Tryd.prog laidW w) false (World.doorLaid Tryd.prog 400 os)
      #[.agg #[.int .i64 0, .int .i64 0, .int .i64 0, .bool false, .bool false, .int .i64 0, .bool false, .bool false, .int .i64 0, .bool false, .bool false, .int .i64 0, .bool false, .bool false], .agg #[.int .i64 0, .int .i64 0, .int .i64 0, .bool false, .bool false, .int .i64 0, .bool false, .bool false, .int .i64 0, .bool false, .bool false, .int .i64 0, .bool false, .bool false]]
      8 rfl (World.shaped_of_RefB (by kernel_rfl) (by kernel_rfl)) (by kernel_rfl) (by kernel_rfl) (by kernel_rfl) (door_met os _)) ?_
  intro W base args ds gs before hval0 hW _ hsz hL _
  have hval : ∀ (j : Nat) t v, Tryd.f6.params[j]? = some t → args[j]? = some v → Value.okWide Tryd.prog W .any base t v := hval0
  have hW' := hW
  obtain ⟨p, q, hA0, hV, rfl, hfz, hnd⟩ := hW
  have hA : DataW.TrodAll enc Tryd.prog W 0 (fun _ => true) true Tryd.f6.params.toList args.toList ds p := hA0
  rw [Tryd.params6] at hA hval hsz
  have hA1 := hA
  obtain ⟨v0, vs0, d0, ds0, p0, q0, hargs, rfl, rfl, h0, r0⟩ := trodAll_cons hA
  obtain ⟨v1, vs1, d1, ds1, p1, q1, rfl, rfl, rfl, h1, r1⟩ := trodAll_cons r0
  obtain ⟨rfl, rfl, rfl⟩ := trodAll_nil r1
  obtain rfl : args = #[v0, v1] := by cases args; simp_all
  obtain ⟨rfl, rfl⟩ := trodVars_none hV
  obtain ⟨a, y0, w0⟩ := opens_arg sh27 (hval 0 27 v0 rfl rfl) h0 hsz (j := 0) rfl rfl
  obtain ⟨b, y1, w1⟩ := opens_arg sh27 (hval 1 27 v1 rfl rfl) h1 hsz (j := 1) rfl rfl
  unfold argV at y0 y1
  rw [ag27] at y0
  rw [ag27] at y1
  refine (calls hL (okF_of w0) (okF_of w1) y0 y1).mono fun e W' ⟨he, bel⟩ => ?_
  subst he
  exact ⟨_, rfl, _, _, _, [], _, [], hW', trodAll_mk1 (shut_bool Tryd.underlying4 _), below_trodAll laidOut bel (by kernel_rfl) hA1, rfl, bel.frame _, fun h => by cases h⟩
theorem over : Rows.ValueFormatSaid :=
  OpenClaim.holds_of_wide 6 Tryd.f6 rfl rfl rfl rfl rfl rfl rfl ⟨rfl, rfl, rfl, rfl, rfl⟩ rfl rfl rfl rfl rfl (by kernel_rfl) Tryd.func6 (by kernel_rfl)
    (of_decide_eq_true (by kernel_rfl)) (by unfold Func.isWrapper; first | (rw [if_pos (by decide +kernel)]; kernel_rfl) | (rw [if_neg (by decide +kernel)]; exact ⟨rfl, rfl⟩))
    (fun os started H enc _ => lifted os started H enc)
theorem card : Rows.ValueFormatCardSaid :=
  Claim7.holds_tied_plain_at .later [] [.data, .data, .data, .data, .data, .data] true (true, "38ce631d83da990025bc5ba59973ef358fa8d73bb1ccf494d672810587526115") false
    over (fun _ h => by cases h) (by kernel_rfl) (fun _ h => by cases h) valueFormat_row_tie rfl ⟨rfl, rfl⟩ (by kernel_rfl) rfl
    (fun f fn hf hfn => by
      obtain rfl : f = 6 := Option.some.inj ((show Tryd.prog.funcNamed "burnish/burnishlaw11.ValueFormat" = some 6 by kernel_rfl).symm.trans hf) |>.symm
      obtain rfl : fn = Tryd.f6 := (Option.some.inj (Tryd.func6.symm.trans hfn)).symm
      exact ⟨by kernel_rfl, fun j t ht => by
        rw [Tryd.params6] at ht
        have h3 : t = 27 := by
          rcases j with _ | _ | j
          · obtain rfl : t = 27 := by simpa using ht.symm
            exact rfl
          · obtain rfl : t = 27 := by simpa using ht.symm
            exact rfl
          · simp at ht
        rcases h3 with rfl
        · exact (show Tryd.prog.wantsStandIn 27 = false by kernel_rfl)⟩)
    (by kernel_rfl)
end Go.Proofs.YtnjofponcdcfcaaDoor.valueFormat
namespace Go.Proofs.YtnjofponcdcfcaaDoor
/-- The card, under a short name, for the claim. -/
theorem valueFormat_holds : Rows.ValueFormatCardSaid := valueFormat.card
#print axioms valueFormat_holds
end Go.Proofs.YtnjofponcdcfcaaDoor
