/- What the constructors of values return, for any type and number. No conditions beyond the row's own. -/
import Derived.Test.YtnjofponcdcfcaaDoorValLaid
import Derived.Test.YtnjofponcdcfcaaDoorValLaw3
import Derived.Test.YtnjofponcdcfcaaDoorAbRun
import Derived.Test.YtnjofponcdcfcaaDoorTie
import Derived.Test.YtnjofponcdcfcaaDoorCards
import Derived.SevenTiedAt
import Derived.ShutString
import Derived.ChangeMaps5
set_option linter.all false
namespace Go.Proofs.YtnjofponcdcfcaaDoor.valueMakes
open Go.ChangeShapes Go.WideShapes Go.ChangeAt Go.RowKit Go Ab
set_option linter.unusedVariables false
set_option maxRecDepth 100000
theorem calls {t o n : Int} {v0 v1 v2 : Value} {W : World} (h : laidMetH Tryd.prog laidW W) (hn : okImm n = true)
    (r0 : Rel ⟨fun b => b < W.heap.size, fun _ => none, [], W.heap⟩ (AV.int .i64 t) v0) (r1 : Rel ⟨fun b => b < W.heap.size, fun _ => none, [], W.heap⟩ (AV.int .i64 o) v1) (r2 : Rel ⟨fun b => b < W.heap.size, fun _ => none, [], W.heap⟩ (AV.int .i64 n) v2) :
    Calls Tryd.prog 3 #[v0, v1, v2] W fun e w' => e = .returned (.bool true) ∧ Below W.heap.size W w' := by
  have k : KOk E0 3 (xm3) := law3 mixed
  refine (k.valid (fun b => b < W.heap.size) W [AV.int .i64 t, AV.int .i64 o, AV.int .i64 n] [v0, v1, v2] _ (laid_rel h _ (laid_size h)) (fun b hb => hb) ⟨_, _, rfl, r0, _, _, rfl, r1, _, _, rfl, r2, rfl⟩ (makes3 hn)).mono fun e w' he => ?_
  obtain ⟨F', u, rfl, hb, _, _, _, hr⟩ := he
  have hr : u = .bool true := hr
  subst hr
  exact ⟨rfl, hb⟩
theorem ag22 : aggB Tryd.prog 22 = some false := by kernel_rfl
theorem sh22 : shC Tryd.prog 20 22 = some (.int .i64) := by kernel_rfl
theorem ag3 : aggB Tryd.prog 3 = some false := by kernel_rfl
theorem sh3 : shC Tryd.prog 20 3 = some (.int .i64) := by kernel_rfl
theorem ag2 : aggB Tryd.prog 2 = some false := by kernel_rfl
theorem sh2 : shC Tryd.prog 20 2 = some (.int .i64) := by kernel_rfl
theorem laidOut : laidOutB Tryd.prog = true := by kernel_rfl
theorem lifted (os : Os) (started : os.Started) (H : Type) (enc : TypeId × Value → H) :
    ReturnsInHanded {} Tryd.checked os 3 .any (fun w args => (Rows.valueMakesSpec.pre enc Tryd.prog Tryd.f3 [] false w args ∧ laidMetH Tryd.prog laidW w) ∧ sizedMet enc Tryd.prog Tryd.f3 (OpenSpec.ofChange Rows.valueMakesSpec) false w args)
      (Rows.valueMakesSpec.post enc Tryd.prog Tryd.f3 false true false false) := by
  refine returnsInHanded_of_change_and (C := Tryd.checked) (X := fun w _ => laidMetH Tryd.prog laidW w) (fun _ _ _ hh h => h.of_heap hh) own started (by kernel_rfl) Tryd.func3
    (ChangeSpec.witness_shaped (enc := enc) (C := Tryd.checked) (os := os) (X := fun w _ => laidMetH Tryd.prog laidW w) false (World.doorLaid Tryd.prog 400 os)
      #[.int .i64 0, .int .i64 0, .int .i64 0]
      8 rfl (World.shaped_of_RefB (by kernel_rfl) (by kernel_rfl)) (by kernel_rfl) (by kernel_rfl) (by kernel_rfl) (door_met os _)) ?_
  intro W base args ds gs before hval0 hW _ hsz hL _
  have hval : ∀ (j : Nat) t v, Tryd.f3.params[j]? = some t → args[j]? = some v → Value.okWide Tryd.prog W .any base t v := hval0
  have hW' := hW
  obtain ⟨p, q, hA0, hV, rfl, hfz, hnd⟩ := hW
  have hA : DataW.TrodAll enc Tryd.prog W 0 (fun _ => true) true Tryd.f3.params.toList args.toList ds p := hA0
  rw [Tryd.params3] at hA hval hsz
  have hA1 := hA
  obtain ⟨v0, vs0, d0, ds0, p0, q0, hargs, rfl, rfl, h0, r0⟩ := trodAll_cons hA
  obtain ⟨v1, vs1, d1, ds1, p1, q1, rfl, rfl, rfl, h1, r1⟩ := trodAll_cons r0
  obtain ⟨v2, vs2, d2, ds2, p2, q2, rfl, rfl, rfl, h2, r2⟩ := trodAll_cons r1
  obtain ⟨rfl, rfl, rfl⟩ := trodAll_nil r2
  obtain rfl : args = #[v0, v1, v2] := by cases args; simp_all
  obtain ⟨rfl, rfl⟩ := trodVars_none hV
  obtain ⟨t, y0, w0⟩ := opens_arg sh22 (hval 0 22 v0 rfl rfl) h0 hsz (j := 0) rfl rfl
  obtain ⟨o, y1, w1⟩ := opens_arg sh3 (hval 1 3 v1 rfl rfl) h1 hsz (j := 1) rfl rfl
  obtain ⟨n, y2, w2⟩ := opens_arg sh2 (hval 2 2 v2 rfl rfl) h2 hsz (j := 2) rfl rfl
  unfold argV at y0 y1 y2
  rw [ag22] at y0
  rw [ag3] at y1
  rw [ag2] at y2
  refine (calls hL (okImm_of w2) y0 y1 y2).mono fun e W' ⟨he, bel⟩ => ?_
  subst he
  exact ⟨_, rfl, _, _, _, [], _, [], hW', trodAll_mk1 (shut_bool Tryd.underlying4 _), below_trodAll laidOut bel (by kernel_rfl) hA1, rfl, bel.frame _, fun h => by cases h⟩
theorem over : Rows.ValueMakesSaid :=
  OpenClaim.holds_of_wide 3 Tryd.f3 rfl rfl rfl rfl rfl rfl rfl ⟨rfl, rfl, rfl, rfl, rfl⟩ rfl rfl rfl rfl rfl (by kernel_rfl) Tryd.func3 (by kernel_rfl)
    (of_decide_eq_true (by kernel_rfl)) (by unfold Func.isWrapper; first | (rw [if_pos (by decide +kernel)]; kernel_rfl) | (rw [if_neg (by decide +kernel)]; exact ⟨rfl, rfl⟩))
    (fun os started H enc _ => lifted os started H enc)
theorem card : Rows.ValueMakesCardSaid :=
  Claim7.holds_tied_plain_at .later [] [.data, .data, .data, .data, .data, .data] true (true, "38ce631d83da990025bc5ba59973ef358fa8d73bb1ccf494d672810587526115") false
    over (fun _ h => by cases h) (by kernel_rfl) (fun _ h => by cases h) valueMakes_row_tie rfl ⟨rfl, rfl⟩ (by kernel_rfl) rfl
    (fun f fn hf hfn => by
      obtain rfl : f = 3 := Option.some.inj ((show Tryd.prog.funcNamed "burnish/burnishlaw11.ValueMakes" = some 3 by kernel_rfl).symm.trans hf) |>.symm
      obtain rfl : fn = Tryd.f3 := (Option.some.inj (Tryd.func3.symm.trans hfn)).symm
      exact ⟨by kernel_rfl, fun j t ht => by
        rw [Tryd.params3] at ht
        have h3 : t = 22 ∨ t = 3 ∨ t = 2 := by
          rcases j with _ | _ | _ | j
          · obtain rfl : t = 22 := by simpa using ht.symm
            exact .inl rfl
          · obtain rfl : t = 3 := by simpa using ht.symm
            exact .inr (.inl rfl)
          · obtain rfl : t = 2 := by simpa using ht.symm
            exact .inr (.inr (rfl))
          · simp at ht
        rcases h3 with rfl | rfl | rfl
        · exact (show Tryd.prog.wantsStandIn 22 = false by kernel_rfl)
        · exact (show Tryd.prog.wantsStandIn 3 = false by kernel_rfl)
        · exact (show Tryd.prog.wantsStandIn 2 = false by kernel_rfl)⟩)
    (by kernel_rfl)
end Go.Proofs.YtnjofponcdcfcaaDoor.valueMakes
namespace Go.Proofs.YtnjofponcdcfcaaDoor
/-- The card, under a short name, for the claim. -/
theorem valueMakes_holds : Rows.ValueMakesCardSaid := valueMakes.card
#print axioms valueMakes_holds
end Go.Proofs.YtnjofponcdcfcaaDoor
