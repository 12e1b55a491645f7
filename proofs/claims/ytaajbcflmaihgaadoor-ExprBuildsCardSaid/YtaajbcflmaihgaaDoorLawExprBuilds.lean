/- What Reg, Const and Apply return. No conditions beyond the row's own. -/
import Derived.Test.YtaajbcflmaihgaaDoorExpLaid
import Derived.Test.YtaajbcflmaihgaaDoorExpLaw5
import Derived.Test.YtaajbcflmaihgaaDoorAbRun
import Derived.Test.YtaajbcflmaihgaaDoorTie
import Derived.Test.YtaajbcflmaihgaaDoorCards
import Derived.SevenTiedAt
import Derived.ShutString
import Derived.ChangeMaps5
set_option linter.all false
namespace Go.Proofs.YtaajbcflmaihgaaDoor.exprBuilds
open Go.ChangeShapes Go.WideShapes Go.ChangeAt Go.RowKit Go Ab
set_option linter.unusedVariables false
set_option maxRecDepth 100000
theorem calls {op t n : Int} {a b : List Nod} {v0 v1 v2 v3 v4 : Value} {W : World} (h : laidMetH Tryd.prog laidW W) 
    (r0 : Rel ⟨fun b => b < W.heap.size, fun _ => none, [], W.heap⟩ (AV.int .i64 op) v0) (r1 : Rel ⟨fun b => b < W.heap.size, fun _ => none, [], W.heap⟩ (AV.int .i64 t) v1) (r2 : Rel ⟨fun b => b < W.heap.size, fun _ => none, [], W.heap⟩ (AV.int .i64 n) v2) (r3 : Rel ⟨fun b => b < W.heap.size, fun _ => none, [], W.heap⟩ (AV.dsl nodS a) v3) (r4 : Rel ⟨fun b => b < W.heap.size, fun _ => none, [], W.heap⟩ (AV.dsl nodS b) v4) :
    Calls Tryd.prog 5 #[v0, v1, v2, v3, v4] W fun e w' => e = .returned (.bool true) ∧ Below W.heap.size W w' := by
  have k : KOk E0 5 (xm5) := law5 mixed
  refine (k.valid (fun b => b < W.heap.size) W [AV.int .i64 op, AV.int .i64 t, AV.int .i64 n, AV.dsl nodS a, AV.dsl nodS b] [v0, v1, v2, v3, v4] _ (laid_rel h _ (laid_size h)) (fun b hb => hb) ⟨_, _, rfl, r0, _, _, rfl, r1, _, _, rfl, r2, _, _, rfl, r3, _, _, rfl, r4, rfl⟩ (builds5 _ _ _ _ _)).mono fun e w' he => ?_
  obtain ⟨F', u, rfl, hb, _, _, _, hr⟩ := he
  have hr : u = .bool true := hr
  subst hr
  exact ⟨rfl, hb⟩
theorem ag3 : aggB Tryd.prog 3 = some false := by kernel_rfl
theorem sh3 : shC Tryd.prog 20 3 = some (.int .i64) := by kernel_rfl
theorem ag24 : aggB Tryd.prog 24 = some false := by kernel_rfl
theorem sh24 : shC Tryd.prog 20 24 = some (.int .i64) := by kernel_rfl
theorem ag2 : aggB Tryd.prog 2 = some false := by kernel_rfl
theorem sh2 : shC Tryd.prog 20 2 = some (.int .i64) := by kernel_rfl
theorem ag22 : aggB Tryd.prog 22 = some false := by kernel_rfl
theorem sh22 : shC Tryd.prog 20 22 = some (.sl nodS) := by kernel_rfl
theorem laidOut : laidOutB Tryd.prog = true := by kernel_rfl
theorem lifted (os : Os) (started : os.Started) (H : Type) (enc : TypeId × Value → H) :
    ReturnsInHanded {} Tryd.checked os 5 .any (fun w args => (Rows.exprBuildsSpec.pre enc Tryd.prog Tryd.f5 [] false w args ∧ laidMetH Tryd.prog laidW w) ∧ sizedMet enc Tryd.prog Tryd.f5 (OpenSpec.ofChange Rows.exprBuildsSpec) false w args)
      (Rows.exprBuildsSpec.post enc Tryd.prog Tryd.f5 false true false false) := by
  refine returnsInHanded_of_change_and (C := Tryd.checked) (X := fun w _ => laidMetH Tryd.prog laidW w) (fun _ _ _ hh h => h.of_heap hh) own started (by kernel_rfl) Tryd.func5
    (ChangeSpec.witness_shaped (enc := enc) (C := Tryd.checked) (os := os) (X := fun w _ => laidMetH Tryd.prog laidW w) false (World.doorLaid Tryd.prog 400 os)
      #[.int .i64 0, .int .i64 0, .int .i64 0, .slice none 0 0, .slice none 0 0]
      8 rfl (World.shaped_of_RefB (by kernel_rfl) (by kernel_rfl)) (by kernel_rfl) (by kernel_rfl) (by kernel_rfl) (door_met os _)) ?_
  intro W base args ds gs before hval0 hW _ hsz hL _
  have hval : ∀ (j : Nat) t v, Tryd.f5.params[j]? = some t → args[j]? = some v → Value.okWide Tryd.prog W .any base t v := hval0
  have hW' := hW
  obtain ⟨p, q, hA0, hV, rfl, hfz, hnd⟩ := hW
  have hA : DataW.TrodAll enc Tryd.prog W 0 (fun _ => true) true Tryd.f5.params.toList args.toList ds p := hA0
  rw [Tryd.params5] at hA hval hsz
  have hA1 := hA
  obtain ⟨v0, vs0, d0, ds0, p0, q0, hargs, rfl, rfl, h0, r0⟩ := trodAll_cons hA
  obtain ⟨v1, vs1, d1, ds1, p1, q1, rfl, rfl, rfl, h1, r1⟩ := trodAll_cons r0
  obtain ⟨v2, vs2, d2, ds2, p2, q2, rfl, rfl, rfl, h2, r2⟩ := trodAll_cons r1
  obtain ⟨v3, vs3, d3, ds3, p3, q3, rfl, rfl, rfl, h3, r3⟩ := trodAll_cons r2
  obtain ⟨v4, vs4, d4, ds4, p4, q4, rfl, rfl, rfl, h4, r4⟩ := trodAll_cons r3
  obtain ⟨rfl, rfl, rfl⟩ := trodAll_nil r4
  obtain rfl : args = #[v0, v1, v2, v3, v4] := by cases args; simp_all
  obtain ⟨rfl, rfl⟩ := trodVars_none hV
  obtain ⟨op, y0, w0⟩ := opens_arg sh3 (hval 0 3 v0 rfl rfl) h0 hsz (j := 0) rfl rfl
  obtain ⟨t, y1, w1⟩ := opens_arg sh24 (hval 1 24 v1 rfl rfl) h1 hsz (j := 1) rfl rfl
  obtain ⟨n, y2, w2⟩ := opens_arg sh2 (hval 2 2 v2 rfl rfl) h2 hsz (j := 2) rfl rfl
  obtain ⟨a, y3, w3⟩ := opens_arg sh22 (hval 3 22 v3 rfl rfl) h3 hsz (j := 3) rfl rfl
  obtain ⟨b, y4, w4⟩ := opens_arg sh22 (hval 4 22 v4 rfl rfl) h4 hsz (j := 4) rfl rfl
  unfold argV at y0 y1 y2 y3 y4
  rw [ag3] at y0
  rw [ag24] at y1
  rw [ag2] at y2
  rw [ag22] at y3
  rw [ag22] at y4
  refine (calls hL  y0 y1 y2 y3 y4).mono fun e W' ⟨he, bel⟩ => ?_
  subst he
  exact ⟨_, rfl, _, _, _, [], _, [], hW', trodAll_mk1 (shut_bool Tryd.underlying4 _), below_trodAll laidOut bel (by kernel_rfl) hA1, rfl, bel.frame _, fun h => by cases h⟩
theorem over : Rows.ExprBuildsSaid :=
  OpenClaim.holds_of_wide 5 Tryd.f5 rfl rfl rfl rfl rfl rfl rfl ⟨rfl, rfl, rfl, rfl, rfl⟩ rfl rfl rfl rfl rfl (by kernel_rfl) Tryd.func5 (by kernel_rfl)
    (of_decide_eq_true (by kernel_rfl)) (by unfold Func.isWrapper; first | (rw [if_pos (by decide +kernel)]; kernel_rfl) | (rw [if_neg (by decide +kernel)]; exact ⟨rfl, rfl⟩))
    (fun os started H enc _ => lifted os started H enc)
theorem card : Rows.ExprBuildsCardSaid :=
  Claim7.holds_tied_plain_at .later [] [.data, .data, .data, .data] true (true, "e3e77abe8c292be50afa2067cfe352d4da47f37a105ad0f145fa46281e25d5c5") false
    over (fun _ h => by cases h) (by kernel_rfl) (fun _ h => by cases h) exprBuilds_row_tie rfl ⟨rfl, rfl⟩ (by kernel_rfl) rfl
    (fun f fn hf hfn => by
      obtain rfl : f = 5 := Option.some.inj ((show Tryd.prog.funcNamed "burnish/burnishlaw23.ExprBuilds" = some 5 by kernel_rfl).symm.trans hf) |>.symm
      obtain rfl : fn = Tryd.f5 := (Option.some.inj (Tryd.func5.symm.trans hfn)).symm
      exact ⟨by kernel_rfl, fun j t ht => by
        rw [Tryd.params5] at ht
        have h3 : t = 3 ∨ t = 24 ∨ t = 2 ∨ t = 22 := by
          rcases j with _ | _ | _ | _ | _ | j
          · obtain rfl : t = 3 := by simpa using ht.symm
            exact .inl rfl
          · obtain rfl : t = 24 := by simpa using ht.symm
            exact .inr (.inl rfl)
          · obtain rfl : t = 2 := by simpa using ht.symm
            exact .inr (.inr (.inl rfl))
          · obtain rfl : t = 22 := by simpa using ht.symm
            exact .inr (.inr (.inr (rfl)))
          · obtain rfl : t = 22 := by simpa using ht.symm
            exact .inr (.inr (.inr (rfl)))
          · simp at ht
        rcases h3 with rfl | rfl | rfl | rfl
        · exact (show Tryd.prog.wantsStandIn 3 = false by kernel_rfl)
        · exact (show Tryd.prog.wantsStandIn 24 = false by kernel_rfl)
        · exact (show Tryd.prog.wantsStandIn 2 = false by kernel_rfl)
        · exact (show Tryd.prog.wantsStandIn 22 = false by kernel_rfl)⟩)
    (by kernel_rfl)
end Go.Proofs.YtaajbcflmaihgaaDoor.exprBuilds
namespace Go.Proofs.YtaajbcflmaihgaaDoor
/-- The card, under a short name, for the claim. -/
theorem exprBuilds_holds : Rows.ExprBuildsCardSaid := exprBuilds.card
#print axioms exprBuilds_holds
end Go.Proofs.YtaajbcflmaihgaaDoor
