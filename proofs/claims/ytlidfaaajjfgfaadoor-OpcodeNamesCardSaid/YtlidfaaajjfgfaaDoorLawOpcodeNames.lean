/- The names of the operations are distinct and lead back to their operations. No conditions beyond the row's own. -/
import Derived.Test.YtlidfaaajjfgfaaDoorLaid
import Derived.Test.YtlidfaaajjfgfaaDoorAwake
import Derived.Test.YtlidfaaajjfgfaaDoorTie
import Derived.Test.YtlidfaaajjfgfaaDoorCards
import Derived.SevenTiedAt
set_option linter.all false
namespace Go.Proofs.YtlidfaaajjfgfaaDoor.opcodeNames
open Go.ChangeShapes Go.WideShapes Go.ChangeAt Go.RowKit Go Ab
set_option linter.unusedVariables false
set_option maxRecDepth 100000
/-- What the law reads as. -/
theorem says : exFn (gT tA) Tryd.f5 [] = some (true, .bool true) := of_isTru (by kernel_rfl)
theorem calls (W : World) (h : laidMetH Tryd.prog laidW W) : Calls Tryd.prog 5 #[] W fun e w' => e = .returned (.bool true) ∧ Below W.heap.size W w' := by
  have k : KOk (gT tA).toEnv 5 (exFn (gT tA) Tryd.f5) := exFn_ok (Γ := gT tA) (fn := Tryd.f5) (fun f c h => ((okA mixed) f c h).cast rfl rfl) (wok_whileN 300) mixed Tryd.func5 (fun xs w => enter_of Tryd.func5 (by decide) (by rfl) xs w) (fun xs r h => h)
  refine (k.valid (fun b => b = 0) W [] [] _ (laid_rel h _ rfl) (fun b hb => by subst hb; exact laid_size h) rfl says).mono fun e w' he => ?_
  obtain ⟨F', u, rfl, hb, _, _, _, hr⟩ := he
  have hr : u = .bool true := hr
  subst hr
  exact ⟨rfl, hb⟩
theorem lifted (os : Os) (started : os.Started) (H : Type) (enc : TypeId × Value → H) :
    ReturnsInHanded {} Tryd.checked os 5 .any (fun w args => (Rows.opcodeNamesSpec.pre enc Tryd.prog Tryd.f5 [] false w args ∧ laidMetH Tryd.prog laidW w) ∧ sizedMet enc Tryd.prog Tryd.f5 (OpenSpec.ofChange Rows.opcodeNamesSpec) false w args)
      (Rows.opcodeNamesSpec.post enc Tryd.prog Tryd.f5 false true false false) := by
  refine returnsInHanded_of_change_and (C := Tryd.checked) (X := fun w _ => laidMetH Tryd.prog laidW w) (fun _ _ _ hh h => h.of_heap hh) own started (by kernel_rfl) Tryd.func5
    (ChangeSpec.witness_shaped (enc := enc) (C := Tryd.checked) (os := os) (X := fun w _ => laidMetH Tryd.prog laidW w) false (World.doorLaid Tryd.prog 400 os) #[] 8 rfl (World.shaped_of_RefB (by kernel_rfl) (by kernel_rfl)) (by kernel_rfl) (by kernel_rfl) (by kernel_rfl) (door_met os _)) ?_
  intro W base args ds gs before hval0 hW _ _ hL _
  have hW' := hW
  obtain ⟨p, q, hA0, hV, rfl, hfz, hnd⟩ := hW
  have hA : DataW.TrodAll enc Tryd.prog W 0 (fun _ => true) true Tryd.f5.params.toList args.toList ds p := hA0
  rw [Tryd.params5] at hA
  obtain ⟨h1, rfl, rfl⟩ := trodAll_nil hA
  obtain rfl : args = #[] := by cases args; simp_all
  obtain ⟨rfl, rfl⟩ := trodVars_none hV
  refine (calls W hL).mono fun e W' ⟨he, bel⟩ => ?_
  subst he
  exact ⟨_, rfl, _, _, _, [], _, [], hW', trodAll_mk1 (shut_bool Tryd.underlying4 _), trodAll_mk0, rfl, bel.frame _, fun h => by cases h⟩
theorem over : Rows.OpcodeNamesSaid :=
  OpenClaim.holds_of_wide 5 Tryd.f5 rfl rfl rfl rfl rfl rfl rfl ⟨rfl, rfl, rfl, rfl, rfl⟩ rfl rfl rfl rfl rfl (by kernel_rfl) Tryd.func5 (by kernel_rfl)
    (of_decide_eq_true (by kernel_rfl)) (by unfold Func.isWrapper; first | (rw [if_pos (by decide +kernel)]; kernel_rfl) | (rw [if_neg (by decide +kernel)]; exact ⟨rfl, rfl⟩))
    (fun os started H enc _ => lifted os started H enc)
theorem card : Rows.OpcodeNamesCardSaid :=
  Claim7.holds_tied_plain_at .later [] [.data] true (true, "079c9b5a7fe1ac23821c047d6b0535eafb0c4d9b315298a3374d76c632ca51dc") false
    over (fun _ h => by cases h) (by kernel_rfl) (fun _ h => by cases h) opcodeNames_row_tie rfl ⟨rfl, rfl⟩ (by kernel_rfl) rfl
    (fun f fn hf hfn => by
      obtain rfl : f = 5 := Option.some.inj ((show Tryd.prog.funcNamed "burnish/burnishlaw12.OpcodeNames" = some 5 by kernel_rfl).symm.trans hf) |>.symm
      obtain rfl : fn = Tryd.f5 := (Option.some.inj (Tryd.func5.symm.trans hfn)).symm
      exact ⟨by kernel_rfl, fun j t ht => by
        rw [Tryd.params5] at ht
        simp at ht⟩)
    (by kernel_rfl)
end Go.Proofs.YtlidfaaajjfgfaaDoor.opcodeNames
namespace Go.Proofs.YtlidfaaajjfgfaaDoor
/-- The card, under a short name, for the claim. -/
theorem opcodeNames_holds : Rows.OpcodeNamesCardSaid := opcodeNames.card
#print axioms opcodeNames_holds
end Go.Proofs.YtlidfaaajjfgfaaDoor
