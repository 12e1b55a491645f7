/- Names, lookups and classifications of operations and types are those of the reference, for all numbers and names. No conditions beyond the row's own. -/
import Derived.Test.YtlidfaaajjfgfaaDoorOpcLaid
import Derived.Test.YtlidfaaajjfgfaaDoorOpcTells
import Derived.Test.YtlidfaaajjfgfaaDoorTie
import Derived.Test.YtlidfaaajjfgfaaDoorCards
import Derived.SevenTiedAt
import Derived.ShutString
import Derived.ChangeMaps5
set_option linter.all false
namespace Go.Proofs.YtlidfaaajjfgfaaDoor.opcodeTells
open Go.ChangeShapes Go.WideShapes Go.ChangeAt Go.RowKit Go Ab
set_option linter.unusedVariables false
set_option maxRecDepth 100000
theorem calls (op t : Int) (nm : ByteArray) (W : World) (h : laidMetH Tryd.prog laidW W) : Calls Tryd.prog 3 #[.int .i64 op, .int .i64 t, .string nm] W fun e w' => e = .returned (.bool true) ∧ Below W.heap.size W w' := by
  have k : KOk (gT t0).toEnv 3 (exFn (gN uA) Tryd.f3) := TabOk.readW (ukA mixed) mixed Tryd.func3 (by decide) (by rfl) (fun xs r h => h)
  refine (k.valid (fun b => b = 0) W [.int .i64 op, .int .i64 t, .str nm] [.int .i64 op, .int .i64 t, .string nm] _ (laid_rel h _ rfl) (fun b hb => by subst hb; exact laid_size h) ⟨_, _, rfl, rfl, _, _, rfl, rfl, _, _, rfl, rfl, rfl⟩ (tells_says op t nm)).mono fun e w' he => ?_
  obtain ⟨F', u, rfl, hb, _, _, _, hr⟩ := he
  have hr : u = .bool true := hr
  subst hr
  exact ⟨rfl, hb⟩
theorem lifted (os : Os) (started : os.Started) (H : Type) (enc : TypeId × Value → H) :
    ReturnsInHanded {} Tryd.checked os 3 .any (fun w args => (Rows.opcodeTellsSpec.pre enc Tryd.prog Tryd.f3 [] false w args ∧ laidMetH Tryd.prog laidW w) ∧ sizedMet enc Tryd.prog Tryd.f3 (OpenSpec.ofChange Rows.opcodeTellsSpec) false w args)
      (Rows.opcodeTellsSpec.post enc Tryd.prog Tryd.f3 false true false false) := by
  refine returnsInHanded_of_change_and (C := Tryd.checked) (X := fun w _ => laidMetH Tryd.prog laidW w) (fun _ _ _ hh h => h.of_heap hh) own started (by kernel_rfl) Tryd.func3
    (ChangeSpec.witness_shaped (enc := enc) (C := Tryd.checked) (os := os) (X := fun w _ => laidMetH Tryd.prog laidW w) false (World.doorLaid Tryd.prog 400 os) #[.int .i64 0, .int .i64 0, .string ByteArray.empty] 8 rfl (World.shaped_of_RefB (by kernel_rfl) (by kernel_rfl)) (by kernel_rfl) (by kernel_rfl) (by kernel_rfl) (door_met os _)) ?_
  intro W base args ds gs before hval0 hW _ _ hL _
  have hval : ∀ (j : Nat) t v, Tryd.f3.params[j]? = some t → args[j]? = some v → Value.okWide Tryd.prog W .any base t v := hval0
  have hW' := hW
  obtain ⟨p, q, hA0, hV, rfl, hfz, hnd⟩ := hW
  have hA : DataW.TrodAll enc Tryd.prog W 0 (fun _ => true) true Tryd.f3.params.toList args.toList ds p := hA0
  rw [Tryd.params3] at hA hval
  obtain ⟨v0, vs0, d0, ds0, p0, q0, hargs, rfl, rfl, h0, r0⟩ := trodAll_cons hA
  obtain ⟨v1, vs1, d1, ds1, p1, q1, rfl, rfl, rfl, h1, r1⟩ := trodAll_cons r0
  obtain ⟨v2, vs2, d2, ds2, p2, q2, rfl, rfl, rfl, h2, r2⟩ := trodAll_cons r1
  obtain ⟨rfl, rfl, rfl⟩ := trodAll_nil r2
  obtain rfl : args = #[v0, v1, v2] := by cases args; simp_all
  obtain ⟨rfl, rfl⟩ := trodVars_none hV
  obtain ⟨op, rfl, rfl, rfl, y0⟩ := open_int Tryd.underlying3 (hval 0 3 v0 rfl rfl) h0
  obtain ⟨t, rfl, rfl, rfl, y1⟩ := open_int Tryd.underlying22 (hval 1 22 v1 rfl rfl) h1
  obtain ⟨nm, rfl, rfl, rfl, y2⟩ := Go.ChangeMaps.open_string Tryd.underlying9 (hval 2 9 v2 rfl rfl) h2
  refine (calls op t nm W hL).mono fun e W' ⟨he, bel⟩ => ?_
  subst he
  exact ⟨_, rfl, _, _, _, [], _, [], hW', trodAll_mk1 (shut_bool Tryd.underlying4 _), (trodAll_cons_mk (shut_int Tryd.underlying3 y0) (trodAll_cons_mk (shut_int Tryd.underlying22 y1) (trodAll_cons_mk (Go.ChangeMaps.shut_string Tryd.underlying9 y2) trodAll_mk0))), rfl, bel.frame _, fun h => by cases h⟩
theorem over : Rows.OpcodeTellsSaid :=
  OpenClaim.holds_of_wide 3 Tryd.f3 rfl rfl rfl rfl rfl rfl rfl ⟨rfl, rfl, rfl, rfl, rfl⟩ rfl rfl rfl rfl rfl (by kernel_rfl) Tryd.func3 (by kernel_rfl)
    (of_decide_eq_true (by kernel_rfl)) (by unfold Func.isWrapper; first | (rw [if_pos (by decide +kernel)]; kernel_rfl) | (rw [if_neg (by decide +kernel)]; exact ⟨rfl, rfl⟩))
    (fun os started H enc _ => lifted os started H enc)
theorem card : Rows.OpcodeTellsCardSaid :=
  Claim7.holds_tied_plain_at .later [] [.data] true (true, "079c9b5a7fe1ac23821c047d6b0535eafb0c4d9b315298a3374d76c632ca51dc") false
    over (fun _ h => by cases h) (by kernel_rfl) (fun _ h => by cases h) opcodeTells_row_tie rfl ⟨rfl, rfl⟩ (by kernel_rfl) rfl
    (fun f fn hf hfn => by
      obtain rfl : f = 3 := Option.some.inj ((show Tryd.prog.funcNamed "burnish/burnishlaw12.OpcodeTells" = some 3 by kernel_rfl).symm.trans hf) |>.symm
      obtain rfl : fn = Tryd.f3 := (Option.some.inj (Tryd.func3.symm.trans hfn)).symm
      exact ⟨by kernel_rfl, fun j t ht => by
        rw [Tryd.params3] at ht
        have h3 : t = 3 ∨ t = 22 ∨ t = 9 := by
          rcases j with _ | _ | _ | j
          · exact .inl (by simpa using ht.symm)
          · exact .inr (.inl (by simpa using ht.symm))
          · exact .inr (.inr (by simpa using ht.symm))
          · simp at ht
        rcases h3 with rfl | rfl | rfl
        · exact (show Tryd.prog.wantsStandIn 3 = false by kernel_rfl)
        · exact (show Tryd.prog.wantsStandIn 22 = false by kernel_rfl)
        · exact (show Tryd.prog.wantsStandIn 9 = false by kernel_rfl)⟩)
    (by kernel_rfl)
end Go.Proofs.YtlidfaaajjfgfaaDoor.opcodeTells
namespace Go.Proofs.YtlidfaaajjfgfaaDoor
/-- The card, under a short name, for the claim. -/
theorem opcodeTells_holds : Rows.OpcodeTellsCardSaid := opcodeTells.card
#print axioms opcodeTells_holds
end Go.Proofs.YtlidfaaajjfgfaaDoor
