/- The check of an instruction returns the error of the reference, for all instructions, functions and modules. No conditions beyond the row's own. -/
import Derived.Test.YtlidfaaajjfgfaaDoorOpcLaid
import Derived.Test.YtlidfaaajjfgfaaDoorOpcChecks
import Derived.Test.YtlidfaaajjfgfaaDoorAbOpens
import Derived.Test.YtlidfaaajjfgfaaDoorTie
import Derived.Test.YtlidfaaajjfgfaaDoorCards
import Derived.SevenTiedAt
import Derived.ShutString
import Derived.ChangeMaps5
set_option linter.all false
namespace Go.Proofs.YtlidfaaajjfgfaaDoor.opcodeChecks
open Go.ChangeShapes Go.WideShapes Go.ChangeAt Go.RowKit Go Ab
set_option linter.unusedVariables false
set_option maxRecDepth 100000
theorem calls {op ty dst : Int} {iargs : List Int} {imm sym elem : Int} {nw : Bool} {fnm : ByteArray} {fps : List Int} {fres : Int} {regs : List Int} {fbl : List blkS.den} {gs : List gloS.den} {fs : List funS.den} {v0 v1 v2 : Value} {W : World} (h : laidMetH Tryd.prog laidW W)
    (hi1 : -9223372036854775808 ≤ imm) (hi2 : imm ≤ 9223372036854775807)
    (r0 : Rel ⟨fun b => b < W.heap.size, fun _ => none, [], W.heap⟩ (insA op ty dst iargs imm sym elem nw) v0) (r1 : Rel ⟨fun b => b < W.heap.size, fun _ => none, [], W.heap⟩ (funA fnm fps fres regs fbl) v1) (r2 : Rel ⟨fun b => b < W.heap.size, fun _ => none, [], W.heap⟩ (modA gs fs) v2) :
    Calls Tryd.prog 4 #[v0, v1, v2] W fun e w' => e = .returned (.bool true) ∧ Below W.heap.size W w' := by
  have k : KOk (gT t0).toEnv 4 (exFn (gN e25T) Tryd.f4) := TabOk.readW (ek25 mixed) mixed Tryd.func4 (by decide) (by rfl) (fun xs r h => h)
  refine (k.valid (fun b => b < W.heap.size) W [insA op ty dst iargs imm sym elem nw, funA fnm fps fres regs fbl, modA gs fs] [v0, v1, v2] _ (laid_rel h _ (laid_size h)) (fun b hb => hb) ⟨_, _, rfl, r0, _, _, rfl, r1, _, _, rfl, r2, rfl⟩ (checks_says hi1 hi2)).mono fun e w' he => ?_
  obtain ⟨F', u, rfl, hb, _, _, _, hr⟩ := he
  have hr : u = .bool true := hr
  subst hr
  exact ⟨rfl, hb⟩
theorem ag36 : aggB Tryd.prog 36 = some true := by kernel_rfl
theorem ag40 : aggB Tryd.prog 40 = some true := by kernel_rfl
theorem ag44 : aggB Tryd.prog 44 = some true := by kernel_rfl
theorem sh36 : shC Tryd.prog 20 36 = some insS := by kernel_rfl
theorem sh40 : shC Tryd.prog 20 40 = some funS := by kernel_rfl
theorem sh44 : shC Tryd.prog 20 44 = some modS := by kernel_rfl
theorem laidOut : laidOutB Tryd.prog = true := by kernel_rfl
theorem lifted (os : Os) (started : os.Started) (H : Type) (enc : TypeId × Value → H) :
    ReturnsInHanded {} Tryd.checked os 4 .any (fun w args => (Rows.opcodeChecksSpec.pre enc Tryd.prog Tryd.f4 [] false w args ∧ laidMetH Tryd.prog laidW w) ∧ sizedMet enc Tryd.prog Tryd.f4 (OpenSpec.ofChange Rows.opcodeChecksSpec) false w args)
      (Rows.opcodeChecksSpec.post enc Tryd.prog Tryd.f4 false true false false) := by
  refine returnsInHanded_of_change_and (C := Tryd.checked) (X := fun w _ => laidMetH Tryd.prog laidW w) (fun _ _ _ hh h => h.of_heap hh) own started (by kernel_rfl) Tryd.func4
    (ChangeSpec.witness_shaped (enc := enc) (C := Tryd.checked) (os := os) (X := fun w _ => laidMetH Tryd.prog laidW w) false (World.doorLaid Tryd.prog 400 os)
      #[.agg #[.int .i64 0, .int .i64 0, .int .i64 0, .slice none 0 0, .int .i64 0, .int .i64 0, .int .i64 0, .bool false], .agg #[.string ByteArray.empty, .slice none 0 0, .int .i64 0, .slice none 0 0, .slice none 0 0], .agg #[.slice none 0 0, .slice none 0 0]]
      8 rfl (World.shaped_of_RefB (by kernel_rfl) (by kernel_rfl)) (by kernel_rfl) (by kernel_rfl) (by kernel_rfl) (door_met os _)) ?_
  intro W base args ds gs before hval0 hW _ hsz hL _
  have hval : ∀ (j : Nat) t v, Tryd.f4.params[j]? = some t → args[j]? = some v → Value.okWide Tryd.prog W .any base t v := hval0
  have hW' := hW
  obtain ⟨p, q, hA0, hV, rfl, hfz, hnd⟩ := hW
  have hA : DataW.TrodAll enc Tryd.prog W 0 (fun _ => true) true Tryd.f4.params.toList args.toList ds p := hA0
  rw [Tryd.params4] at hA hval hsz
  have hA1 := hA
  obtain ⟨v0, vs0, d0, ds0, p0, q0, hargs, rfl, rfl, h0, r0⟩ := trodAll_cons hA
  obtain ⟨v1, vs1, d1, ds1, p1, q1, rfl, rfl, rfl, h1, r1⟩ := trodAll_cons r0
  obtain ⟨v2, vs2, d2, ds2, p2, q2, rfl, rfl, rfl, h2, r2⟩ := trodAll_cons r1
  obtain ⟨rfl, rfl, rfl⟩ := trodAll_nil r2
  obtain rfl : args = #[v0, v1, v2] := by cases args; simp_all
  obtain ⟨rfl, rfl⟩ := trodVars_none hV
  obtain ⟨⟨op, ty, dst, iargs, imm, sym, elem, nw, _⟩, y0, w0⟩ := opens_arg sh36 (hval 0 36 v0 rfl rfl) h0 hsz (j := 0) rfl rfl
  obtain ⟨⟨fnm, fps, fres, regs, fbl, _⟩, y1, w1⟩ := opens_arg sh40 (hval 1 40 v1 rfl rfl) h1 hsz (j := 1) rfl rfl
  obtain ⟨⟨mg, mf, _⟩, y2, w2⟩ := opens_arg sh44 (hval 2 44 v2 rfl rfl) h2 hsz (j := 2) rfl rfl
  unfold argV at y0 y1 y2
  rw [ag36] at y0
  rw [ag40] at y1
  rw [ag44] at y2
  have hi := bounds_i64 (show (Lit.int .i64 imm).wf = true from w0.2.2.2.2.1)
  refine (calls hL hi.1 hi.2 y0 y1 y2).mono fun e W' ⟨he, bel⟩ => ?_
  subst he
  exact ⟨_, rfl, _, _, _, [], _, [], hW', trodAll_mk1 (shut_bool Tryd.underlying4 _), below_trodAll laidOut bel (by kernel_rfl) hA1, rfl, bel.frame _, fun h => by cases h⟩
theorem over : Rows.OpcodeChecksSaid :=
  OpenClaim.holds_of_wide 4 Tryd.f4 rfl rfl rfl rfl rfl rfl rfl ⟨rfl, rfl, rfl, rfl, rfl⟩ rfl rfl rfl rfl rfl (by kernel_rfl) Tryd.func4 (by kernel_rfl)
    (of_decide_eq_true (by kernel_rfl)) (by unfold Func.isWrapper; first | (rw [if_pos (by decide +kernel)]; kernel_rfl) | (rw [if_neg (by decide +kernel)]; exact ⟨rfl, rfl⟩))
    (fun os started H enc _ => lifted os started H enc)
theorem card : Rows.OpcodeChecksCardSaid :=
  Claim7.holds_tied_plain_at .later [] [.data] true (true, "079c9b5a7fe1ac23821c047d6b0535eafb0c4d9b315298a3374d76c632ca51dc") false
    over (fun _ h => by cases h) (by kernel_rfl) (fun _ h => by cases h) opcodeChecks_row_tie rfl ⟨rfl, rfl⟩ (by kernel_rfl) rfl
    (fun f fn hf hfn => by
      obtain rfl : f = 4 := Option.some.inj ((show Tryd.prog.funcNamed "burnish/burnishlaw12.OpcodeChecks" = some 4 by kernel_rfl).symm.trans hf) |>.symm
      obtain rfl : fn = Tryd.f4 := (Option.some.inj (Tryd.func4.symm.trans hfn)).symm
      exact ⟨by kernel_rfl, fun j t ht => by
        rw [Tryd.params4] at ht
        have h3 : t = 36 ∨ t = 40 ∨ t = 44 := by
          rcases j with _ | _ | _ | j
          · exact .inl (by simpa using ht.symm)
          · exact .inr (.inl (by simpa using ht.symm))
          · exact .inr (.inr (by simpa using ht.symm))
          · simp at ht
        rcases h3 with rfl | rfl | rfl
        · exact (show Tryd.prog.wantsStandIn 36 = false by kernel_rfl)
        · exact (show Tryd.prog.wantsStandIn 40 = false by kernel_rfl)
        · exact (show Tryd.prog.wantsStandIn 44 = false by kernel_rfl)⟩)
    (by kernel_rfl)
end Go.Proofs.YtlidfaaajjfgfaaDoor.opcodeChecks
namespace Go.Proofs.YtlidfaaajjfgfaaDoor
/-- The card, under a short name, for the claim. -/
theorem opcodeChecks_holds : Rows.OpcodeChecksCardSaid := opcodeChecks.card
#print axioms opcodeChecks_holds
end Go.Proofs.YtlidfaaajjfgfaaDoor
