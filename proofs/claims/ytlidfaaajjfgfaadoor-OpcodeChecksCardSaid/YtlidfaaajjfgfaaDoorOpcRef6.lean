/- The types of operands and the immediates, program and reference compared. No conditions. -/
import Derived.Test.YtlidfaaajjfgfaaDoorOpcRef4
import Derived.Test.YtlidfaaajjfgfaaDoorOpcRef5
set_option linter.all false
namespace Go.Proofs.YtlidfaaajjfgfaaDoor
open Go Ab
set_option maxRecDepth 100000
variable {op ty dst imm sym elem : Int} {iargs regs : List Int} {nw : Bool} {gs : List gloS.den} {fs : List funS.den}
theorem opd_all (op ty sym : Int) (iargs regs : List Int) (fs : List funS.den) : decide (opdN op ty sym iargs regs fs = iargs.length) = (List.range iargs.length).all (fun k => opdAt op ty sym iargs regs fs k) := by
  rw [Bool.eq_iff_iff, decide_eq_true_iff, List.all_eq_true]
  have e : (List.range iargs.length).length = iargs.length := List.length_range
  have := @List.findIdx_eq_length _ (fun k => sNot (opdAt op ty sym iargs regs fs k)) (List.range iargs.length)
  rw [e] at this
  unfold opdN
  rw [this]
  simp [sNot]
theorem bad_all (sym : Int) (args : List Int) (fs : List funS.den) : decide (badN sym args fs = (fnAt fs sym).2.1.length) = (List.range (fnAt fs sym).2.1.length).all (fun k => sNot (badP sym args fs k)) := by
  rw [Bool.eq_iff_iff, decide_eq_true_iff, List.all_eq_true]
  have e : (List.range (fnAt fs sym).2.1.length).length = (fnAt fs sym).2.1.length := List.length_range
  have := @List.findIdx_eq_length _ (badP sym args fs) (List.range (fnAt fs sym).2.1.length)
  rw [e] at this
  unfold badN
  rw [this]
  simp [sNot]
theorem sEq_ne (a b : Int) : sEq a b = sNot (sNe b a) := by
  rw [sEq_d, sNe_d, sNot, Bool.not_not, Bool.eq_iff_iff]
  simp [eq_comm]
theorem call_opd (ty sym a first : Int) (args : List Int) (fs : List funS.den) (k : Nat) (ha : args.getD k 0 = a) : opdR 30 ty sym fs (k : Int) a first = sNot (badP sym args fs k) := by
  subst ha
  have e : opdR 30 ty sym fs (k : Int) (args.getD k 0) first = sIf (sIf (sLe 0 (List.getD (fnAt fs sym).2.1 k 0)) (sLt (List.getD (fnAt fs sym).2.1 k 0) ((fnAt fs sym).2.2.2.1.length : Int)) false) (sEq (args.getD k 0) (List.getD (fnAt fs sym).2.2.2.1 (Int.toNat (List.getD (fnAt fs sym).2.1 k 0)) 0)) false := by
    simp [opdR, boolOf, r38, sIf, sEq]
  rw [e, sEq_ne]
  simp only [badP, sLe_eq]
  generalize sLt (List.getD (fnAt fs sym).2.1 k 0) 0 = c1
  generalize sLt (List.getD (fnAt fs sym).2.1 k 0) ((fnAt fs sym).2.2.2.1.length : Int) = c2
  generalize sNe (List.getD (fnAt fs sym).2.2.2.1 (Int.toNat (List.getD (fnAt fs sym).2.1 k 0)) 0) (args.getD k 0) = c3
  cases c1 <;> cases c2 <;> cases c3 <;> rfl
theorem regs_get (iargs regs : List Int) {k : Nat} (h : k < iargs.length) : (regsOf iargs regs).getD k 0 = regs.getD (iargs.getD k 0).toNat 0 := by
  unfold regsOf
  rw [List.getD_eq_getElem?_getD, List.getElem?_map, List.getElem?_eq_getElem h]
  have e : iargs.getD k 0 = iargs[k] := by rw [List.getD_eq_getElem?_getD, List.getElem?_eq_getElem h]; rfl
  rw [e]
  rfl
/-- The types are right in the program's eyes where they are in the reference's. -/
theorem typed_all (h1 : 1 ≤ op) (h2 : op ≤ 33) (hw : iargs.length = wantN op iargs.length sym fs) : typedV op ty sym (regsOf iargs regs) fs = (resR op ty iargs sym fs && decide (opdN op ty sym iargs regs fs = iargs.length)) := by
  rw [opd_all]
  by_cases c30 : op = 30
  · subst c30
    have hw : iargs.length = (fnAt fs sym).2.1.length := hw
    have e1 : typedV 30 ty sym (regsOf iargs regs) fs = calleeV ty sym (regsOf iargs regs) fs := by simp [typedV, boolOf, r33, sIf, sEq]
    have e2 : resR 30 ty iargs sym fs = sEq ty (fnAt fs sym).2.2.1 := by simp [resR, boolOf, r37, sIf, sEq]
    rw [e1, e2, calleeV, bad_all, Bool.and_comm, ← hw]
    congr 1
    rw [Bool.eq_iff_iff, List.all_eq_true, List.all_eq_true]
    refine ⟨fun h k hk => ?_, fun h k hk => ?_⟩
    · have hk' := List.mem_range.1 hk
      have := h k hk
      unfold opdAt
      rw [call_opd ty sym _ _ (regsOf iargs regs) fs k (regs_get iargs regs hk')]
      exact this
    · have hk' := List.mem_range.1 hk
      have := h k hk
      unfold opdAt at this
      rw [call_opd ty sym _ _ (regsOf iargs regs) fs k (regs_get iargs regs hk')] at this
      exact this
  by_cases c0 : op = 1 ∨ op = 2 ∨ op = 25 ∨ op = 26
  · have : wantN op iargs.length sym fs = 0 := by rcases c0 with rfl | rfl | rfl | rfl <;> simp [wantN]
    match iargs, hw.trans this with
    | [], _ => rw [show regsOf [] regs = [] from rfl, typed_0 c0]; exact (Bool.and_true _).symm
  by_cases c1 : op = 3 ∨ op = 4 ∨ op = 22 ∨ op = 23 ∨ op = 24 ∨ op = 28 ∨ op = 31 ∨ op = 33
  · have : wantN op iargs.length sym fs = 1 := by rcases c1 with rfl | rfl | rfl | rfl | rfl | rfl | rfl | rfl <;> simp [wantN]
    match iargs, hw.trans this with
    | [a], _ =>
      rw [show regsOf [a] regs = [regs.getD a.toNat 0] from rfl, typed_1 c1 ty sym a (regs.getD a.toNat 0) fs]
      congr 1
      exact (Bool.and_true _).symm
  by_cases c3 : op = 21
  · subst c3
    have : wantN 21 iargs.length sym fs = 3 := by simp [wantN]
    match iargs, hw.trans this with
    | [a, b, c], _ =>
      rw [show regsOf [a, b, c] regs = [regs.getD a.toNat 0, regs.getD b.toNat 0, regs.getD c.toNat 0] from rfl, typed_3 ty sym a b c]
      congr 1
      show _ = (opdR 21 ty sym fs 0 _ _ && (opdR 21 ty sym fs 1 _ _ && (opdR 21 ty sym fs 2 _ _ && true)))
      rw [Bool.and_true]
      rfl
  have two : ∀ a b : Int, typedV op ty sym (regsOf [a, b] regs) fs = (resR op ty [a, b] sym fs && (List.range 2).all fun k => opdAt op ty sym [a, b] regs fs k) := by
    intro a b
    rw [show regsOf [a, b] regs = [regs.getD a.toNat 0, regs.getD b.toNat 0] from rfl, typed_2 h1 h2 (by omega) ty sym a b]
    congr 1
    show _ = (opdR op ty sym fs 0 _ _ && (opdR op ty sym fs 1 _ _ && true))
    rw [Bool.and_true]
    rfl
  by_cases c32 : op = 32
  · subst c32
    by_cases c4 : iargs.length = 4
    · match iargs, c4 with
      | [a, b, c, e], _ =>
        rw [show regsOf [a, b, c, e] regs = [regs.getD a.toNat 0, regs.getD b.toNat 0, regs.getD c.toNat 0, regs.getD e.toNat 0] from rfl, typed_4 ty sym a b c e]
        congr 1
        show _ = (opdR 32 ty sym fs 0 _ _ && (opdR 32 ty sym fs 1 _ _ && (opdR 32 ty sym fs 2 _ _ && (opdR 32 ty sym fs 3 _ _ && true))))
        rw [Bool.and_true]
        rfl
    · have : wantN 32 iargs.length sym fs = 2 := by simp [wantN, c4]
      match iargs, hw.trans this with
      | [a, b], _ => exact two a b
  · have : wantN op iargs.length sym fs = 2 := by
      unfold wantN
      rw [if_neg c30, if_neg c32, if_neg c0, if_neg c1, if_neg c3]
    match iargs, hw.trans this with
    | [a, b], _ => exact two a b
/-- The error of the immediate, in the reference's words. -/
noncomputable def immR (op ty imm elem a : Int) : Int :=
  sIf (sIf (sEq op 26) (sIf (sNe (accOf elem).2 1) true (sNe (accOf elem).1 elem)) false) 9 (sIf (sIf (sIf (sEq op 1) (sNe (wrapR ty imm) imm) false) true (sIf (sEq op 26) (sIf (sLt imm 1) true (sLt 256 imm)) false)) 10
    (sIf (sIf (sEq op 33) (sIf (sIf (sLt imm 0) true (sLt 3 imm)) true (sIf (sLt 1 imm) (sEq a 6) false)) false) 10 0))
theorem imm_eq {args : List Int} (hi1 : -9223372036854775808 ≤ imm) (hi2 : imm ≤ 9223372036854775807) (hv : op = 33 → args.getD 0 0 = 6 ∨ args.getD 0 0 = 7) : immV op ty imm elem args = immR op ty imm elem (args.getD 0 0) := by
  have hwr : wrapR ty imm = wrapV ty imm := wrap_eq hi1 hi2
  by_cases c1 : op = 1
  · subst c1
    simp [immV, intOf, r35, immR, sIf, sEq_d, sNe_d, sLt, sLe, hwr]
    try grind
  by_cases c26 : op = 26
  · subst c26
    simp [immV, intOf, r35, immR, sIf, sEq_d, sNe_d, sLt, sLe, hwr]
    try grind
  by_cases c33 : op = 33
  · subst c33
    rcases hv rfl with h | h <;> simp [immV, intOf, r35, immR, sIf, sEq_d, sNe_d, sLt, sLe, h, accOf] <;> grind
  · simp [immV, intOf, r35, immR, sIf, sEq_d, sNe_d, sLt, sLe, c1, c26, c33]
end Go.Proofs.YtlidfaaajjfgfaaDoor
