/- The law OpcodeOnce, read with the natural form of the check, answers true. No conditions but the bound on a list in memory. -/
import Derived.Test.YtlidfaaajjfgfaaDoorOpcTab4
set_option linter.all false
namespace Go.Proofs.YtlidfaaajjfgfaaDoor
open Go Ab
set_option maxRecDepth 1000000
theorem nf6 (op : Int) (ty : Int) (dst : Int) (iargs : List Int) (imm : Int) (sym : Int) (elem : Int) (nw : Bool) (fnm : ByteArray) (fps : List Int) (fres : Int) (regs : List Int) (fbl : List (Sh.den blkS)) (gs : List (Sh.den gloS)) (fs : List (Sh.den funS)) (t : Int) : exFn (gN dA) Tryd.f6 [insA op ty dst iargs imm sym elem nw, funA fnm fps fres regs fbl, modA gs fs, AV.int IntKind.i64 t] = (
  let q0 : Bool := sLt 50 ↑(List.length iargs);
  let q1 : Bool := sNot q0;
  let q2 : Bool := sNot q1;
  let q3 : Bool := sOr q2 true;
  let q4 : Bool := sAnd q1 true;
  let q5 : Bool := sIf q0 true (sNe (chkV op ty dst iargs imm sym elem nw regs gs fs) 0);
  let q6 : Bool := Tg.isN (Tg.mix q5 Tg.r Tg.n);
  let q7 : List (Int) := [] ++ iargs;
  let q8 : Bool := sLt 0 ↑(List.length q7);
  let q9 : Int := Option.getD none ↑(List.length iargs);
  let q10 : List (Int) := List.set q7 0 (-1);
  let q11 : Bool := sNe (chkV op ty dst q10 imm sym elem nw regs gs fs) 10;
  let q12 : Bool := sNot q11;
  let q13 : Bool := sNot q12;
  let q14 : Bool := sOr q13 true;
  let q15 : Bool := sAnd q12 true;
  let q16 : Bool := sIf q11 true (sNe (chkV op ty dst (List.drop 1 iargs) imm sym elem nw regs gs fs) 3);
  let q17 : Bool := Tg.isN (Tg.mix q8 (Tg.mix q16 Tg.r Tg.n) Tg.n);
  let q18 : Bool := sNe (chkV op ty (↑(List.length regs)) iargs imm sym elem nw regs gs fs) 10;
  let q19 : Bool := sNot q18;
  let q20 : Bool := sNot q19;
  let q21 : Bool := sOr q20 true;
  let q22 : Bool := sAnd q19 true;
  let q23 : Bool := sIf q18 true (sNe (chkV (IntKind.wrap IntKind.i64 (0 - op)) ty dst iargs imm sym elem nw regs gs fs) 8);
  let q24 : Bool := sNot q23;
  let q25 : Bool := sNot q24;
  let q26 : Bool := sOr q25 true;
  let q27 : Bool := sOr q25 q24;
  let q28 : Bool := sOr q25 (sAnd (sAnd q24 true) true);
  let q29 : Bool := sEq dst (-1);
  let q30 : Bool := sAnd q24 q29;
  let q31 : Bool := sNot q30;
  let q32 : Bool := sIf q29 (sNe op 30) false;
  let q33 : Bool := sAnd q24 (sNot q32);
  let q34 : Bool := sNot q33;
  let q35 : Bool := sOr q34 q33;
  let q36 : Bool := sAnd q33 (sEq op 30);
  let q37 : Bool := sNot q36;
  let q38 : Bool := sIf q23 true (sNot (sEqB (sEq ty 0) (sIf q32 true (sIf (sEq op 30) (sEq ty 0) false))));
  let q39 : Bool := Tg.isN (Tg.mix q38 Tg.r Tg.n);
  let q40 : Bool := sOr (sNot (sLe 0 dst)) true;
  let q41 : Bool := sIf (sLe 0 dst) (sNe t ty) false;
  let q42 : List (Int) := [] ++ regs;
  let q43 : Bool := sNe (chkV op ty dst iargs imm sym elem nw (List.set q42 (Int.toNat dst) t) gs fs) 0;
  let q44 : Bool := sNot q43;
  let q45 : Bool := sNot q44;
  let q46 : Bool := sOr q45 true;
  let q47 : Bool := sOr q45 q44;
  let q48 : Bool := Tg.isN (Tg.mix q41 Tg.r Tg.n); some (sAnd true (sAnd true (sAnd (sAnd (sAnd true (sAnd true (sAnd true (sAnd true (sAnd true (sAnd q3 (sAnd q3 (sAnd q3 (sAnd (sOr q2 (sAnd (sAnd q1 (sAnd q1 q4)) (len1000 (List.length iargs)))) (sAnd (sOr q2 (sAnd q4 true)) (sAnd (sAnd true (sIf q0 true q1)) true))))))))))) (sAnd true (sIf q5 true true))) (sIf q6 (sAnd true (sAnd true (sAnd true (sAnd (sAnd true (sAnd true (sAnd true (sAnd (sAnd true (sLe (↑((0 + List.length iargs) * 8)) 140737488355328)) true)))) (sAnd (sAnd true (sAnd true (sIf q8 (sAnd (sAnd true (sAnd true (sAnd (sAnd true (sAnd true q8)) true))) (sAnd true (sAnd (sAnd true (sAnd true (sAnd (sAnd true (sAnd (sAnd true (sLe (Option.getD (some 1) 0) q9)) (sLe q9 ↑(List.length iargs)))) true))) (sAnd (sAnd true (sAnd true (sAnd true (sAnd (sAnd true (len1000 (List.length q10))) (sAnd true (sAnd true (sAnd q14 (sAnd q14 (sAnd q14 (sAnd (sOr q13 (sAnd (sAnd q12 (sAnd q12 q15)) (len1000 (List.length (List.drop 1 iargs))))) (sAnd (sOr q13 (sAnd q15 true)) (sAnd (sAnd true (sIf q11 true q12)) true)))))))))))) (sAnd true (sIf q16 true true)))))) true))) (sIf q17 (sAnd true (sAnd true (sAnd (sAnd (sAnd true (sAnd true (sAnd true (sAnd (sAnd true (len1000 (List.length iargs))) (sAnd true (sAnd true (sAnd q21 (sAnd q21 (sAnd q21 (sAnd (sOr q20 (sAnd (sAnd q19 (sAnd q19 q22)) (len1000 (List.length iargs)))) (sAnd (sOr q20 (sAnd q22 true)) (sAnd (sAnd true (sIf q18 true q19)) (sAnd true (sAnd q26 (sAnd q27 (sAnd q28 (sAnd q26 (sAnd q27 (sAnd q28 (sAnd q27 (sAnd (sOr q31 true) (sAnd (sOr q31 q30) (sAnd (sOr q31 (sAnd (sAnd q30 true) true)) (sAnd (sOr q25 (sAnd q24 (sIf q29 q30 true))) (sAnd q27 (sAnd (sOr q34 true) (sAnd q35 (sAnd (sOr q34 (sAnd (sAnd q33 true) true)) (sAnd q35 (sAnd (sOr q37 true) (sAnd (sOr q37 q36) (sAnd (sOr q37 (sAnd (sAnd q36 true) true)) (sAnd (sOr q34 (sAnd q33 (sIf (sEq op 30) q36 true))) (sAnd (sOr q25 (sAnd q24 (sIf q32 true q33))) (sAnd (sOr q25 (sAnd (sAnd q24 q24) true)) (sAnd (sAnd true (sIf q23 true q24)) true)))))))))))))))))))))))))))))))))))) (sAnd true (sIf q38 true true))) (sIf q39 (sAnd (sAnd (sAnd true (sAnd true (sAnd true (sAnd true (sAnd q40 (sAnd q40 (sAnd (sOr (sNot (sLe 0 dst)) (sLe 0 dst)) (sAnd (sOr (sNot (sLe 0 dst)) (sAnd (sAnd (sLe 0 dst) (sLe 0 dst)) true)) (sAnd (sAnd true (sIf (sLe 0 dst) (sLe 0 dst) true)) true))))))))) (sAnd true (sIf q41 (sAnd true (sAnd (sAnd true (sAnd true (sAnd true (sAnd (sAnd true (sLe (↑((0 + List.length regs) * 8)) 140737488355328)) true)))) (sAnd (sAnd true (sAnd true (sAnd true (sAnd true (sAnd true (sAnd (sAnd true (sAnd (sLe 0 dst) (sLt dst ↑(List.length q42)))) true)))))) (sAnd (sAnd true (sAnd true (sAnd true (sAnd (sAnd true (len1000 (List.length iargs))) (sAnd true (sAnd true (sAnd q46 (sAnd q47 (sAnd q46 (sAnd q47 (sAnd q47 (sAnd (sOr q45 (sAnd (sAnd q44 q44) true)) (sAnd (sAnd true (sIf q43 true q44)) true))))))))))))) true)))) true))) (sIf q48 true true)) true)))) true)))))) true))), AV.bool (sIf q6 (sIf q17 (sIf q39 (sIf q48 true (sIf q43 true (sLe (↑(List.length regs)) dst))) false) false) true))) := by kernel_rfl
set_option maxRecDepth 100000
variable {op ty dst imm sym elem t : Int} {iargs regs : List Int} {nw : Bool} {gs : List gloS.den} {fs : List funS.den}
theorem chk0 (h : chkV op ty dst iargs imm sym elem nw regs gs fs = 0) : bEq (nameOf op) (ByteArray.mk (Array.mk [])) = false ∧ sNe (fieldsV op imm sym elem nw) 0 = false ∧ sNe (symV op sym gs fs) 0 = false ∧ countV op iargs sym fs = 0 ∧
    badRN iargs regs = iargs.length ∧ sLt dst (-1) = false ∧ sLe (regs.length : Int) dst = false ∧ resV op ty dst regs = true := by
  unfold chkV at h
  cases h0 : bEq (nameOf op) (ByteArray.mk (Array.mk []))
  case true => rw [h0] at h; cases h
  cases h1 : sNe (fieldsV op imm sym elem nw) 0
  case true => rw [h0, h1] at h; have h : fieldsV op imm sym elem nw = 0 := h; rw [h] at h1; cases h1
  cases h2 : sNe (symV op sym gs fs) 0
  case true => rw [h0, h1, h2] at h; have h : symV op sym gs fs = 0 := h; rw [h] at h2; cases h2
  cases h3 : sNe (countV op iargs sym fs) 0
  case true => rw [h0, h1, h2, h3] at h; have h : countV op iargs sym fs = 0 := h; rw [h] at h3; cases h3
  cases h4 : decide (badRN iargs regs < iargs.length)
  case true => rw [h0, h1, h2, h3, h4] at h; cases h
  cases h5 : sLt dst (-1)
  case true => rw [h0, h1, h2, h3, h4, h5] at h; cases h
  cases h6 : sLe (regs.length : Int) dst
  case true => rw [h0, h1, h2, h3, h4, h5, h6] at h; cases h
  cases h7 : resV op ty dst regs
  case false =>
    rw [h0, h1, h2, h3, h4, h5, h6, h7] at h
    cases h8 : typedV op ty sym (regsOf iargs regs) fs <;> rw [h8] at h <;> cases h
  refine ⟨rfl, rfl, rfl, by simpa [sNe] using h3, ?_, rfl, rfl, rfl⟩
  have := badRN_le iargs regs
  have h4 := of_decide_eq_false h4
  omega
theorem want_self (h1 : 1 ≤ op) (h2 : op ≤ 33) (h : countV op iargs sym fs = 0) : iargs.length = wantN op iargs.length sym fs := by
  rw [count_eq h1 h2] at h
  apply Decidable.byContradiction
  intro hn
  rw [if_neg hn] at h
  cases h
theorem want_less {n : Nat} (h : n = wantN op n sym fs) (hn : 0 < n) : ¬ (n - 1 = wantN op (n - 1) sym fs) := by
  unfold wantN at h ⊢
  split at h
  · rename_i e; rw [if_pos e]; omega
  · rename_i e
    rw [if_neg e]
    split at h
    · rename_i e2
      rw [if_pos e2]
      split at h
      · rename_i e3; rw [if_neg (by omega)]; omega
      · rw [if_neg (by omega)]; omega
    · rename_i e2
      rw [if_neg e2]
      omega
/-- An operand out of range. -/
theorem one_range (h : chkV op ty dst iargs imm sym elem nw regs gs fs = 0) (hn : 0 < iargs.length) : chkV op ty dst (List.set ([] ++ iargs) 0 (-1)) imm sym elem nw regs gs fs = 10 := by
  obtain ⟨h0, h1, h2, h3, h4, h5, h6, h7⟩ := chk0 h
  have hr := name_range h0
  have hw := want_self hr.1 hr.2 h3
  have hl : (List.set ([] ++ iargs) 0 (-1)).length = iargs.length := by simp
  have h3' : countV op (List.set ([] ++ iargs) 0 (-1)) sym fs = 0 := by rw [count_eq hr.1 hr.2, hl, if_pos hw]
  have hb : decide (badRN (List.set ([] ++ iargs) 0 (-1)) regs < (List.set ([] ++ iargs) 0 (-1)).length) = true := by
    apply decide_eq_true
    rw [hl]
    match iargs, hn with
    | a :: l, _ => simp [badRN, List.findIdx_cons, badR, sIf, sLt]
  unfold chkV
  rw [h0, h1, h2, h3', hb]
  rfl
/-- An operand removed. -/
theorem one_less (h : chkV op ty dst iargs imm sym elem nw regs gs fs = 0) (hn : 0 < iargs.length) : chkV op ty dst (List.drop 1 iargs) imm sym elem nw regs gs fs = 3 := by
  obtain ⟨h0, h1, h2, h3, h4, h5, h6, h7⟩ := chk0 h
  have hr := name_range h0
  have hw := want_self hr.1 hr.2 h3
  have h3' : countV op (List.drop 1 iargs) sym fs = 3 := by rw [count_eq hr.1 hr.2, List.length_drop, if_neg (want_less hw hn)]
  unfold chkV
  rw [h0, h1, h2, h3']
  rfl
/-- A wrong Dst. -/
theorem one_dst (h : chkV op ty dst iargs imm sym elem nw regs gs fs = 0) : chkV op ty (regs.length : Int) iargs imm sym elem nw regs gs fs = 10 := by
  obtain ⟨h0, h1, h2, h3, h4, h5, h6, h7⟩ := chk0 h
  have hb : decide (badRN iargs regs < iargs.length) = false := decide_eq_false (by omega)
  have k1 : sLt (regs.length : Int) (-1) = false := sLt_false (by omega)
  have k2 : sLe (regs.length : Int) (regs.length : Int) = true := decide_eq_true (by omega)
  unfold chkV
  rw [h0, h1, h2, h3, hb, k1, k2]
  rfl
/-- No operation. -/
theorem one_op (h : chkV op ty dst iargs imm sym elem nw regs gs fs = 0) : chkV (IntKind.wrap IntKind.i64 (0 - op)) ty dst iargs imm sym elem nw regs gs fs = 8 := by
  obtain ⟨h0, h1, h2, h3, h4, h5, h6, h7⟩ := chk0 h
  have hr := name_range h0
  have hw : IntKind.wrap .i64 (0 - op) = 0 - op := wrap_i64 (by omega) (by omega)
  have e : (0 - op).toNat = 0 := by omega
  have : nameOf (0 - op) = ByteArray.mk (Array.mk []) := by unfold nameOf; rw [e]; rfl
  unfold chkV
  rw [hw, this, bEq_self']
  rfl
theorem res_eq : resV op ty dst regs = (if ty = 0 then decide (dst = -1) else if dst = -1 then decide (op = 30) else decide (regs.getD dst.toNat 0 = ty)) := by
  simp only [resV, boolOf, r34]
  have e : ∀ a b : Int, sEq a b = decide (a = b) := fun a b => by unfold sEq; rw [Bool.eq_iff_iff]; simp
  by_cases h1 : ty = 0 <;> by_cases h2 : dst = -1 <;> simp [h1, h2, sIf, e]
/-- A result where there is a type. -/
theorem one_res (h : chkV op ty dst iargs imm sym elem nw regs gs fs = 0) : sEqB (sEq ty 0) (sIf (sIf (sEq dst (-1)) (sNe op 30) false) true (sIf (sEq op 30) (sEq ty 0) false)) = true := by
  obtain ⟨h0, h1, h2, h3, h4, h5, h6, h7⟩ := chk0 h
  rw [res_eq] at h7
  have e : ∀ a b : Int, sEq a b = decide (a = b) := fun a b => by unfold sEq; rw [Bool.eq_iff_iff]; simp
  have e' : ∀ a b : Int, sNe a b = !decide (a = b) := fun a b => by unfold sNe; rw [Bool.eq_iff_iff]; simp
  simp only [e, e']
  by_cases k1 : ty = 0 <;> by_cases k2 : dst = -1 <;> by_cases k3 : op = 30 <;> simp [k1, k2, k3, sIf, sEqB] at h7 ⊢
/-- Another type of the result's register. -/
theorem one_type (h : chkV op ty dst iargs imm sym elem nw regs gs fs = 0) (hd : 0 ≤ dst) (ht : t ≠ ty) : sNe (chkV op ty dst iargs imm sym elem nw (List.set ([] ++ regs) dst.toNat t) gs fs) 0 = true := by
  obtain ⟨h0, h1, h2, h3, h4, h5, h6, h7⟩ := chk0 h
  cases hc : sNe (chkV op ty dst iargs imm sym elem nw (List.set ([] ++ regs) dst.toNat t) gs fs) 0
  case true => rfl
  exfalso
  obtain ⟨_, _, _, _, _, _, _, h7'⟩ := chk0 (show chkV op ty dst iargs imm sym elem nw (List.set ([] ++ regs) dst.toNat t) gs fs = 0 by simpa [sNe] using hc)
  rw [res_eq] at h7'
  have h6 : ¬ (regs.length : Int) ≤ dst := of_decide_eq_false h6
  have hlt : dst.toNat < regs.length := by omega
  by_cases k1 : ty = 0
  · rw [if_pos k1] at h7'
    have := of_decide_eq_true h7'
    omega
  · rw [if_neg k1, if_neg (by omega : ¬ dst = -1)] at h7'
    have h8 := of_decide_eq_true h7'
    rw [List.nil_append, List.getD_eq_getElem?_getD, List.getElem?_set_self hlt] at h8
    exact ht h8
set_option maxHeartbeats 0 in
theorem once_says {fnm : ByteArray} {fps : List Int} {fres : Int} {fbl : List blkS.den} (hreg : regs.length * 8 ≤ 140737488351232) :
    exFn (gN dA) Tryd.f6 [insA op ty dst iargs imm sym elem nw, funA fnm fps fres regs fbl, modA gs fs, .int .i64 t] = some (true, .bool true) := by
  rw [nf6]
  have kr0 : (0 + regs.length) * 8 ≤ 140737488355328 := by omega
  have kr : sLe (((0 + regs.length) * 8 : Nat) : Int) 140737488355328 = true := decide_eq_true (Int.ofNat_le.2 kr0)
  by_cases h50 : 50 < iargs.length
  · have e0 : sLt 50 (iargs.length : Int) = true := sLt_true (by omega)
    simp only [e0]
    rfl
  have e0 : sLt 50 (iargs.length : Int) = false := sLt_false (by omega)
  have e1 : len1000 iargs.length = true := Nat.ble_eq_true_of_le (by omega)
  have e20 : (0 + iargs.length) * 8 ≤ 140737488355328 := by omega
  have e2 : sLe (((0 + iargs.length) * 8 : Nat) : Int) 140737488355328 = true := decide_eq_true (Int.ofNat_le.2 e20)
  have e3 : len1000 (List.set ([] ++ iargs) 0 (-1)).length = true := Nat.ble_eq_true_of_le (by simp; omega)
  have e4 : len1000 (List.drop 1 iargs).length = true := Nat.ble_eq_true_of_le (by simp; omega)
  cases hc : sNe (chkV op ty dst iargs imm sym elem nw regs gs fs) 0
  case true =>
    simp only [e0, e1, hc]
    rfl
  have hz : chkV op ty dst iargs imm sym elem nw regs gs fs = 0 := by simpa [sNe] using hc
  obtain ⟨h0, h1, h2, h3, h4, h5, h6, h7⟩ := chk0 hz
  have a3 := one_dst hz
  have a4 := one_op hz
  have a5 := one_res hz
  have b3 : sNe 10 10 = false := rfl
  have b4 : sNe 8 8 = false := rfl
  have b5 : sNe 3 3 = false := rfl
  have fin : ∀ b : Bool, b = b := fun _ => rfl
  by_cases hn : 0 < iargs.length
  · have a1 := one_range hz hn
    have a2 := one_less hz hn
    have e5 : sLt 0 (([] ++ iargs).length : Int) = true := sLt_true (by simp; omega)
    have e6 : sLe 1 (iargs.length : Int) = true := decide_eq_true (by omega)
    have e7 : sLe (iargs.length : Int) (iargs.length : Int) = true := decide_eq_true (by omega)
    by_cases hd : 0 ≤ dst
    · have g1 : sLe 0 dst = true := decide_eq_true hd
      have g2 : sLt dst (([] ++ regs).length : Int) = true := sLt_true (by have h6 : ¬ (regs.length : Int) ≤ dst := of_decide_eq_false h6; simp; omega)
      by_cases ht : t = ty
      · have g3 : sNe t ty = false := by simp [sNe, ht]
        simp only [e0, e1, e2, e3, e4, e5, e6, e7, hc, a1, a2, a3, a4, a5, b3, b4, b5, g1, g3, Option.getD_none, Option.getD_some]
        generalize sEq dst (-1) = c1
        generalize sNe op 30 = c2
        generalize sEq op 30 = c3
        cases c1 <;> cases c2 <;> cases c3 <;> rfl
      · have g3 : sNe t ty = true := by simp [sNe, ht]
        have a6 := one_type (t := t) hz hd ht
        simp only [e0, e1, e2, e3, e4, e5, e6, e7, hc, a1, a2, a3, a4, a5, b3, b4, b5, g1, g2, g3, a6, kr, Option.getD_none, Option.getD_some]
        generalize sEq dst (-1) = c1
        generalize sNe op 30 = c2
        generalize sEq op 30 = c3
        cases c1 <;> cases c2 <;> cases c3 <;> rfl
    · have g1 : sLe 0 dst = false := decide_eq_false hd
      simp only [e0, e1, e2, e3, e4, e5, e6, e7, hc, a1, a2, a3, a4, a5, b3, b4, b5, g1, Option.getD_none, Option.getD_some]
      generalize sEq dst (-1) = c1
      generalize sNe op 30 = c2
      generalize sEq op 30 = c3
      cases c1 <;> cases c2 <;> cases c3 <;> rfl
  · have e5 : sLt 0 (([] ++ iargs).length : Int) = false := sLt_false (by rw [List.nil_append]; omega)
    by_cases hd : 0 ≤ dst
    · have g1 : sLe 0 dst = true := decide_eq_true hd
      have g2 : sLt dst (([] ++ regs).length : Int) = true := sLt_true (by have h6 : ¬ (regs.length : Int) ≤ dst := of_decide_eq_false h6; simp; omega)
      by_cases ht : t = ty
      · have g3 : sNe t ty = false := by simp [sNe, ht]
        simp only [e0, e1, e2, e5, hc, a3, a4, a5, b3, b4, b5, g1, g3]
        generalize sEq dst (-1) = c1
        generalize sNe op 30 = c2
        generalize sEq op 30 = c3
        cases c1 <;> cases c2 <;> cases c3 <;> rfl
      · have g3 : sNe t ty = true := by simp [sNe, ht]
        have a6 := one_type (t := t) hz hd ht
        simp only [e0, e1, e2, e5, hc, a3, a4, a5, b3, b4, b5, g1, g2, g3, a6, kr]
        generalize sEq dst (-1) = c1
        generalize sNe op 30 = c2
        generalize sEq op 30 = c3
        cases c1 <;> cases c2 <;> cases c3 <;> rfl
    · have g1 : sLe 0 dst = false := decide_eq_false hd
      simp only [e0, e1, e2, e5, hc, a3, a4, a5, b3, b4, b5, g1]
      generalize sEq dst (-1) = c1
      generalize sNe op 30 = c2
      generalize sEq op 30 = c3
      cases c1 <;> cases c2 <;> cases c3 <;> rfl
end Go.Proofs.YtlidfaaajjfgfaaDoor
