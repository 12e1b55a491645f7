/- The stages of the program's and the reference's check of an instruction, one by one. No conditions. -/
import Derived.Test.YtlidfaaajjfgfaaDoorOpcRef2
set_option linter.all false
namespace Go.Proofs.YtlidfaaajjfgfaaDoor
open Go Ab
set_option maxRecDepth 100000
theorem sEq_d (a b : Int) : sEq a b = decide (a = b) := by unfold sEq; rw [Bool.eq_iff_iff]; simp
theorem sNe_d (a b : Int) : sNe a b = !decide (a = b) := by unfold sNe; rw [Bool.eq_iff_iff]; simp
theorem name_of {op : Int} (h1 : 1 ≤ op) (h2 : op ≤ 33) : bEq (nameOf op) (ByteArray.mk (Array.mk [])) = false := by
  have : op = 1 ∨ op = 2 ∨ op = 3 ∨ op = 4 ∨ op = 5 ∨ op = 6 ∨ op = 7 ∨ op = 8 ∨ op = 9 ∨ op = 10 ∨ op = 11 ∨ op = 12 ∨ op = 13 ∨ op = 14 ∨ op = 15 ∨ op = 16 ∨ op = 17 ∨ op = 18 ∨ op = 19 ∨ op = 20 ∨ op = 21 ∨ op = 22 ∨ op = 23 ∨ op = 24 ∨ op = 25 ∨ op = 26 ∨ op = 27 ∨ op = 28 ∨ op = 29 ∨ op = 30 ∨ op = 31 ∨ op = 32 ∨ op = 33 := by omega
  rcases this with rfl | rfl | rfl | rfl | rfl | rfl | rfl | rfl | rfl | rfl | rfl | rfl | rfl | rfl | rfl | rfl | rfl | rfl | rfl | rfl | rfl | rfl | rfl | rfl | rfl | rfl | rfl | rfl | rfl | rfl | rfl | rfl | rfl <;> rfl
theorem name_not {op : Int} (h : ¬ (1 ≤ op ∧ op ≤ 33)) : bEq (nameOf op) (ByteArray.mk (Array.mk [])) = true := by
  cases h0 : bEq (nameOf op) (ByteArray.mk (Array.mk []))
  · exact absurd (name_range h0) h
  · rfl
def fmtR (op imm sym elem : Int) (nw : Bool) : Bool :=
  sIf (sIf (sIf (sIf (sIf (sIf nw (sNe op 5) false) (sNe op 6) false) (sNe op 7) false) true (sIf (sNe imm 0) (sNot (sIf (sIf (sEq op 1) true (sEq op 26)) true (sEq op 33))) false)) true (sIf (sIf (sNe sym 0) (sNe op 25) false) (sNe op 30) false)) true (sIf (sNe elem 0) (sNe op 26) false)
theorem fields_eq (op imm sym elem : Int) (nw : Bool) : fieldsV op imm sym elem nw = sIf (fmtR op imm sym elem nw) 3 0 := by
  by_cases h5 : op = 5
  · subst h5
    simp only [fieldsV, intOf, r30, fmtR]
    generalize sNe imm 0 = b1
    generalize sNe sym 0 = b2
    generalize sNe elem 0 = b3
    cases nw <;> cases b1 <;> cases b2 <;> cases b3 <;> rfl
  have e5 : sEq op 5 = false := by simpa [sEq] using h5
  have f5 : sNe op 5 = true := by simpa [sNe] using h5
  by_cases h6 : op = 6
  · subst h6
    simp only [fieldsV, intOf, r30, fmtR]
    generalize sNe imm 0 = b1
    generalize sNe sym 0 = b2
    generalize sNe elem 0 = b3
    cases nw <;> cases b1 <;> cases b2 <;> cases b3 <;> rfl
  have e6 : sEq op 6 = false := by simpa [sEq] using h6
  have f6 : sNe op 6 = true := by simpa [sNe] using h6
  by_cases h7 : op = 7
  · subst h7
    simp only [fieldsV, intOf, r30, fmtR]
    generalize sNe imm 0 = b1
    generalize sNe sym 0 = b2
    generalize sNe elem 0 = b3
    cases nw <;> cases b1 <;> cases b2 <;> cases b3 <;> rfl
  have e7 : sEq op 7 = false := by simpa [sEq] using h7
  have f7 : sNe op 7 = true := by simpa [sNe] using h7
  by_cases h26 : op = 26
  · subst h26
    simp only [fieldsV, intOf, r30, fmtR]
    generalize sNe imm 0 = b1
    generalize sNe sym 0 = b2
    generalize sNe elem 0 = b3
    cases nw <;> cases b1 <;> cases b2 <;> cases b3 <;> rfl
  have e26 : sEq op 26 = false := by simpa [sEq] using h26
  have f26 : sNe op 26 = true := by simpa [sNe] using h26
  by_cases h1 : op = 1
  · subst h1
    simp only [fieldsV, intOf, r30, fmtR]
    generalize sNe imm 0 = b1
    generalize sNe sym 0 = b2
    generalize sNe elem 0 = b3
    cases nw <;> cases b1 <;> cases b2 <;> cases b3 <;> rfl
  have e1 : sEq op 1 = false := by simpa [sEq] using h1
  have f1 : sNe op 1 = true := by simpa [sNe] using h1
  by_cases h33 : op = 33
  · subst h33
    simp only [fieldsV, intOf, r30, fmtR]
    generalize sNe imm 0 = b1
    generalize sNe sym 0 = b2
    generalize sNe elem 0 = b3
    cases nw <;> cases b1 <;> cases b2 <;> cases b3 <;> rfl
  have e33 : sEq op 33 = false := by simpa [sEq] using h33
  have f33 : sNe op 33 = true := by simpa [sNe] using h33
  by_cases h25 : op = 25
  · subst h25
    simp only [fieldsV, intOf, r30, fmtR]
    generalize sNe imm 0 = b1
    generalize sNe sym 0 = b2
    generalize sNe elem 0 = b3
    cases nw <;> cases b1 <;> cases b2 <;> cases b3 <;> rfl
  have e25 : sEq op 25 = false := by simpa [sEq] using h25
  have f25 : sNe op 25 = true := by simpa [sNe] using h25
  by_cases h30 : op = 30
  · subst h30
    simp only [fieldsV, intOf, r30, fmtR]
    generalize sNe imm 0 = b1
    generalize sNe sym 0 = b2
    generalize sNe elem 0 = b3
    cases nw <;> cases b1 <;> cases b2 <;> cases b3 <;> rfl
  have e30 : sEq op 30 = false := by simpa [sEq] using h30
  have f30 : sNe op 30 = true := by simpa [sNe] using h30
  simp only [fieldsV, intOf, r30, fmtR, e5, f5,e6, f6,e7, f7,e26, f26,e1, f1,e33, f33,e25, f25,e30, f30]
  generalize sNe imm 0 = b1
  generalize sNe sym 0 = b2
  generalize sNe elem 0 = b3
  cases nw <;> cases b1 <;> cases b2 <;> cases b3 <;> rfl
def notR (op sym : Int) (gs : List gloS.den) (fs : List funS.den) : Bool :=
  sIf (sIf (sEq op 25) (sIf (sLt sym 0) true (sLe (gs.length : Int) sym)) false) true (sIf (sEq op 30) (sIf (sLt sym 0) true (sLe (fs.length : Int) sym)) false)
theorem sym_eq (op sym : Int) (gs : List gloS.den) (fs : List funS.den) : symV op sym gs fs = sIf (notR op sym gs fs) 8 0 := by
  simp only [symV, intOf, r31, notR]
  generalize sEq op 25 = b1
  generalize sLt sym 0 = b2
  generalize sLe (gs.length : Int) sym = b3
  generalize sEq op 30 = b4
  generalize sLe (fs.length : Int) sym = b5
  cases b1 <;> cases b2 <;> cases b3 <;> cases b4 <;> cases b5 <;> rfl
set_option maxHeartbeats 0 in
theorem cnt_eq {op : Int} (h1 : 1 ≤ op) (h2 : op ≤ 33) (iargs : List Int) (sym : Int) (fs : List funS.den) : sIf (sNot (cntB op iargs sym fs)) true (sNe (cntN op iargs sym fs) (iargs.length : Int)) = !decide (iargs.length = wantN op iargs.length sym fs) := by
  have : op = 1 ∨ op = 2 ∨ op = 3 ∨ op = 4 ∨ op = 5 ∨ op = 6 ∨ op = 7 ∨ op = 8 ∨ op = 9 ∨ op = 10 ∨ op = 11 ∨ op = 12 ∨ op = 13 ∨ op = 14 ∨ op = 15 ∨ op = 16 ∨ op = 17 ∨ op = 18 ∨ op = 19 ∨ op = 20 ∨ op = 21 ∨ op = 22 ∨ op = 23 ∨ op = 24 ∨ op = 25 ∨ op = 26 ∨ op = 27 ∨ op = 28 ∨ op = 29 ∨ op = 30 ∨ op = 31 ∨ op = 32 ∨ op = 33 := by omega
  rcases this with rfl | rfl | rfl | rfl | rfl | rfl | rfl | rfl | rfl | rfl | rfl | rfl | rfl | rfl | rfl | rfl | rfl | rfl | rfl | rfl | rfl | rfl | rfl | rfl | rfl | rfl | rfl | rfl | rfl | rfl | rfl | rfl | rfl
  all_goals
    simp [cntB, cntN, sndOf, fstOf, r36, sIf, sNot, sEq_d, sNe_d, wantN]
    try grind
    try (rw [← List.length_eq_zero_iff]; omega)
theorem res_ref {op ty dst : Int} {regs : List Int} (h : -1 ≤ dst) : (sIf (sIf (sIf (sEq ty 0) (sNe dst (-1)) false) true (sIf (sIf (sNe ty 0) (sEq dst (-1)) false) (sNe op 30) false)) true (sIf (sLe 0 dst) (sNe (regs.getD dst.toNat 0) ty) false)) = sNot (resV op ty dst regs) := by
  have : resV op ty dst regs = (if ty = 0 then decide (dst = -1) else if dst = -1 then decide (op = 30) else decide (regs.getD dst.toNat 0 = ty)) := by
    simp only [resV, boolOf, r34]
    by_cases h1 : ty = 0 <;> by_cases h2 : dst = -1 <;> simp [h1, h2, sIf, sEq_d]
  rw [this]
  simp only [sEq_d, sNe_d, sLe, sNot, sIf]
  by_cases h1 : ty = 0 <;> by_cases h2 : dst = -1 <;> by_cases h3 : 0 ≤ dst <;> simp [h1, h2, h3] <;> omega
theorem same_nil (t : Int) : sameV [] t = true := rfl
theorem same_cons (a : Int) (l : List Int) (t : Int) : sameV (a :: l) t = (decide (a = t) && sameV l t) := by
  unfold sameV
  rw [List.findIdx_cons]
  by_cases h : a = t
  · simp [h, sNe]
  · have hb : (a != t) = true := by simpa using h
    simp [h, sNe, hb]
set_option maxHeartbeats 0 in
theorem typed_0 {op : Int} (h : op = 1 ∨ op = 2 ∨ op = 25 ∨ op = 26) (ty sym : Int) (fs : List funS.den) : typedV op ty sym [] fs = resR op ty [] sym fs := by
  rcases h with rfl | rfl | rfl | rfl
  all_goals
    simp [typedV, boolOf, r33, resR, r37, sIf, sEq_d, sNe_d, sLt, sLe, same_nil, same_cons]
    try grind [integ, wideT, anyT, vecT, cellT, bitsOf, accOf]
set_option maxHeartbeats 0 in
theorem typed_1 {op : Int} (h : op = 3 ∨ op = 4 ∨ op = 22 ∨ op = 23 ∨ op = 24 ∨ op = 28 ∨ op = 31 ∨ op = 33) (ty sym x a : Int) (fs : List funS.den) : typedV op ty sym [a] fs = (resR op ty [x] sym fs && opdR op ty sym fs 0 a a) := by
  rcases h with rfl | rfl | rfl | rfl | rfl | rfl | rfl | rfl
  all_goals
    simp [typedV, boolOf, r33, resR, r37, opdR, r38, sIf, sEq_d, sNe_d, sLt, sLe, same_nil, same_cons]
    try grind [integ, wideT, anyT, vecT, cellT, bitsOf, accOf]
set_option maxHeartbeats 0 in
theorem typed_2 {op : Int} (h1 : 1 ≤ op) (h2 : op ≤ 33) (h : ¬ (op = 1 ∨ op = 2 ∨ op = 25 ∨ op = 26 ∨ op = 3 ∨ op = 4 ∨ op = 22 ∨ op = 23 ∨ op = 24 ∨ op = 28 ∨ op = 31 ∨ op = 33 ∨ op = 21 ∨ op = 30)) (ty sym x y a b : Int) (fs : List funS.den) :
    typedV op ty sym [a, b] fs = (resR op ty [x, y] sym fs && (opdR op ty sym fs 0 a a && opdR op ty sym fs 1 b a)) := by
  have : op = 5 ∨ op = 6 ∨ op = 7 ∨ op = 8 ∨ op = 9 ∨ op = 10 ∨ op = 11 ∨ op = 12 ∨ op = 13 ∨ op = 14 ∨ op = 15 ∨ op = 16 ∨ op = 17 ∨ op = 18 ∨ op = 19 ∨ op = 20 ∨ op = 27 ∨ op = 29 ∨ op = 32 := by omega
  rcases this with rfl | rfl | rfl | rfl | rfl | rfl | rfl | rfl | rfl | rfl | rfl | rfl | rfl | rfl | rfl | rfl | rfl | rfl | rfl
  all_goals
    simp [typedV, boolOf, r33, resR, r37, opdR, r38, sIf, sEq_d, sNe_d, sLt, sLe, same_nil, same_cons]
    try grind [integ, wideT, anyT, vecT, cellT, bitsOf, accOf]
set_option maxHeartbeats 0 in
theorem typed_3 (ty sym x y z a b c : Int) (fs : List funS.den) : typedV 21 ty sym [a, b, c] fs = (resR 21 ty [x, y, z] sym fs && (opdR 21 ty sym fs 0 a a && (opdR 21 ty sym fs 1 b a && opdR 21 ty sym fs 2 c a))) := by
  simp [typedV, boolOf, r33, resR, r37, opdR, r38, sIf, sEq_d, sNe_d, sLt, sLe, same_nil, same_cons]
  try grind [integ, wideT, anyT, vecT, cellT, bitsOf, accOf]
set_option maxHeartbeats 0 in
theorem typed_4 (ty sym x y z u a b c e : Int) (fs : List funS.den) : typedV 32 ty sym [a, b, c, e] fs = (resR 32 ty [x, y, z, u] sym fs && (opdR 32 ty sym fs 0 a a && (opdR 32 ty sym fs 1 b a && (opdR 32 ty sym fs 2 c a && opdR 32 ty sym fs 3 e a)))) := by
  simp [typedV, boolOf, r33, resR, r37, opdR, r38, sIf, sEq_d, sNe_d, sLt, sLe, same_nil, same_cons]
  try grind [integ, wideT, anyT, vecT, cellT, bitsOf, accOf]
end Go.Proofs.YtlidfaaajjfgfaaDoor
