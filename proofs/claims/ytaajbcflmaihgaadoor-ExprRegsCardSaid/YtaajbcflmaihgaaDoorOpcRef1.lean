/- The parts of the reference's check of an instruction as functions, and their contracts. No conditions. -/
import Derived.Test.YtaajbcflmaihgaaDoorOpcTab3
set_option linter.all false
namespace Go.Proofs.YtaajbcflmaihgaaDoor
open Go Ab
set_option maxRecDepth 100000
def fstOf (x : Option (Bool × AV)) : Int := match x with | some (_, .tup [.int _ n, .bool _]) => n | _ => 0
def sndOf (x : Option (Bool × AV)) : Bool := match x with | some (_, .tup [.int _ _, .bool b]) => b | _ => false
noncomputable def r52 (t : Int) (n : Int) : Option (Bool × AV) := (
  let q0 : Bool := Tg.isN (Tg.block 0 (Tg.mix (sEq (bitsOf t) 1) Tg.r (Tg.mix (sEq (bitsOf t) 8) Tg.r (Tg.mix (sEq (bitsOf t) 32) Tg.r (Tg.mix (sEq (bitsOf t) 64) Tg.r Tg.n))))); some (sAnd true (sAnd true (sAnd (sAnd true (sAnd true (sAnd true (sIf (sEq (bitsOf t) 1) true (sAnd true (sAnd true (sIf (sEq (bitsOf t) 8) true (sAnd true (sAnd true (sIf (sEq (bitsOf t) 32) true (sAnd true (sAnd true (sIf (sEq (bitsOf t) 64) true true))))))))))))) (sIf q0 true true))), AV.int IntKind.u64 (sIf q0 0 (sIf (sEq (bitsOf t) 1) (Int.tmod (IntKind.wrap IntKind.u64 n) 2) (sIf (sEq (bitsOf t) 8) (Int.tmod (IntKind.wrap IntKind.u64 n) 256) (sIf (sEq (bitsOf t) 32) (Int.tmod (IntKind.wrap IntKind.u64 n) 4294967296) (IntKind.wrap IntKind.u64 n)))))))
theorem nf52 (t : Int) (n : Int) : exFn (gN b46) Tryd.f98 [AV.int IntKind.i64 t, AV.int IntKind.i64 n] = r52 t n := by kernel_rfl
noncomputable def unsV (t : Int) (n : Int) : Int := intOf (r52 t n)
theorem eta52 (t : Int) (n : Int) (h : okOf (r52 t n) = true) : r52 t n = some (true, .int .u64 (unsV t n)) := by
  rw [← h]
  rfl
noncomputable def r36 (op : Int) (iargs : List Int) (sym : Int) (fs : List (Sh.den funS)) : Option (Bool × AV) := (
  let q0 : Tg := Tg.mix (sEq op 1) Tg.n (Tg.mix (sEq op 2) Tg.n (Tg.mix (sEq op 25) Tg.n Tg.n));
  let q1 : Bool := sIf (sEq op 1) (sEq op 1) (sIf (sEq op 2) (sEq op 2) (sIf (sEq op 25) (sEq op 25) (sEq op 26)));
  let q2 : Tg := Tg.mix (sEq op 3) Tg.n (Tg.mix (sEq op 4) Tg.n (Tg.mix (sEq op 22) Tg.n (Tg.mix (sEq op 23) Tg.n (Tg.mix (sEq op 24) Tg.n (Tg.mix (sEq op 28) Tg.n (Tg.mix (sEq op 31) Tg.n Tg.n))))));
  let q3 : Bool := sIf (sEq op 3) (sEq op 3) (sIf (sEq op 4) (sEq op 4) (sIf (sEq op 22) (sEq op 22) (sIf (sEq op 23) (sEq op 23) (sIf (sEq op 24) (sEq op 24) (sIf (sEq op 28) (sEq op 28) (sIf (sEq op 31) (sEq op 31) (sEq op 33)))))));
  let q4 : Bool := sEq (↑(List.length iargs)) 2;
  let q5 : Bool := sNot q4;
  let q6 : Bool := sNot q5;
  let q7 : Bool := sOr q6 q5;
  let q8 : Bool := Tg.isN (Tg.block 0 (Tg.thenN q0 (Tg.mix q1 Tg.r (Tg.thenN q2 (Tg.mix q3 Tg.r (Tg.mix (sEq op 21) Tg.r (Tg.mix (sEq op 30) Tg.r (Tg.mix (sEq op 32) Tg.r Tg.n)))))))); some (sAnd true (sAnd (sAnd true (sAnd (sAnd true (sAnd true (sIf (sEq op 1) true (sAnd true (sAnd true (sIf (sEq op 2) true (sAnd true (sAnd true (sIf (sEq op 25) true true))))))))) (sIf (Tg.isN q0) (sAnd true (sIf q1 true (sAnd (sAnd true (sAnd true (sIf (sEq op 3) true (sAnd true (sAnd true (sIf (sEq op 4) true (sAnd true (sAnd true (sIf (sEq op 22) true (sAnd true (sAnd true (sIf (sEq op 23) true (sAnd true (sAnd true (sIf (sEq op 24) true (sAnd true (sAnd true (sIf (sEq op 28) true (sAnd true (sAnd true (sIf (sEq op 31) true true))))))))))))))))))))) (sIf (Tg.isN q2) (sAnd true (sIf q3 true (sAnd true (sAnd true (sIf (sEq op 21) true (sAnd true (sAnd true (sIf (sEq op 30) (sAnd (sAnd true (sAnd true (sAnd true (sAnd true (sAnd (sAnd true (sAnd (sLe 0 sym) (sLt sym ↑(List.length fs)))) true))))) true) (sAnd true (sAnd true (sIf (sEq op 32) (sAnd (sAnd (sAnd true (sAnd true (sAnd true (sAnd true (sAnd true (sAnd true (sAnd true (sAnd true (sAnd (sOr q6 true) (sAnd q7 (sAnd q7 (sAnd (sOr q6 (sAnd (sAnd q5 true) true)) (sAnd (sAnd true (sIf q4 true q5)) true))))))))))))) true) true) true))))))))))) true)))) true))) (sIf q8 true true)), AV.tup [AV.int IntKind.i64 (sIf q8 2 (sIf q1 0 (sIf q3 1 (sIf (sEq op 21) 3 (sIf (sEq op 30) ↑(List.length (Prod.fst (Prod.snd (List.getD fs (Int.toNat sym) (Sh.dflt funS))))) ↑(List.length iargs)))))), AV.bool (sIf q8 true (sIf q1 true (sIf q3 true (sIf (sEq op 21) true (sIf (sEq op 30) true (sIf q4 true (sEq (↑(List.length iargs)) 4)))))))]))
theorem nf36 (op : Int) (ty : Int) (dst : Int) (iargs : List Int) (imm : Int) (sym : Int) (elem : Int) (nw : Bool) (gs : List (Sh.den gloS)) (fs : List (Sh.den funS)) : exFn (gN b46) Tryd.f72 [insA op ty dst iargs imm sym elem nw, modA gs fs] = r36 op iargs sym fs := by kernel_rfl
noncomputable def cntN (op : Int) (iargs : List Int) (sym : Int) (fs : List (Sh.den funS)) : Int := fstOf (r36 op iargs sym fs)
noncomputable def cntB (op : Int) (iargs : List Int) (sym : Int) (fs : List (Sh.den funS)) : Bool := sndOf (r36 op iargs sym fs)
theorem eta36 (op : Int) (iargs : List Int) (sym : Int) (fs : List (Sh.den funS)) (h : okOf (r36 op iargs sym fs) = true) : r36 op iargs sym fs = some (true, .tup [.int .i64 (cntN op iargs sym fs), .bool (cntB op iargs sym fs)]) := by
  rw [← h]
  rfl
noncomputable def r37 (op : Int) (ty : Int) (iargs : List Int) (sym : Int) (fs : List (Sh.den funS)) : Option (Bool × AV) := (
  let q0 : Tg := Tg.mix (sEq op 2) Tg.n (Tg.mix (sEq op 4) Tg.n Tg.n);
  let q1 : Bool := sIf (sEq op 2) (sEq op 2) (sIf (sEq op 4) (sEq op 4) (sEq op 21));
  let q2 : Tg := Tg.mix (sEq op 5) Tg.n (Tg.mix (sEq op 6) Tg.n Tg.n);
  let q3 : Bool := sIf (sEq op 5) (sEq op 5) (sIf (sEq op 6) (sEq op 6) (sEq op 7));
  let q4 : Bool := sIf (wideT ty) true (sEq ty 6);
  let q5 : Bool := sNot q4;
  let q6 : Bool := sNot q5;
  let q7 : Tg := Tg.mix (sEq op 8) Tg.n (Tg.mix (sEq op 9) Tg.n Tg.n);
  let q8 : Bool := sIf (sEq op 8) (sEq op 8) (sIf (sEq op 9) (sEq op 9) (sEq op 10));
  let q9 : Bool := sIf (integ ty) true (sEq ty 6);
  let q10 : Bool := sNot q9;
  let q11 : Bool := sNot q10;
  let q12 : Tg := Tg.mix (sEq op 11) Tg.n (Tg.mix (sEq op 12) Tg.n (Tg.mix (sEq op 13) Tg.n (Tg.mix (sEq op 14) Tg.n Tg.n)));
  let q13 : Bool := sIf (sEq op 11) (sEq op 11) (sIf (sEq op 12) (sEq op 12) (sIf (sEq op 13) (sEq op 13) (sIf (sEq op 14) (sEq op 14) (sEq op 15))));
  let q14 : Tg := Tg.mix (sEq op 16) Tg.n (Tg.mix (sEq op 17) Tg.n (Tg.mix (sEq op 18) Tg.n (Tg.mix (sEq op 19) Tg.n Tg.n)));
  let q15 : Bool := sIf (sEq op 16) (sEq op 16) (sIf (sEq op 17) (sEq op 17) (sIf (sEq op 18) (sEq op 18) (sIf (sEq op 19) (sEq op 19) (sEq op 20))));
  let q16 : Bool := sNot (sNot (sEq ty 3));
  let q17 : Bool := sNot (sNot (sEq ty 1));
  let q18 : Bool := sIf (sEq ty 1) true (sEq ty 2);
  let q19 : Bool := sNot q18;
  let q20 : Bool := sNot q19;
  let q21 : Tg := Tg.mix (sEq op 25) Tg.n (Tg.mix (sEq op 26) Tg.n Tg.n);
  let q22 : Bool := sIf (sEq op 25) (sEq op 25) (sIf (sEq op 26) (sEq op 26) (sEq op 27));
  let q23 : Tg := Tg.mix (sEq op 29) Tg.n Tg.n;
  let q24 : Bool := sIf (sEq op 29) (sEq op 29) (sEq op 31);
  let q25 : Bool := sOr (sNot (sEq ty 6)) (sEq ty 6);
  let q26 : Bool := sIf (sEq ty 6) (sEq (↑(List.length iargs)) 2) false;
  let q27 : Bool := sNot q26;
  let q28 : Bool := sNot q27;
  let q29 : Bool := sAnd q27 (sEq ty 7);
  let q30 : Bool := sNot q29;
  let q31 : Bool := sOr q30 q29;
  let q32 : Bool := Tg.isN (Tg.block 0 (Tg.mix (sEq op 1) Tg.r (Tg.thenN q0 (Tg.mix q1 Tg.r (Tg.mix (sEq op 3) Tg.r (Tg.thenN q2 (Tg.mix q3 Tg.r (Tg.thenN q7 (Tg.mix q8 Tg.r (Tg.thenN q12 (Tg.mix q13 Tg.r (Tg.thenN q14 (Tg.mix q15 Tg.r (Tg.mix (sEq op 22) Tg.r (Tg.mix (sEq op 23) Tg.r (Tg.mix (sEq op 24) Tg.r (Tg.thenN q21 (Tg.mix q22 Tg.r (Tg.mix (sEq op 28) Tg.r (Tg.thenN q23 (Tg.mix q24 Tg.r (Tg.mix (sEq op 30) Tg.r (Tg.mix (sEq op 32) Tg.r Tg.n))))))))))))))))))))))); some (sAnd true (sAnd true (sAnd (sAnd true (sAnd true (sAnd true (sIf (sEq op 1) true (sAnd (sAnd true (sAnd true (sIf (sEq op 2) true (sAnd true (sAnd true (sIf (sEq op 4) true true)))))) (sIf (Tg.isN q0) (sAnd true (sIf q1 true (sAnd true (sAnd true (sIf (sEq op 3) (sAnd (sAnd true (sAnd true (sAnd true (sAnd (sOr (sNot (anyT ty)) true) (sAnd (sOr (sNot (anyT ty)) (sAnd (sAnd (anyT ty) true) true)) (sAnd (sAnd true (sIf (anyT ty) (anyT ty) true)) true)))))) true) (sAnd (sAnd true (sAnd true (sIf (sEq op 5) true (sAnd true (sAnd true (sIf (sEq op 6) true true)))))) (sIf (Tg.isN q2) (sAnd true (sIf q3 (sAnd (sAnd true (sAnd true (sAnd true (sAnd (sOr (sNot (sNot (wideT ty))) true) (sAnd (sOr (sNot (sNot (wideT ty))) (sAnd (sAnd (sNot (wideT ty)) true) true)) (sAnd (sAnd true (sIf (wideT ty) true (sNot (wideT ty)))) (sAnd true (sAnd (sOr q6 true) (sAnd (sOr q6 (sAnd (sAnd q5 true) true)) (sAnd (sAnd true (sIf q4 true q5)) true)))))))))) true) (sAnd (sAnd true (sAnd true (sIf (sEq op 8) true (sAnd true (sAnd true (sIf (sEq op 9) true true)))))) (sIf (Tg.isN q7) (sAnd true (sIf q8 (sAnd (sAnd true (sAnd true (sAnd true (sAnd (sOr (sNot (sNot (integ ty))) true) (sAnd (sOr (sNot (sNot (integ ty))) (sAnd (sAnd (sNot (integ ty)) true) true)) (sAnd (sAnd true (sIf (integ ty) true (sNot (integ ty)))) (sAnd true (sAnd (sOr q11 true) (sAnd (sOr q11 (sAnd (sAnd q10 true) true)) (sAnd (sAnd true (sIf q9 true q10)) true)))))))))) true) (sAnd (sAnd true (sAnd true (sIf (sEq op 11) true (sAnd true (sAnd true (sIf (sEq op 12) true (sAnd true (sAnd true (sIf (sEq op 13) true (sAnd true (sAnd true (sIf (sEq op 14) true true)))))))))))) (sIf (Tg.isN q12) (sAnd true (sIf q13 true (sAnd (sAnd true (sAnd true (sIf (sEq op 16) true (sAnd true (sAnd true (sIf (sEq op 17) true (sAnd true (sAnd true (sIf (sEq op 18) true (sAnd true (sAnd true (sIf (sEq op 19) true true)))))))))))) (sIf (Tg.isN q14) (sAnd true (sIf q15 true (sAnd true (sAnd true (sIf (sEq op 22) (sAnd (sAnd true (sAnd true (sAnd true (sAnd (sOr q16 true) (sAnd (sOr q16 (sAnd (sAnd (sNot (sEq ty 3)) true) true)) (sAnd (sAnd true (sIf (sEq ty 3) true (sNot (sEq ty 3)))) true)))))) true) (sAnd true (sAnd true (sIf (sEq op 23) true (sAnd true (sAnd true (sIf (sEq op 24) (sAnd (sAnd true (sAnd true (sAnd true (sAnd (sOr q17 true) (sAnd (sOr q17 (sAnd (sAnd (sNot (sEq ty 1)) true) true)) (sAnd (sAnd true (sIf (sEq ty 1) true (sNot (sEq ty 1)))) (sAnd true (sAnd (sOr q20 true) (sAnd (sOr q20 (sAnd (sAnd q19 true) true)) (sAnd (sAnd true (sIf q18 true q19)) true)))))))))) true) (sAnd (sAnd true (sAnd true (sIf (sEq op 25) true (sAnd true (sAnd true (sIf (sEq op 26) true true)))))) (sIf (Tg.isN q21) (sAnd true (sIf q22 true (sAnd true (sAnd true (sIf (sEq op 28) true (sAnd (sAnd true (sAnd true (sIf (sEq op 29) true true))) (sIf (Tg.isN q23) (sAnd true (sIf q24 true (sAnd true (sAnd true (sIf (sEq op 30) (sAnd (sAnd true (sAnd true (sAnd true (sAnd true (sAnd true (sAnd (sAnd true (sAnd (sLe 0 sym) (sLt sym ↑(List.length fs)))) true)))))) true) (sAnd true (sAnd true (sIf (sEq op 32) (sAnd (sAnd true (sAnd true (sAnd true (sAnd (sOr (sNot (sEq ty 6)) true) (sAnd q25 (sAnd q25 (sAnd (sOr (sNot (sEq ty 6)) (sAnd (sAnd (sEq ty 6) true) true)) (sAnd (sAnd true (sIf (sEq ty 6) (sEq ty 6) true)) (sAnd true (sAnd (sOr q28 true) (sAnd (sOr q28 (sAnd (sAnd q27 true) true)) (sAnd (sOr q28 q27) (sAnd (sOr q30 true) (sAnd q31 (sAnd q31 (sAnd (sOr q30 (sAnd (sAnd q29 true) true)) (sAnd (sOr q28 (sAnd q27 (sIf (sEq ty 7) q29 true))) (sAnd (sAnd true (sIf q26 true q27)) true)))))))))))))))))) true) true)))))))) true))))))) true))))))))))))) true)))) true)))) true)))) true))))))) true)))))) (sIf q32 true true))), AV.bool (sIf q32 (sEq ty 3) (sIf (sEq op 1) (integ ty) (sIf q1 (anyT ty) (sIf (sEq op 3) (sIf (anyT ty) (sNe ty 5) false) (sIf q3 (sIf q4 true (sEq ty 7)) (sIf q8 (sIf q9 true (sEq ty 7)) (sIf q13 (wideT ty) (sIf q15 (sEq ty 1) (sIf (sEq op 22) (sIf (sEq ty 3) true (sEq ty 4)) (sIf (sEq op 23) (wideT ty) (sIf (sEq op 24) (sIf q18 true (sEq ty 3)) (sIf q22 (sEq ty 5) (sIf (sEq op 28) (sLt 0 (Prod.snd (accOf ty))) (sIf q24 (sEq ty 0) (sIf (sEq op 30) (sEq ty (Prod.fst (Prod.snd (Prod.snd (List.getD fs (Int.toNat sym) (Sh.dflt funS)))))) (sIf q26 true (sIf (sEq ty 7) (sEq (↑(List.length iargs)) 4) false)))))))))))))))))))
theorem nf37 (op : Int) (ty : Int) (dst : Int) (iargs : List Int) (imm : Int) (sym : Int) (elem : Int) (nw : Bool) (gs : List (Sh.den gloS)) (fs : List (Sh.den funS)) : exFn (gN b46) Tryd.f73 [insA op ty dst iargs imm sym elem nw, modA gs fs] = r37 op ty iargs sym fs := by kernel_rfl
noncomputable def resR (op : Int) (ty : Int) (iargs : List Int) (sym : Int) (fs : List (Sh.den funS)) : Bool := boolOf (r37 op ty iargs sym fs)
theorem eta37 (op : Int) (ty : Int) (iargs : List Int) (sym : Int) (fs : List (Sh.den funS)) (h : okOf (r37 op ty iargs sym fs) = true) : r37 op ty iargs sym fs = some (true, .bool (resR op ty iargs sym fs)) := by
  rw [← h]
  rfl
noncomputable def r38 (op : Int) (ty : Int) (sym : Int) (fs : List (Sh.den funS)) (k : Int) (a : Int) (first : Int) : Option (Bool × AV) := (
  let q0 : Tg := Tg.mix (sEq op 16) Tg.n Tg.n;
  let q1 : Bool := sIf (sEq op 16) (sEq op 16) (sEq op 17);
  let q2 : Bool := sOr (sNot (sEq a first)) (sAnd (sAnd (sEq a first) true) true);
  let q3 : Bool := sAnd (sAnd true (sIf (sEq a first) (sEq a first) true)) true;
  let q4 : Tg := Tg.mix (sEq op 18) Tg.n (Tg.mix (sEq op 19) Tg.n Tg.n);
  let q5 : Bool := sIf (sEq op 18) (sEq op 18) (sIf (sEq op 19) (sEq op 19) (sEq op 20));
  let q6 : Bool := sOr (sNot (sEq k 0)) true;
  let q7 : Bool := sOr (sNot (sEq k 0)) (sAnd (sAnd (sEq k 0) true) true);
  let q8 : Bool := sAnd true (sIf (sEq k 0) (sEq k 0) true);
  let q9 : Bool := sIf (sEq k 0) (sEq a 1) false;
  let q10 : Bool := sNot q9;
  let q11 : Bool := sNot q10;
  let q12 : Bool := sAnd q10 (sLt 0 k);
  let q13 : Bool := sNot q12;
  let q14 : Bool := sOr q13 true;
  let q15 : Bool := sNot (sNot (sEq a 2));
  let q16 : Bool := sIf (sEq a 2) true (sEq a 3);
  let q17 : Bool := sNot q16;
  let q18 : Bool := sOr q17 true;
  let q19 : Bool := sNot (sNot (sEq a 1));
  let q20 : Bool := sIf (sEq a 1) true (sEq a 2);
  let q21 : Bool := sNot q20;
  let q22 : Bool := sNot q21;
  let q23 : Bool := sIf q20 true (sEq a 3);
  let q24 : Bool := sNot q23;
  let q25 : Bool := sOr q24 true;
  let q26 : Bool := sIf (sEq k 0) (sEq a 5) false;
  let q27 : Bool := sNot q26;
  let q28 : Bool := sNot q27;
  let q29 : Bool := sAnd q27 (sEq k 1);
  let q30 : Bool := sNot q29;
  let q31 : Bool := sAnd (sAnd true (sAnd true (sAnd true (sAnd q6 (sAnd q7 (sAnd q8 (sAnd true (sAnd (sOr q28 true) (sAnd (sOr q28 (sAnd (sAnd q27 true) true)) (sAnd (sOr q28 q27) (sAnd (sOr q30 true) (sAnd (sOr q30 (sAnd (sAnd q29 true) true)) (sAnd (sOr q28 (sAnd q27 (sIf (sEq k 1) q29 true))) (sAnd (sAnd true (sIf q26 true q27)) true)))))))))))))) true;
  let q32 : Sh.den (Sh.prod (Sh.sl (Sh.int IntKind.i64)) (Sh.prod (Sh.int IntKind.i64) (Sh.prod (Sh.sl (Sh.int IntKind.i64)) (Sh.prod (Sh.sl blkS) Sh.unit)))) := Prod.snd (List.getD fs (Int.toNat sym) (Sh.dflt funS));
  let q33 : List Int := Prod.fst q32;
  let q34 : Int := List.getD q33 (Int.toNat k) (0 : Int);
  let q35 : Bool := sLe 0 q34;
  let q36 : Bool := sNot q35;
  let q37 : Bool := sOr q36 true;
  let q38 : Bool := sOr q36 q35;
  let q39 : List Int := Prod.fst (Prod.snd (Prod.snd q32));
  let q40 : Bool := sLt q34 ↑(List.length q39);
  let q41 : Bool := sIf q35 q40 false;
  let q42 : Bool := sNot q41;
  let q43 : Bool := sOr q42 true;
  let q44 : Bool := sOr q42 q41;
  let q45 : Bool := sAnd q41 q41;
  let q46 : Bool := sNot (sNot (sEq a 6));
  let q47 : Bool := Tg.isN (Tg.block 0 (Tg.thenN q0 (Tg.mix q1 Tg.r (Tg.thenN q4 (Tg.mix q5 Tg.r (Tg.mix (sEq op 21) Tg.r (Tg.mix (sEq op 22) Tg.r (Tg.mix (sEq op 23) Tg.r (Tg.mix (sEq op 24) Tg.r (Tg.mix (sEq op 27) Tg.r (Tg.mix (sEq op 28) Tg.r (Tg.mix (sEq op 29) Tg.r (Tg.mix (sEq op 30) Tg.r (Tg.mix (sEq op 31) Tg.r (Tg.mix (sEq op 32) Tg.r (Tg.mix (sEq op 33) Tg.r Tg.n)))))))))))))))); some (sAnd true (sAnd true (sAnd (sAnd true (sAnd (sAnd true (sAnd true (sIf (sEq op 16) true true))) (sIf (Tg.isN q0) (sAnd true (sIf q1 (sAnd (sAnd true (sAnd true (sAnd true (sAnd true (sAnd (sOr (sNot (sEq a first)) true) (sAnd q2 (sAnd (sOr (sNot (sEq a first)) (sEq a first)) (sAnd (sOr (sNot (sAnd (sEq a first) (sNot (integ a)))) true) (sAnd (sOr (sNot (sAnd (sEq a first) (sNot (integ a)))) (sAnd (sAnd (sAnd (sEq a first) (sNot (integ a))) true) true)) (sAnd (sOr (sNot (sEq a first)) (sAnd (sEq a first) (sIf (integ a) true (sAnd (sEq a first) (sNot (integ a)))))) q3)))))))))) true) (sAnd (sAnd true (sAnd true (sIf (sEq op 18) true (sAnd true (sAnd true (sIf (sEq op 19) true true)))))) (sIf (Tg.isN q4) (sAnd true (sIf q5 (sAnd (sAnd true (sAnd true (sAnd true (sAnd true (sAnd (sOr (sNot (sEq a first)) true) (sAnd q2 q3)))))) true) (sAnd true (sAnd true (sIf (sEq op 21) (sAnd (sAnd true (sAnd true (sAnd true (sAnd q6 (sAnd q7 (sAnd q8 (sAnd true (sAnd (sOr q11 true) (sAnd (sOr q11 (sAnd (sAnd q10 true) true)) (sAnd (sOr q11 q10) (sAnd q14 (sAnd q14 (sAnd (sOr q13 q12) (sAnd (sOr q13 (sAnd (sAnd q12 q12) true)) (sAnd (sOr q11 (sAnd q10 (sIf (sLt 0 k) q12 true))) (sAnd (sAnd true (sIf q9 true q10)) true)))))))))))))))) true) (sAnd true (sAnd true (sIf (sEq op 22) (sAnd (sAnd true (sAnd true (sAnd true (sAnd (sOr q15 true) (sAnd (sOr q15 (sAnd (sAnd (sNot (sEq a 2)) true) true)) (sAnd (sAnd true (sIf (sEq a 2) true (sNot (sEq a 2)))) (sAnd true (sAnd q18 (sAnd q18 (sAnd (sOr q17 (sAnd (sAnd q16 q16) true)) (sAnd (sAnd true (sIf q16 q16 true)) true))))))))))) true) (sAnd true (sAnd true (sIf (sEq op 23) (sAnd (sAnd true (sAnd true (sAnd true (sAnd (sOr q19 true) (sAnd (sOr q19 (sAnd (sAnd (sNot (sEq a 1)) true) true)) (sAnd (sAnd true (sIf (sEq a 1) true (sNot (sEq a 1)))) (sAnd true (sAnd (sOr q22 true) (sAnd (sOr q22 (sAnd (sAnd q21 true) true)) (sAnd (sAnd true (sIf q20 true q21)) (sAnd true (sAnd q25 (sAnd q25 (sAnd (sOr q24 (sAnd (sAnd q23 q23) true)) (sAnd (sAnd true (sIf q23 q23 true)) true))))))))))))))) true) (sAnd true (sAnd true (sIf (sEq op 24) (sAnd (sAnd true (sAnd true (sAnd true (sAnd (sOr (sNot (wideT a)) true) (sAnd (sOr (sNot (wideT a)) true) (sAnd (sOr (sNot (wideT a)) (sAnd (sAnd (wideT a) (wideT a)) true)) (sAnd (sAnd true (sIf (wideT a) (wideT a) true)) true))))))) true) (sAnd true (sAnd true (sIf (sEq op 27) q31 (sAnd true (sAnd true (sIf (sEq op 28) true (sAnd true (sAnd true (sIf (sEq op 29) (sAnd true q31) (sAnd true (sAnd true (sIf (sEq op 30) (sAnd (sAnd true (sAnd true (sAnd true (sAnd true (sAnd (sAnd true (sAnd (sLe 0 sym) (sLt sym ↑(List.length fs)))) true))))) (sAnd (sAnd true (sAnd true (sAnd true (sAnd (sAnd true (sAnd (sLe 0 k) (sLt k ↑(List.length q33)))) true)))) (sAnd (sAnd true (sAnd true (sAnd true (sAnd q37 (sAnd q37 (sAnd q38 (sAnd q38 (sAnd (sOr q36 (sAnd (sAnd q35 q35) true)) (sAnd (sAnd true (sIf q35 q35 true)) (sAnd true (sAnd q43 (sAnd q43 (sAnd q44 (sAnd q43 (sAnd (sOr q42 (sAnd q45 (sAnd q35 q40))) (sAnd q44 (sAnd (sOr q42 (sAnd q45 true)) (sAnd (sAnd true (sIf q41 q41 true)) true)))))))))))))))))) true))) (sAnd true (sAnd true (sIf (sEq op 31) true (sAnd true (sAnd true (sIf (sEq op 32) true (sAnd true (sAnd true (sIf (sEq op 33) (sAnd (sAnd true (sAnd true (sAnd true (sAnd (sOr q46 true) (sAnd (sOr q46 (sAnd (sAnd (sNot (sEq a 6)) true) true)) (sAnd (sAnd true (sIf (sEq a 6) true (sNot (sEq a 6)))) true)))))) true) true))))))))))))))))))))))))))))))))))) true)))) true))) (sIf q47 true true))), AV.bool (sIf q47 (sEq a ty) (sIf q1 (sIf (sEq a first) (sIf (integ a) true (sEq a 5)) false) (sIf q5 (sIf (sEq a first) (wideT a) false) (sIf (sEq op 21) (sIf q9 true (sIf (sLt 0 k) (sEq a ty) false)) (sIf (sEq op 22) (sIf q16 (sLt (bitsOf a) (bitsOf ty)) false) (sIf (sEq op 23) (sIf q23 (sLt (bitsOf a) (bitsOf ty)) false) (sIf (sEq op 24) (sIf (wideT a) (sLt (bitsOf ty) (bitsOf a)) false) (sIf (sEq op 27) (sIf q26 true (sIf (sEq k 1) (sEq a 4) false)) (sIf (sEq op 28) (sEq a 5) (sIf (sEq op 29) (sIf q26 true (sIf (sEq k 1) (sLt 0 (Prod.snd (accOf a))) false)) (sIf (sEq op 30) (sIf q41 (sEq a (List.getD q39 (Int.toNat q34) (0 : Int))) false) (sIf (sEq op 31) (anyT a) (sIf (sEq op 32) (sEq a 3) (sIf (sEq a 6) true (sEq a 7)))))))))))))))))
theorem nf38 (op : Int) (ty : Int) (dst : Int) (iargs : List Int) (imm : Int) (sym : Int) (elem : Int) (nw : Bool) (gs : List (Sh.den gloS)) (fs : List (Sh.den funS)) (k : Int) (a : Int) (first : Int) : exFn (gN b46) Tryd.f74 [insA op ty dst iargs imm sym elem nw, modA gs fs, AV.int IntKind.i64 k, AV.int IntKind.i64 a, AV.int IntKind.i64 first] = r38 op ty sym fs k a first := by kernel_rfl
noncomputable def opdR (op : Int) (ty : Int) (sym : Int) (fs : List (Sh.den funS)) (k : Int) (a : Int) (first : Int) : Bool := boolOf (r38 op ty sym fs k a first)
theorem eta38 (op : Int) (ty : Int) (sym : Int) (fs : List (Sh.den funS)) (k : Int) (a : Int) (first : Int) (h : okOf (r38 op ty sym fs k a first) = true) : r38 op ty sym fs k a first = some (true, .bool (opdR op ty sym fs k a first)) := by
  rw [← h]
  rfl

theorem good52 (t : Int) (n : Int) : okOf (r52 t n) = true := by
  rcases bits_cases t with h | h | h | h | h <;> simp only [r52, okOf, h] <;> rfl
set_option maxHeartbeats 0 in
theorem good36 (op : Int) (iargs : List Int) (sym : Int) (fs : List (Sh.den funS)) (h1 : 1 ≤ op) (h2 : op ≤ 33) (h3 : op = 30 → 0 ≤ sym ∧ sym < (fs.length : Int)) : okOf (r36 op iargs sym fs) = true := by
  have : op = 1 ∨ op = 2 ∨ op = 3 ∨ op = 4 ∨ op = 5 ∨ op = 6 ∨ op = 7 ∨ op = 8 ∨ op = 9 ∨ op = 10 ∨ op = 11 ∨ op = 12 ∨ op = 13 ∨ op = 14 ∨ op = 15 ∨ op = 16 ∨ op = 17 ∨ op = 18 ∨ op = 19 ∨ op = 20 ∨ op = 21 ∨ op = 22 ∨ op = 23 ∨ op = 24 ∨ op = 25 ∨ op = 26 ∨ op = 27 ∨ op = 28 ∨ op = 29 ∨ op = 30 ∨ op = 31 ∨ op = 32 ∨ op = 33 := by omega
  rcases this with rfl | rfl | rfl | rfl | rfl | rfl | rfl | rfl | rfl | rfl | rfl | rfl | rfl | rfl | rfl | rfl | rfl | rfl | rfl | rfl | rfl | rfl | rfl | rfl | rfl | rfl | rfl | rfl | rfl | rfl | rfl | rfl | rfl
  all_goals
    simp [r36, okOf, sAnd, sOr, sNot, sIf, sEq, sNe, sLt, sLe]
    try grind
set_option maxHeartbeats 0 in
theorem good37 (op : Int) (ty : Int) (iargs : List Int) (sym : Int) (fs : List (Sh.den funS)) (h1 : 1 ≤ op) (h2 : op ≤ 33) (h3 : op = 30 → 0 ≤ sym ∧ sym < (fs.length : Int)) : okOf (r37 op ty iargs sym fs) = true := by
  have : op = 1 ∨ op = 2 ∨ op = 3 ∨ op = 4 ∨ op = 5 ∨ op = 6 ∨ op = 7 ∨ op = 8 ∨ op = 9 ∨ op = 10 ∨ op = 11 ∨ op = 12 ∨ op = 13 ∨ op = 14 ∨ op = 15 ∨ op = 16 ∨ op = 17 ∨ op = 18 ∨ op = 19 ∨ op = 20 ∨ op = 21 ∨ op = 22 ∨ op = 23 ∨ op = 24 ∨ op = 25 ∨ op = 26 ∨ op = 27 ∨ op = 28 ∨ op = 29 ∨ op = 30 ∨ op = 31 ∨ op = 32 ∨ op = 33 := by omega
  rcases this with rfl | rfl | rfl | rfl | rfl | rfl | rfl | rfl | rfl | rfl | rfl | rfl | rfl | rfl | rfl | rfl | rfl | rfl | rfl | rfl | rfl | rfl | rfl | rfl | rfl | rfl | rfl | rfl | rfl | rfl | rfl | rfl | rfl
  all_goals
    simp [r37, okOf, sAnd, sOr, sNot, sIf, sEq, sNe, sLt, sLe]
    try grind
set_option maxHeartbeats 0 in
theorem good38 (op : Int) (ty : Int) (sym : Int) (fs : List (Sh.den funS)) (k : Int) (a : Int) (first : Int) (h1 : 1 ≤ op) (h2 : op ≤ 33) (h3 : op = 30 → 0 ≤ sym ∧ sym < (fs.length : Int) ∧ 0 ≤ k ∧ k < ((fnAt fs sym).2.1.length : Int)) : okOf (r38 op ty sym fs k a first) = true := by
  have : op = 1 ∨ op = 2 ∨ op = 3 ∨ op = 4 ∨ op = 5 ∨ op = 6 ∨ op = 7 ∨ op = 8 ∨ op = 9 ∨ op = 10 ∨ op = 11 ∨ op = 12 ∨ op = 13 ∨ op = 14 ∨ op = 15 ∨ op = 16 ∨ op = 17 ∨ op = 18 ∨ op = 19 ∨ op = 20 ∨ op = 21 ∨ op = 22 ∨ op = 23 ∨ op = 24 ∨ op = 25 ∨ op = 26 ∨ op = 27 ∨ op = 28 ∨ op = 29 ∨ op = 30 ∨ op = 31 ∨ op = 32 ∨ op = 33 := by omega
  rcases this with rfl | rfl | rfl | rfl | rfl | rfl | rfl | rfl | rfl | rfl | rfl | rfl | rfl | rfl | rfl | rfl | rfl | rfl | rfl | rfl | rfl | rfl | rfl | rfl | rfl | rfl | rfl | rfl | rfl | rfl | rfl | rfl | rfl
  all_goals
    simp [r38, okOf, sAnd, sOr, sNot, sIf, sEq, sNe, sLt, sLe]
    try grind
def okK (op sym k : Int) (fs : List funS.den) : Bool := okC op sym fs && decide (op = 30 → 0 ≤ k ∧ k < ((fnAt fs sym).2.1.length : Int))
theorem okC_1 {op sym : Int} {fs : List funS.den} (h : okC op sym fs = true) : 1 ≤ op ∧ op ≤ 33 ∧ (op = 30 → 0 ≤ sym ∧ sym < (fs.length : Int)) := by
  simp only [okC, Bool.and_eq_true, decide_eq_true_eq] at h
  exact ⟨h.1, h.2.1, fun e => by have := h.2.2; rw [if_pos e] at this; simpa using this⟩

noncomputable def n52 (xs : List AV) : Option (Bool × AV) :=
  match xs with
  | [.int .i64 t, .int .i64 n] =>  some (true, .int .u64 (unsV t n))
  | _ => none
noncomputable def e52T : Tab := (98, n52) :: dA
theorem ek52 (hm : Tryd.prog.follows .mixedOrders = true) : TabOk e52T := (dkA hm).cons (TabOk.readW (bk46 hm) hm Tryd.func98 (by decide) (by rfl) (by
  intro xs r h
  unfold n52 at h
  split at h
  · simp only [Option.bind_eq_some_iff, Option.some.injEq, Prod.mk.injEq] at h
    obtain ⟨h1, rfl⟩ := h
    skip
    exact (nf52 _ _).trans (eta52 _ _ (good52 _ _))
  · cases h))
noncomputable def n36 (xs : List AV) : Option (Bool × AV) :=
  match xs with
  | [a, c] => (asIns a).bind fun i => (asMod c).bind fun m => some (okC i.1 i.2.2.2.2.2.1 m.2, .tup [.int .i64 (cntN i.1 i.2.2.2.1 i.2.2.2.2.2.1 m.2), .bool (cntB i.1 i.2.2.2.1 i.2.2.2.2.2.1 m.2)])
  | _ => none
noncomputable def e36T : Tab := (72, n36) :: e52T
theorem ek36 (hm : Tryd.prog.follows .mixedOrders = true) : TabOk e36T := (ek52 hm).cons (TabOk.readW (bk46 hm) hm Tryd.func72 (by decide) (by rfl) (by
  intro xs r h
  unfold n36 at h
  split at h
  · simp only [Option.bind_eq_some_iff, Option.some.injEq, Prod.mk.injEq] at h
    obtain ⟨i, hi, m, hm, h1, rfl⟩ := h
    rw [asIns_eq hi, asMod_eq hm]
    exact (nf36 _ _ _ _ _ _ _ _ _ _).trans (eta36 _ _ _ _ (good36 _ _ _ _ (okC_1 h1).1 (okC_1 h1).2.1 (okC_1 h1).2.2))
  · cases h))
noncomputable def n37 (xs : List AV) : Option (Bool × AV) :=
  match xs with
  | [a, c] => (asIns a).bind fun i => (asMod c).bind fun m => some (okC i.1 i.2.2.2.2.2.1 m.2, .bool (resR i.1 i.2.1 i.2.2.2.1 i.2.2.2.2.2.1 m.2))
  | _ => none
noncomputable def e37T : Tab := (73, n37) :: e36T
theorem ek37 (hm : Tryd.prog.follows .mixedOrders = true) : TabOk e37T := (ek36 hm).cons (TabOk.readW (bk46 hm) hm Tryd.func73 (by decide) (by rfl) (by
  intro xs r h
  unfold n37 at h
  split at h
  · simp only [Option.bind_eq_some_iff, Option.some.injEq, Prod.mk.injEq] at h
    obtain ⟨i, hi, m, hm, h1, rfl⟩ := h
    rw [asIns_eq hi, asMod_eq hm]
    exact (nf37 _ _ _ _ _ _ _ _ _ _).trans (eta37 _ _ _ _ _ (good37 _ _ _ _ _ (okC_1 h1).1 (okC_1 h1).2.1 (okC_1 h1).2.2))
  · cases h))
noncomputable def n38 (xs : List AV) : Option (Bool × AV) :=
  match xs with
  | [a, c, .int .i64 k, .int .i64 a1, .int .i64 a2] => (asIns a).bind fun i => (asMod c).bind fun m => some (okK i.1 i.2.2.2.2.2.1 k m.2, .bool (opdR i.1 i.2.1 i.2.2.2.2.2.1 m.2 k a1 a2))
  | _ => none
noncomputable def e38T : Tab := (74, n38) :: e37T
theorem ek38 (hm : Tryd.prog.follows .mixedOrders = true) : TabOk e38T := (ek37 hm).cons (TabOk.readW (bk46 hm) hm Tryd.func74 (by decide) (by rfl) (by
  intro xs r h
  unfold n38 at h
  split at h
  · simp only [Option.bind_eq_some_iff, Option.some.injEq, Prod.mk.injEq] at h
    obtain ⟨i, hi, m, hm, h1, rfl⟩ := h
    rw [asIns_eq hi, asMod_eq hm]; have g := Bool.and_eq_true_iff.1 h1; have g1 := okC_1 g.1; have g2 := of_decide_eq_true g.2
    exact (nf38 _ _ _ _ _ _ _ _ _ _ _ _ _).trans (eta38 _ _ _ _ _ _ _ (good38 _ _ _ _ _ _ _ g1.1 g1.2.1 (fun e => ⟨(g1.2.2 e).1, (g1.2.2 e).2, (g2 e).1, (g2 e).2⟩)))
  · cases h))
end Go.Proofs.YtaajbcflmaihgaaDoor
/- The reference's wrap of an integer, and that it is the program's. No conditions. -/
set_option linter.all false
namespace Go.Proofs.YtaajbcflmaihgaaDoor
open Go Ab
set_option maxRecDepth 100000
noncomputable def r39 (t n : Int) : Option (Bool × AV) := (
  let q0 : Bool := sLe 128 (unsV t n);
  let q1 : Bool := sLe 2147483648 (unsV t n);
  let q2 : Bool := Tg.isN (Tg.block 0 (Tg.mix (sEq (bitsOf t) 8) (Tg.mix q0 Tg.r Tg.n) (Tg.mix (sEq (bitsOf t) 32) (Tg.mix q1 Tg.r Tg.n) Tg.n))); some (sAnd true (sAnd true (sAnd (sAnd true (sAnd true (sAnd true (sIf (sEq (bitsOf t) 8) (sAnd true (sAnd true (sIf q0 true true))) (sAnd true (sAnd true (sIf (sEq (bitsOf t) 32) (sAnd true (sAnd true (sIf q1 true true))) true))))))) (sIf q2 true true))), AV.int IntKind.i64 (sIf q2 (IntKind.wrap IntKind.i64 (unsV t n)) (sIf (sEq (bitsOf t) 8) (IntKind.wrap IntKind.i64 (IntKind.wrap IntKind.i64 (unsV t n) - 256)) (IntKind.wrap IntKind.i64 (IntKind.wrap IntKind.i64 (unsV t n) - 4294967296))))))
theorem nf39 (t n : Int) : exFn (gN e38T) Tryd.f76 [AV.int IntKind.i64 t, AV.int IntKind.i64 n] = r39 t n := by kernel_rfl
noncomputable def wrapR (t n : Int) : Int := intOf (r39 t n)
theorem good39 (t n : Int) : okOf (r39 t n) = true := by
  rcases bits_cases t with h | h | h | h | h <;> simp [r39, okOf, h, sAnd, sIf, sEq]
theorem eta39 (t n : Int) : r39 t n = some (true, .int .i64 (wrapR t n)) := by
  have h := good39 t n
  rw [← h]
  rfl
noncomputable def n39 : List AV → Option (Bool × AV)
  | [.int .i64 t, .int .i64 n] => some (true, .int .i64 (wrapR t n))
  | _ => none
noncomputable def e39T : Tab := (76, n39) :: e38T
theorem ek39 (hm : Tryd.prog.follows .mixedOrders = true) : TabOk e39T := (ek38 hm).cons (TabOk.readW (ek38 hm) hm Tryd.func76 (by decide) (by rfl) (by
  intro xs r h
  unfold n39 at h
  split at h
  · cases h; exact (nf39 _ _).trans (eta39 _ _)
  · cases h))
theorem wrap_u64 (n : Int) : IntKind.wrap .u64 n = n % 18446744073709551616 := by
  unfold IntKind.wrap
  simp [IntKind.signed, IntKind.bits]
theorem wrap_i (n : Int) : IntKind.wrap .i64 n = (n + 9223372036854775808) % 18446744073709551616 - 9223372036854775808 := by
  unfold IntKind.wrap
  simp [IntKind.signed, IntKind.bits]
  try omega
theorem fdiv_pow (a : Int) {k : Int} (h : 0 ≤ k) : a.fdiv k = a / k := Int.fdiv_eq_ediv_of_nonneg a h
theorem tmod_pos {a k : Int} (h : 0 ≤ a) : a.tmod k = a % k := Int.tmod_eq_emod_of_nonneg h
theorem wrap_eq {t n : Int} (h1 : -9223372036854775808 ≤ n) (h2 : n ≤ 9223372036854775807) : wrapR t n = wrapV t n := by
  have hu : 0 ≤ n % 18446744073709551616 := Int.emod_nonneg _ (by decide)
  rcases bits_cases t with h | h | h | h | h
  · simp [wrapR, wrapV, intOf, r39, unsV, r52, h, sIf, sEq]
    rfl
  · simp [wrapR, wrapV, intOf, r39, unsV, r52, h, sIf, sEq]
    rw [wrap_u64, tmod_pos hu, Int.max_eq_left hu]
  · simp [wrapR, wrapV, intOf, r39, unsV, r52, h, sIf, sEq]
    rw [wrap_u64, tmod_pos hu, show min (IntKind.i64.wrap 56).toNat 64 = 56 from rfl, show (2 : Int) ^ 56 = 72057594037927936 from rfl, fdiv_pow _ (by decide)]
    simp only [wrap_i, sLe]
    by_cases hc : 128 ≤ n % 18446744073709551616 % 256
    · rw [decide_eq_true hc]
      simp only [cond_true]
      omega
    · rw [decide_eq_false hc]
      simp only [cond_false]
      omega
  · simp [wrapR, wrapV, intOf, r39, unsV, r52, h, sIf, sEq]
    rw [wrap_u64, tmod_pos hu, show min (IntKind.i64.wrap 32).toNat 64 = 32 from rfl, show (2 : Int) ^ 32 = 4294967296 from rfl, fdiv_pow _ (by decide)]
    simp only [wrap_i, sLe]
    by_cases hc : 2147483648 ≤ n % 18446744073709551616 % 4294967296
    · rw [decide_eq_true hc]
      simp only [cond_true]
      omega
    · rw [decide_eq_false hc]
      simp only [cond_false]
      omega
  · simp [wrapR, wrapV, intOf, r39, unsV, r52, h, sIf, sEq]
    rw [wrap_u64, show min (IntKind.i64.wrap 0).toNat 64 = 0 from rfl, show (2 : Int) ^ 0 = 1 from rfl, fdiv_pow _ (by decide)]
    simp only [wrap_i]
    omega
end Go.Proofs.YtaajbcflmaihgaaDoor
