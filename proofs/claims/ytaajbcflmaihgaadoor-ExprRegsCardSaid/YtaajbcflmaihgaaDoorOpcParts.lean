/- The parts of the check of an instruction as functions, and their contracts. No conditions. -/
import Derived.Test.YtaajbcflmaihgaaDoorOpcTab
set_option linter.all false
namespace Go.Proofs.YtaajbcflmaihgaaDoor
open Go Ab
set_option maxRecDepth 100000
def okOf (x : Option (Bool × AV)) : Bool := match x with | some (b, _) => b | none => false
def boolOf (x : Option (Bool × AV)) : Bool := match x with | some (_, .bool b) => b | _ => false
def intOf (x : Option (Bool × AV)) : Int := match x with | some (_, .int _ n) => n | _ => 0
noncomputable def r30 (op : Int) (imm : Int) (sym : Int) (elem : Int) (nw : Bool) : Option (Bool × AV) := (
  let q0 : Tg := Tg.mix (sEq op 5) Tg.n (Tg.mix (sEq op 6) Tg.n Tg.n);
  let q1 : Bool := sIf (sEq op 5) (sEq op 5) (sIf (sEq op 6) (sEq op 6) (sEq op 7));
  let q2 : Tg := Tg.thenN q0 (Tg.mix q1 (Tg.x 1) Tg.n);
  let q3 : Tg := Tg.mix (sEq op 26) (Tg.x 2) Tg.n;
  let q4 : Tg := Tg.mix (sEq op 1) Tg.n Tg.n;
  let q5 : Bool := sIf (sEq op 1) (sEq op 1) (sEq op 33);
  let q6 : Tg := Tg.thenN q4 (Tg.mix q5 (Tg.x 3) Tg.n);
  let q7 : Tg := Tg.mix (sEq op 25) Tg.n Tg.n;
  let q8 : Bool := sIf (sEq op 25) (sEq op 25) (sEq op 30);
  let q9 : Tg := Tg.thenN q2 (Tg.thenN q3 (Tg.thenN q6 (Tg.thenN q7 (Tg.mix q8 (Tg.x 4) Tg.n))));
  let q10 : Tg := Tg.block 1 (Tg.thenN q9 (Tg.x 0));
  let q11 : Bool := Tg.isN q10;
  let q12 : Tg := Tg.block 2 (Tg.thenN q10 (Tg.x 0));
  let q13 : Tg := Tg.thenN q12 Tg.n;
  let q14 : Tg := Tg.block 3 q13;
  let q15 : Bool := Tg.isN q14;
  let q16 : Tg := Tg.block 4 (Tg.thenN q14 (Tg.x 0));
  let q17 : Bool := Tg.isN q16;
  let q18 : Bool := sIf nw (sNot (sIf q17 false (sIf q15 false (sIf q11 true false)))) false;
  let q19 : Bool := sNot q18;
  let q20 : Bool := sNot q19;
  let q21 : Bool := sOr q20 q19;
  let q22 : Bool := sAnd q19 (sNe imm 0);
  let q23 : Bool := sNot q22;
  let q24 : Bool := sIf q18 true (sIf (sNe imm 0) (sNot (sIf q17 false (sIf q15 true false))) false);
  let q25 : Bool := sNot q24;
  let q26 : Bool := sNot q25;
  let q27 : Bool := sOr q26 q25;
  let q28 : Bool := sAnd q25 (sNe sym 0);
  let q29 : Bool := sNot q28;
  let q30 : Bool := sIf q24 true (sIf (sNe sym 0) (sNot (sIf q17 true false)) false);
  let q31 : Bool := sNot q30;
  let q32 : Bool := sNot q31;
  let q33 : Bool := sOr q32 q31;
  let q34 : Bool := sAnd q31 (sNe elem 0);
  let q35 : Bool := sNot q34;
  let q36 : Bool := sIf q30 true (sIf (sNe elem 0) (sNot (sIf q17 false (sIf q15 (sIf (Tg.isN q13) true false) false))) false);
  let q37 : Bool := Tg.isN (Tg.mix q36 Tg.r Tg.n); some (sAnd (sAnd (sAnd (sAnd (sAnd (sAnd (sAnd (sAnd (sIf (sEq op 5) true (sIf (sEq op 6) true true)) (sIf (Tg.isN q0) (sIf q1 true true) true)) (sIf (Tg.isN q2) (sAnd (sIf (sEq op 26) true true) (sIf (Tg.isN q3) (sAnd (sAnd (sIf (sEq op 1) true true) (sIf (Tg.isN q4) (sIf q5 true true) true)) (sIf (Tg.isN q6) (sAnd (sIf (sEq op 25) true true) (sIf (Tg.isN q7) (sIf q8 true true) true)) true)) true)) true)) (sIf (Tg.isN q9) true true)) (sIf q11 true true)) (sIf (Tg.isN q12) true true)) (sIf q15 true true)) (sIf q17 true true)) (sIf (Tg.isN (Tg.block 0 (Tg.thenN q16 (Tg.x 0)))) (sAnd (sAnd (sAnd (sOr (sNot nw) true) (sAnd (sOr (sNot nw) nw) (sAnd (sIf nw nw true) (sAnd (sOr q20 true) (sAnd q21 (sAnd (sOr q20 (sAnd (sAnd q19 true) true)) (sAnd q21 (sAnd (sOr q23 true) (sAnd (sOr q23 q22) (sAnd (sOr q20 (sAnd q19 (sIf (sNe imm 0) q22 true))) (sAnd (sIf q18 true q19) (sAnd (sOr q26 true) (sAnd q27 (sAnd (sOr q26 (sAnd (sAnd q25 true) true)) (sAnd q27 (sAnd (sOr q29 true) (sAnd (sOr q29 q28) (sAnd (sOr q26 (sAnd q25 (sIf (sNe sym 0) q28 true))) (sAnd (sIf q24 true q25) (sAnd (sOr q32 true) (sAnd q33 (sAnd (sOr q32 (sAnd (sAnd q31 true) true)) (sAnd q33 (sAnd (sOr q35 true) (sAnd (sOr q35 q34) (sAnd (sOr q32 (sAnd q31 (sIf (sNe elem 0) q34 true))) (sAnd (sIf q30 true q31) true))))))))))))))))))))))))))) (sIf q36 true true)) (sIf q37 true true)) true), AV.int IntKind.i64 (sIf q37 0 3)))
theorem nf30 (op : Int) (ty : Int) (dst : Int) (iargs : List Int) (imm : Int) (sym : Int) (elem : Int) (nw : Bool) : exFn (gN b46) Tryd.f45 [insA op ty dst iargs imm sym elem nw] = r30 op imm sym elem nw := by kernel_rfl
noncomputable def fieldsV (op : Int) (imm : Int) (sym : Int) (elem : Int) (nw : Bool) : Int := intOf (r30 op imm sym elem nw)
theorem eta30 (op : Int) (imm : Int) (sym : Int) (elem : Int) (nw : Bool) (h : okOf (r30 op imm sym elem nw) = true) : r30 op imm sym elem nw = some (true, .int .i64 (fieldsV op imm sym elem nw)) := by
  rw [← h]
  rfl
noncomputable def r31 (op : Int) (sym : Int) (gs : List (Sh.den gloS)) (fs : List (Sh.den funS)) : Option (Bool × AV) := (
  let q0 : Bool := sOr (sNot (sEq op 25)) (sEq op 25);
  let q1 : Bool := sAnd (sEq op 25) (sNot (sLt sym 0));
  let q2 : Bool := sNot q1;
  let q3 : Bool := sOr q2 true;
  let q4 : Bool := sOr q2 q1;
  let q5 : Bool := sIf (sEq op 25) (sIf (sLt sym 0) true (sLe (↑(List.length gs)) sym)) false;
  let q6 : Bool := sNot q5;
  let q7 : Bool := sNot q6;
  let q8 : Bool := sOr q7 q6;
  let q9 : Bool := sAnd q6 (sEq op 30);
  let q10 : Bool := sNot q9;
  let q11 : Bool := sOr q10 q9;
  let q12 : Bool := sAnd q9 (sNot (sLt sym 0));
  let q13 : Bool := sNot q12;
  let q14 : Bool := sOr q13 true;
  let q15 : Bool := sOr q13 q12;
  let q16 : Bool := sIf q5 true (sIf (sEq op 30) (sIf (sLt sym 0) true (sLe (↑(List.length fs)) sym)) false);
  let q17 : Bool := Tg.isN (Tg.mix q16 Tg.r Tg.n); some (sAnd (sAnd (sAnd (sOr (sNot (sEq op 25)) true) (sAnd q0 (sAnd (sOr (sNot (sEq op 25)) (sAnd (sAnd (sEq op 25) true) true)) (sAnd q0 (sAnd q3 (sAnd q4 (sAnd q3 (sAnd q4 (sAnd q4 (sAnd (sOr q2 (sAnd (sAnd q1 q1) true)) (sAnd (sOr (sNot (sEq op 25)) (sAnd (sEq op 25) (sIf (sLt sym 0) true q1))) (sAnd (sIf (sEq op 25) (sEq op 25) true) (sAnd (sOr q7 true) (sAnd q8 (sAnd (sOr q7 (sAnd (sAnd q6 true) true)) (sAnd q8 (sAnd (sOr q10 true) (sAnd q11 (sAnd (sOr q10 (sAnd (sAnd q9 true) true)) (sAnd q11 (sAnd q14 (sAnd q15 (sAnd q14 (sAnd q15 (sAnd q15 (sAnd (sOr q13 (sAnd (sAnd q12 q12) true)) (sAnd (sOr q10 (sAnd q9 (sIf (sLt sym 0) true q12))) (sAnd (sOr q7 (sAnd q6 (sIf (sEq op 30) q9 true))) (sAnd (sIf q5 true q6) true))))))))))))))))))))))))))))) (sIf q16 true true)) (sIf q17 true true), AV.int IntKind.i64 (sIf q17 0 8)))
theorem nf31 (op : Int) (ty : Int) (dst : Int) (iargs : List Int) (imm : Int) (sym : Int) (elem : Int) (nw : Bool) (gs : List (Sh.den gloS)) (fs : List (Sh.den funS)) : exFn (gN b46) Tryd.f46 [insA op ty dst iargs imm sym elem nw, modA gs fs] = r31 op sym gs fs := by kernel_rfl
noncomputable def symV (op : Int) (sym : Int) (gs : List (Sh.den gloS)) (fs : List (Sh.den funS)) : Int := intOf (r31 op sym gs fs)
theorem eta31 (op : Int) (sym : Int) (gs : List (Sh.den gloS)) (fs : List (Sh.den funS)) (h : okOf (r31 op sym gs fs) = true) : r31 op sym gs fs = some (true, .int .i64 (symV op sym gs fs)) := by
  rw [← h]
  rfl
noncomputable def r32 (op : Int) (iargs : List Int) (sym : Int) (fs : List (Sh.den funS)) : Option (Bool × AV) := (
  let q0 : Int := IntKind.wrap IntKind.i64 (op - 1);
  let q1 : Bool := sEq (↑(List.length iargs)) 4;
  let q2 : Bool := sNe (↑(List.length iargs)) (sIf (sEq op 30) (↑(List.length (Prod.fst (Prod.snd (List.getD fs (Int.toNat sym) (Sh.dflt funS)))))) (sIf (sEq op 32) (sIf q1 4 2) (Prod.fst (Prod.snd (List.getD rowsL (Int.toNat q0) (Sh.dflt (Sh.prod Sh.str (Sh.prod (Sh.int IntKind.i64) Sh.unit))))))));
  let q3 : Bool := Tg.isN (Tg.mix q2 Tg.r Tg.n); some (sAnd (sAnd (sAnd (sAnd (sLe 0 q0) (sLt q0 ↑33)) true) true) (sAnd (sIf (sEq op 30) (sAnd (sAnd (sLe 0 sym) (sLt sym ↑(List.length fs))) true) (sIf (sEq op 32) (sIf q1 true true) true)) (sIf (Tg.isN (Tg.block 0 (Tg.mix (sEq op 30) Tg.n (Tg.mix (sEq op 32) (Tg.mix q1 Tg.n Tg.n) Tg.n)))) (sAnd (sIf q2 true true) (sIf q3 true true)) true)), AV.int IntKind.i64 (sIf q3 0 3)))
theorem nf32 (op : Int) (ty : Int) (dst : Int) (iargs : List Int) (imm : Int) (sym : Int) (elem : Int) (nw : Bool) (gs : List (Sh.den gloS)) (fs : List (Sh.den funS)) : exFn (gN b46) Tryd.f47 [insA op ty dst iargs imm sym elem nw, modA gs fs] = r32 op iargs sym fs := by kernel_rfl
noncomputable def countV (op : Int) (iargs : List Int) (sym : Int) (fs : List (Sh.den funS)) : Int := intOf (r32 op iargs sym fs)
theorem eta32 (op : Int) (iargs : List Int) (sym : Int) (fs : List (Sh.den funS)) (h : okOf (r32 op iargs sym fs) = true) : r32 op iargs sym fs = some (true, .int .i64 (countV op iargs sym fs)) := by
  rw [← h]
  rfl
noncomputable def r33 (op : Int) (ty : Int) (sym : Int) (args : List Int) (fs : List (Sh.den funS)) : Option (Bool × AV) := (
  let q0 : Bool := sOr (sNot (anyT ty)) (sAnd (sAnd (anyT ty) true) true);
  let q1 : Bool := sIf (anyT ty) (sNe ty 5) false;
  let q2 : Bool := sNot q1;
  let q3 : Bool := sOr q2 true;
  let q4 : Tg := Tg.mix (sEq op 5) Tg.n (Tg.mix (sEq op 6) Tg.n Tg.n);
  let q5 : Bool := sIf (sEq op 5) (sEq op 5) (sIf (sEq op 6) (sEq op 6) (sEq op 7));
  let q6 : Bool := sOr (sNot (sIf (wideT ty) true (vecT ty))) true;
  let q7 : Tg := Tg.mix (sEq op 8) Tg.n (Tg.mix (sEq op 9) Tg.n Tg.n);
  let q8 : Bool := sIf (sEq op 8) (sEq op 8) (sIf (sEq op 9) (sEq op 9) (sEq op 10));
  let q9 : Bool := sOr (sNot (sIf (integ ty) true (vecT ty))) true;
  let q10 : Tg := Tg.mix (sEq op 11) Tg.n (Tg.mix (sEq op 12) Tg.n (Tg.mix (sEq op 13) Tg.n (Tg.mix (sEq op 14) Tg.n Tg.n)));
  let q11 : Bool := sIf (sEq op 11) (sEq op 11) (sIf (sEq op 12) (sEq op 12) (sIf (sEq op 13) (sEq op 13) (sIf (sEq op 14) (sEq op 14) (sEq op 15))));
  let q12 : Tg := Tg.mix (sEq op 16) Tg.n Tg.n;
  let q13 : Bool := sIf (sEq op 16) (sEq op 16) (sEq op 17);
  let q14 : Bool := sOr (sNot (sEq ty 1)) true;
  let q15 : Bool := sAnd (sEq ty 1) true;
  let q16 : Bool := sLt 0 ↑(List.length args);
  let q17 : Bool := sOr (sNot (sEq ty 1)) (sAnd q15 q16);
  let q18 : Bool := sOr (sNot (sEq ty 1)) (sEq ty 1);
  let q19 : Bool := sOr (sNot (sEq ty 1)) (sAnd q15 true);
  let q20 : Int := List.getD args 0 (0 : Int);
  let q21 : Bool := integ q20;
  let q22 : Bool := sAnd (sEq ty 1) (sNot q21);
  let q23 : Bool := sNot q22;
  let q24 : Bool := sAnd q22 true;
  let q25 : Bool := sIf (sEq ty 1) (sEq ty 1) true;
  let q26 : Bool := sEq q20 5;
  let q27 : Bool := sIf (sEq ty 1) (sIf q21 true q26) false;
  let q28 : Bool := sNot q27;
  let q29 : Bool := sOr q28 true;
  let q30 : Bool := sAnd q27 true;
  let q31 : Bool := sLt 1 ↑(List.length args);
  let q32 : Bool := sOr q28 q27;
  let q33 : Tg := Tg.mix (sEq op 18) Tg.n (Tg.mix (sEq op 19) Tg.n Tg.n);
  let q34 : Bool := sIf (sEq op 18) (sEq op 18) (sIf (sEq op 19) (sEq op 19) (sEq op 20));
  let q35 : Bool := wideT q20;
  let q36 : Bool := sIf (sEq ty 1) q35 false;
  let q37 : Bool := sNot q36;
  let q38 : Bool := sOr q37 true;
  let q39 : Bool := sAnd q36 true;
  let q40 : Bool := sOr q37 q36;
  let q41 : Bool := sEq q20 1;
  let q42 : Bool := sIf (anyT ty) q41 false;
  let q43 : Bool := sNot q42;
  let q44 : Bool := sOr q43 true;
  let q45 : Bool := sAnd q42 true;
  let q46 : Int := Option.getD none ↑(List.length args);
  let q47 : Bool := sEq q20 2;
  let q48 : Bool := sNot q47;
  let q49 : Bool := sNot q48;
  let q50 : Bool := sAnd q48 true;
  let q51 : Bool := sEq q20 3;
  let q52 : Bool := sIf q47 true q51;
  let q53 : Bool := sNot q52;
  let q54 : Bool := sAnd q52 (sNot (sEq ty 3));
  let q55 : Bool := sNot q54;
  let q56 : Bool := sIf q52 (sIf (sEq ty 3) true (sEq ty 4)) false;
  let q57 : Bool := sNot q56;
  let q58 : Bool := sOr q57 true;
  let q59 : Bool := sNot q41;
  let q60 : Bool := sNot q59;
  let q61 : Bool := sAnd q59 true;
  let q62 : Bool := sIf q41 true q47;
  let q63 : Bool := sNot q62;
  let q64 : Bool := sNot q63;
  let q65 : Bool := sAnd q63 true;
  let q66 : Bool := sIf q62 true q51;
  let q67 : Bool := sNot q66;
  let q68 : Bool := sIf q66 (wideT ty) false;
  let q69 : Bool := sNot q68;
  let q70 : Bool := sOr q69 true;
  let q71 : Bool := sNot q35;
  let q72 : Bool := sIf q35 (integ ty) false;
  let q73 : Bool := sNot q72;
  let q74 : Bool := sOr q73 true;
  let q75 : Tg := Tg.mix (sEq op 25) Tg.n Tg.n;
  let q76 : Bool := sIf (sEq op 25) (sEq op 25) (sEq op 26);
  let q77 : Bool := sAnd (sEq ty 5) true;
  let q78 : Bool := sIf (sEq ty 5) q26 false;
  let q79 : Bool := sNot q78;
  let q80 : Bool := sAnd q78 true;
  let q81 : Bool := sOr (sNot (sEq ty 0)) true;
  let q82 : Bool := sAnd (sEq ty 0) true;
  let q83 : Bool := sOr (sNot (sEq ty 0)) (sAnd q82 q16);
  let q84 : Bool := sOr (sNot (sEq ty 0)) (sEq ty 0);
  let q85 : Bool := sOr (sNot (sEq ty 0)) (sAnd q82 true);
  let q86 : Bool := sIf (sEq ty 0) (sEq ty 0) true;
  let q87 : Bool := sIf (sEq ty 0) q26 false;
  let q88 : Bool := sNot q87;
  let q89 : Bool := sAnd q87 true;
  let q90 : Nat := List.length (Prod.fst (Prod.snd (List.getD fs (Int.toNat sym) (Sh.dflt funS))));
  let q91 : Bool := sIf (sEq ty 6) (sEq (↑(List.length args)) 2) false;
  let q92 : Bool := sNot q91;
  let q93 : Bool := sNot q92;
  let q94 : Bool := sAnd q92 (sEq ty 7);
  let q95 : Bool := sNot q94;
  let q96 : Bool := sIf q91 true (sIf (sEq ty 7) (sEq (↑(List.length args)) 4) false);
  let q97 : Bool := sNot q96;
  let q98 : Bool := Tg.isN (Tg.block 0 (Tg.mix (sEq op 1) Tg.r (Tg.mix (sEq op 2) Tg.r (Tg.mix (sEq op 3) Tg.r (Tg.mix (sEq op 4) Tg.r (Tg.thenN q4 (Tg.mix q5 Tg.r (Tg.thenN q7 (Tg.mix q8 Tg.r (Tg.thenN q10 (Tg.mix q11 Tg.r (Tg.thenN q12 (Tg.mix q13 Tg.r (Tg.thenN q33 (Tg.mix q34 Tg.r (Tg.mix (sEq op 21) Tg.r (Tg.mix (sEq op 22) Tg.r (Tg.mix (sEq op 23) Tg.r (Tg.mix (sEq op 24) Tg.r (Tg.thenN q75 (Tg.mix q76 Tg.r (Tg.mix (sEq op 27) Tg.r (Tg.mix (sEq op 28) Tg.r (Tg.mix (sEq op 29) Tg.r (Tg.mix (sEq op 30) Tg.r (Tg.mix (sEq op 31) Tg.r (Tg.mix (sEq op 32) Tg.r Tg.n)))))))))))))))))))))))))));
  let q99 : Bool := sAnd (sEq ty 3) true;
  let q100 : Int := List.getD args 1 (0 : Int);
  let q101 : Bool := sEq q100 q20;
  let q102 : Bool := sLt q20 ty; some (sAnd (sIf (sEq op 1) true (sIf (sEq op 2) true (sIf (sEq op 3) (sAnd (sAnd (sOr (sNot (anyT ty)) true) (sAnd q0 (sAnd (sIf (anyT ty) (anyT ty) true) (sAnd q3 (sAnd q3 (sAnd (sOr q2 (sAnd (sAnd q1 (sAnd q1 true)) (okLen (List.length args)))) (sAnd (sIf q1 q1 true) true))))))) true) (sIf (sEq op 4) (sAnd (sAnd (sOr (sNot (anyT ty)) true) (sAnd (sOr (sNot (anyT ty)) true) (sAnd (sOr (sNot (anyT ty)) (sAnd (sAnd (anyT ty) (sAnd (anyT ty) true)) (okLen (List.length args)))) (sAnd (sIf (anyT ty) (anyT ty) true) true)))) true) (sAnd (sIf (sEq op 5) true (sIf (sEq op 6) true true)) (sIf (Tg.isN q4) (sIf q5 (sAnd (sAnd (sOr (sNot (sNot (wideT ty))) true) (sAnd (sOr (sNot (sNot (wideT ty))) (sAnd (sAnd (sNot (wideT ty)) true) true)) (sAnd (sIf (wideT ty) true (sNot (wideT ty))) (sAnd q6 (sAnd q6 (sAnd (sOr (sNot (sIf (wideT ty) true (vecT ty))) (sAnd (sAnd (sIf (wideT ty) true (vecT ty)) (sAnd (sIf (wideT ty) true (vecT ty)) true)) (okLen (List.length args)))) (sAnd (sIf (sIf (wideT ty) true (vecT ty)) (sIf (wideT ty) true (vecT ty)) true) true))))))) true) (sAnd (sIf (sEq op 8) true (sIf (sEq op 9) true true)) (sIf (Tg.isN q7) (sIf q8 (sAnd (sAnd (sOr (sNot (sNot (integ ty))) true) (sAnd (sOr (sNot (sNot (integ ty))) (sAnd (sAnd (sNot (integ ty)) true) true)) (sAnd (sIf (integ ty) true (sNot (integ ty))) (sAnd q9 (sAnd q9 (sAnd (sOr (sNot (sIf (integ ty) true (vecT ty))) (sAnd (sAnd (sIf (integ ty) true (vecT ty)) (sAnd (sIf (integ ty) true (vecT ty)) true)) (okLen (List.length args)))) (sAnd (sIf (sIf (integ ty) true (vecT ty)) (sIf (integ ty) true (vecT ty)) true) true))))))) true) (sAnd (sIf (sEq op 11) true (sIf (sEq op 12) true (sIf (sEq op 13) true (sIf (sEq op 14) true true)))) (sIf (Tg.isN q10) (sIf q11 (sAnd (sAnd (sOr (sNot (wideT ty)) true) (sAnd (sOr (sNot (wideT ty)) true) (sAnd (sOr (sNot (wideT ty)) (sAnd (sAnd (wideT ty) (sAnd (wideT ty) true)) (okLen (List.length args)))) (sAnd (sIf (wideT ty) (wideT ty) true) true)))) true) (sAnd (sIf (sEq op 16) true true) (sIf (Tg.isN q12) (sIf q13 (sAnd (sAnd (sAnd q14 (sAnd q17 (sAnd q18 (sAnd q19 (sAnd q18 (sAnd (sOr q23 true) (sAnd (sOr q23 (sAnd q24 q16)) (sAnd (sOr q23 q22) (sAnd (sOr q23 (sAnd q24 true)) (sAnd (sOr (sNot (sEq ty 1)) (sAnd (sEq ty 1) (sIf q21 true q22))) (sAnd q25 (sAnd q29 (sAnd (sOr q28 (sAnd q30 q31)) (sAnd q32 (sAnd q29 (sAnd (sOr q28 (sAnd q30 q16)) (sAnd q32 (sAnd (sOr q28 (sAnd (sAnd q27 q27) true)) (sAnd (sIf q27 q27 true) true))))))))))))))))))) true) true) (sAnd (sIf (sEq op 18) true (sIf (sEq op 19) true true)) (sIf (Tg.isN q33) (sIf q34 (sAnd (sAnd (sAnd q14 (sAnd q17 (sAnd q18 (sAnd q19 (sAnd q25 (sAnd q38 (sAnd (sOr q37 (sAnd q39 q31)) (sAnd q40 (sAnd q38 (sAnd (sOr q37 (sAnd q39 q16)) (sAnd q40 (sAnd (sOr q37 (sAnd (sAnd q36 q36) true)) (sAnd (sIf q36 q36 true) true))))))))))))) true) true) (sIf (sEq op 21) (sAnd (sAnd (sOr (sNot (anyT ty)) true) (sAnd (sOr (sNot (anyT ty)) (sAnd (sAnd (anyT ty) true) q16)) (sAnd (sOr (sNot (anyT ty)) (anyT ty)) (sAnd q0 (sAnd (sIf (anyT ty) (anyT ty) true) (sAnd q44 (sAnd (sOr q43 (sAnd q45 (sAnd (sLe (Option.getD (some 1) 0) q46) (sLe q46 ↑(List.length args))))) (sAnd q44 (sAnd (sOr q43 (sAnd (sAnd q42 q45) (okLen (List.length (List.drop 1 args))))) (sAnd (sIf q42 q42 true) true)))))))))) true) (sIf (sEq op 22) (sAnd (sAnd q16 (sAnd (sOr q49 true) (sAnd (sOr q49 (sAnd q50 q16)) (sAnd (sOr q49 q48) (sAnd (sOr q49 (sAnd q50 true)) (sAnd (sIf q47 true q48) (sAnd (sOr q53 true) (sAnd (sOr q53 (sAnd (sAnd q52 true) true)) (sAnd (sOr q53 q52) (sAnd (sOr q55 true) (sAnd (sOr q55 (sAnd (sAnd q54 true) true)) (sAnd (sOr q53 (sAnd q52 (sIf (sEq ty 3) true q54))) (sAnd (sIf q52 q52 true) (sAnd q58 (sAnd q58 (sAnd (sOr q57 (sAnd (sAnd q56 true) q16)) (sAnd (sOr q57 q56) (sAnd (sOr q57 (sAnd (sAnd q56 q56) true)) (sAnd (sIf q56 q56 true) true))))))))))))))))))) true) (sIf (sEq op 23) (sAnd (sAnd q16 (sAnd (sOr q60 true) (sAnd (sOr q60 (sAnd q61 q16)) (sAnd (sOr q60 q59) (sAnd (sOr q60 (sAnd q61 true)) (sAnd (sIf q41 true q59) (sAnd (sOr q64 true) (sAnd (sOr q64 (sAnd q65 q16)) (sAnd (sOr q64 q63) (sAnd (sOr q64 (sAnd q65 true)) (sAnd (sIf q62 true q63) (sAnd (sOr q67 true) (sAnd (sOr q67 (sAnd (sAnd q66 true) true)) (sAnd (sIf q66 q66 true) (sAnd q70 (sAnd q70 (sAnd (sOr q69 (sAnd (sAnd q68 true) q16)) (sAnd (sOr q69 q68) (sAnd (sOr q69 (sAnd (sAnd q68 q68) true)) (sAnd (sIf q68 q68 true) true)))))))))))))))))))) true) (sIf (sEq op 24) (sAnd (sAnd q16 (sAnd (sOr q71 true) (sAnd (sOr q71 (sAnd (sAnd q35 true) true)) (sAnd (sIf q35 q35 true) (sAnd q74 (sAnd q74 (sAnd (sOr q73 (sAnd (sAnd q72 true) q16)) (sAnd (sOr q73 q72) (sAnd (sOr q73 (sAnd (sAnd q72 q72) true)) (sAnd (sIf q72 q72 true) true)))))))))) true) (sAnd (sIf (sEq op 25) true true) (sIf (Tg.isN q75) (sIf q76 true (sIf (sEq op 27) (sAnd (sAnd (sOr (sNot (sEq ty 5)) true) (sAnd (sOr (sNot (sEq ty 5)) (sAnd q77 q16)) (sAnd (sOr (sNot (sEq ty 5)) (sEq ty 5)) (sAnd (sOr (sNot (sEq ty 5)) (sAnd q77 true)) (sAnd (sIf (sEq ty 5) (sEq ty 5) true) (sAnd (sOr q79 true) (sAnd (sOr q79 (sAnd q80 q31)) (sAnd (sOr q79 q78) (sAnd (sOr q79 (sAnd q80 true)) (sAnd (sIf q78 q78 true) true)))))))))) true) (sIf (sEq op 28) (sAnd (sAnd (sOr (sNot (cellT ty)) true) (sAnd (sOr (sNot (cellT ty)) (sAnd (sAnd (cellT ty) true) q16)) (sAnd (sOr (sNot (cellT ty)) (cellT ty)) (sAnd (sOr (sNot (cellT ty)) (sAnd (sAnd (cellT ty) true) true)) (sAnd (sIf (cellT ty) (cellT ty) true) true))))) true) (sIf (sEq op 29) (sAnd (sAnd q81 (sAnd q83 (sAnd q84 (sAnd q85 (sAnd q86 (sAnd (sOr q88 true) (sAnd (sOr q88 (sAnd q89 q31)) (sAnd (sOr q88 q87) (sAnd (sOr q88 (sAnd q89 true)) (sAnd (sIf q87 q87 true) true)))))))))) true) (sIf (sEq op 30) (sAnd (sAnd (sAnd (sLe 0 sym) (sAnd (sLt sym ↑(List.length fs)) (sAnd (okLen q90) (leLen q90 (List.length args))))) true) true) (sIf (sEq op 31) (sAnd (sAnd q81 (sAnd q83 (sAnd q84 (sAnd q85 (sAnd q86 true))))) true) (sIf (sEq op 32) (sAnd (sAnd (sOr (sNot (sEq ty 6)) true) (sAnd (sOr (sNot (sEq ty 6)) (sEq ty 6)) (sAnd (sOr (sNot (sEq ty 6)) (sAnd (sAnd (sEq ty 6) true) true)) (sAnd (sIf (sEq ty 6) (sEq ty 6) true) (sAnd (sOr q93 true) (sAnd (sOr q93 (sAnd (sAnd q92 true) true)) (sAnd (sOr q93 q92) (sAnd (sOr q95 true) (sAnd (sOr q95 q94) (sAnd (sOr q95 (sAnd (sAnd q94 true) true)) (sAnd (sOr q93 (sAnd q92 (sIf (sEq ty 7) q94 true))) (sAnd (sIf q91 true q92) (sAnd (sOr q97 true) (sAnd (sOr q97 (sAnd (sAnd q96 true) (okLen (List.length args)))) (sAnd (sIf q96 q96 true) true))))))))))))))) true) true))))))) true))))))) true))) true))) true))) true))) true)))))) (sIf q98 (sAnd (sAnd (sOr (sNot (sEq ty 3)) true) (sAnd (sOr (sNot (sEq ty 3)) (sAnd q99 q16)) (sAnd (sOr (sNot (sEq ty 3)) (sEq ty 3)) (sAnd (sOr (sNot (sEq ty 3)) (sAnd q99 true)) (sAnd (sIf (sEq ty 3) (sEq ty 3) true) true))))) true) true), AV.bool (sIf q98 (sIf (sEq ty 3) (vecT q20) false) (sIf (sEq op 1) (integ ty) (sIf (sEq op 2) (anyT ty) (sIf (sEq op 3) (sIf q1 (sameV args ty) false) (sIf (sEq op 4) (sIf (anyT ty) (sameV args ty) false) (sIf q5 (sIf (sIf (wideT ty) true (vecT ty)) (sameV args ty) false) (sIf q8 (sIf (sIf (integ ty) true (vecT ty)) (sameV args ty) false) (sIf q11 (sIf (wideT ty) (sameV args ty) false) (sIf q13 (sIf q27 q101 false) (sIf q34 (sIf q36 q101 false) (sIf (sEq op 21) (sIf q42 (sameV (List.drop 1 args) ty) false) (sIf (sEq op 22) (sIf q56 q102 false) (sIf (sEq op 23) (sIf q68 q102 false) (sIf (sEq op 24) (sIf q72 (sLt ty q20) false) (sIf q76 (sEq ty 5) (sIf (sEq op 27) (sIf q78 (sEq q100 4) false) (sIf (sEq op 28) (sIf (cellT ty) q26 false) (sIf (sEq op 29) (sIf q87 (cellT q100) false) (sIf (sEq op 30) (calleeV ty sym args fs) (sIf (sEq op 31) (sIf (sEq ty 0) (anyT q20) false) (sIf q96 (sameV args 3) false)))))))))))))))))))))))
theorem nf33 (op : Int) (ty : Int) (dst : Int) (iargs : List Int) (imm : Int) (sym : Int) (elem : Int) (nw : Bool) (args : List Int) (gs : List (Sh.den gloS)) (fs : List (Sh.den funS)) : exFn (gN b46) Tryd.f48 [insA op ty dst iargs imm sym elem nw, AV.dsl (Sh.int IntKind.i64) args, modA gs fs] = r33 op ty sym args fs := by kernel_rfl
noncomputable def typedV (op : Int) (ty : Int) (sym : Int) (args : List Int) (fs : List (Sh.den funS)) : Bool := boolOf (r33 op ty sym args fs)
theorem eta33 (op : Int) (ty : Int) (sym : Int) (args : List Int) (fs : List (Sh.den funS)) (h : okOf (r33 op ty sym args fs) = true) : r33 op ty sym args fs = some (true, .bool (typedV op ty sym args fs)) := by
  rw [← h]
  rfl
noncomputable def r34 (op : Int) (ty : Int) (dst : Int) (regs : List Int) : Option (Bool × AV) := (
  let q0 : Bool := Tg.isN (Tg.mix (sEq ty 0) Tg.r Tg.n);
  let q1 : Bool := sEq dst (-1);
  let q2 : Bool := Tg.isN (Tg.mix q1 Tg.r Tg.n); some (sAnd (sIf (sEq ty 0) true true) (sIf q0 (sAnd (sIf q1 true true) (sIf q2 (sAnd (sAnd (sAnd (sAnd (sLe 0 dst) (sLt dst ↑(List.length regs))) true) true) true) true)) true), AV.bool (sIf q0 (sIf q2 (sEq (List.getD regs (Int.toNat dst) (0 : Int)) ty) (sEq op 30)) q1)))
theorem nf34 (op : Int) (ty : Int) (dst : Int) (iargs : List Int) (imm : Int) (sym : Int) (elem : Int) (nw : Bool) (fnm : ByteArray) (fps : List Int) (fres : Int) (regs : List Int) (fbl : List (Sh.den blkS)) : exFn (gN b46) Tryd.f49 [insA op ty dst iargs imm sym elem nw, funA fnm fps fres regs fbl] = r34 op ty dst regs := by kernel_rfl
noncomputable def resV (op : Int) (ty : Int) (dst : Int) (regs : List Int) : Bool := boolOf (r34 op ty dst regs)
theorem eta34 (op : Int) (ty : Int) (dst : Int) (regs : List Int) (h : okOf (r34 op ty dst regs) = true) : r34 op ty dst regs = some (true, .bool (resV op ty dst regs)) := by
  rw [← h]
  rfl
noncomputable def r35 (op : Int) (ty : Int) (imm : Int) (elem : Int) (args : List Int) : Option (Bool × AV) := (
  let q0 : Bool := sNe (Prod.snd (accOf elem)) 1;
  let q1 : Bool := sNot q0;
  let q2 : Bool := sNot q1;
  let q3 : Bool := sOr q2 true;
  let q4 : Bool := sIf q0 true (sNe (Prod.fst (accOf elem)) elem);
  let q5 : Tg := Tg.mix q4 Tg.r Tg.n;
  let q6 : Bool := sOr (sNot (sLe 0 imm)) true;
  let q7 : Bool := Tg.isN (Tg.block 0 (Tg.mix (sEq op 26) (Tg.thenN q5 Tg.n) (Tg.mix (sEq op 1) Tg.n (Tg.mix (sEq op 33) Tg.n Tg.n))));
  let q8 : Bool := sNot (sIf (sEq op 26) (sIf (sLe 1 imm) (sLe imm 256) false) (sIf (sEq op 1) (sEq (wrapV ty imm) imm) (sIf (sEq op 33) (sIf (sLe 0 imm) (sLt imm (Prod.snd (accOf (List.getD args 0 (0 : Int))))) false) true)));
  let q9 : Bool := Tg.isN (Tg.mix q8 Tg.r Tg.n); some (sAnd (sIf (sEq op 26) (sAnd (sAnd (sAnd q3 (sAnd q3 (sAnd (sOr q2 q1) (sAnd (sOr q2 (sAnd (sAnd q1 q1) true)) (sAnd (sIf q0 true q1) true))))) (sIf q4 true true)) (sIf (Tg.isN q5) (sAnd (sOr (sNot (sLe 1 imm)) true) (sAnd (sOr (sNot (sLe 1 imm)) (sLe 1 imm)) (sAnd (sOr (sNot (sLe 1 imm)) (sAnd (sAnd (sLe 1 imm) true) true)) (sAnd (sIf (sLe 1 imm) (sLe 1 imm) true) true)))) true)) (sIf (sEq op 1) true (sIf (sEq op 33) (sAnd (sAnd (sLt 0 ↑(List.length args)) true) (sAnd q6 (sAnd (sOr (sNot (sLe 0 imm)) (sLe 0 imm)) (sAnd q6 (sAnd (sOr (sNot (sLe 0 imm)) (sAnd (sAnd (sLe 0 imm) (sLe 0 imm)) true)) (sAnd (sIf (sLe 0 imm) (sLe 0 imm) true) true)))))) true))) (sIf q7 (sAnd (sIf q8 true true) (sIf q9 true true)) true), AV.int IntKind.i64 (sIf q7 (sIf q9 0 10) 9)))
theorem nf35 (op : Int) (ty : Int) (dst : Int) (iargs : List Int) (imm : Int) (sym : Int) (elem : Int) (nw : Bool) (args : List Int) : exFn (gN b46) Tryd.f50 [insA op ty dst iargs imm sym elem nw, AV.dsl (Sh.int IntKind.i64) args] = r35 op ty imm elem args := by kernel_rfl
noncomputable def immV (op : Int) (ty : Int) (imm : Int) (elem : Int) (args : List Int) : Int := intOf (r35 op ty imm elem args)
theorem eta35 (op : Int) (ty : Int) (imm : Int) (elem : Int) (args : List Int) (h : okOf (r35 op ty imm elem args) = true) : r35 op ty imm elem args = some (true, .int .i64 (immV op ty imm elem args)) := by
  rw [← h]
  rfl

def fits (op : Int) (n : Nat) (sym : Int) (fs : List funS.den) : Prop :=
  1 ≤ op ∧ op ≤ 33 ∧ n ≤ bigL ∧ ((op = 16 ∨ op = 17 ∨ op = 18 ∨ op = 19 ∨ op = 20 ∨ op = 27 ∨ op = 29) → 2 ≤ n) ∧ ((op = 21 ∨ op = 22 ∨ op = 23 ∨ op = 24 ∨ op = 28 ∨ op = 31 ∨ op = 33) → 1 ≤ n) ∧
    (op = 30 → 0 ≤ sym ∧ sym < (fs.length : Int) ∧ (fnAt fs sym).2.1.length ≤ n)
theorem okLen_true {n : Nat} (h : n ≤ bigL) : okLen n = true := Nat.ble_eq_true_of_le h
theorem leLen_true {a b : Nat} (h : a ≤ b) : leLen a b = true := Nat.ble_eq_true_of_le h

set_option maxHeartbeats 0 in
theorem good33 (op ty sym : Int) (args : List Int) (fs : List funS.den) (h : fits op args.length sym fs) : okOf (r33 op ty sym args fs) = true := by
  obtain ⟨h1, h2, h3, h4, h5, h6⟩ := h
  have hb : okLen args.length = true := okLen_true h3
  have hd : okLen (args.length - 1) = true := okLen_true (by omega)
  have : op = 1 ∨ op = 2 ∨ op = 3 ∨ op = 4 ∨ op = 5 ∨ op = 6 ∨ op = 7 ∨ op = 8 ∨ op = 9 ∨ op = 10 ∨ op = 11 ∨ op = 12 ∨ op = 13 ∨ op = 14 ∨ op = 15 ∨ op = 16 ∨ op = 17 ∨ op = 18 ∨ op = 19 ∨ op = 20 ∨ op = 21 ∨ op = 22 ∨ op = 23 ∨ op = 24 ∨ op = 25 ∨ op = 26 ∨ op = 27 ∨ op = 28 ∨ op = 29 ∨ op = 30 ∨ op = 31 ∨ op = 32 ∨ op = 33 := by omega
  rcases this with rfl | rfl | rfl | rfl | rfl | rfl | rfl | rfl | rfl | rfl | rfl | rfl | rfl | rfl | rfl | rfl | rfl | rfl | rfl | rfl | rfl | rfl | rfl | rfl | rfl | rfl | rfl | rfl | rfl | rfl | rfl | rfl | rfl
  · simp [r33, okOf, sAnd, sOr, sNot, sIf, sEq, sLt, sLe, hb, hd]
    all_goals grind
  · simp [r33, okOf, sAnd, sOr, sNot, sIf, sEq, sLt, sLe, hb, hd]
    all_goals grind
  · simp [r33, okOf, sAnd, sOr, sNot, sIf, sEq, sLt, sLe, hb, hd]
    all_goals grind
  · simp [r33, okOf, sAnd, sOr, sNot, sIf, sEq, sLt, sLe, hb, hd]
    all_goals grind
  · simp [r33, okOf, sAnd, sOr, sNot, sIf, sEq, sLt, sLe, hb, hd]
    all_goals grind
  · simp [r33, okOf, sAnd, sOr, sNot, sIf, sEq, sLt, sLe, hb, hd]
    all_goals grind
  · simp [r33, okOf, sAnd, sOr, sNot, sIf, sEq, sLt, sLe, hb, hd]
    all_goals grind
  · simp [r33, okOf, sAnd, sOr, sNot, sIf, sEq, sLt, sLe, hb, hd]
    all_goals grind
  · simp [r33, okOf, sAnd, sOr, sNot, sIf, sEq, sLt, sLe, hb, hd]
    all_goals grind
  · simp [r33, okOf, sAnd, sOr, sNot, sIf, sEq, sLt, sLe, hb, hd]
    all_goals grind
  · simp [r33, okOf, sAnd, sOr, sNot, sIf, sEq, sLt, sLe, hb, hd]
    all_goals grind
  · simp [r33, okOf, sAnd, sOr, sNot, sIf, sEq, sLt, sLe, hb, hd]
    all_goals grind
  · simp [r33, okOf, sAnd, sOr, sNot, sIf, sEq, sLt, sLe, hb, hd]
    all_goals grind
  · simp [r33, okOf, sAnd, sOr, sNot, sIf, sEq, sLt, sLe, hb, hd]
    all_goals grind
  · simp [r33, okOf, sAnd, sOr, sNot, sIf, sEq, sLt, sLe, hb, hd]
    all_goals grind
  · have g : 1 < args.length := h4 (by omega)
    have g0 : 0 < args.length := by omega
    simp [r33, okOf, sAnd, sOr, sNot, sIf, sEq, sLt, sLe, hb, hd, g, g0]
    all_goals grind
  · have g : 1 < args.length := h4 (by omega)
    have g0 : 0 < args.length := by omega
    simp [r33, okOf, sAnd, sOr, sNot, sIf, sEq, sLt, sLe, hb, hd, g, g0]
    all_goals grind
  · have g : 1 < args.length := h4 (by omega)
    have g0 : 0 < args.length := by omega
    simp [r33, okOf, sAnd, sOr, sNot, sIf, sEq, sLt, sLe, hb, hd, g, g0]
    all_goals grind
  · have g : 1 < args.length := h4 (by omega)
    have g0 : 0 < args.length := by omega
    simp [r33, okOf, sAnd, sOr, sNot, sIf, sEq, sLt, sLe, hb, hd, g, g0]
    all_goals grind
  · have g : 1 < args.length := h4 (by omega)
    have g0 : 0 < args.length := by omega
    simp [r33, okOf, sAnd, sOr, sNot, sIf, sEq, sLt, sLe, hb, hd, g, g0]
    all_goals grind
  · have g : 0 < args.length := h5 (by omega)
    simp [r33, okOf, sAnd, sOr, sNot, sIf, sEq, sLt, sLe, hb, hd, g]
    all_goals grind
  · have g : 0 < args.length := h5 (by omega)
    simp [r33, okOf, sAnd, sOr, sNot, sIf, sEq, sLt, sLe, hb, hd, g]
    all_goals grind
  · have g : 0 < args.length := h5 (by omega)
    simp [r33, okOf, sAnd, sOr, sNot, sIf, sEq, sLt, sLe, hb, hd, g]
    all_goals grind
  · have g : 0 < args.length := h5 (by omega)
    simp [r33, okOf, sAnd, sOr, sNot, sIf, sEq, sLt, sLe, hb, hd, g]
    all_goals grind
  · simp [r33, okOf, sAnd, sOr, sNot, sIf, sEq, sLt, sLe, hb, hd]
    all_goals grind
  · simp [r33, okOf, sAnd, sOr, sNot, sIf, sEq, sLt, sLe, hb, hd]
    all_goals grind
  · have g : 1 < args.length := h4 (by omega)
    have g0 : 0 < args.length := by omega
    simp [r33, okOf, sAnd, sOr, sNot, sIf, sEq, sLt, sLe, hb, hd, g, g0]
    all_goals grind
  · have g : 0 < args.length := h5 (by omega)
    simp [r33, okOf, sAnd, sOr, sNot, sIf, sEq, sLt, sLe, hb, hd, g]
    all_goals grind
  · have g : 1 < args.length := h4 (by omega)
    have g0 : 0 < args.length := by omega
    simp [r33, okOf, sAnd, sOr, sNot, sIf, sEq, sLt, sLe, hb, hd, g, g0]
    all_goals grind
  · obtain ⟨g1, g2, g3⟩ := h6 rfl
    have k1 := okLen_true (Nat.le_trans g3 h3)
    have k2 := leLen_true g3
    simp [r33, okOf, sAnd, sOr, sNot, sIf, sEq, sLt, sLe, hb, hd, g1, g2, k1, k2]
    all_goals grind
  · have g : 0 < args.length := h5 (by omega)
    simp [r33, okOf, sAnd, sOr, sNot, sIf, sEq, sLt, sLe, hb, hd, g]
    all_goals grind
  · simp [r33, okOf, sAnd, sOr, sNot, sIf, sEq, sLt, sLe, hb, hd]
    all_goals grind
  · have g : 0 < args.length := h5 (by omega)
    simp [r33, okOf, sAnd, sOr, sNot, sIf, sEq, sLt, sLe, hb, hd, g]
    all_goals grind


theorem good30 (op imm sym elem : Int) (nw : Bool) : okOf (r30 op imm sym elem nw) = true := by
  by_cases h5 : op = 5
  · subst h5
    simp only [r30, okOf]
    generalize sNe imm 0 = b1
    generalize sNe sym 0 = b2
    generalize sNe elem 0 = b3
    cases nw <;> cases b1 <;> cases b2 <;> cases b3 <;> rfl
  have e5 : sEq op 5 = false := by simpa [sEq] using h5
  by_cases h6 : op = 6
  · subst h6
    simp only [r30, okOf]
    generalize sNe imm 0 = b1
    generalize sNe sym 0 = b2
    generalize sNe elem 0 = b3
    cases nw <;> cases b1 <;> cases b2 <;> cases b3 <;> rfl
  have e6 : sEq op 6 = false := by simpa [sEq] using h6
  by_cases h7 : op = 7
  · subst h7
    simp only [r30, okOf]
    generalize sNe imm 0 = b1
    generalize sNe sym 0 = b2
    generalize sNe elem 0 = b3
    cases nw <;> cases b1 <;> cases b2 <;> cases b3 <;> rfl
  have e7 : sEq op 7 = false := by simpa [sEq] using h7
  by_cases h26 : op = 26
  · subst h26
    simp only [r30, okOf]
    generalize sNe imm 0 = b1
    generalize sNe sym 0 = b2
    generalize sNe elem 0 = b3
    cases nw <;> cases b1 <;> cases b2 <;> cases b3 <;> rfl
  have e26 : sEq op 26 = false := by simpa [sEq] using h26
  by_cases h1 : op = 1
  · subst h1
    simp only [r30, okOf]
    generalize sNe imm 0 = b1
    generalize sNe sym 0 = b2
    generalize sNe elem 0 = b3
    cases nw <;> cases b1 <;> cases b2 <;> cases b3 <;> rfl
  have e1 : sEq op 1 = false := by simpa [sEq] using h1
  by_cases h33 : op = 33
  · subst h33
    simp only [r30, okOf]
    generalize sNe imm 0 = b1
    generalize sNe sym 0 = b2
    generalize sNe elem 0 = b3
    cases nw <;> cases b1 <;> cases b2 <;> cases b3 <;> rfl
  have e33 : sEq op 33 = false := by simpa [sEq] using h33
  by_cases h25 : op = 25
  · subst h25
    simp only [r30, okOf]
    generalize sNe imm 0 = b1
    generalize sNe sym 0 = b2
    generalize sNe elem 0 = b3
    cases nw <;> cases b1 <;> cases b2 <;> cases b3 <;> rfl
  have e25 : sEq op 25 = false := by simpa [sEq] using h25
  by_cases h30 : op = 30
  · subst h30
    simp only [r30, okOf]
    generalize sNe imm 0 = b1
    generalize sNe sym 0 = b2
    generalize sNe elem 0 = b3
    cases nw <;> cases b1 <;> cases b2 <;> cases b3 <;> rfl
  have e30 : sEq op 30 = false := by simpa [sEq] using h30
  simp only [r30, okOf, e5, e6, e7, e26, e1, e33, e25, e30]
  generalize sNe imm 0 = b1
  generalize sNe sym 0 = b2
  generalize sNe elem 0 = b3
  cases nw <;> cases b1 <;> cases b2 <;> cases b3 <;> rfl
theorem good31 (op sym : Int) (gs : List gloS.den) (fs : List funS.den) : okOf (r31 op sym gs fs) = true := by
  simp [r31, okOf, sAnd, sOr, sNot, sIf, sEq, sNe, sLt, sLe]
  all_goals grind
theorem good32 (op : Int) (iargs : List Int) (sym : Int) (fs : List funS.den) (h1 : 1 ≤ op) (h2 : op ≤ 33) (h3 : op = 30 → 0 ≤ sym ∧ sym < (fs.length : Int)) : okOf (r32 op iargs sym fs) = true := by
  have hw : IntKind.wrap .i64 (op - 1) = op - 1 := wrap_i64 (by omega) (by omega)
  simp [r32, okOf, sAnd, sOr, sNot, sIf, sEq, sNe, sLt, sLe, hw, h1]
  all_goals grind
theorem good34 (op ty dst : Int) (regs : List Int) (h : ty ≠ 0 → dst ≠ -1 → 0 ≤ dst ∧ dst < (regs.length : Int)) : okOf (r34 op ty dst regs) = true := by
  simp [r34, okOf, sAnd, sOr, sNot, sIf, sEq, sNe, sLt, sLe]
  all_goals grind
theorem good35 (op ty imm elem : Int) (args : List Int) (h : op = 33 → 1 ≤ args.length) : okOf (r35 op ty imm elem args) = true := by
  simp [r35, okOf, sAnd, sOr, sNot, sIf, sEq, sNe, sLt, sLe]
  all_goals grind

end Go.Proofs.YtaajbcflmaihgaaDoor
