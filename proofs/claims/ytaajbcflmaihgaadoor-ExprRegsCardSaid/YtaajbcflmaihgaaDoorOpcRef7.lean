/- The stages of the reference's check: none of them faults. No conditions. -/
import Derived.Test.YtaajbcflmaihgaaDoorOpcRef4
set_option linter.all false
namespace Go.Proofs.YtaajbcflmaihgaaDoor
open Go Ab
set_option maxRecDepth 100000
noncomputable def a0 (op : Int) (REST : Bool) : Bool :=
  let q0 : Bool := sNot (sNot (sLt op 1));
  let q1 : Bool := sIf (sLt op 1) true (sLt 33 op);
  let q2 : Bool := Tg.isN (Tg.mix q1 Tg.r Tg.n);
  (sAnd true (sAnd (sAnd (sAnd true (sAnd true (sAnd true (sAnd true (sAnd (sOr q0 true) (sAnd (sOr q0 (sNot (sLt op 1))) (sAnd (sOr q0 (sAnd (sAnd (sNot (sLt op 1)) true) true)) (sAnd (sAnd true (sIf (sLt op 1) true (sNot (sLt op 1)))) true)))))))) (sAnd true (sIf q1 true true))) (sIf q2 REST true)))
noncomputable def c0q (op : Int) : Bool :=
  let q1 : Bool := sIf (sLt op 1) true (sLt 33 op);
  let q2 : Bool := Tg.isN (Tg.mix q1 Tg.r Tg.n);
  q2
noncomputable def a1 (op : Int) (imm : Int) (sym : Int) (elem : Int) (nw : Bool) (REST : Bool) : Bool :=
  let q3 : Bool := sNot (sNot (sEq op 1));
  let q4 : Bool := sIf (sEq op 1) true (sEq op 26);
  let q5 : Bool := sNot q4;
  let q6 : Bool := sNot q5;
  let q7 : Bool := sIf nw (sNe op 5) false;
  let q8 : Bool := sNot q7;
  let q9 : Bool := sIf q7 (sNe op 6) false;
  let q10 : Bool := sNot q9;
  let q11 : Bool := sIf q9 (sNe op 7) false;
  let q12 : Bool := sNot q11;
  let q13 : Bool := sNot q12;
  let q14 : Bool := sOr q13 q12;
  let q15 : Bool := sAnd q12 (sNe imm 0);
  let q16 : Bool := sNot q15;
  let q17 : Bool := sIf q11 true (sIf (sNe imm 0) (sNot (sIf q4 true (sEq op 33))) false);
  let q18 : Bool := sNot q17;
  let q19 : Bool := sNot q18;
  let q20 : Bool := sOr q19 q18;
  let q21 : Bool := sAnd q18 (sNe sym 0);
  let q22 : Bool := sNot q21;
  let q23 : Bool := sIf (sNe sym 0) (sNe op 25) false;
  let q24 : Bool := sAnd q18 q23;
  let q25 : Bool := sNot q24;
  let q26 : Bool := sIf q17 true (sIf q23 (sNe op 30) false);
  let q27 : Bool := sNot q26;
  let q28 : Bool := sNot q27;
  let q29 : Bool := sOr q28 q27;
  let q30 : Bool := sAnd q27 (sNe elem 0);
  let q31 : Bool := sNot q30;
  let q32 : Bool := sIf q26 true (sIf (sNe elem 0) (sNe op 26) false);
  let q33 : Bool := Tg.isN (Tg.mix q32 Tg.r Tg.n);
  (sAnd (sAnd true (sAnd true (sAnd true (sAnd true (sAnd (sOr q3 true) (sAnd (sOr q3 (sNot (sEq op 1))) (sAnd (sOr q3 (sAnd (sAnd (sNot (sEq op 1)) true) true)) (sAnd (sAnd true (sIf (sEq op 1) true (sNot (sEq op 1)))) (sAnd true (sAnd (sOr q6 true) (sAnd (sOr q6 q5) (sAnd (sOr q6 (sAnd (sAnd q5 true) true)) (sAnd (sAnd true (sIf q4 true q5)) true))))))))))))) (sAnd (sAnd (sAnd true (sAnd true (sAnd true (sAnd (sOr (sNot nw) true) (sAnd (sOr (sNot nw) nw) (sAnd (sOr (sNot nw) (sAnd (sAnd nw true) true)) (sAnd (sAnd true (sIf nw nw true)) (sAnd true (sAnd (sOr q8 true) (sAnd (sOr q8 q7) (sAnd (sOr q8 (sAnd (sAnd q7 true) true)) (sAnd (sAnd true (sIf q7 q7 true)) (sAnd true (sAnd (sOr q10 true) (sAnd (sOr q10 q9) (sAnd (sOr q10 (sAnd (sAnd q9 true) true)) (sAnd (sAnd true (sIf q9 q9 true)) (sAnd true (sAnd (sOr q13 true) (sAnd q14 (sAnd (sOr q13 (sAnd (sAnd q12 true) true)) (sAnd q14 (sAnd (sOr q16 true) (sAnd (sOr q16 q15) (sAnd (sOr q13 (sAnd q12 (sIf (sNe imm 0) q15 true))) (sAnd (sAnd true (sIf q11 true q12)) (sAnd true (sAnd (sOr q19 true) (sAnd q20 (sAnd (sOr q19 (sAnd (sAnd q18 true) true)) (sAnd q20 (sAnd (sOr q22 true) (sAnd (sOr q22 q21) (sAnd (sOr q22 (sAnd (sAnd q21 true) true)) (sAnd (sOr q19 (sAnd q18 (sIf (sNe sym 0) q21 true))) (sAnd q20 (sAnd (sOr q25 true) (sAnd (sOr q25 q24) (sAnd (sOr q25 (sAnd (sAnd q24 true) true)) (sAnd (sOr q19 (sAnd q18 (sIf q23 q24 true))) (sAnd (sAnd true (sIf q17 true q18)) (sAnd true (sAnd (sOr q28 true) (sAnd q29 (sAnd (sOr q28 (sAnd (sAnd q27 true) true)) (sAnd q29 (sAnd (sOr q31 true) (sAnd (sOr q31 q30) (sAnd (sOr q31 (sAnd (sAnd q30 true) true)) (sAnd (sOr q28 (sAnd q27 (sIf (sNe elem 0) q30 true))) (sAnd (sAnd true (sIf q26 true q27)) true))))))))))))))))))))))))))))))))))))))))))))))))))) (sAnd true (sIf q32 true true))) (sIf q33 REST true)))
noncomputable def c1q (op : Int) (imm : Int) (sym : Int) (elem : Int) (nw : Bool) : Bool :=
  let q4 : Bool := sIf (sEq op 1) true (sEq op 26);
  let q7 : Bool := sIf nw (sNe op 5) false;
  let q9 : Bool := sIf q7 (sNe op 6) false;
  let q11 : Bool := sIf q9 (sNe op 7) false;
  let q17 : Bool := sIf q11 true (sIf (sNe imm 0) (sNot (sIf q4 true (sEq op 33))) false);
  let q23 : Bool := sIf (sNe sym 0) (sNe op 25) false;
  let q26 : Bool := sIf q17 true (sIf q23 (sNe op 30) false);
  let q32 : Bool := sIf q26 true (sIf (sNe elem 0) (sNe op 26) false);
  let q33 : Bool := Tg.isN (Tg.mix q32 Tg.r Tg.n);
  q33
noncomputable def a2 (op : Int) (sym : Int) (gs : List (Sh.den gloS)) (fs : List (Sh.den funS)) (REST : Bool) : Bool :=
  let q34 : Bool := sOr (sNot (sEq op 25)) (sEq op 25);
  let q35 : Bool := sAnd (sEq op 25) (sNot (sLt sym 0));
  let q36 : Bool := sNot q35;
  let q37 : Bool := sOr q36 true;
  let q38 : Bool := sOr q36 q35;
  let q39 : Bool := sIf (sEq op 25) (sIf (sLt sym 0) true (sLe (↑(List.length gs)) sym)) false;
  let q40 : Bool := sNot q39;
  let q41 : Bool := sNot q40;
  let q42 : Bool := sOr q41 q40;
  let q43 : Bool := sAnd q40 (sEq op 30);
  let q44 : Bool := sNot q43;
  let q45 : Bool := sOr q44 q43;
  let q46 : Bool := sAnd q43 (sNot (sLt sym 0));
  let q47 : Bool := sNot q46;
  let q48 : Bool := sOr q47 true;
  let q49 : Bool := sOr q47 q46;
  let q50 : Bool := sIf q39 true (sIf (sEq op 30) (sIf (sLt sym 0) true (sLe (↑(List.length fs)) sym)) false);
  let q51 : Bool := Tg.isN (Tg.mix q50 Tg.r Tg.n);
  (sAnd (sAnd (sAnd true (sAnd true (sAnd true (sAnd true (sAnd (sOr (sNot (sEq op 25)) true) (sAnd q34 (sAnd (sOr (sNot (sEq op 25)) (sAnd (sAnd (sEq op 25) true) true)) (sAnd q34 (sAnd q37 (sAnd q38 (sAnd q37 (sAnd q38 (sAnd q38 (sAnd (sOr q36 (sAnd (sAnd q35 q35) true)) (sAnd (sOr (sNot (sEq op 25)) (sAnd (sEq op 25) (sIf (sLt sym 0) true q35))) (sAnd (sAnd true (sIf (sEq op 25) (sEq op 25) true)) (sAnd true (sAnd (sOr q41 true) (sAnd q42 (sAnd (sOr q41 (sAnd (sAnd q40 true) true)) (sAnd q42 (sAnd (sOr q44 true) (sAnd q45 (sAnd (sOr q44 (sAnd (sAnd q43 true) true)) (sAnd q45 (sAnd q48 (sAnd q49 (sAnd q48 (sAnd q49 (sAnd q49 (sAnd (sOr q47 (sAnd (sAnd q46 q46) true)) (sAnd (sOr q44 (sAnd q43 (sIf (sLt sym 0) true q46))) (sAnd (sOr q41 (sAnd q40 (sIf (sEq op 30) q43 true))) (sAnd (sAnd true (sIf q39 true q40)) true)))))))))))))))))))))))))))))))))) (sAnd true (sIf q50 true true))) (sIf q51 REST true))
noncomputable def c2q (op : Int) (sym : Int) (gs : List (Sh.den gloS)) (fs : List (Sh.den funS)) : Bool :=
  let q39 : Bool := sIf (sEq op 25) (sIf (sLt sym 0) true (sLe (↑(List.length gs)) sym)) false;
  let q50 : Bool := sIf q39 true (sIf (sEq op 30) (sIf (sLt sym 0) true (sLe (↑(List.length fs)) sym)) false);
  let q51 : Bool := Tg.isN (Tg.mix q50 Tg.r Tg.n);
  q51
noncomputable def a3 (op : Int) (iargs : List Int) (sym : Int) (fs : List (Sh.den funS)) (REST : Bool) : Bool :=
  let q52 : Bool := sAnd true (sAnd true (sAnd (sAnd true (okC op sym fs)) true));
  let q53 : Bool := sOr (sNot (sNot (sNot (cntB op iargs sym fs)))) true;
  let q54 : Bool := sOr (sNot (sNot (sNot (cntB op iargs sym fs)))) (sNot (sNot (cntB op iargs sym fs)));
  let q55 : Bool := sIf (sNot (cntB op iargs sym fs)) true (sNe (cntN op iargs sym fs) ↑(List.length iargs));
  let q56 : Bool := Tg.isN (Tg.mix q55 Tg.r Tg.n);
  (sAnd (sAnd q52 (sAnd (sAnd true (sAnd true (sAnd true (sAnd q53 (sAnd q53 (sAnd q54 (sAnd q54 (sAnd (sOr (sNot (sNot (sNot (cntB op iargs sym fs)))) (sAnd (sAnd (sNot (sNot (cntB op iargs sym fs))) (sNot (sNot (cntB op iargs sym fs)))) true)) (sAnd (sAnd true (sIf (sNot (cntB op iargs sym fs)) true (sNot (sNot (cntB op iargs sym fs))))) true))))))))) (sAnd true (sIf q55 true true)))) (sIf q56 REST true))
noncomputable def c3q (op : Int) (iargs : List Int) (sym : Int) (fs : List (Sh.den funS)) : Bool :=
  let q55 : Bool := sIf (sNot (cntB op iargs sym fs)) true (sNe (cntN op iargs sym fs) ↑(List.length iargs));
  let q56 : Bool := Tg.isN (Tg.mix q55 Tg.r Tg.n);
  q56
noncomputable def a4 (iargs : List Int) (regs : List Int) (REST : Bool) : Bool :=
  let q57 : List (Int) := [] ++ iargs;
  let q58 : Bool := sLt (Sc.toI (hd (L25_0 iargs regs))) ↑(List.length q57);
  let q59 : Tg := Tg.mix q58 Tg.n (Tg.x 0);
  let q60 : Int := List.getD q57 (Int.toNat (Sc.toI (hd (L25_0 iargs regs)))) (0 : Int);
  let q61 : Bool := sLt q60 0;
  let q62 : Bool := sNot q61;
  let q63 : Bool := sNot q62;
  let q64 : Bool := sOr q63 true;
  let q65 : Bool := sOr q63 q62;
  let q66 : Bool := sIf q61 true (sLe (↑(List.length regs)) q60);
  let q67 : Tg := Tg.block 1 (Tg.mix q66 Tg.r Tg.n);
  let q68 : Bool := Tg.isN (Tg.block 0 (Tg.thenN q59 (Tg.thenN q67 Tg.n)));
  (sAnd (sAnd (sAnd true (sAnd true (sAnd true (sAnd (sAnd true (sLe (↑ ((0 + List.length iargs) * 8)) 140737488355328)) true)))) (sAnd (sSome (whileW (s25_0 iargs regs) [Sc.i 0])) (sAnd true (sAnd (sAnd true (sIf q58 true true)) (sIf (Tg.isN q59) (sAnd (sAnd (sAnd (sAnd true (sAnd (sLe 0 (Sc.toI (hd (L25_0 iargs regs)))) q58)) true) (sAnd (sAnd true (sAnd true (sAnd true (sAnd q64 (sAnd q64 (sAnd q65 (sAnd q65 (sAnd (sOr q63 (sAnd (sAnd q62 q62) true)) (sAnd (sAnd true (sIf q61 true q62)) true))))))))) (sAnd true (sIf q66 true true)))) (sIf (Tg.isN q67) true true)) true))))) (sIf q68 REST true))
noncomputable def c4q (iargs : List Int) (regs : List Int) : Bool :=
  let q57 : List (Int) := [] ++ iargs;
  let q58 : Bool := sLt (Sc.toI (hd (L25_0 iargs regs))) ↑(List.length q57);
  let q59 : Tg := Tg.mix q58 Tg.n (Tg.x 0);
  let q60 : Int := List.getD q57 (Int.toNat (Sc.toI (hd (L25_0 iargs regs)))) (0 : Int);
  let q61 : Bool := sLt q60 0;
  let q66 : Bool := sIf q61 true (sLe (↑(List.length regs)) q60);
  let q67 : Tg := Tg.block 1 (Tg.mix q66 Tg.r Tg.n);
  let q68 : Bool := Tg.isN (Tg.block 0 (Tg.thenN q59 (Tg.thenN q67 Tg.n)));
  q68
noncomputable def a5 (dst : Int) (regs : List Int) (REST : Bool) : Bool :=
  let q69 : Bool := sLt dst (-1);
  let q70 : Bool := sNot q69;
  let q71 : Bool := sNot q70;
  let q72 : Bool := sOr q71 true;
  let q73 : Bool := sOr q71 q70;
  let q74 : Bool := sIf q69 true (sLe (↑(List.length regs)) dst);
  let q75 : Bool := Tg.isN (Tg.mix q74 Tg.r Tg.n);
  (sAnd (sAnd (sAnd true (sAnd true (sAnd true (sAnd true (sAnd q72 (sAnd q73 (sAnd q72 (sAnd q73 (sAnd q73 (sAnd (sOr q71 (sAnd (sAnd q70 q70) true)) (sAnd (sAnd true (sIf q69 true q70)) true))))))))))) (sAnd true (sIf q74 true true))) (sIf q75 REST true))
noncomputable def c5q (dst : Int) (regs : List Int) : Bool :=
  let q69 : Bool := sLt dst (-1);
  let q74 : Bool := sIf q69 true (sLe (↑(List.length regs)) dst);
  let q75 : Bool := Tg.isN (Tg.mix q74 Tg.r Tg.n);
  q75
noncomputable def a6 (op : Int) (ty : Int) (iargs : List Int) (sym : Int) (fs : List (Sh.den funS)) (REST : Bool) : Bool :=
  let q52 : Bool := sAnd true (sAnd true (sAnd (sAnd true (okC op sym fs)) true));
  let q76 : Bool := Tg.isN (Tg.mix (sNot (resR op ty iargs sym fs)) Tg.r Tg.n);
  (sAnd (sAnd q52 (sAnd true (sIf (sNot (resR op ty iargs sym fs)) true true))) (sIf q76 REST true))
noncomputable def c6q (op : Int) (ty : Int) (iargs : List Int) (sym : Int) (fs : List (Sh.den funS)) : Bool :=
  let q76 : Bool := Tg.isN (Tg.mix (sNot (resR op ty iargs sym fs)) Tg.r Tg.n);
  q76
noncomputable def a7 (op : Int) (ty : Int) (iargs : List Int) (sym : Int) (regs : List Int) (fs : List (Sh.den funS)) (REST : Bool) : Bool :=
  let q77 : Int := Sc.toI (hd (L25_1 op ty iargs sym regs fs));
  let q78 : Bool := sLt q77 ↑(List.length iargs);
  let q79 : Tg := Tg.mix q78 Tg.n (Tg.x 2);
  let q80 : Int := List.getD iargs (Int.toNat q77) (0 : Int);
  let q81 : Bool := sAnd true (sLt 0 ↑(List.length iargs));
  let q82 : Int := List.getD iargs 0 (0 : Int);
  let q83 : Bool := sAnd (sLe 0 q82) (sLt q82 ↑(List.length regs));
  let q84 : Int := List.getD regs (Int.toNat q82) (0 : Int);
  let q85 : Bool := sNot (opdR op ty sym fs q77 (List.getD regs (Int.toNat q80) (0 : Int)) q84);
  let q86 : Tg := Tg.block 3 (Tg.mix q85 Tg.r Tg.n);
  let q87 : Bool := Tg.isN (Tg.block 2 (Tg.thenN q79 (Tg.thenN q86 Tg.n)));
  (sAnd (sAnd true (sAnd (sSome (whileW (s25_1 op ty iargs sym regs fs) [Sc.i 0])) (sAnd true (sAnd (sAnd true (sIf q78 true true)) (sIf (Tg.isN q79) (sAnd (sAnd (sAnd true (sAnd (sAnd true (sAnd (sLe 0 q77) q78)) true)) (sAnd (sAnd (sAnd true (sAnd true (sAnd true (sAnd true (sAnd true (sAnd true (sAnd (sAnd true (sAnd (sLe 0 q80) (sLt q80 ↑ (List.length regs)))) (sAnd true (sAnd true (sAnd true (sAnd true (sAnd true (sAnd (sAnd true q81) (sAnd true (sAnd (sAnd true q83) (sAnd true (sAnd (sAnd true (okK op sym q77 fs)) true))))))))))))))))) true) (sAnd true (sIf q85 true true)))) (sIf (Tg.isN q86) true true)) true))))) (sIf q87 REST true))
noncomputable def c7q (op : Int) (ty : Int) (iargs : List Int) (sym : Int) (regs : List Int) (fs : List (Sh.den funS)) : Bool :=
  let q77 : Int := Sc.toI (hd (L25_1 op ty iargs sym regs fs));
  let q78 : Bool := sLt q77 ↑(List.length iargs);
  let q79 : Tg := Tg.mix q78 Tg.n (Tg.x 2);
  let q80 : Int := List.getD iargs (Int.toNat q77) (0 : Int);
  let q82 : Int := List.getD iargs 0 (0 : Int);
  let q84 : Int := List.getD regs (Int.toNat q82) (0 : Int);
  let q85 : Bool := sNot (opdR op ty sym fs q77 (List.getD regs (Int.toNat q80) (0 : Int)) q84);
  let q86 : Tg := Tg.block 3 (Tg.mix q85 Tg.r Tg.n);
  let q87 : Bool := Tg.isN (Tg.block 2 (Tg.thenN q79 (Tg.thenN q86 Tg.n)));
  q87
noncomputable def a8 (op : Int) (ty : Int) (dst : Int) (regs : List Int) (REST : Bool) : Bool :=
  let q88 : Bool := sIf (sEq ty 0) (sNe dst (-1)) false;
  let q89 : Bool := sNot q88;
  let q90 : Bool := sNot q89;
  let q91 : Bool := sOr q90 q89;
  let q92 : Bool := sAnd q89 (sNe ty 0);
  let q93 : Bool := sNot q92;
  let q94 : Bool := sIf (sNe ty 0) (sEq dst (-1)) false;
  let q95 : Bool := sAnd q89 q94;
  let q96 : Bool := sNot q95;
  let q97 : Bool := sIf q88 true (sIf q94 (sNe op 30) false);
  let q98 : Bool := sNot q97;
  let q99 : Bool := sNot q98;
  let q100 : Bool := sOr q99 q98;
  let q101 : Bool := sAnd q98 (sLe 0 dst);
  let q102 : Bool := sNot q101;
  let q103 : Bool := sOr q102 true;
  let q104 : Bool := sOr q102 q101;
  let q105 : Bool := sAnd q101 q101;
  let q106 : Bool := sIf q97 true (sIf (sLe 0 dst) (sNe (List.getD regs (Int.toNat dst) (0 : Int)) ty) false);
  let q107 : Bool := Tg.isN (Tg.mix q106 Tg.r Tg.n);
  (sAnd (sAnd (sAnd (sAnd true (sAnd true (sAnd true (sAnd true (sAnd (sOr (sNot (sEq ty 0)) true) (sAnd (sOr (sNot (sEq ty 0)) (sEq ty 0)) (sAnd (sOr (sNot (sEq ty 0)) (sAnd (sAnd (sEq ty 0) true) true)) (sAnd (sAnd true (sIf (sEq ty 0) (sEq ty 0) true)) (sAnd true (sAnd (sOr q90 true) (sAnd q91 (sAnd (sOr q90 (sAnd (sAnd q89 true) true)) (sAnd q91 (sAnd (sOr q93 true) (sAnd (sOr q93 q92) (sAnd (sOr q93 (sAnd (sAnd q92 true) true)) (sAnd (sOr q90 (sAnd q89 (sIf (sNe ty 0) q92 true))) (sAnd q91 (sAnd (sOr q96 true) (sAnd (sOr q96 q95) (sAnd (sOr q96 (sAnd (sAnd q95 true) true)) (sAnd (sOr q90 (sAnd q89 (sIf q94 q95 true))) (sAnd (sAnd true (sIf q88 true q89)) (sAnd true (sAnd (sOr q99 true) (sAnd q100 (sAnd (sOr q99 (sAnd (sAnd q98 true) true)) (sAnd q100 (sAnd q103 (sAnd q104 (sAnd q103 (sAnd q104 (sAnd (sOr q102 (sAnd q105 (sAnd (sLe 0 dst) (sLt dst ↑ (List.length regs))))) (sAnd q104 (sAnd q103 (sAnd q104 (sAnd (sOr q102 (sAnd q105 true)) (sAnd (sOr q99 (sAnd q98 (sIf (sLe 0 dst) q101 true))) (sAnd (sAnd true (sIf q97 true q98)) true))))))))))))))))))))))))))))))))))))))) true) (sAnd true (sIf q106 true true))) (sIf q107 REST true))
noncomputable def c8q (op : Int) (ty : Int) (dst : Int) (regs : List Int) : Bool :=
  let q88 : Bool := sIf (sEq ty 0) (sNe dst (-1)) false;
  let q94 : Bool := sIf (sNe ty 0) (sEq dst (-1)) false;
  let q97 : Bool := sIf q88 true (sIf q94 (sNe op 30) false);
  let q106 : Bool := sIf q97 true (sIf (sLe 0 dst) (sNe (List.getD regs (Int.toNat dst) (0 : Int)) ty) false);
  let q107 : Bool := Tg.isN (Tg.mix q106 Tg.r Tg.n);
  q107
noncomputable def a9 (op : Int) (elem : Int) (REST : Bool) : Bool :=
  let q108 : Bool := sNe (Prod.snd (accOf elem)) 1;
  let q109 : Bool := sAnd (sEq op 26) (sNot q108);
  let q110 : Bool := sNot q109;
  let q111 : Bool := sOr q110 true;
  let q112 : Bool := sIf (sEq op 26) (sIf q108 true (sNe (Prod.fst (accOf elem)) elem)) false;
  let q113 : Bool := Tg.isN (Tg.mix q112 Tg.r Tg.n);
  (sAnd true (sAnd (sAnd (sAnd true (sAnd true (sAnd true (sAnd true (sAnd (sOr (sNot (sEq op 26)) true) (sAnd (sOr (sNot (sEq op 26)) (sAnd (sAnd (sEq op 26) true) true)) (sAnd (sOr (sNot (sEq op 26)) (sEq op 26)) (sAnd q111 (sAnd q111 (sAnd (sOr q110 q109) (sAnd (sOr q110 (sAnd (sAnd q109 q109) true)) (sAnd (sOr (sNot (sEq op 26)) (sAnd (sEq op 26) (sIf q108 true q109))) (sAnd (sAnd true (sIf (sEq op 26) (sEq op 26) true)) true))))))))))))) (sAnd true (sIf q112 true true))) (sIf q113 REST true)))
noncomputable def c9q (op : Int) (elem : Int) : Bool :=
  let q108 : Bool := sNe (Prod.snd (accOf elem)) 1;
  let q112 : Bool := sIf (sEq op 26) (sIf q108 true (sNe (Prod.fst (accOf elem)) elem)) false;
  let q113 : Bool := Tg.isN (Tg.mix q112 Tg.r Tg.n);
  q113
noncomputable def a10 (op : Int) (ty : Int) (imm : Int) (REST : Bool) : Bool :=
  let q114 : Bool := sOr (sNot (sEq op 1)) true;
  let q115 : Bool := sOr (sNot (sEq op 1)) (sEq op 1);
  let q116 : Bool := sIf (sEq op 1) (sNe (wrapR ty imm) imm) false;
  let q117 : Bool := sNot q116;
  let q118 : Bool := sNot q117;
  let q119 : Bool := sOr q118 q117;
  let q120 : Bool := sAnd q117 (sEq op 26);
  let q121 : Bool := sNot q120;
  let q122 : Bool := sOr q121 q120;
  let q123 : Bool := sAnd q120 (sNot (sLt imm 1));
  let q124 : Bool := sNot q123;
  let q125 : Bool := sIf q116 true (sIf (sEq op 26) (sIf (sLt imm 1) true (sLt 256 imm)) false);
  let q126 : Bool := Tg.isN (Tg.mix q125 Tg.r Tg.n);
  (sAnd (sAnd (sAnd (sAnd true (sAnd true (sAnd true (sAnd true (sAnd q114 (sAnd q115 (sAnd q114 (sAnd q115 (sAnd (sOr (sNot (sEq op 1)) (sAnd (sAnd (sEq op 1) (sAnd (sEq op 1) true)) true)) (sAnd q114 (sAnd q115 (sAnd (sOr (sNot (sEq op 1)) (sAnd (sAnd (sEq op 1) (sEq op 1)) true)) (sAnd (sAnd true (sIf (sEq op 1) (sEq op 1) true)) (sAnd true (sAnd (sOr q118 true) (sAnd q119 (sAnd (sOr q118 (sAnd (sAnd q117 true) true)) (sAnd q119 (sAnd (sOr q121 true) (sAnd q122 (sAnd (sOr q121 (sAnd (sAnd q120 true) true)) (sAnd q122 (sAnd (sOr q124 true) (sAnd (sOr q124 q123) (sAnd (sOr q124 (sAnd (sAnd q123 true) true)) (sAnd (sOr q121 (sAnd q120 (sIf (sLt imm 1) true q123))) (sAnd (sOr q118 (sAnd q117 (sIf (sEq op 26) q120 true))) (sAnd (sAnd true (sIf q116 true q117)) true)))))))))))))))))))))))))))) true) (sAnd true (sIf q125 true true))) (sIf q126 REST true))
noncomputable def c10q (op : Int) (ty : Int) (imm : Int) : Bool :=
  let q116 : Bool := sIf (sEq op 1) (sNe (wrapR ty imm) imm) false;
  let q125 : Bool := sIf q116 true (sIf (sEq op 26) (sIf (sLt imm 1) true (sLt 256 imm)) false);
  let q126 : Bool := Tg.isN (Tg.mix q125 Tg.r Tg.n);
  q126
noncomputable def a11 (op : Int) (iargs : List Int) (imm : Int) (regs : List Int) (REST : Bool) : Bool :=
  let q81 : Bool := sAnd true (sLt 0 ↑(List.length iargs));
  let q82 : Int := List.getD iargs 0 (0 : Int);
  let q83 : Bool := sAnd (sLe 0 q82) (sLt q82 ↑(List.length regs));
  let q84 : Int := List.getD regs (Int.toNat q82) (0 : Int);
  let q127 : Bool := sOr (sNot (sEq op 33)) (sEq op 33);
  let q128 : Bool := sAnd (sEq op 33) (sNot (sLt imm 0));
  let q129 : Bool := sNot q128;
  let q130 : Bool := sIf (sLt imm 0) true (sLt 3 imm);
  let q131 : Bool := sAnd (sEq op 33) (sNot q130);
  let q132 : Bool := sNot q131;
  let q133 : Bool := sOr q132 q131;
  let q134 : Bool := sAnd q131 (sLt 1 imm);
  let q135 : Bool := sNot q134;
  let q136 : Bool := sOr q135 true;
  let q137 : Bool := sOr q135 q134;
  let q138 : Bool := sAnd q134 true;
  let q139 : Bool := sIf (sEq op 33) (sIf q130 true (sIf (sLt 1 imm) (sEq q84 6) false)) false;
  let q140 : Bool := Tg.isN (Tg.mix q139 Tg.r Tg.n);
  (sAnd (sAnd (sAnd (sAnd true (sAnd true (sAnd true (sAnd true (sAnd (sOr (sNot (sEq op 33)) true) (sAnd q127 (sAnd (sOr (sNot (sEq op 33)) (sAnd (sAnd (sEq op 33) true) true)) (sAnd q127 (sAnd (sOr q129 true) (sAnd (sOr q129 q128) (sAnd (sOr q129 (sAnd (sAnd q128 true) true)) (sAnd (sOr (sNot (sEq op 33)) (sAnd (sEq op 33) (sIf (sLt imm 0) true q128))) (sAnd q127 (sAnd (sOr q132 true) (sAnd q133 (sAnd (sOr q132 (sAnd (sAnd q131 true) true)) (sAnd q133 (sAnd q136 (sAnd q137 (sAnd q136 (sAnd q137 (sAnd (sOr q135 (sAnd q138 q81)) (sAnd q137 (sAnd (sOr q135 (sAnd (sAnd q134 q134) q83)) (sAnd q137 (sAnd (sOr q135 (sAnd q138 true)) (sAnd (sOr q132 (sAnd q131 (sIf (sLt 1 imm) q134 true))) (sAnd (sOr (sNot (sEq op 33)) (sAnd (sEq op 33) (sIf q130 true q131))) (sAnd (sAnd true (sIf (sEq op 33) (sEq op 33) true)) true))))))))))))))))))))))))))))) true) (sAnd true (sIf q139 true true))) (sIf q140 REST true))
noncomputable def c11q (op : Int) (iargs : List Int) (imm : Int) (regs : List Int) : Bool :=
  let q82 : Int := List.getD iargs 0 (0 : Int);
  let q84 : Int := List.getD regs (Int.toNat q82) (0 : Int);
  let q130 : Bool := sIf (sLt imm 0) true (sLt 3 imm);
  let q139 : Bool := sIf (sEq op 33) (sIf q130 true (sIf (sLt 1 imm) (sEq q84 6) false)) false;
  let q140 : Bool := Tg.isN (Tg.mix q139 Tg.r Tg.n);
  q140
noncomputable def aL  : Bool :=
  true
theorem form25 (op : Int) (ty : Int) (dst : Int) (iargs : List Int) (imm : Int) (sym : Int) (elem : Int) (nw : Bool) (fnm : ByteArray) (fps : List Int) (fres : Int) (regs : List Int) (fbl : List (Sh.den blkS)) (gs : List (Sh.den gloS)) (fs : List (Sh.den funS)) : exFn (gN e39T) Tryd.f52 [insA op ty dst iargs imm sym elem nw, funA fnm fps fres regs fbl, modA gs fs] = some ((a0 op (a1 op imm sym elem nw (a2 op sym gs fs (a3 op iargs sym fs (a4 iargs regs (a5 dst regs (a6 op ty iargs sym fs (a7 op ty iargs sym regs fs (a8 op ty dst regs (a9 op elem (a10 op ty imm (a11 op iargs imm regs (aL ))))))))))))), AV.int IntKind.i64 (sIf (c0q op) (sIf (c1q op imm sym elem nw) (sIf (c2q op sym gs fs) (sIf (c3q op iargs sym fs) (sIf (c4q iargs regs) (sIf (c5q dst regs) (sIf (c6q op ty iargs sym fs) (sIf (c7q op ty iargs sym regs fs) (sIf (c8q op ty dst regs) (sIf (c9q op elem) (sIf (c10q op ty imm) (sIf (c11q op iargs imm regs) 0 10) 10) 9) 9) 9) 9) 10) 10) 3) 8) 3) 8)) := nf25 op ty dst iargs imm sym elem nw fnm fps fres regs fbl gs fs
set_option maxHeartbeats 0 in
theorem A0 (op : Int) (REST : Bool) (h : c0q op = true → REST = true) : a0 op REST = true := by
  cases REST
  · have h : c0q op = false := by
      cases hc : c0q op
      · rfl
      · exact absurd (h hc) (by decide)
    simp only [c0q] at h
    simp [a0, sAnd, sOr, sNot, sIf, sEq_d, sNe_d, sLt, sLe] at h ⊢
    all_goals grind
  · clear h
    simp [a0, sAnd, sOr, sNot, sIf, sEq_d, sNe_d, sLt, sLe]
    all_goals grind
theorem A1 (op : Int) (imm : Int) (sym : Int) (elem : Int) (nw : Bool) (REST : Bool) (h : c1q op imm sym elem nw = true → REST = true) : a1 op imm sym elem nw REST = true := by
  simp only [a1, c1q] at h ⊢
  by_cases h5 : op = 5
  · subst h5
    generalize sNe imm 0 = b1 at h ⊢
    generalize sNe sym 0 = b2 at h ⊢
    generalize sNe elem 0 = b3 at h ⊢
    revert h
    cases nw <;> cases b1 <;> cases b2 <;> cases b3 <;> cases REST <;> intro h <;> first | rfl | exact absurd (h rfl) (by decide)
  have e5 : sEq op 5 = false := by simpa [sEq] using h5
  have f5 : sNe op 5 = true := by simpa [sNe] using h5
  by_cases h6 : op = 6
  · subst h6
    generalize sNe imm 0 = b1 at h ⊢
    generalize sNe sym 0 = b2 at h ⊢
    generalize sNe elem 0 = b3 at h ⊢
    revert h
    cases nw <;> cases b1 <;> cases b2 <;> cases b3 <;> cases REST <;> intro h <;> first | rfl | exact absurd (h rfl) (by decide)
  have e6 : sEq op 6 = false := by simpa [sEq] using h6
  have f6 : sNe op 6 = true := by simpa [sNe] using h6
  by_cases h7 : op = 7
  · subst h7
    generalize sNe imm 0 = b1 at h ⊢
    generalize sNe sym 0 = b2 at h ⊢
    generalize sNe elem 0 = b3 at h ⊢
    revert h
    cases nw <;> cases b1 <;> cases b2 <;> cases b3 <;> cases REST <;> intro h <;> first | rfl | exact absurd (h rfl) (by decide)
  have e7 : sEq op 7 = false := by simpa [sEq] using h7
  have f7 : sNe op 7 = true := by simpa [sNe] using h7
  by_cases h26 : op = 26
  · subst h26
    generalize sNe imm 0 = b1 at h ⊢
    generalize sNe sym 0 = b2 at h ⊢
    generalize sNe elem 0 = b3 at h ⊢
    revert h
    cases nw <;> cases b1 <;> cases b2 <;> cases b3 <;> cases REST <;> intro h <;> first | rfl | exact absurd (h rfl) (by decide)
  have e26 : sEq op 26 = false := by simpa [sEq] using h26
  have f26 : sNe op 26 = true := by simpa [sNe] using h26
  by_cases h1 : op = 1
  · subst h1
    generalize sNe imm 0 = b1 at h ⊢
    generalize sNe sym 0 = b2 at h ⊢
    generalize sNe elem 0 = b3 at h ⊢
    revert h
    cases nw <;> cases b1 <;> cases b2 <;> cases b3 <;> cases REST <;> intro h <;> first | rfl | exact absurd (h rfl) (by decide)
  have e1 : sEq op 1 = false := by simpa [sEq] using h1
  have f1 : sNe op 1 = true := by simpa [sNe] using h1
  by_cases h33 : op = 33
  · subst h33
    generalize sNe imm 0 = b1 at h ⊢
    generalize sNe sym 0 = b2 at h ⊢
    generalize sNe elem 0 = b3 at h ⊢
    revert h
    cases nw <;> cases b1 <;> cases b2 <;> cases b3 <;> cases REST <;> intro h <;> first | rfl | exact absurd (h rfl) (by decide)
  have e33 : sEq op 33 = false := by simpa [sEq] using h33
  have f33 : sNe op 33 = true := by simpa [sNe] using h33
  by_cases h25 : op = 25
  · subst h25
    generalize sNe imm 0 = b1 at h ⊢
    generalize sNe sym 0 = b2 at h ⊢
    generalize sNe elem 0 = b3 at h ⊢
    revert h
    cases nw <;> cases b1 <;> cases b2 <;> cases b3 <;> cases REST <;> intro h <;> first | rfl | exact absurd (h rfl) (by decide)
  have e25 : sEq op 25 = false := by simpa [sEq] using h25
  have f25 : sNe op 25 = true := by simpa [sNe] using h25
  by_cases h30 : op = 30
  · subst h30
    generalize sNe imm 0 = b1 at h ⊢
    generalize sNe sym 0 = b2 at h ⊢
    generalize sNe elem 0 = b3 at h ⊢
    revert h
    cases nw <;> cases b1 <;> cases b2 <;> cases b3 <;> cases REST <;> intro h <;> first | rfl | exact absurd (h rfl) (by decide)
  have e30 : sEq op 30 = false := by simpa [sEq] using h30
  have f30 : sNe op 30 = true := by simpa [sNe] using h30
  simp only [e5, f5, e6, f6, e7, f7, e26, f26, e1, f1, e33, f33, e25, f25, e30, f30] at h ⊢
  generalize sNe imm 0 = b1 at h ⊢
  generalize sNe sym 0 = b2 at h ⊢
  generalize sNe elem 0 = b3 at h ⊢
  revert h
  cases nw <;> cases b1 <;> cases b2 <;> cases b3 <;> cases REST <;> intro h <;> first | rfl | exact absurd (h rfl) (by decide)
set_option maxHeartbeats 0 in
theorem A2 (op : Int) (sym : Int) (gs : List (Sh.den gloS)) (fs : List (Sh.den funS)) (REST : Bool) (h : c2q op sym gs fs = true → REST = true) : a2 op sym gs fs REST = true := by
  cases REST
  · have h : c2q op sym gs fs = false := by
      cases hc : c2q op sym gs fs
      · rfl
      · exact absurd (h hc) (by decide)
    simp only [c2q] at h
    simp [a2, sAnd, sOr, sNot, sIf, sEq_d, sNe_d, sLt, sLe] at h ⊢
    all_goals grind
  · clear h
    simp [a2, sAnd, sOr, sNot, sIf, sEq_d, sNe_d, sLt, sLe]
    all_goals grind
set_option maxHeartbeats 0 in
theorem A3 (op : Int) (iargs : List Int) (sym : Int) (fs : List (Sh.den funS)) (hk : okC op sym fs = true) (REST : Bool) (h : c3q op iargs sym fs = true → REST = true) : a3 op iargs sym fs REST = true := by
  cases REST
  · have h : c3q op iargs sym fs = false := by
      cases hc : c3q op iargs sym fs
      · rfl
      · exact absurd (h hc) (by decide)
    simp only [c3q] at h
    simp [a3, sAnd, sOr, sNot, sIf, sEq_d, sNe_d, sLt, sLe, hk] at h ⊢
    all_goals grind
  · clear h
    simp [a3, sAnd, sOr, sNot, sIf, sEq_d, sNe_d, sLt, sLe, hk]
    all_goals grind
theorem A4 (iargs : List Int) (regs : List Int) (hL : L25_0 iargs regs = [Sc.i (badRN iargs regs : Nat)]) (hw : whileW (s25_0 iargs regs) [Sc.i 0] = some [Sc.i (badRN iargs regs : Nat)]) (hb : iargs.length ≤ 1000) (REST : Bool) (h : c4q iargs regs = true → REST = true) : a4 iargs regs REST = true := by
  have hle := badRN_le iargs regs
  have e20 : (0 + iargs.length) * 8 ≤ 140737488355328 := by omega
  have e2 : sLe (((0 + iargs.length) * 8 : Nat) : Int) 140737488355328 = true := decide_eq_true (Int.ofNat_le.2 e20)
  simp only [a4, c4q, List.nil_append, e2] at h ⊢
  rw [hL] at h ⊢
  rw [hw]
  rcases Nat.lt_or_ge (badRN iargs regs) iargs.length with hl | hl
  · have hq : badR regs (iargs.getD (badRN iargs regs) 0) = true := runEnd (d := (0 : Int)) hl
    have k1 : sLt ((badRN iargs regs : Nat) : Int) (iargs.length : Int) = true := sLt_true (by omega)
    have k2 : sLt ((badRN iargs regs : Nat) : Int) 0 = false := sLt_false (by omega)
    simp only [hd_cons, Sc.toI_i, Int.toNat_natCast, k1]
    rw [sLe_eq 0 ((badRN iargs regs : Nat) : Int), k2]
    simp only [badR, sLe_eq] at hq ⊢
    revert hq
    generalize sLt (List.getD iargs (badRN iargs regs) 0) 0 = a
    generalize sLt (List.getD iargs (badRN iargs regs) 0) (regs.length : Int) = b
    cases a <;> cases b <;> intro hq <;> first | (exact absurd hq (by decide)) | rfl
  · have k1 : sLt ((badRN iargs regs : Nat) : Int) (iargs.length : Int) = false := sLt_false (by omega)
    simp only [hd_cons, Sc.toI_i, Int.toNat_natCast, k1] at h ⊢
    have hR : REST = true := h rfl
    rw [hR]
    rfl
theorem c4_eq (iargs regs : List Int) (hL : L25_0 iargs regs = [Sc.i (badRN iargs regs : Nat)]) : c4q iargs regs = sNot (decide (badRN iargs regs < iargs.length)) := by
  have hle := badRN_le iargs regs
  simp only [c4q, List.nil_append]
  rw [hL]
  rcases Nat.lt_or_ge (badRN iargs regs) iargs.length with hl | hl
  · have hq : badR regs (iargs.getD (badRN iargs regs) 0) = true := runEnd (d := (0 : Int)) hl
    have k1 : sLt ((badRN iargs regs : Nat) : Int) (iargs.length : Int) = true := sLt_true (by omega)
    simp only [hd_cons, Sc.toI_i, Int.toNat_natCast, k1]
    rw [decide_eq_true hl]
    simp only [badR] at hq
    rw [hq]
    rfl
  · have k1 : sLt ((badRN iargs regs : Nat) : Int) (iargs.length : Int) = false := sLt_false (by omega)
    simp only [hd_cons, Sc.toI_i, Int.toNat_natCast, k1]
    rw [decide_eq_false (by omega)]
    rfl
set_option maxHeartbeats 0 in
theorem A5 (dst : Int) (regs : List Int) (REST : Bool) (h : c5q dst regs = true → REST = true) : a5 dst regs REST = true := by
  cases REST
  · have h : c5q dst regs = false := by
      cases hc : c5q dst regs
      · rfl
      · exact absurd (h hc) (by decide)
    simp only [c5q] at h
    simp [a5, sAnd, sOr, sNot, sIf, sEq_d, sNe_d, sLt, sLe] at h ⊢
    all_goals grind
  · clear h
    simp [a5, sAnd, sOr, sNot, sIf, sEq_d, sNe_d, sLt, sLe]
    all_goals grind
set_option maxHeartbeats 0 in
theorem A6 (op : Int) (ty : Int) (iargs : List Int) (sym : Int) (fs : List (Sh.den funS)) (hk : okC op sym fs = true) (REST : Bool) (h : c6q op ty iargs sym fs = true → REST = true) : a6 op ty iargs sym fs REST = true := by
  cases REST
  · have h : c6q op ty iargs sym fs = false := by
      cases hc : c6q op ty iargs sym fs
      · rfl
      · exact absurd (h hc) (by decide)
    simp only [c6q] at h
    simp [a6, sAnd, sOr, sNot, sIf, sEq_d, sNe_d, sLt, sLe, hk] at h ⊢
    all_goals grind
  · clear h
    simp [a6, sAnd, sOr, sNot, sIf, sEq_d, sNe_d, sLt, sLe, hk]
    all_goals grind
theorem c7_eq (op : Int) (ty : Int) (iargs : List Int) (sym : Int) (regs : List Int) (fs : List (Sh.den funS)) (hL : L25_1 op ty iargs sym regs fs = [Sc.i (opdN op ty sym iargs regs fs : Nat)]) : c7q op ty iargs sym regs fs = decide (opdN op ty sym iargs regs fs = iargs.length) := by
  have hle := opdN_le op ty sym iargs regs fs
  simp only [c7q]
  rw [hL]
  rcases Nat.lt_or_ge (opdN op ty sym iargs regs fs) iargs.length with hl | hl
  · have hq := opdN_at hl
    have k1 : sLt ((opdN op ty sym iargs regs fs : Nat) : Int) (iargs.length : Int) = true := sLt_true (by omega)
    simp only [hd_cons, Sc.toI_i, Int.toNat_natCast, k1]
    rw [decide_eq_false (by omega)]
    simp only [opdAt] at hq
    rw [hq]
    rfl
  · have k1 : sLt ((opdN op ty sym iargs regs fs : Nat) : Int) (iargs.length : Int) = false := sLt_false (by omega)
    simp only [hd_cons, Sc.toI_i, Int.toNat_natCast, k1]
    rw [decide_eq_true (by omega)]
    rfl
theorem A7 (op : Int) (ty : Int) (iargs : List Int) (sym : Int) (regs : List Int) (fs : List (Sh.den funS)) (hL : L25_1 op ty iargs sym regs fs = [Sc.i (opdN op ty sym iargs regs fs : Nat)]) (hw : whileW (s25_1 op ty iargs sym regs fs) [Sc.i 0] = some [Sc.i (opdN op ty sym iargs regs fs : Nat)]) (hr : badRN iargs regs = iargs.length) (hk : okC op sym fs = true) (hp : op = 30 → iargs.length = (fnAt fs sym).2.1.length) (REST : Bool) (h : c7q op ty iargs sym regs fs = true → REST = true) : a7 op ty iargs sym regs fs REST = true := by
  have hle := opdN_le op ty sym iargs regs fs
  rw [c7_eq _ _ _ _ _ _ hL] at h
  simp only [a7]
  rw [hL, hw]
  rcases Nat.lt_or_ge (opdN op ty sym iargs regs fs) iargs.length with hl | hl
  · have hq := opdN_at hl
    obtain ⟨r1, r2⟩ := in_range hr hl
    obtain ⟨r3, r4⟩ := in_range hr (show 0 < iargs.length by omega)
    have k1 : sLt ((opdN op ty sym iargs regs fs : Nat) : Int) (iargs.length : Int) = true := sLt_true (by omega)
    have k2 : sLe 0 ((opdN op ty sym iargs regs fs : Nat) : Int) = true := decide_eq_true (by omega)
    have m1 : sLe 0 (iargs.getD (opdN op ty sym iargs regs fs) 0) = true := decide_eq_true r1
    have m2 : sLt (iargs.getD (opdN op ty sym iargs regs fs) 0) (regs.length : Int) = true := decide_eq_true r2
    have m3 : sLe 0 (iargs.getD 0 0) = true := decide_eq_true r3
    have m4 : sLt (iargs.getD 0 0) (regs.length : Int) = true := decide_eq_true r4
    have m5 : sLt 0 (iargs.length : Int) = true := sLt_true (by omega)
    have m6 : okK op sym ((opdN op ty sym iargs regs fs : Nat) : Int) fs = true := by
      unfold okK
      rw [hk, Bool.true_and]
      exact decide_eq_true (fun e => by have := hp e; omega)
    simp only [hd_cons, Sc.toI_i, Int.toNat_natCast, k1, k2, m1, m2, m3, m4, m5, m6]
    simp only [opdAt] at hq
    rw [hq]
    rfl
  · have k1 : sLt ((opdN op ty sym iargs regs fs : Nat) : Int) (iargs.length : Int) = false := sLt_false (by omega)
    have hR : REST = true := h (decide_eq_true (by omega))
    simp only [hd_cons, Sc.toI_i, Int.toNat_natCast, k1]
    rw [hR]
    rfl
theorem sNe_sEq (a b : Int) : sNe a b = sNot (sEq a b) := by rw [sNe_d, sEq_d]
theorem A8 (op : Int) (ty : Int) (dst : Int) (regs : List Int) (hd : 0 ≤ dst → dst < (regs.length : Int)) (REST : Bool) (h : c8q op ty dst regs = true → REST = true) : a8 op ty dst regs REST = true := by
  have hd' : sLe 0 dst = true → sLt dst (regs.length : Int) = true := fun e => sLt_true (hd (of_decide_eq_true e))
  simp only [a8, c8q, sNe_sEq ty 0, sNe_sEq dst (-1)] at h ⊢
  revert h hd'
  generalize sEq ty 0 = b1
  generalize sEq dst (-1) = b2
  generalize sNe op 30 = b3
  generalize sLe 0 dst = b4
  generalize sLt dst (regs.length : Int) = b5
  generalize sNe (List.getD regs (Int.toNat dst) (0 : Int)) ty = b6
  cases b1 <;> cases b2 <;> cases b3 <;> cases b4 <;> cases b5 <;> cases b6 <;> cases REST <;> intro hd' h <;> first | rfl | exact absurd (h rfl) (by decide) | exact absurd (hd' rfl) (by decide)
set_option maxHeartbeats 0 in
theorem A9 (op : Int) (elem : Int) (REST : Bool) (h : c9q op elem = true → REST = true) : a9 op elem REST = true := by
  cases REST
  · have h : c9q op elem = false := by
      cases hc : c9q op elem
      · rfl
      · exact absurd (h hc) (by decide)
    simp only [c9q] at h
    simp [a9, sAnd, sOr, sNot, sIf, sEq_d, sNe_d, sLt, sLe] at h ⊢
    all_goals grind
  · clear h
    simp [a9, sAnd, sOr, sNot, sIf, sEq_d, sNe_d, sLt, sLe]
    all_goals grind
set_option maxHeartbeats 0 in
theorem A10 (op : Int) (ty : Int) (imm : Int) (REST : Bool) (h : c10q op ty imm = true → REST = true) : a10 op ty imm REST = true := by
  cases REST
  · have h : c10q op ty imm = false := by
      cases hc : c10q op ty imm
      · rfl
      · exact absurd (h hc) (by decide)
    simp only [c10q] at h
    simp [a10, sAnd, sOr, sNot, sIf, sEq_d, sNe_d, sLt, sLe] at h ⊢
    all_goals grind
  · clear h
    simp [a10, sAnd, sOr, sNot, sIf, sEq_d, sNe_d, sLt, sLe]
    all_goals grind
theorem A11 (op : Int) (iargs : List Int) (imm : Int) (regs : List Int) (h33 : op = 33 → 0 < iargs.length ∧ 0 ≤ iargs.getD 0 0 ∧ iargs.getD 0 0 < (regs.length : Int)) (REST : Bool) (h : c11q op iargs imm regs = true → REST = true) : a11 op iargs imm regs REST = true := by
  have hd' : sEq op 33 = true → sAnd (sLt 0 (iargs.length : Int)) (sAnd (sLe 0 (iargs.getD 0 0)) (sLt (iargs.getD 0 0) (regs.length : Int))) = true := fun e => by
    have e : op = 33 := by simpa [sEq] using e
    obtain ⟨g1, g2, g3⟩ := h33 e
    have k1 : sLt 0 (iargs.length : Int) = true := sLt_true (by omega)
    have k2 : sLe 0 (iargs.getD 0 0) = true := decide_eq_true g2
    rw [k1, k2, sLt_true g3]
    rfl
  simp only [a11, c11q] at h ⊢
  revert h hd'
  generalize sEq op 33 = b1
  generalize sLt imm 0 = b2
  generalize sLt 3 imm = b3
  generalize sLt 1 imm = b4
  generalize sLt 0 (iargs.length : Int) = b5
  generalize sLe 0 (iargs.getD 0 0) = b6
  generalize sLt (iargs.getD 0 0) (regs.length : Int) = b7
  generalize sEq (List.getD regs (Int.toNat (List.getD iargs 0 (0 : Int))) (0 : Int)) 6 = b8
  cases b1 <;> cases b2 <;> cases b3 <;> cases b4 <;> cases b5 <;> cases b6 <;> cases b7 <;> cases b8 <;> cases REST <;> intro hd' h <;> first | rfl | exact absurd (h rfl) (by decide) | exact absurd (hd' rfl) (by decide)
end Go.Proofs.YtaajbcflmaihgaaDoor
