/- The reading of the reference's check of an expression. No conditions. -/
import Derived.Test.YtaajbcflmaihgaaDoorExpNode
set_option linter.all false
namespace Go.Proofs.YtaajbcflmaihgaaDoor
open Go Ab
set_option maxRecDepth 100000
noncomputable def y1 : XTab := { x5 with k := (31, preC (argsT Tryd.prog Tryd.f31) xm31) :: x5.k }
theorem yk1 (hm : Tryd.prog.follows .mixedOrders = true) : XOk y1 := (xk5 hm).consK (xk31 hm)
noncomputable def xs11_0 (es : List (Sh.den nodS)) (regs : List Int) (gs : List (Sh.den gloS)) (fs : List (Sh.den funS)) : List Sc → Bool × Bool × List Sc := fun xs => let q0 : Bool := sLt (Sc.toI (hd xs)) ↑(List.length es);
  let q1 : Tg := Tg.mix q0 Tg.n (Tg.x 0);
  let q2 : Sh.den (Sh.prod (Sh.int IntKind.i64) (Sh.prod (Sh.int IntKind.i64) (Sh.prod (Sh.int IntKind.i64) Sh.unit))) := List.getD es (Int.toNat (Sc.toI (hd xs))) (Sh.dflt (Sh.prod (Sh.int IntKind.i64) (Sh.prod (Sh.int IntKind.i64) (Sh.prod (Sh.int IntKind.i64) Sh.unit))));
  let q3 : Sh.den (Sh.int IntKind.i64) := Prod.fst q2;
  let q4 : Bool := sEq q3 4;
  let q5 : Bool := sNot q4;
  let q6 : Bool := sNot q5;
  let q7 : Bool := sIf q4 true (sEq q3 1);
  let q8 : Bool := sNot q7;
  let q9 : Bool := sNot q8;
  let q10 : Bool := sEq q3 25;
  let q11 : Bool := sIf q7 true q10;
  let q12 : Bool := sNot q11;
  let q13 : Bool := sNot q12;
  let q14 : Bool := sNe q3 28;
  let q15 : Bool := sNot q14;
  let q16 : Bool := sOr q15 q14;
  let q17 : Bool := sIf q14 (sNot (specOp q3)) false;
  let q18 : Tg := Tg.mix q17 Tg.r Tg.n;
  let q19 : Bool := sOr q5 true;
  let q20 : Bool := sOr q5 q4;
  let q21 : Bool := sOr q5 (sAnd (sAnd q4 true) true);
  let q22 : Sh.den (Sh.prod (Sh.int IntKind.i64) (Sh.prod (Sh.int IntKind.i64) Sh.unit)) := Prod.snd q2;
  let q23 : Sh.den (Sh.int IntKind.i64) := Prod.fst (Prod.snd q22);
  let q24 : Bool := sLt q23 0;
  let q25 : Bool := sNot q24;
  let q26 : Bool := sAnd q4 q25;
  let q27 : Bool := sNot q26;
  let q28 : Bool := sOr q27 true;
  let q29 : Bool := sOr q27 q26;
  let q30 : Bool := sAnd true (sIf q4 q4 true);
  let q31 : Bool := sIf q4 (sIf q24 true (sLe (↑(List.length regs)) q23)) false;
  let q32 : Bool := sNot q31;
  let q33 : Bool := sNot q32;
  let q34 : Bool := sOr q33 q32;
  let q35 : Bool := sAnd q32 q10;
  let q36 : Bool := sNot q35;
  let q37 : Bool := sOr q36 q35;
  let q38 : Bool := sAnd q35 q25;
  let q39 : Bool := sNot q38;
  let q40 : Bool := sOr q39 true;
  let q41 : Bool := sOr q39 q38;
  let q42 : Bool := sIf q31 true (sIf q10 (sIf q24 true (sLe (↑(List.length gs)) q23)) false);
  let q43 : Tg := Tg.mix q42 Tg.r Tg.n;
  let q44 : Sh.den (Sh.int IntKind.i64) := Prod.fst q22;
  let q45 : Bool := sIf q4 (sNe q44 0) false;
  let q46 : Bool := sNot q45;
  let q47 : Bool := sNot q46;
  let q48 : Bool := sOr q47 q46;
  let q49 : Bool := sNe q23 0;
  let q50 : Bool := sAnd q46 q49;
  let q51 : Bool := sNot q50;
  let q52 : Bool := sIf q45 true (sIf q49 (sNot (sIf q11 true (sEq q3 33))) false);
  let q53 : Tg := Tg.mix q52 Tg.r Tg.n;
  let q54 : Nat := List.length (Sc.toD (Sh.sl (Sh.int IntKind.i64)) (hd (tl xs)));
  let q55 : Int := ↑q54;
  let q56 : Int := arity q3 q44;
  let q57 : Bool := sLt q55 q56;
  let q58 : Tg := Tg.mix q57 Tg.r Tg.n;
  let q59 : List (Sh.den (Sh.int IntKind.i64)) := [List.getD regs (Int.toNat q23) (Sh.dflt (Sh.int IntKind.i64))];
  let q60 : Tg := Tg.mix q4 (Tg.x 1) Tg.n;
  let q61 : Int := Option.getD (some (IntKind.wrap IntKind.i64 (q55 - q56))) 0;
  let q62 : Int := Option.getD none q55;
  let q63 : Nat := Int.toNat q61;
  let q64 : List (Sh.den (Sh.int IntKind.i64)) := List.take (Int.toNat q62 - q63) (List.drop q63 (Sc.toD (Sh.sl (Sh.int IntKind.i64)) (hd (tl xs))));
  let q65 : Nat := List.length q64;
  let q66 : Int := immOf q3 q23;
  let q67 : Bool := sNe (chkV q3 q44 0 (rangeM q65) q66 (symOf q3 q23) 0 false ([q44] ++ q64) gs fs) 0;
  let q68 : Tg := Tg.mix q67 Tg.r Tg.n;
  let q69 : Int := Option.getD (some (IntKind.wrap IntKind.i64 (q55 - q56))) q55;
  let q70 : List (Sh.den (Sh.int IntKind.i64)) := [q44];
  let q71 : Nat := List.length q70;
  let q72 : Nat := Int.toNat q69 - 0;
  let q73 : Tg := Tg.thenN q18 (Tg.thenN q43 (Tg.thenN q53 (Tg.thenN q58 (Tg.thenN q60 (Tg.thenN q68 Tg.n)))));
  let q74 : Tg := Tg.block 1 q73;
  (sAnd true
    (sIf true
      (sAnd (sAnd true (sIf q0 true true))
        (sIf (Tg.isN q1)
          (sAnd
            (sAnd (sAnd (sAnd true (sAnd (sLe 0 (Sc.toI (hd xs))) q0)) true)
              (sIf true
                (sAnd true
                  (sIf true
                    (sAnd
                      (sAnd true
                        (sAnd true
                          (sAnd true
                            (sAnd true
                              (sAnd (sOr q6 true)
                                (sAnd (sOr q6 q5)
                                  (sAnd (sOr q6 (sAnd (sAnd q5 true) true))
                                    (sAnd (sAnd true (sIf q4 true q5))
                                      (sAnd true
                                        (sAnd (sOr q9 true)
                                          (sAnd (sOr q9 q8)
                                            (sAnd (sOr q9 (sAnd (sAnd q8 true) true))
                                              (sAnd (sAnd true (sIf q7 true q8))
                                                (sAnd true
                                                  (sAnd (sOr q13 true)
                                                    (sAnd (sOr q13 q12)
                                                      (sAnd (sOr q13 (sAnd (sAnd q12 true) true))
                                                        (sAnd (sAnd true (sIf q11 true q12)) true))))))))))))))))))
                      (sIf true
                        (sAnd
                          (sAnd
                            (sAnd true
                              (sAnd true
                                (sAnd true
                                  (sAnd true
                                    (sAnd (sOr q15 true)
                                      (sAnd q16
                                        (sAnd (sOr q15 (sAnd (sAnd q14 true) true))
                                          (sAnd q16 (sAnd (sAnd true (sIf q14 q14 true)) true)))))))))
                            (sIf true (sAnd true (sIf q17 true true)) true))
                          (sIf (Tg.isN q18)
                            (sAnd
                              (sAnd
                                (sAnd true
                                  (sAnd true
                                    (sAnd true
                                      (sAnd true
                                        (sAnd q19
                                          (sAnd q20
                                            (sAnd q21
                                              (sAnd q20
                                                (sAnd q28
                                                  (sAnd q29
                                                    (sAnd q28
                                                      (sAnd q29
                                                        (sAnd q29
                                                          (sAnd (sOr q27 (sAnd (sAnd q26 q26) true))
                                                            (sAnd (sOr q5 (sAnd q4 (sIf q24 true q26)))
                                                              (sAnd q30
                                                                (sAnd true
                                                                  (sAnd (sOr q33 true)
                                                                    (sAnd q34
                                                                      (sAnd (sOr q33 (sAnd (sAnd q32 true) true))
                                                                        (sAnd q34
                                                                          (sAnd (sOr q36 true)
                                                                            (sAnd q37
                                                                              (sAnd
                                                                                (sOr q36 (sAnd (sAnd q35 true) true))
                                                                                (sAnd q37
                                                                                  (sAnd q40
                                                                                    (sAnd q41
                                                                                      (sAnd q40
                                                                                        (sAnd q41
                                                                                          (sAnd q41
                                                                                            (sAnd
                                                                                              (sOr q39
                                                                                                (sAnd (sAnd q38 q38)
                                                                                                  true))
                                                                                              (sAnd
                                                                                                (sOr q36
                                                                                                  (sAnd q35
                                                                                                    (sIf q24 true q38)))
                                                                                                (sAnd
                                                                                                  (sOr q33
                                                                                                    (sAnd q32
                                                                                                      (sIf q10 q35
                                                                                                        true)))
                                                                                                  (sAnd
                                                                                                    (sAnd true
                                                                                                      (sIf q31 true
                                                                                                        q32))
                                                                                                    true))))))))))))))))))))))))))))))))))
                                (sIf true (sAnd true (sIf q42 true true)) true))
                              (sIf (Tg.isN q43)
                                (sAnd
                                  (sAnd
                                    (sAnd true
                                      (sAnd true
                                        (sAnd true
                                          (sAnd true
                                            (sAnd q19
                                              (sAnd q20
                                                (sAnd q21
                                                  (sAnd q30
                                                    (sAnd true
                                                      (sAnd (sOr q47 true)
                                                        (sAnd q48
                                                          (sAnd (sOr q47 (sAnd (sAnd q46 true) true))
                                                            (sAnd q48
                                                              (sAnd (sOr q51 true)
                                                                (sAnd (sOr q51 q50)
                                                                  (sAnd (sOr q47 (sAnd q46 (sIf q49 q50 true)))
                                                                    (sAnd (sAnd true (sIf q45 true q46))
                                                                      true)))))))))))))))))
                                    (sIf true (sAnd true (sIf q52 true true)) true))
                                  (sIf (Tg.isN q53)
                                    (sAnd (sAnd true (sIf true (sAnd true (sIf q57 true true)) true))
                                      (sIf (Tg.isN q58)
                                        (sAnd
                                          (sAnd true
                                            (sIf true
                                              (sAnd true
                                                (sIf q4
                                                  (sAnd
                                                    (sAnd true
                                                      (sAnd true
                                                        (sAnd true
                                                          (sAnd true
                                                            (sAnd true
                                                              (sAnd
                                                                (sAnd true
                                                                  (sAnd (sLe 0 q23) (sLt q23 ↑(List.length regs))))
                                                                (sAnd true
                                                                  (sAnd true
                                                                    (sAnd
                                                                      (sAnd true
                                                                        (sLe (↑((q54 + List.length q59) * 8))
                                                                          140737488355328))
                                                                      true)))))))))
                                                    true)
                                                  true))
                                              true))
                                          (sIf (Tg.isN q60)
                                            (sAnd true
                                              (sIf true
                                                (sAnd
                                                  (sAnd
                                                    (sAnd true
                                                      (sAnd true
                                                        (sAnd true
                                                          (sAnd
                                                            (sAnd true
                                                              (sAnd (sAnd (sLe 0 q61) (sLe q61 q62)) (sLe q62 q55)))
                                                            (sAnd true
                                                              (sAnd (sAnd true (sAnd (len1000 q65) (okImm q66)))
                                                                true))))))
                                                    true)
                                                  (sIf true
                                                    (sAnd (sAnd true (sIf true (sAnd true (sIf q67 true true)) true))
                                                      (sIf (Tg.isN q68)
                                                        (sAnd true
                                                          (sAnd true
                                                            (sAnd
                                                              (sAnd true
                                                                (sAnd (sAnd true (sLe (Option.getD none 0) q69))
                                                                  (sLe q69 q55)))
                                                              (sAnd true
                                                                (sAnd true
                                                                  (sAnd
                                                                    (sAnd true
                                                                      (sAnd (sLt 0 ↑q71)
                                                                        (sLe (↑((q72 + q71) * 8)) 140737488355328)))
                                                                    true))))))
                                                        true))
                                                    true))
                                                true))
                                            true))
                                        true))
                                    true))
                                true))
                            true))
                        true))
                    true))
                true))
            (sIf (Tg.isN q74) true true))
          true))
      true),
  Tg.isN (Tg.thenN q1 (Tg.thenN q74 Tg.n)),
  [Sc.i (IntKind.wrap IntKind.i64 (Sc.toI (hd xs) + 1)),
    Sc.d (Sh.sl (Sh.int IntKind.i64))
      (sIf (Tg.isN q73) (List.take q72 (Sc.toD (Sh.sl (Sh.int IntKind.i64)) (hd (tl xs))) ++ q70)
        (Sc.toD (Sh.sl (Sh.int IntKind.i64)) (hd (tl xs)) ++ q59))])
noncomputable def xL11_0 (es : List (Sh.den nodS)) (regs : List Int) (gs : List (Sh.den gloS)) (fs : List (Sh.den funS)) : List Sc := Option.getD (whileW (xs11_0 es regs gs fs) [Sc.i 0, Sc.d (Sh.sl (Sh.int IntKind.i64)) []]) [Sc.i 0, Sc.d (Sh.sl (Sh.int IntKind.i64)) []]
theorem xf11 (es : List (Sh.den nodS)) (fnm : ByteArray) (fps : List Int) (fres : Int) (regs : List Int) (fbl : List (Sh.den blkS)) (gs : List (Sh.den gloS)) (fs : List (Sh.den funS)) : exFn (gX y1) Tryd.f11 [AV.dsl nodS es, funA fnm fps fres regs fbl, modA gs fs] = (
 let q0 : Bool := sLt (Sc.toI (hd (xL11_0 es regs gs fs))) ↑(List.length es);
  let q1 : Tg := Tg.mix q0 Tg.n (Tg.x 0);
  let q2 : Sh.den (Sh.prod (Sh.int IntKind.i64) (Sh.prod (Sh.int IntKind.i64) (Sh.prod (Sh.int IntKind.i64) Sh.unit))) := List.getD es (Int.toNat (Sc.toI (hd (xL11_0 es regs gs fs)))) (Sh.dflt (Sh.prod (Sh.int IntKind.i64) (Sh.prod (Sh.int IntKind.i64) (Sh.prod (Sh.int IntKind.i64) Sh.unit))));
  let q3 : Sh.den (Sh.int IntKind.i64) := Prod.fst q2;
  let q4 : Bool := sEq q3 4;
  let q5 : Bool := sNot q4;
  let q6 : Bool := sNot q5;
  let q7 : Bool := sIf q4 true (sEq q3 1);
  let q8 : Bool := sNot q7;
  let q9 : Bool := sNot q8;
  let q10 : Bool := sEq q3 25;
  let q11 : Bool := sIf q7 true q10;
  let q12 : Bool := sNot q11;
  let q13 : Bool := sNot q12;
  let q14 : Bool := sNe q3 28;
  let q15 : Bool := sNot q14;
  let q16 : Bool := sOr q15 q14;
  let q17 : Bool := sIf q14 (sNot (specOp q3)) false;
  let q18 : Tg := Tg.mix q17 Tg.r Tg.n;
  let q19 : Bool := Tg.isN q18;
  let q20 : Bool := sOr q5 true;
  let q21 : Bool := sOr q5 q4;
  let q22 : Bool := sOr q5 (sAnd (sAnd q4 true) true);
  let q23 : Sh.den (Sh.prod (Sh.int IntKind.i64) (Sh.prod (Sh.int IntKind.i64) Sh.unit)) := Prod.snd q2;
  let q24 : Sh.den (Sh.int IntKind.i64) := Prod.fst (Prod.snd q23);
  let q25 : Bool := sLt q24 0;
  let q26 : Bool := sNot q25;
  let q27 : Bool := sAnd q4 q26;
  let q28 : Bool := sNot q27;
  let q29 : Bool := sOr q28 true;
  let q30 : Bool := sOr q28 q27;
  let q31 : Bool := sAnd true (sIf q4 q4 true);
  let q32 : Bool := sIf q4 (sIf q25 true (sLe (↑(List.length regs)) q24)) false;
  let q33 : Bool := sNot q32;
  let q34 : Bool := sNot q33;
  let q35 : Bool := sOr q34 q33;
  let q36 : Bool := sAnd q33 q10;
  let q37 : Bool := sNot q36;
  let q38 : Bool := sOr q37 q36;
  let q39 : Bool := sAnd q36 q26;
  let q40 : Bool := sNot q39;
  let q41 : Bool := sOr q40 true;
  let q42 : Bool := sOr q40 q39;
  let q43 : Bool := sIf q32 true (sIf q10 (sIf q25 true (sLe (↑(List.length gs)) q24)) false);
  let q44 : Tg := Tg.mix q43 Tg.r Tg.n;
  let q45 : Bool := Tg.isN q44;
  let q46 : Sh.den (Sh.int IntKind.i64) := Prod.fst q23;
  let q47 : Bool := sIf q4 (sNe q46 0) false;
  let q48 : Bool := sNot q47;
  let q49 : Bool := sNot q48;
  let q50 : Bool := sOr q49 q48;
  let q51 : Bool := sNe q24 0;
  let q52 : Bool := sAnd q48 q51;
  let q53 : Bool := sNot q52;
  let q54 : Bool := sIf q47 true (sIf q51 (sNot (sIf q11 true (sEq q3 33))) false);
  let q55 : Tg := Tg.mix q54 Tg.r Tg.n;
  let q56 : Bool := Tg.isN q55;
  let q57 : Sh.den (Sh.sl (Sh.int IntKind.i64)) := Sc.toD (Sh.sl (Sh.int IntKind.i64)) (hd (tl (xL11_0 es regs gs fs)));
  let q58 : Nat := List.length q57;
  let q59 : Int := ↑q58;
  let q60 : Int := arity q3 q46;
  let q61 : Bool := sLt q59 q60;
  let q62 : Tg := Tg.mix q61 Tg.r Tg.n;
  let q63 : Bool := Tg.isN q62;
  let q64 : Tg := Tg.mix q4 (Tg.x 1) Tg.n;
  let q65 : Int := Option.getD (some (IntKind.wrap IntKind.i64 (q59 - q60))) 0;
  let q66 : Int := Option.getD none q59;
  let q67 : Nat := Int.toNat q65;
  let q68 : List (Sh.den (Sh.int IntKind.i64)) := List.take (Int.toNat q66 - q67) (List.drop q67 q57);
  let q69 : Nat := List.length q68;
  let q70 : Int := immOf q3 q24;
  let q71 : Int := chkV q3 q46 0 (rangeM q69) q70 (symOf q3 q24) 0 false ([q46] ++ q68) gs fs;
  let q72 : Bool := sNe q71 0;
  let q73 : Tg := Tg.mix q72 Tg.r Tg.n;
  let q74 : Int := Option.getD (some (IntKind.wrap IntKind.i64 (q59 - q60))) q59;
  let q75 : Nat := List.length [q46];
  let q76 : Tg := Tg.block 1 (Tg.thenN q18 (Tg.thenN q44 (Tg.thenN q55 (Tg.thenN q62 (Tg.thenN q64 (Tg.thenN q73 Tg.n))))));
  let q77 : Bool := Tg.isN (Tg.block 0 (Tg.thenN q1 (Tg.thenN q76 Tg.n)));
  let q78 : Bool := sEq q59 0;
  let q79 : Bool := Tg.isN (Tg.mix q78 Tg.r Tg.n);
  let q80 : Bool := sLt 1 q59;
  let q81 : Bool := Tg.isN (Tg.mix q80 Tg.r Tg.n);
  some
  (sAnd true
      (sIf true
        (sAnd true
          (sIf true
            (sAnd
              (sAnd true
                (sIf true
                  (sAnd (sSome (whileW (xs11_0 es regs gs fs) [Sc.i 0, Sc.d (Sh.sl (Sh.int IntKind.i64)) []]))
                    (sAnd true
                      (sIf true
                        (sAnd (sAnd true (sIf q0 true true))
                          (sIf (Tg.isN q1)
                            (sAnd
                              (sAnd (sAnd (sAnd true (sAnd (sLe 0 (Sc.toI (hd (xL11_0 es regs gs fs)))) q0)) true)
                                (sIf true
                                  (sAnd true
                                    (sIf true
                                      (sAnd
                                        (sAnd true
                                          (sAnd true
                                            (sAnd true
                                              (sAnd true
                                                (sAnd (sOr q6 true)
                                                  (sAnd (sOr q6 q5)
                                                    (sAnd (sOr q6 (sAnd (sAnd q5 true) true))
                                                      (sAnd (sAnd true (sIf q4 true q5))
                                                        (sAnd true
                                                          (sAnd (sOr q9 true)
                                                            (sAnd (sOr q9 q8)
                                                              (sAnd (sOr q9 (sAnd (sAnd q8 true) true))
                                                                (sAnd (sAnd true (sIf q7 true q8))
                                                                  (sAnd true
                                                                    (sAnd (sOr q13 true)
                                                                      (sAnd (sOr q13 q12)
                                                                        (sAnd (sOr q13 (sAnd (sAnd q12 true) true))
                                                                          (sAnd (sAnd true (sIf q11 true q12))
                                                                            true))))))))))))))))))
                                        (sIf true
                                          (sAnd
                                            (sAnd
                                              (sAnd true
                                                (sAnd true
                                                  (sAnd true
                                                    (sAnd true
                                                      (sAnd (sOr q15 true)
                                                        (sAnd q16
                                                          (sAnd (sOr q15 (sAnd (sAnd q14 true) true))
                                                            (sAnd q16 (sAnd (sAnd true (sIf q14 q14 true)) true)))))))))
                                              (sIf true (sAnd true (sIf q17 true true)) true))
                                            (sIf q19
                                              (sAnd
                                                (sAnd
                                                  (sAnd true
                                                    (sAnd true
                                                      (sAnd true
                                                        (sAnd true
                                                          (sAnd q20
                                                            (sAnd q21
                                                              (sAnd q22
                                                                (sAnd q21
                                                                  (sAnd q29
                                                                    (sAnd q30
                                                                      (sAnd q29
                                                                        (sAnd q30
                                                                          (sAnd q30
                                                                            (sAnd (sOr q28 (sAnd (sAnd q27 q27) true))
                                                                              (sAnd
                                                                                (sOr q5 (sAnd q4 (sIf q25 true q27)))
                                                                                (sAnd q31
                                                                                  (sAnd true
                                                                                    (sAnd (sOr q34 true)
                                                                                      (sAnd q35
                                                                                        (sAnd
                                                                                          (sOr q34
                                                                                            (sAnd (sAnd q33 true) true))
                                                                                          (sAnd q35
                                                                                            (sAnd (sOr q37 true)
                                                                                              (sAnd q38
                                                                                                (sAnd
                                                                                                  (sOr q37
                                                                                                    (sAnd
                                                                                                      (sAnd q36 true)
                                                                                                      true))
                                                                                                  (sAnd q38
                                                                                                    (sAnd q41
                                                                                                      (sAnd q42
                                                                                                        (sAnd q41
                                                                                                          (sAnd q42
                                                                                                            (sAnd q42
                                                                                                              (sAnd
                                                                                                                (sOr q40
                                                                                                                  (sAnd
                                                                                                                    (sAnd
                                                                                                                      q39
                                                                                                                      q39)
                                                                                                                    true))
                                                                                                                (sAnd
                                                                                                                  (sOr
                                                                                                                    q37
                                                                                                                    (sAnd
                                                                                                                      q36
                                                                                                                      (sIf
                                                                                                                        q25
                                                                                                                        true
                                                                                                                        q39)))
                                                                                                                  (sAnd
                                                                                                                    (sOr
                                                                                                                      q34
                                                                                                                      (sAnd
                                                                                                                        q33
                                                                                                                        (sIf
                                                                                                                          q10
                                                                                                                          q36
                                                                                                                          true)))
                                                                                                                    (sAnd
                                                                                                                      (sAnd
                                                                                                                        true
                                                                                                                        (sIf
                                                                                                                          q32
                                                                                                                          true
                                                                                                                          q33))
                                                                                                                      true))))))))))))))))))))))))))))))))))
                                                  (sIf true (sAnd true (sIf q43 true true)) true))
                                                (sIf q45
                                                  (sAnd
                                                    (sAnd
                                                      (sAnd true
                                                        (sAnd true
                                                          (sAnd true
                                                            (sAnd true
                                                              (sAnd q20
                                                                (sAnd q21
                                                                  (sAnd q22
                                                                    (sAnd q31
                                                                      (sAnd true
                                                                        (sAnd (sOr q49 true)
                                                                          (sAnd q50
                                                                            (sAnd (sOr q49 (sAnd (sAnd q48 true) true))
                                                                              (sAnd q50
                                                                                (sAnd (sOr q53 true)
                                                                                  (sAnd (sOr q53 q52)
                                                                                    (sAnd
                                                                                      (sOr q49
                                                                                        (sAnd q48 (sIf q51 q52 true)))
                                                                                      (sAnd
                                                                                        (sAnd true (sIf q47 true q48))
                                                                                        true)))))))))))))))))
                                                      (sIf true (sAnd true (sIf q54 true true)) true))
                                                    (sIf q56
                                                      (sAnd (sAnd true (sIf true (sAnd true (sIf q61 true true)) true))
                                                        (sIf q63
                                                          (sAnd
                                                            (sAnd true
                                                              (sIf true
                                                                (sAnd true
                                                                  (sIf q4
                                                                    (sAnd
                                                                      (sAnd true
                                                                        (sAnd true
                                                                          (sAnd true
                                                                            (sAnd true
                                                                              (sAnd true
                                                                                (sAnd
                                                                                  (sAnd true
                                                                                    (sAnd (sLe 0 q24)
                                                                                      (sLt q24 ↑(List.length regs))))
                                                                                  (sAnd true
                                                                                    (sAnd true
                                                                                      (sAnd
                                                                                        (sAnd true
                                                                                          (sLe
                                                                                            (↑((q58 +
                                                                                                  List.length
                                                                                                    [List.getD regs
                                                                                                        (Int.toNat q24)
                                                                                                        (Sh.dflt
                                                                                                          (Sh.int
                                                                                                            IntKind.i64))]) *
                                                                                                8))
                                                                                            140737488355328))
                                                                                        true)))))))))
                                                                      true)
                                                                    true))
                                                                true))
                                                            (sIf (Tg.isN q64)
                                                              (sAnd true
                                                                (sIf true
                                                                  (sAnd
                                                                    (sAnd
                                                                      (sAnd true
                                                                        (sAnd true
                                                                          (sAnd true
                                                                            (sAnd
                                                                              (sAnd true
                                                                                (sAnd (sAnd (sLe 0 q65) (sLe q65 q66))
                                                                                  (sLe q66 q59)))
                                                                              (sAnd true
                                                                                (sAnd
                                                                                  (sAnd true
                                                                                    (sAnd (len1000 q69) (okImm q70)))
                                                                                  true))))))
                                                                      true)
                                                                    (sIf true
                                                                      (sAnd
                                                                        (sAnd true
                                                                          (sIf true (sAnd true (sIf q72 true true))
                                                                            true))
                                                                        (sIf (Tg.isN q73)
                                                                          (sAnd true
                                                                            (sAnd true
                                                                              (sAnd
                                                                                (sAnd true
                                                                                  (sAnd
                                                                                    (sAnd true
                                                                                      (sLe (Option.getD none 0) q74))
                                                                                    (sLe q74 q59)))
                                                                                (sAnd true
                                                                                  (sAnd true
                                                                                    (sAnd
                                                                                      (sAnd true
                                                                                        (sAnd (sLt 0 ↑q75)
                                                                                          (sLe
                                                                                            (↑((Int.toNat q74 - 0 +
                                                                                                  q75) *
                                                                                                8))
                                                                                            140737488355328)))
                                                                                      true))))))
                                                                          true))
                                                                      true))
                                                                  true))
                                                              true))
                                                          true))
                                                      true))
                                                  true))
                                              true))
                                          true))
                                      true))
                                  true))
                              (sIf (Tg.isN q76) true true))
                            true))
                        true)))
                  true))
              (sIf q77
                (sAnd (sAnd true (sIf true (sAnd true (sIf q78 true true)) true))
                  (sIf q79
                    (sAnd (sAnd true (sIf true (sAnd true (sIf q80 true true)) true))
                      (sIf q81 (sAnd (sAnd true (sAnd (sAnd true (sAnd true (sLt 0 q59))) true)) true) true))
                    true))
                true))
            true))
        true),
    AV.tup
      [AV.int IntKind.i64
          (sIf q77 (sIf q79 (sIf q81 (List.getD q57 0 (Sh.dflt (Sh.int IntKind.i64))) 0) 0)
            (sIf q19 (sIf q45 (sIf q56 (sIf q63 0 0) 0) 0) 0)),
        AV.int IntKind.i64 (sIf q77 (sIf q79 (sIf q81 0 5) 4) (sIf q19 (sIf q45 (sIf q56 (sIf q63 q71 4) 3) 8) 9))])) := by kernel_rfl

end Go.Proofs.YtaajbcflmaihgaaDoor
