/- The reading of expr.Check, its closure read in place. No conditions. -/
import Derived.Test.YtaajbcflmaihgaaDoorExpNode
set_option linter.all false
namespace Go.Proofs.YtaajbcflmaihgaaDoor
open Go Ab
set_option maxRecDepth 100000
noncomputable def x6 : XTab := { x5 with i := (24, exFnI (gX x5) Tryd.f24) :: x5.i }
theorem xk6 (hm : Tryd.prog.follows .mixedOrders = true) : XOk x6 := (xk5 hm).consI ((xk5 hm).readI hm Tryd.func24 (by decide) (by rfl))
noncomputable def xs10_0 (es : List (Sh.den nodS)) (regs : List Int) (gs : List (Sh.den gloS)) (fs : List (Sh.den funS)) : List Sc → Bool × Bool × List Sc := fun xs => let q0 : Bool := sLt (Sc.toI (hd xs)) ↑(List.length es);
  let q1 : Tg := Tg.mix q0 Tg.n (Tg.x 0);
  let q2 : Sh.den (Sh.prod (Sh.int IntKind.i64) (Sh.prod (Sh.int IntKind.i64) (Sh.prod (Sh.int IntKind.i64) Sh.unit))) := List.getD es (Int.toNat (Sc.toI (hd xs))) (Sh.dflt (Sh.prod (Sh.int IntKind.i64) (Sh.prod (Sh.int IntKind.i64) (Sh.prod (Sh.int IntKind.i64) Sh.unit))));
  let q3 : Sh.den (Sh.int IntKind.i64) := Prod.fst q2;
  let q4 : Sh.den (Sh.prod (Sh.int IntKind.i64) (Sh.prod (Sh.int IntKind.i64) Sh.unit)) := Prod.snd q2;
  let q5 : Sh.den (Sh.int IntKind.i64) := Prod.fst q4;
  let q6 : Sh.den (Sh.int IntKind.i64) := Prod.fst (Prod.snd q4);
  let q7 : Int := aloneV q3 q5 q6 ↑(List.length regs) ↑(List.length gs);
  let q8 : Bool := sNe q7 0;
  let q9 : Bool := Tg.isN (Tg.mix q8 Tg.r Tg.n);
  let q10 : Nat := List.length (Sc.toD (Sh.sl (Sh.int IntKind.i64)) (hd (tl xs)));
  let q11 : Int := ↑q10;
  let q12 : Int := IntKind.wrap IntKind.i64 (q11 - arity q3 q5);
  let q13 : Bool := sLt q12 0;
  let q14 : Bool := Tg.isN (Tg.mix q13 Tg.r Tg.n);
  let q15 : Bool := sEq q3 4;
  let q16 : List (Sh.den (Sh.int IntKind.i64)) := [List.getD regs (Int.toNat q6) (Sh.dflt (Sh.int IntKind.i64))];
  let q17 : Bool := Tg.isN (Tg.mix q15 Tg.r Tg.n);
  let q18 : Int := Option.getD (some q12) 0;
  let q19 : Int := Option.getD none q11;
  let q20 : Nat := Int.toNat q18;
  let q21 : List (Sh.den (Sh.int IntKind.i64)) := List.take (Int.toNat q19 - q20) (List.drop q20 (Sc.toD (Sh.sl (Sh.int IntKind.i64)) (hd (tl xs))));
  let q22 : Nat := List.length q21;
  let q23 : List Int := rangeL q22;
  let q24 : Int := chkV q3 q5 (↑q22) q23 (immOf q3 q6) (symOf q3 q6) 0 false (q21 ++ [q5]) gs fs;
  let q25 : Bool := sNe q24 0;
  let q26 : Bool := Tg.isN (Tg.mix q25 Tg.r Tg.n);
  let q27 : Int := Option.getD (some q12) q11;
  let q28 : List (Sh.den (Sh.int IntKind.i64)) := [q5];
  let q29 : Nat := List.length q28;
  let q30 : Nat := Int.toNat q27 - 0;
  let q31 : Bool := sNe (sIf q9 (sIf q14 (sIf q17 (sIf q26 0 q24) 0) 4) q7) 0;
  let q32 : Tg := Tg.block 1 (Tg.mix q31 Tg.r Tg.n);
  (sAnd true
    (sIf true
      (sAnd (sAnd true (sIf q0 true true))
        (sIf (Tg.isN q1)
          (sAnd
            (sAnd (sAnd (sAnd true (sAnd (sLe 0 (Sc.toI (hd xs))) q0)) true)
              (sIf true
                (sAnd
                  (sAnd true
                    (sAnd true
                      (sAnd
                        (sAnd true
                          (sAnd
                            (sAnd true
                              (sIf true
                                (sAnd
                                  (sAnd true (sIf true (sAnd true (sIf true (sAnd true (sIf q8 true true)) true)) true))
                                  (sIf q9
                                    (sAnd true
                                      (sIf true
                                        (sAnd (sAnd true (sIf true (sAnd true (sIf q13 true true)) true))
                                          (sIf q14
                                            (sAnd
                                              (sAnd true
                                                (sIf true
                                                  (sAnd true
                                                    (sIf q15
                                                      (sAnd
                                                        (sAnd
                                                          (sAnd true
                                                            (sAnd true
                                                              (sAnd true
                                                                (sAnd true
                                                                  (sAnd true
                                                                    (sAnd
                                                                      (sAnd true
                                                                        (sAnd (sLe 0 q6) (sLt q6 ↑(List.length regs))))
                                                                      (sAnd true
                                                                        (sAnd true
                                                                          (sAnd
                                                                            (sAnd true
                                                                              (sLe (↑((q10 + List.length q16) * 8))
                                                                                140737488355328))
                                                                            true)))))))))
                                                          true)
                                                        true)
                                                      true))
                                                  true))
                                              (sIf q17
                                                (sAnd
                                                  (sAnd
                                                    (sAnd true
                                                      (sAnd true
                                                        (sAnd true
                                                          (sAnd
                                                            (sAnd true
                                                              (sAnd (sAnd (sLe 0 q18) (sLe q18 q19)) (sLe q19 q11)))
                                                            (sAnd (sAnd true (len1000 q22)) true)))))
                                                    true)
                                                  (sIf true
                                                    (sAnd
                                                      (sAnd
                                                        (sAnd true
                                                          (sAnd true
                                                            (sAnd true
                                                              (sAnd (sAnd true (len1000 (List.length q23))) true))))
                                                        (sIf true
                                                          (sAnd true (sIf true (sAnd true (sIf q25 true true)) true))
                                                          true))
                                                      (sIf q26
                                                        (sAnd
                                                          (sAnd
                                                            (sAnd true
                                                              (sAnd true
                                                                (sAnd
                                                                  (sAnd true
                                                                    (sAnd (sAnd true (sLe (Option.getD none 0) q27))
                                                                      (sLe q27 q11)))
                                                                  (sAnd true
                                                                    (sAnd true
                                                                      (sAnd true
                                                                        (sAnd
                                                                          (sAnd true
                                                                            (sAnd (sLt 0 ↑q29)
                                                                              (sLe (↑((q30 + q29) * 8))
                                                                                140737488355328)))
                                                                          true)))))))
                                                            true)
                                                          true)
                                                        true))
                                                    true))
                                                true))
                                            true))
                                        true))
                                    true))
                                true))
                            true))
                        true)))
                  (sIf true (sAnd true (sIf true (sAnd true (sIf q31 true true)) true)) true))
                true))
            (sIf (Tg.isN q32) true true))
          true))
      true),
  Tg.isN (Tg.thenN q1 (Tg.thenN q32 Tg.n)),
  [Sc.i (IntKind.wrap IntKind.i64 (Sc.toI (hd xs) + 1)),
    Sc.d (Sh.sl (Sh.int IntKind.i64))
      (sIf q9
        (sIf q14
          (sIf q17
            (sIf q26 (List.take q30 (Sc.toD (Sh.sl (Sh.int IntKind.i64)) (hd (tl xs))) ++ q28)
              (Sc.toD (Sh.sl (Sh.int IntKind.i64)) (hd (tl xs))))
            (Sc.toD (Sh.sl (Sh.int IntKind.i64)) (hd (tl xs)) ++ q16))
          (Sc.toD (Sh.sl (Sh.int IntKind.i64)) (hd (tl xs))))
        (Sc.toD (Sh.sl (Sh.int IntKind.i64)) (hd (tl xs))))])
noncomputable def xL10_0 (es : List (Sh.den nodS)) (regs : List Int) (gs : List (Sh.den gloS)) (fs : List (Sh.den funS)) : List Sc := Option.getD (whileW (xs10_0 es regs gs fs) [Sc.i 0, Sc.d (Sh.sl (Sh.int IntKind.i64)) []]) [Sc.i 0, Sc.d (Sh.sl (Sh.int IntKind.i64)) []]
theorem xf10 (es : List (Sh.den nodS)) (fnm : ByteArray) (fps : List Int) (fres : Int) (regs : List Int) (fbl : List (Sh.den blkS)) (gs : List (Sh.den gloS)) (fs : List (Sh.den funS)) : exFn (gX x6) Tryd.f10 [AV.dsl nodS es, funA fnm fps fres regs fbl, modA gs fs] = (
 let q0 : Bool := sLt (Sc.toI (hd (xL10_0 es regs gs fs))) ↑(List.length es);
  let q1 : Tg := Tg.mix q0 Tg.n (Tg.x 0);
  let q2 : Sh.den (Sh.prod (Sh.int IntKind.i64) (Sh.prod (Sh.int IntKind.i64) (Sh.prod (Sh.int IntKind.i64) Sh.unit))) := List.getD es (Int.toNat (Sc.toI (hd (xL10_0 es regs gs fs)))) (Sh.dflt (Sh.prod (Sh.int IntKind.i64) (Sh.prod (Sh.int IntKind.i64) (Sh.prod (Sh.int IntKind.i64) Sh.unit))));
  let q3 : Sh.den (Sh.int IntKind.i64) := Prod.fst q2;
  let q4 : Sh.den (Sh.prod (Sh.int IntKind.i64) (Sh.prod (Sh.int IntKind.i64) Sh.unit)) := Prod.snd q2;
  let q5 : Sh.den (Sh.int IntKind.i64) := Prod.fst q4;
  let q6 : Sh.den (Sh.int IntKind.i64) := Prod.fst (Prod.snd q4);
  let q7 : Int := aloneV q3 q5 q6 ↑(List.length regs) ↑(List.length gs);
  let q8 : Bool := sNe q7 0;
  let q9 : Bool := Tg.isN (Tg.mix q8 Tg.r Tg.n);
  let q10 : Sh.den (Sh.sl (Sh.int IntKind.i64)) := Sc.toD (Sh.sl (Sh.int IntKind.i64)) (hd (tl (xL10_0 es regs gs fs)));
  let q11 : Nat := List.length q10;
  let q12 : Int := ↑q11;
  let q13 : Int := IntKind.wrap IntKind.i64 (q12 - arity q3 q5);
  let q14 : Bool := sLt q13 0;
  let q15 : Bool := Tg.isN (Tg.mix q14 Tg.r Tg.n);
  let q16 : Bool := sEq q3 4;
  let q17 : Bool := Tg.isN (Tg.mix q16 Tg.r Tg.n);
  let q18 : Int := Option.getD (some q13) 0;
  let q19 : Int := Option.getD none q12;
  let q20 : Nat := Int.toNat q18;
  let q21 : List (Sh.den (Sh.int IntKind.i64)) := List.take (Int.toNat q19 - q20) (List.drop q20 q10);
  let q22 : Nat := List.length q21;
  let q23 : List Int := rangeL q22;
  let q24 : Int := chkV q3 q5 (↑q22) q23 (immOf q3 q6) (symOf q3 q6) 0 false (q21 ++ [q5]) gs fs;
  let q25 : Bool := sNe q24 0;
  let q26 : Bool := Tg.isN (Tg.mix q25 Tg.r Tg.n);
  let q27 : Int := Option.getD (some q13) q12;
  let q28 : Nat := List.length [q5];
  let q29 : Int := sIf q9 (sIf q15 (sIf q17 (sIf q26 0 q24) 0) 4) q7;
  let q30 : Bool := sNe q29 0;
  let q31 : Tg := Tg.block 1 (Tg.mix q30 Tg.r Tg.n);
  let q32 : Bool := Tg.isN (Tg.block 0 (Tg.thenN q1 (Tg.thenN q31 Tg.n)));
  let q33 : Bool := sEq q12 0;
  let q34 : Bool := sEq q12 1;
  let q35 : Bool := Tg.isN (Tg.block 2 (Tg.mix q33 Tg.r (Tg.mix q34 Tg.r Tg.n)));
  some
  (sAnd true
      (sIf true
        (sAnd true
          (sIf true
            (sAnd true
              (sIf true
                (sAnd
                  (sAnd true
                    (sIf true
                      (sAnd (sSome (whileW (xs10_0 es regs gs fs) [Sc.i 0, Sc.d (Sh.sl (Sh.int IntKind.i64)) []]))
                        (sAnd true
                          (sIf true
                            (sAnd (sAnd true (sIf q0 true true))
                              (sIf (Tg.isN q1)
                                (sAnd
                                  (sAnd
                                    (sAnd (sAnd true (sAnd (sLe 0 (Sc.toI (hd (xL10_0 es regs gs fs)))) q0)) true)
                                    (sIf true
                                      (sAnd
                                        (sAnd true
                                          (sAnd true
                                            (sAnd
                                              (sAnd true
                                                (sAnd
                                                  (sAnd true
                                                    (sIf true
                                                      (sAnd
                                                        (sAnd true
                                                          (sIf true
                                                            (sAnd true (sIf true (sAnd true (sIf q8 true true)) true))
                                                            true))
                                                        (sIf q9
                                                          (sAnd true
                                                            (sIf true
                                                              (sAnd
                                                                (sAnd true
                                                                  (sIf true (sAnd true (sIf q14 true true)) true))
                                                                (sIf q15
                                                                  (sAnd
                                                                    (sAnd true
                                                                      (sIf true
                                                                        (sAnd true
                                                                          (sIf q16
                                                                            (sAnd
                                                                              (sAnd
                                                                                (sAnd true
                                                                                  (sAnd true
                                                                                    (sAnd true
                                                                                      (sAnd true
                                                                                        (sAnd true
                                                                                          (sAnd
                                                                                            (sAnd true
                                                                                              (sAnd (sLe 0 q6)
                                                                                                (sLt q6
                                                                                                  ↑(List.length regs))))
                                                                                            (sAnd true
                                                                                              (sAnd true
                                                                                                (sAnd
                                                                                                  (sAnd true
                                                                                                    (sLe
                                                                                                      (↑((q11 +
                                                                                                            List.length
                                                                                                              [List.getD
                                                                                                                  regs
                                                                                                                  (Int.toNat
                                                                                                                    q6)
                                                                                                                  (Sh.dflt
                                                                                                                    (Sh.int
                                                                                                                      IntKind.i64))]) *
                                                                                                          8))
                                                                                                      140737488355328))
                                                                                                  true)))))))))
                                                                                true)
                                                                              true)
                                                                            true))
                                                                        true))
                                                                    (sIf q17
                                                                      (sAnd
                                                                        (sAnd
                                                                          (sAnd true
                                                                            (sAnd true
                                                                              (sAnd true
                                                                                (sAnd
                                                                                  (sAnd true
                                                                                    (sAnd
                                                                                      (sAnd (sLe 0 q18) (sLe q18 q19))
                                                                                      (sLe q19 q12)))
                                                                                  (sAnd (sAnd true (len1000 q22))
                                                                                    true)))))
                                                                          true)
                                                                        (sIf true
                                                                          (sAnd
                                                                            (sAnd
                                                                              (sAnd true
                                                                                (sAnd true
                                                                                  (sAnd true
                                                                                    (sAnd
                                                                                      (sAnd true
                                                                                        (len1000 (List.length q23)))
                                                                                      true))))
                                                                              (sIf true
                                                                                (sAnd true
                                                                                  (sIf true
                                                                                    (sAnd true (sIf q25 true true))
                                                                                    true))
                                                                                true))
                                                                            (sIf q26
                                                                              (sAnd
                                                                                (sAnd
                                                                                  (sAnd true
                                                                                    (sAnd true
                                                                                      (sAnd
                                                                                        (sAnd true
                                                                                          (sAnd
                                                                                            (sAnd true
                                                                                              (sLe (Option.getD none 0)
                                                                                                q27))
                                                                                            (sLe q27 q12)))
                                                                                        (sAnd true
                                                                                          (sAnd true
                                                                                            (sAnd true
                                                                                              (sAnd
                                                                                                (sAnd true
                                                                                                  (sAnd (sLt 0 ↑q28)
                                                                                                    (sLe
                                                                                                      (↑((Int.toNat
                                                                                                                q27 -
                                                                                                              0 +
                                                                                                            q28) *
                                                                                                          8))
                                                                                                      140737488355328)))
                                                                                                true)))))))
                                                                                  true)
                                                                                true)
                                                                              true))
                                                                          true))
                                                                      true))
                                                                  true))
                                                              true))
                                                          true))
                                                      true))
                                                  true))
                                              true)))
                                        (sIf true (sAnd true (sIf true (sAnd true (sIf q30 true true)) true)) true))
                                      true))
                                  (sIf (Tg.isN q31) true true))
                                true))
                            true)))
                      true))
                  (sIf q32
                    (sAnd
                      (sAnd true
                        (sIf true
                          (sAnd true
                            (sIf true
                              (sAnd true
                                (sIf q33 true
                                  (sAnd true
                                    (sIf true
                                      (sAnd true
                                        (sIf q34 (sAnd (sAnd true (sAnd (sAnd true (sAnd true (sLt 0 q12))) true)) true)
                                          true))
                                      true))))
                              true))
                          true))
                      (sIf q35 true true))
                    true))
                true))
            true))
        true),
    AV.tup
      [AV.int IntKind.i64 (sIf q32 (sIf q35 0 (sIf q33 0 (List.getD q10 0 (Sh.dflt (Sh.int IntKind.i64))))) 0),
        AV.int IntKind.i64 (sIf q32 (sIf q35 5 (sIf q33 4 0)) q29)])) := by kernel_rfl

end Go.Proofs.YtaajbcflmaihgaaDoor
