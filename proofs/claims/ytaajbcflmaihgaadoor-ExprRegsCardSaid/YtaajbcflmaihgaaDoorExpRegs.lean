/- expr.Regs and its reference: the registers of an expression; slices.Equal of numbers. No conditions. -/
import Derived.Test.YtaajbcflmaihgaaDoorExpTurn
import Derived.Test.YtaajbcflmaihgaaDoorExpRegP
set_option linter.all false
namespace Go.Proofs.YtaajbcflmaihgaaDoor
open Go Ab
set_option maxRecDepth 100000
noncomputable def r0 : XTab := { w2 with i := (40, im40) :: (41, im41) :: w2.i }
theorem rk0 (hm : Tryd.prog.follows .mixedOrders = true) : XOk r0 := ((wk2 hm).consI ik41).consI ik40
noncomputable def xs21_0 (a : List i64S.den) (b : List i64S.den) : List Sc → Bool × Bool × List Sc := fun xs2 => let q0 : Bool := sLt (hd xs2).toI ↑a.length;
  let q1 : Tg := Tg.mix q0 Tg.n (Tg.x 0);
  let q2 : Bool := sLe 0 (hd xs2).toI;
  let q3 : Bool := sNe (a.getD (hd xs2).toI.toNat (Sh.int IntKind.i64).dflt) (b.getD (hd xs2).toI.toNat (Sh.int IntKind.i64).dflt);
  let q4 : Tg := Tg.block 1 (Tg.mix q3 Tg.r Tg.n);
  (sAnd true
    (sIf true
      (sAnd (sAnd true (sIf q0 true true))
        (sIf q1.isN
          (sAnd
            (sAnd true
              (sIf true
                (sAnd
                  (sAnd
                    (sAnd true
                      (sAnd true
                        (sAnd (sAnd true (sAnd q2 q0))
                          (sAnd true
                            (sAnd true (sAnd true (sAnd (sAnd true (sAnd q2 (sLt (hd xs2).toI ↑b.length))) true)))))))
                    true)
                  (sIf true (sAnd true (sIf q3 true true)) true))
                true))
            (sIf q4.isN true true))
          true))
      true),
  (q1.thenN (q4.thenN Tg.n)).isN, [Sc.i (IntKind.i64.wrap ((hd xs2).toI + 1))])
noncomputable def xL21_0 (a : List i64S.den) (b : List i64S.den) : List Sc := Option.getD (whileW (xs21_0 a b) [Sc.i 0]) [Sc.i 0]
theorem xf21 (a : List i64S.den) (b : List i64S.den) : exFn (gX r0) Tryd.f21 [AV.dsl i64S a, AV.dsl i64S b] = (
 let q0 : Bool := sNe ↑a.length ↑b.length;
  let q1 : Bool := (Tg.mix q0 Tg.r Tg.n).isN;
  let q2 : Bool := sLt (hd (xL21_0 a b)).toI ↑a.length;
  let q3 : Tg := Tg.mix q2 Tg.n (Tg.x 0);
  let q4 : Bool := sLe 0 (hd (xL21_0 a b)).toI;
  let q5 : Bool := sNe (a.getD (hd (xL21_0 a b)).toI.toNat (Sh.int IntKind.i64).dflt) (b.getD (hd (xL21_0 a b)).toI.toNat (Sh.int IntKind.i64).dflt);
  let q6 : Tg := Tg.block 1 (Tg.mix q5 Tg.r Tg.n);
  let q7 : Bool := (Tg.block 0 (q3.thenN (q6.thenN Tg.n))).isN;
  some
  (sAnd true
      (sIf true
        (sAnd (sAnd true (sIf true (sAnd true (sIf q0 true true)) true))
          (sIf q1
            (sAnd
              (sAnd true
                (sIf true
                  (sAnd (sSome (whileW (xs21_0 a b) [Sc.i 0]))
                    (sAnd true
                      (sIf true
                        (sAnd (sAnd true (sIf q2 true true))
                          (sIf q3.isN
                            (sAnd
                              (sAnd true
                                (sIf true
                                  (sAnd
                                    (sAnd
                                      (sAnd true
                                        (sAnd true
                                          (sAnd (sAnd true (sAnd q4 q2))
                                            (sAnd true
                                              (sAnd true
                                                (sAnd true
                                                  (sAnd (sAnd true (sAnd q4 (sLt (hd (xL21_0 a b)).toI ↑b.length)))
                                                    true)))))))
                                      true)
                                    (sIf true (sAnd true (sIf q5 true true)) true))
                                  true))
                              (sIf q6.isN true true))
                            true))
                        true)))
                  true))
              (sIf q7 true true))
            true))
        true),
    AV.bool (sIf q1 (sIf q7 true false) false))) := by kernel_rfl

noncomputable def xs22_0 (a : List nodS.den) : List Sc → Bool × Bool × List Sc := fun xs1 => let q0 : Bool := sLt (hd xs1).toI ↑a.length;
  let q1 : Tg := Tg.mix q0 Tg.n (Tg.x 0);
  let q2 : ((Sh.int IntKind.i64).prod ((Sh.int IntKind.i64).prod ((Sh.int IntKind.i64).prod Sh.unit))).den := a.getD (hd xs1).toI.toNat ((Sh.int IntKind.i64).prod ((Sh.int IntKind.i64).prod ((Sh.int IntKind.i64).prod Sh.unit))).dflt;
  let q3 : Bool := sEq q2.fst 4;
  let q4 : List (Sh.int IntKind.i64).den := [q2.snd.snd.fst];
  let q5 : Tg := Tg.block 1 (Tg.mix q3 Tg.n Tg.n);
  (sAnd true
    (sIf true
      (sAnd (sAnd true (sIf q0 true true))
        (sIf q1.isN
          (sAnd
            (sAnd (sAnd (sAnd true (sAnd (sLe 0 (hd xs1).toI) q0)) true)
              (sIf true
                (sAnd true
                  (sIf true
                    (sAnd true
                      (sIf q3
                        (sAnd true
                          (sAnd true
                            (sAnd true
                              (sAnd true
                                (sAnd
                                  (sAnd true
                                    (sLe
                                      (↑((List.length (Sc.toD (Sh.int IntKind.i64).sl (hd (tl xs1))) + q4.length) * 8))
                                      140737488355328))
                                  true)))))
                        true))
                    true))
                true))
            (sIf q5.isN true true))
          true))
      true),
  (q1.thenN (q5.thenN Tg.n)).isN,
  [Sc.i (IntKind.i64.wrap ((hd xs1).toI + 1)),
    Sc.d (Sh.int IntKind.i64).sl
      (sIf q3 (Sc.toD (Sh.int IntKind.i64).sl (hd (tl xs1)) ++ q4) (Sc.toD (Sh.int IntKind.i64).sl (hd (tl xs1))))])
noncomputable def xL22_0 (a : List nodS.den) : List Sc := Option.getD (whileW (xs22_0 a) [Sc.i 0, Sc.d (Sh.int IntKind.i64).sl []]) [Sc.i 0, Sc.d (Sh.int IntKind.i64).sl []]
theorem xf22 (a : List nodS.den) : trimC i64S (exFnI (gX r0) Tryd.f22) [AV.dsl nodS a] = (
 let q0 : Bool := sLt (hd (xL22_0 a)).toI ↑a.length;
  let q1 : Tg := Tg.mix q0 Tg.n (Tg.x 0);
  let q2 : ((Sh.int IntKind.i64).prod ((Sh.int IntKind.i64).prod ((Sh.int IntKind.i64).prod Sh.unit))).den := a.getD (hd (xL22_0 a)).toI.toNat ((Sh.int IntKind.i64).prod ((Sh.int IntKind.i64).prod ((Sh.int IntKind.i64).prod Sh.unit))).dflt;
  let q3 : Bool := sEq q2.fst 4;
  let q4 : Tg := Tg.block 1 (Tg.mix q3 Tg.n Tg.n);
  let q5 : List Int := sortL (Sc.toD (Sh.int IntKind.i64).sl (hd (tl (xL22_0 a))));
  some
  (sAnd
      (sAnd true
        (sIf true
          (sAnd true
            (sIf true
              (sAnd
                (sAnd true
                  (sIf true
                    (sAnd (sSome (whileW (xs22_0 a) [Sc.i 0, Sc.d (Sh.int IntKind.i64).sl []]))
                      (sAnd true
                        (sIf true
                          (sAnd (sAnd true (sIf q0 true true))
                            (sIf q1.isN
                              (sAnd
                                (sAnd (sAnd (sAnd true (sAnd (sLe 0 (hd (xL22_0 a)).toI) q0)) true)
                                  (sIf true
                                    (sAnd true
                                      (sIf true
                                        (sAnd true
                                          (sIf q3
                                            (sAnd true
                                              (sAnd true
                                                (sAnd true
                                                  (sAnd true
                                                    (sAnd
                                                      (sAnd true
                                                        (sLe
                                                          (↑((List.length
                                                                  (Sc.toD (Sh.int IntKind.i64).sl (hd (tl (xL22_0 a)))) +
                                                                [q2.snd.snd.fst].length) *
                                                              8))
                                                          140737488355328))
                                                      true)))))
                                            true))
                                        true))
                                    true))
                                (sIf q4.isN true true))
                              true))
                          true)))
                    true))
                (sIf (Tg.block 0 (q1.thenN (q4.thenN Tg.n))).isN
                  (sAnd (sAnd true (sAnd (sAnd true (okS (Sc.toD (Sh.int IntKind.i64).sl (hd (tl (xL22_0 a)))))) true))
                    (sIf true (sAnd (sAnd true (sAnd (sAnd true (okS q5)) true)) true) true))
                  true))
              true))
          true))
      true,
    ⟨Sh.int IntKind.i64, List.take (compN q5) (compL q5)⟩)) := by kernel_rfl

noncomputable def xs23_2 (a : List nodS.den) (xs1 : List Sc) : List Sc → Bool × Bool × List Sc := fun xs2 => let q0 : Bool := sLt (hd (tl xs2)).toI ↑(List.length (Sc.toD (Sh.int IntKind.i64).sl (hd (tl xs1))));
  let q1 : Tg := Tg.mix q0 Tg.n (Tg.x 2);
  let q2 : (Sh.int IntKind.i64).den := (a.getD (hd xs1).toI.toNat ((Sh.int IntKind.i64).prod ((Sh.int IntKind.i64).prod ((Sh.int IntKind.i64).prod Sh.unit))).dflt).snd.snd.fst;
  let q3 : (Sh.int IntKind.i64).den := List.getD (Sc.toD (Sh.int IntKind.i64).sl (hd (tl xs1))) (hd (tl xs2)).toI.toNat (Sh.int IntKind.i64).dflt;
  let q4 : Bool := sIf (sNot (hd xs2).toB) (sLe q2 q3) false;
  let q5 : List (Sh.int IntKind.i64).den := [q2];
  let q6 : Tg := Tg.mix q4 Tg.n Tg.n;
  let q7 : Bool := sNe q3 q2;
  let q8 : (Sh.int IntKind.i64).sl.den := sIf q4 (Sc.toD (Sh.int IntKind.i64).sl (hd (tl (tl xs2))) ++ q5) (Sc.toD (Sh.int IntKind.i64).sl (hd (tl (tl xs2))));
  let q9 : List (Sh.int IntKind.i64).den := [q3];
  let q10 : Tg := Tg.block 3 (q6.thenN (Tg.mix q7 Tg.n Tg.n));
  (sAnd true
    (sIf true
      (sAnd (sAnd true (sIf q0 true true))
        (sIf q1.isN
          (sAnd
            (sAnd (sAnd (sAnd true (sAnd (sLe 0 (hd (tl xs2)).toI) q0)) true)
              (sIf true
                (sAnd
                  (sAnd
                    (sAnd true
                      (sAnd true
                        (sAnd true
                          (sAnd (sOr (sNot (sNot (hd xs2).toB)) true)
                            (sAnd (sOr (sNot (sNot (hd xs2).toB)) (sNot (hd xs2).toB))
                              (sAnd (sOr (sNot (sNot (hd xs2).toB)) true)
                                (sAnd
                                  (sOr (sNot (sNot (hd xs2).toB))
                                    (sAnd (sAnd (sNot (hd xs2).toB) (sNot (hd xs2).toB)) true))
                                  (sAnd (sAnd true (sIf (sNot (hd xs2).toB) (sNot (hd xs2).toB) true)) true))))))))
                    (sIf true
                      (sAnd true
                        (sIf q4
                          (sAnd
                            (sAnd true
                              (sAnd true
                                (sAnd true
                                  (sAnd true
                                    (sAnd
                                      (sAnd true
                                        (sLe
                                          (↑((List.length (Sc.toD (Sh.int IntKind.i64).sl (hd (tl (tl xs2)))) +
                                                q5.length) *
                                              8))
                                          140737488355328))
                                      true)))))
                            true)
                          true))
                      true))
                  (sIf q6.isN
                    (sAnd true
                      (sIf true
                        (sAnd true
                          (sIf q7
                            (sAnd true
                              (sAnd true
                                (sAnd true
                                  (sAnd (sAnd true (sLe (↑((List.length q8 + q9.length) * 8)) 140737488355328)) true))))
                            true))
                        true))
                    true))
                true))
            (sIf q10.isN true true))
          true))
      true),
  (q1.thenN (q10.thenN Tg.n)).isN,
  [Sc.b (sIf q4 true (hd xs2).toB), Sc.i (IntKind.i64.wrap ((hd (tl xs2)).toI + 1)),
    Sc.d (Sh.int IntKind.i64).sl (sIf q7 (q8 ++ q9) q8)])
noncomputable def xL23_2 (a : List nodS.den) (xs1 : List Sc) : List Sc := Option.getD (whileW (xs23_2 a xs1) [Sc.b false, Sc.i 0, Sc.d (Sh.int IntKind.i64).sl []]) [Sc.b false, Sc.i 0, Sc.d (Sh.int IntKind.i64).sl []]
noncomputable def xs23_3 (a : List nodS.den) : List Sc → Bool × Bool × List Sc := fun xs1 => let q0 : Bool := sLt (hd xs1).toI ↑a.length;
  let q1 : Tg := Tg.mix q0 Tg.n (Tg.x 0);
  let q2 : ((Sh.int IntKind.i64).prod ((Sh.int IntKind.i64).prod ((Sh.int IntKind.i64).prod Sh.unit))).den := a.getD (hd xs1).toI.toNat ((Sh.int IntKind.i64).prod ((Sh.int IntKind.i64).prod ((Sh.int IntKind.i64).prod Sh.unit))).dflt;
  let q3 : Bool := sNe q2.fst 4;
  let q4 : Tg := Tg.mix q3 (Tg.x 1) Tg.n;
  let q5 : Bool := sLt (hd (tl (xL23_2 a xs1))).toI ↑(List.length (Sc.toD (Sh.int IntKind.i64).sl (hd (tl xs1))));
  let q6 : Tg := Tg.mix q5 Tg.n (Tg.x 2);
  let q7 : Bool := sOr (sNot (sNot (hd (xL23_2 a xs1)).toB)) true;
  let q8 : (Sh.int IntKind.i64).den := q2.snd.snd.fst;
  let q9 : (Sh.int IntKind.i64).den := List.getD (Sc.toD (Sh.int IntKind.i64).sl (hd (tl xs1))) (hd (tl (xL23_2 a xs1))).toI.toNat (Sh.int IntKind.i64).dflt;
  let q10 : Bool := sIf (sNot (hd (xL23_2 a xs1)).toB) (sLe q8 q9) false;
  let q11 : (Sh.int IntKind.i64).sl.den := Sc.toD (Sh.int IntKind.i64).sl (hd (tl (tl (xL23_2 a xs1))));
  let q12 : List (Sh.int IntKind.i64).den := [q8];
  let q13 : Bool := sAnd true (sAnd true (sAnd true (sAnd true (sAnd (sAnd true (sLe (↑((List.length q11 + q12.length) * 8)) 140737488355328)) true))));
  let q14 : Tg := Tg.mix q10 Tg.n Tg.n;
  let q15 : Bool := sNe q9 q8;
  let q16 : List (Sh.int IntKind.i64).den := q11 ++ q12;
  let q17 : Tg := Tg.block 3 (q14.thenN (Tg.mix q15 Tg.n Tg.n));
  let q18 : Tg := Tg.block 2 (q6.thenN (q17.thenN Tg.n));
  let q19 : Tg := Tg.mix (sNot (hd (xL23_2 a xs1)).toB) Tg.n Tg.n;
  let q20 : Tg := q4.thenN (q18.thenN (q19.thenN Tg.n));
  let q21 : Tg := Tg.block 1 q20;
  (sAnd true
    (sIf true
      (sAnd (sAnd true (sIf q0 true true))
        (sIf q1.isN
          (sAnd
            (sAnd (sAnd (sAnd true (sAnd (sLe 0 (hd xs1).toI) q0)) true)
              (sIf true
                (sAnd (sAnd true (sIf true (sAnd true (sIf q3 true true)) true))
                  (sIf q4.isN
                    (sAnd true
                      (sIf true
                        (sAnd true
                          (sIf true
                            (sAnd
                              (sAnd true
                                (sIf true
                                  (sAnd
                                    (sSome (whileW (xs23_2 a xs1) [Sc.b false, Sc.i 0, Sc.d (Sh.int IntKind.i64).sl []]))
                                    (sAnd true
                                      (sIf true
                                        (sAnd (sAnd true (sIf q5 true true))
                                          (sIf q6.isN
                                            (sAnd
                                              (sAnd
                                                (sAnd (sAnd true (sAnd (sLe 0 (hd (tl (xL23_2 a xs1))).toI) q5)) true)
                                                (sIf true
                                                  (sAnd
                                                    (sAnd
                                                      (sAnd true
                                                        (sAnd true
                                                          (sAnd true
                                                            (sAnd q7
                                                              (sAnd
                                                                (sOr (sNot (sNot (hd (xL23_2 a xs1)).toB))
                                                                  (sNot (hd (xL23_2 a xs1)).toB))
                                                                (sAnd q7
                                                                  (sAnd
                                                                    (sOr (sNot (sNot (hd (xL23_2 a xs1)).toB))
                                                                      (sAnd
                                                                        (sAnd (sNot (hd (xL23_2 a xs1)).toB)
                                                                          (sNot (hd (xL23_2 a xs1)).toB))
                                                                        true))
                                                                    (sAnd
                                                                      (sAnd true
                                                                        (sIf (sNot (hd (xL23_2 a xs1)).toB)
                                                                          (sNot (hd (xL23_2 a xs1)).toB) true))
                                                                      true))))))))
                                                      (sIf true (sAnd true (sIf q10 (sAnd q13 true) true)) true))
                                                    (sIf q14.isN
                                                      (sAnd true
                                                        (sIf true
                                                          (sAnd true
                                                            (sIf q15
                                                              (sAnd true
                                                                (sAnd true
                                                                  (sAnd true
                                                                    (sAnd
                                                                      (sAnd true
                                                                        (sLe
                                                                          (↑((List.length (sIf q10 q16 q11) +
                                                                                [q9].length) *
                                                                              8))
                                                                          140737488355328))
                                                                      true))))
                                                              true))
                                                          true))
                                                      true))
                                                  true))
                                              (sIf q17.isN true true))
                                            true))
                                        true)))
                                  true))
                              (sIf q18.isN
                                (sAnd
                                  (sAnd true (sIf true (sAnd true (sIf (sNot (hd (xL23_2 a xs1)).toB) q13 true)) true))
                                  (sIf q19.isN true true))
                                true))
                            true))
                        true))
                    true))
                true))
            (sIf q21.isN true true))
          true))
      true),
  (q1.thenN (q21.thenN Tg.n)).isN,
  [Sc.i (IntKind.i64.wrap ((hd xs1).toI + 1)),
    Sc.d (Sh.int IntKind.i64).sl
      (sIf q20.isN (sIf (sNot (hd (xL23_2 a xs1)).toB) q16 q11) (Sc.toD (Sh.int IntKind.i64).sl (hd (tl xs1))))])
noncomputable def xL23_3 (a : List nodS.den) : List Sc := Option.getD (whileW (xs23_3 a) [Sc.i 0, Sc.d (Sh.int IntKind.i64).sl []]) [Sc.i 0, Sc.d (Sh.int IntKind.i64).sl []]
theorem xf23 (a : List nodS.den) : freshC (exFnI (gX r0) Tryd.f23) [AV.dsl nodS a] = (
 let q0 : Bool := sLt (hd (xL23_3 a)).toI ↑a.length;
  let q1 : Tg := Tg.mix q0 Tg.n (Tg.x 0);
  let q2 : ((Sh.int IntKind.i64).prod ((Sh.int IntKind.i64).prod ((Sh.int IntKind.i64).prod Sh.unit))).den := a.getD (hd (xL23_3 a)).toI.toNat ((Sh.int IntKind.i64).prod ((Sh.int IntKind.i64).prod ((Sh.int IntKind.i64).prod Sh.unit))).dflt;
  let q3 : Bool := sNe q2.fst 4;
  let q4 : Tg := Tg.mix q3 (Tg.x 1) Tg.n;
  let q5 : Bool := sLt (hd (tl (xL23_2 a (xL23_3 a)))).toI ↑(List.length (Sc.toD (Sh.int IntKind.i64).sl (hd (tl (xL23_3 a)))));
  let q6 : Tg := Tg.mix q5 Tg.n (Tg.x 2);
  let q7 : Bool := sOr (sNot (sNot (hd (xL23_2 a (xL23_3 a))).toB)) true;
  let q8 : (Sh.int IntKind.i64).den := q2.snd.snd.fst;
  let q9 : (Sh.int IntKind.i64).den := List.getD (Sc.toD (Sh.int IntKind.i64).sl (hd (tl (xL23_3 a)))) (hd (tl (xL23_2 a (xL23_3 a)))).toI.toNat (Sh.int IntKind.i64).dflt;
  let q10 : Bool := sIf (sNot (hd (xL23_2 a (xL23_3 a))).toB) (sLe q8 q9) false;
  let q11 : (Sh.int IntKind.i64).sl.den := Sc.toD (Sh.int IntKind.i64).sl (hd (tl (tl (xL23_2 a (xL23_3 a)))));
  let q12 : List (Sh.int IntKind.i64).den := [q8];
  let q13 : Bool := sAnd true (sAnd true (sAnd true (sAnd true (sAnd (sAnd true (sLe (↑((List.length q11 + q12.length) * 8)) 140737488355328)) true))));
  let q14 : Tg := Tg.mix q10 Tg.n Tg.n;
  let q15 : Bool := sNe q9 q8;
  let q16 : Tg := Tg.block 3 (q14.thenN (Tg.mix q15 Tg.n Tg.n));
  let q17 : Tg := Tg.block 2 (q6.thenN (q16.thenN Tg.n));
  let q18 : Tg := Tg.mix (sNot (hd (xL23_2 a (xL23_3 a))).toB) Tg.n Tg.n;
  let q19 : Tg := Tg.block 1 (q4.thenN (q17.thenN (q18.thenN Tg.n)));
  some
  (sAnd
      (sAnd true
        (sIf true
          (sAnd true
            (sIf true
              (sAnd
                (sAnd true
                  (sIf true
                    (sAnd (sSome (whileW (xs23_3 a) [Sc.i 0, Sc.d (Sh.int IntKind.i64).sl []]))
                      (sAnd true
                        (sIf true
                          (sAnd (sAnd true (sIf q0 true true))
                            (sIf q1.isN
                              (sAnd
                                (sAnd (sAnd (sAnd true (sAnd (sLe 0 (hd (xL23_3 a)).toI) q0)) true)
                                  (sIf true
                                    (sAnd (sAnd true (sIf true (sAnd true (sIf q3 true true)) true))
                                      (sIf q4.isN
                                        (sAnd true
                                          (sIf true
                                            (sAnd true
                                              (sIf true
                                                (sAnd
                                                  (sAnd true
                                                    (sIf true
                                                      (sAnd
                                                        (sSome
                                                          (whileW (xs23_2 a (xL23_3 a))
                                                            [Sc.b false, Sc.i 0, Sc.d (Sh.int IntKind.i64).sl []]))
                                                        (sAnd true
                                                          (sIf true
                                                            (sAnd (sAnd true (sIf q5 true true))
                                                              (sIf q6.isN
                                                                (sAnd
                                                                  (sAnd
                                                                    (sAnd
                                                                      (sAnd true
                                                                        (sAnd (sLe 0 (hd (tl (xL23_2 a (xL23_3 a)))).toI)
                                                                          q5))
                                                                      true)
                                                                    (sIf true
                                                                      (sAnd
                                                                        (sAnd
                                                                          (sAnd true
                                                                            (sAnd true
                                                                              (sAnd true
                                                                                (sAnd q7
                                                                                  (sAnd
                                                                                    (sOr
                                                                                      (sNot
                                                                                        (sNot
                                                                                          (hd (xL23_2 a (xL23_3 a))).toB))
                                                                                      (sNot
                                                                                        (hd (xL23_2 a (xL23_3 a))).toB))
                                                                                    (sAnd q7
                                                                                      (sAnd
                                                                                        (sOr
                                                                                          (sNot
                                                                                            (sNot
                                                                                              (hd
                                                                                                  (xL23_2 a
                                                                                                    (xL23_3 a))).toB))
                                                                                          (sAnd
                                                                                            (sAnd
                                                                                              (sNot
                                                                                                (hd
                                                                                                    (xL23_2 a
                                                                                                      (xL23_3 a))).toB)
                                                                                              (sNot
                                                                                                (hd
                                                                                                    (xL23_2 a
                                                                                                      (xL23_3 a))).toB))
                                                                                            true))
                                                                                        (sAnd
                                                                                          (sAnd true
                                                                                            (sIf
                                                                                              (sNot
                                                                                                (hd
                                                                                                    (xL23_2 a
                                                                                                      (xL23_3 a))).toB)
                                                                                              (sNot
                                                                                                (hd
                                                                                                    (xL23_2 a
                                                                                                      (xL23_3 a))).toB)
                                                                                              true))
                                                                                          true))))))))
                                                                          (sIf true
                                                                            (sAnd true (sIf q10 (sAnd q13 true) true))
                                                                            true))
                                                                        (sIf q14.isN
                                                                          (sAnd true
                                                                            (sIf true
                                                                              (sAnd true
                                                                                (sIf q15
                                                                                  (sAnd true
                                                                                    (sAnd true
                                                                                      (sAnd true
                                                                                        (sAnd
                                                                                          (sAnd true
                                                                                            (sLe
                                                                                              (↑((List.length
                                                                                                      (sIf q10
                                                                                                        (q11 ++ q12)
                                                                                                        q11) +
                                                                                                    [q9].length) *
                                                                                                  8))
                                                                                              140737488355328))
                                                                                          true))))
                                                                                  true))
                                                                              true))
                                                                          true))
                                                                      true))
                                                                  (sIf q16.isN true true))
                                                                true))
                                                            true)))
                                                      true))
                                                  (sIf q17.isN
                                                    (sAnd
                                                      (sAnd true
                                                        (sIf true
                                                          (sAnd true (sIf (sNot (hd (xL23_2 a (xL23_3 a))).toB) q13 true))
                                                          true))
                                                      (sIf q18.isN true true))
                                                    true))
                                                true))
                                            true))
                                        true))
                                    true))
                                (sIf q19.isN true true))
                              true))
                          true)))
                    true))
                (sIf (Tg.block 0 (q1.thenN (q19.thenN Tg.n))).isN true true))
              true))
          true))
      true,
    AV.dsl (Sh.int IntKind.i64) (Sc.toD (Sh.int IntKind.i64).sl (hd (tl (xL23_3 a)))))) := by kernel_rfl

/-! slices.Equal -/
open Classical in
noncomputable def eqInts (a b : List Int) : Bool := decide (a = b)
def neAt2 (a b : List Int) (j : Nat) : Bool := sNe (a.getD j 0) (b.getD j 0)
theorem neAt2_all {a b : List Int} (hl : a.length = b.length) : (∀ j, j < a.length → neAt2 a b j = false) ↔ a = b := by
  constructor
  · intro h
    apply List.ext_getElem hl
    intro i h1 h2
    have := h i h1
    unfold neAt2 at this
    rw [List.getD_eq_getElem?_getD, List.getD_eq_getElem?_getD, List.getElem?_eq_getElem h1, List.getElem?_eq_getElem h2] at this
    simpa [sNe] using this
  · rintro rfl j _
    simp [neAt2, sNe]
theorem step21 (a b : List Int) (hl : a.length = b.length) (hb : a.length ≤ 1000000) (j : Nat) (hj : j < a.length) :
    (neAt2 a b j = false → xs21_0 a b [Sc.i (j : Int)] = (true, true, [Sc.i ((j + 1 : Nat) : Int)])) ∧ (neAt2 a b j = true → (xs21_0 a b [Sc.i (j : Int)]).1 = true ∧ (xs21_0 a b [Sc.i (j : Int)]).2.1 = false) := by
  have h1 : sLt (j : Int) (a.length : Int) = true := sLt_true (by omega)
  have h2 : sLt (j : Int) (b.length : Int) = true := sLt_true (by omega)
  have h0 : sLe 0 (j : Int) = true := decide_eq_true (by omega)
  have hw : IntKind.wrap .i64 ((j : Int) + 1) = ((j + 1 : Nat) : Int) := wrap_i64 (by omega) (by omega)
  simp only [xs21_0, hd_cons, tl_cons, Sc.toI_i, Int.toNat_natCast, h1, h2, h0, hw]
  have hn : sNe (a.getD j (Sh.int IntKind.i64).dflt) (b.getD j (Sh.int IntKind.i64).dflt) = neAt2 a b j := rfl
  rw [hn]
  generalize neAt2 a b j = c
  cases c
  · exact ⟨fun _ => rfl, fun h => by cases h⟩
  · exact ⟨fun h => (by cases h), fun _ => ⟨rfl, rfl⟩⟩
theorem stop21 (a b : List Int) : (xs21_0 a b [Sc.i (a.length : Int)]).1 = true ∧ (xs21_0 a b [Sc.i (a.length : Int)]).2.1 = false := by
  have h1 : sLt (a.length : Int) (a.length : Int) = false := sLt_false (by omega)
  simp only [xs21_0, hd_cons, tl_cons, Sc.toI_i, h1]
  exact ⟨rfl, rfl⟩
theorem run21 (a b : List Int) (hl : a.length = b.length) (hb : a.length ≤ 1000000) : whileW (xs21_0 a b) [Sc.i 0] = some [Sc.i ((scanN a.length (neAt2 a b) : Nat) : Int)] :=
  scanW (fun j => [Sc.i (j : Int)]) a.length (neAt2 a b) rfl (fun j hj => (step21 a b hl hb j hj).1) (fun j hj => (step21 a b hl hb j hj).2) (stop21 a b)
theorem natEq2 (a b : List Int) (hb : a.length ≤ 1000000) : exFn (gX r0) Tryd.f21 [AV.dsl i64S a, AV.dsl i64S b] = some (true, .bool (eqInts a b)) := by
  rw [xf21]
  by_cases hl : a.length = b.length
  · have L : xL21_0 a b = [Sc.i ((scanN a.length (neAt2 a b) : Nat) : Int)] := by unfold xL21_0; rw [run21 a b hl hb]; rfl
    rw [L, run21 a b hl hb]
    have hq : sNe (a.length : Int) (b.length : Int) = false := by rw [hl]; simp [sNe]
    have hle := scanN_le a.length (neAt2 a b)
    rcases Nat.lt_or_ge (scanN a.length (neAt2 a b)) a.length with h | h
    · have ht := scanN_at h
      have hne : eqInts a b = false := by
        unfold eqInts
        rw [decide_eq_false_iff_not]
        intro e
        rw [(neAt2_all hl).2 e _ h] at ht
        cases ht
      rw [hne]
      generalize scanN a.length (neAt2 a b) = j at h ht
      have h1 : sLt (j : Int) (a.length : Int) = true := sLt_true (by omega)
      have h2 : sLt (j : Int) (b.length : Int) = true := sLt_true (by omega)
      have h0 : sLe 0 (j : Int) = true := decide_eq_true (by omega)
      simp only [hd_cons, tl_cons, Sc.toI_i, Int.toNat_natCast, h1, h2, h0, hq]
      have hn : sNe (a.getD j (Sh.int IntKind.i64).dflt) (b.getD j (Sh.int IntKind.i64).dflt) = neAt2 a b j := rfl
      rw [hn, ht]
      rfl
    · have hs : scanN a.length (neAt2 a b) = a.length := by omega
      have he : eqInts a b = true := by
        unfold eqInts
        rw [decide_eq_true_iff]
        exact (neAt2_all hl).1 fun j hj => scanN_before (n := a.length) (by omega)
      rw [he, hs]
      have h1 : sLt (a.length : Int) (a.length : Int) = false := sLt_false (by omega)
      simp only [hd_cons, tl_cons, Sc.toI_i, h1, hq]
      rfl
  · have hq : sNe (a.length : Int) (b.length : Int) = true := by simp [sNe]; omega
    have he : eqInts a b = false := by
      unfold eqInts
      rw [decide_eq_false_iff_not]
      rintro rfl
      exact hl rfl
    rw [he]
    simp only [hq]
    rfl
noncomputable def xm21 : List AV → Option (Bool × AV)
  | [a, b] => (asInts a).bind fun a => (asInts b).bind fun b => some (len1M a.length, .bool (eqInts a b))
  | _ => none
theorem xk21 (hm : Tryd.prog.follows .mixedOrders = true) : KOk E0 21 (preC (argsT Tryd.prog Tryd.f21) xm21) := KOk.preC ((rk0 hm).read hm Tryd.func21 (by decide) (by rfl) (by
  intro xs r h
  unfold xm21 at h
  split at h
  · simp only [Option.bind_eq_some_iff, Option.some.injEq, Prod.mk.injEq] at h
    obtain ⟨a, ha, b, hb, h1, rfl⟩ := h
    rw [asInts_eq ha, asInts_eq hb]
    exact natEq2 a b (Nat.le_of_ble_eq_true h1)
  · cases h)) _
/-! Sorting -/
def regL (a : List Nod) : List Int := (a.filter fun e => sEq e.1 4).map fun e => e.2.2.1
def regAt (e : Nod) : List Int := if sEq e.1 4 = true then [e.2.2.1] else []
theorem regL_succ {a : List Nod} {j : Nat} (hj : j < a.length) : regL (a.take (j + 1)) = regL (a.take j) ++ regAt (a.getD j nodS.dflt) := by
  have e : a.take (j + 1) = a.take j ++ [a[j]] := by rw [List.take_add_one, List.getElem?_eq_getElem hj]; rfl
  rw [e, List.getD_eq_getElem?_getD, List.getElem?_eq_getElem hj]
  show regL _ = regL _ ++ regAt a[j]
  unfold regL regAt
  rw [List.filter_append, List.map_append]
  congr 1
  by_cases h : sEq (a[j]).1 4 = true
  · rw [if_pos h]; simp [h]
  · rw [if_neg h]; simp [h]
theorem regL_len (a : List Nod) (j : Nat) : (regL (a.take j)).length ≤ a.length := by
  unfold regL
  rw [List.length_map]
  refine Nat.le_trans (List.length_filter_le _ _) ?_
  rw [List.length_take]
  omega
theorem step22 {a : List Nod} (hl : a.length ≤ 100000) {j : Nat} (hj : j < a.length) :
    xs22_0 a [Sc.i (j : Int), Sc.d (Sh.int IntKind.i64).sl (regL (a.take j))] = (true, true, [Sc.i ((j + 1 : Nat) : Int), Sc.d (Sh.int IntKind.i64).sl (regL (a.take (j + 1)))]) := by
  have hw : IntKind.i64.wrap ((j : Int) + 1) = ((j + 1 : Nat) : Int) := wrap_i64 (by omega) (by omega)
  have hx := regL_len a j
  rw [regL_succ hj]
  have hq : a.getD j ((Sh.int IntKind.i64).prod ((Sh.int IntKind.i64).prod ((Sh.int IntKind.i64).prod Sh.unit))).dflt = a.getD j nodS.dflt := rfl
  simp only [xs22_0, hd_cons, tl_cons, Sc.toI_i, Sc.toD_d', hw, Int.toNat_natCast]
  rw [hq]
  generalize a.getD j nodS.dflt = e
  generalize regL (a.take j) = X at hx
  have e1 : sLt (j : Int) (a.length : Int) = true := sLt_true (by omega)
  have e2 : sLe 0 (j : Int) = true := decide_eq_true (by omega)
  have e3 : sLe (((List.length (X : List Int) + [e.2.2.1].length) * 8 : Nat) : Int) 140737488355328 = true := decide_eq_true (by simp only [List.length_singleton]; omega)
  simp only [e1, e2]
  have e3' : sLe (((List.length (X : List Int) + ([e.2.2.1] : List (Sh.int IntKind.i64).den).length) * 8 : Nat) : Int) 140737488355328 = true := e3
  unfold regAt
  by_cases h : sEq e.1 4 = true
  · rw [if_pos h]
    refine Prod.ext ?_ (Prod.ext ?_ ?_)
    · simp only [h]
      rw [e3']
      rfl
    · simp only [h]
      rfl
    · simp only [h]
      rfl
  · have h : sEq e.1 4 = false := by simpa using h
    rw [if_neg (by rw [h]; simp), List.append_nil]
    simp only [h]
    rfl
theorem stop22 (a : List Nod) (X : List Int) : (xs22_0 a [Sc.i (a.length : Int), Sc.d (Sh.int IntKind.i64).sl X]).1 = true ∧ (xs22_0 a [Sc.i (a.length : Int), Sc.d (Sh.int IntKind.i64).sl X]).2.1 = false := by
  have h1 : sLt (a.length : Int) (a.length : Int) = false := sLt_false (by omega)
  simp only [xs22_0, hd_cons, tl_cons, Sc.toI_i, h1]
  exact ⟨rfl, rfl⟩
theorem run22 {a : List Nod} (hl : a.length ≤ 100000) : whileW (xs22_0 a) [Sc.i 0, Sc.d (Sh.int IntKind.i64).sl []] = some [Sc.i (a.length : Int), Sc.d (Sh.int IntKind.i64).sl (regL (a.take a.length))] :=
  whileW_upto (fun j => [Sc.i (j : Int), Sc.d (Sh.int IntKind.i64).sl (regL (a.take j))]) a.length rfl (fun j hj => step22 hl hj) (stop22 a _).1 (stop22 a _).2
def regV (a : List Nod) : List Int := Lib.compact (sortL (regL a))
theorem nat22 {a : List Nod} (hl : a.length ≤ 100000) : trimC i64S (exFnI (gX r0) Tryd.f22) [AV.dsl nodS a] = some (true, ⟨i64S, regV a⟩) := by
  have L : xL22_0 a = [Sc.i (a.length : Int), Sc.d (Sh.int IntKind.i64).sl (regL (a.take a.length))] := by unfold xL22_0; rw [run22 hl]; rfl
  have h1 : sLt (a.length : Int) (a.length : Int) = false := sLt_false (by omega)
  have hx := regL_len a a.length
  rw [xf22, L, run22 hl]
  simp only [hd_cons, tl_cons, Sc.toI_i, Sc.toD_d', h1, sSome_some]
  rw [List.take_length] at hx ⊢
  have o1 : okS (regL a) = true := Nat.ble_eq_true_of_le (by omega)
  have o2 : okS (sortL (regL a)) = true := Nat.ble_eq_true_of_le (by unfold sortL; rw [List.length_mergeSort]; omega)
  have e : List.take (compN (sortL (regL a))) (compL (sortL (regL a))) = regV a := by
    unfold compN compL regV
    exact List.take_left
  rw [e, o1, o2]
  rfl
def len100K (n : Nat) : Bool := Nat.ble n 100000
def xm22 : List AV → Option (Bool × ((s : Sh) × List s.den))
  | [a] => (asNods a).bind fun a => some (len100K a.length, ⟨i64S, regV a⟩)
  | _ => none
theorem xk22 (hm : Tryd.prog.follows .mixedOrders = true) : KNew E0 22 xm22 :=
  KNew.cases (IOk.trim ((rk0 hm).readI hm Tryd.func22 (by decide) (by rfl)) i64S) (IOk.trim ((rk0 hm).readI hm Tryd.func22 (by decide) (by rfl)) i64S) (by
  intro xs r h
  unfold xm22 at h
  split at h
  · simp only [Option.bind_eq_some_iff, Option.some.injEq, Prod.mk.injEq] at h
    obtain ⟨a, ha, h1, rfl⟩ := h
    rw [asNods_eq ha]
    exact .inl (nat22 (Nat.le_of_ble_eq_true h1))
  · cases h)
/-! One after another -/
theorem step23i (a : List Nod) (k : Nat) (out n : List Int) (d : Bool) {j : Nat} (hj : j < out.length) (hn : n.length ≤ 300000) (ho : out.length ≤ 300000) :
    xs23_2 a [Sc.i (k : Int), Sc.d (Sh.int IntKind.i64).sl out] [Sc.b d, Sc.i (j : Int), Sc.d (Sh.int IntKind.i64).sl n] =
      (true, true, [Sc.b (stepV (a.getD k nodS.dflt).2.2.1 (d, n) (out.getD j 0)).1, Sc.i ((j + 1 : Nat) : Int), Sc.d (Sh.int IntKind.i64).sl (stepV (a.getD k nodS.dflt).2.2.1 (d, n) (out.getD j 0)).2]) := by
  have hw : IntKind.i64.wrap ((j : Int) + 1) = ((j + 1 : Nat) : Int) := wrap_i64 (by omega) (by omega)
  have hq : (a.getD k ((Sh.int IntKind.i64).prod ((Sh.int IntKind.i64).prod ((Sh.int IntKind.i64).prod Sh.unit))).dflt).snd.snd.fst = (a.getD k nodS.dflt).2.2.1 := rfl
  have hq2 : List.getD out j (Sh.int IntKind.i64).dflt = out.getD j 0 := rfl
  have e1 : sLt (j : Int) (List.length (out : List Int) : Int) = true := sLt_true (by omega)
  have e2 : sLe 0 (j : Int) = true := decide_eq_true (by omega)
  simp only [xs23_2, hd_cons, tl_cons, Sc.toI_i, Sc.toB_b, Sc.toD_d', hw, Int.toNat_natCast]
  rw [hq, hq2, e1, e2]
  generalize (a.getD k nodS.dflt).2.2.1 = x
  generalize out.getD j 0 = y
  have z : ∀ m : Nat, m ≤ 1000000 → sLe ((m * 8 : Nat) : Int) 140737488355328 = true := fun m hm => decide_eq_true (by omega)
  have z1 : sLe (((List.length (n : List (Sh.int IntKind.i64).den) + ([x] : List (Sh.int IntKind.i64).den).length) * 8 : Nat) : Int) 140737488355328 = true := z _ (by simp only [List.length_singleton]; have : List.length (n : List (Sh.int IntKind.i64).den) = n.length := rfl; omega)
  have z2 : ∀ m : List Int, m.length ≤ 300001 → sLe (((List.length (m : List (Sh.int IntKind.i64).den) + ([y] : List (Sh.int IntKind.i64).den).length) * 8 : Nat) : Int) 140737488355328 = true := fun m hm => z _ (by simp only [List.length_singleton]; have : List.length (m : List (Sh.int IntKind.i64).den) = m.length := rfl; omega)
  unfold stepV
  by_cases c2 : y = x
  · subst c2
    have t2 : sNe y y = false := by simp [sNe]
    have t1 : sLe y y = true := decide_eq_true (by omega)
    rw [if_pos rfl, t1, t2, show decide (y ≤ y) = true from t1]
    cases d
    · rw [z1]; rfl
    · rfl
  · have t2 : sNe y x = true := by simpa [sNe] using c2
    rw [if_neg c2, t2]
    by_cases c1 : x ≤ y
    · have t1 : sLe x y = true := decide_eq_true c1
      rw [t1, show decide (x ≤ y) = true from t1]
      cases d
      · have := z2 (n ++ [x]) (by simp; omega)
        rw [z1]
        refine Prod.ext ?_ (Prod.ext rfl rfl)
        simp only [sI4, sN3]
        rw [this]
        rfl
      · refine Prod.ext ?_ (Prod.ext rfl rfl)
        simp only [sI4, sI5, sN2]
        rw [z2 n (by omega)]
        rfl
    · have t1 : sLe x y = false := decide_eq_false c1
      rw [t1, show decide (x ≤ y) = false from t1]
      cases d
      · refine Prod.ext ?_ (Prod.ext rfl rfl)
        simp only [sI4, sI5, sN2, sN3]
        rw [z2 n (by omega)]
        rfl
      · refine Prod.ext ?_ (Prod.ext rfl rfl)
        simp only [sI4, sI5, sN2, sN3]
        rw [z2 n (by omega)]
        rfl
theorem stop23i (a : List Nod) (k : Nat) (out n : List Int) (d : Bool) :
    (xs23_2 a [Sc.i (k : Int), Sc.d (Sh.int IntKind.i64).sl out] [Sc.b d, Sc.i (out.length : Int), Sc.d (Sh.int IntKind.i64).sl n]).1 = true ∧
    (xs23_2 a [Sc.i (k : Int), Sc.d (Sh.int IntKind.i64).sl out] [Sc.b d, Sc.i (out.length : Int), Sc.d (Sh.int IntKind.i64).sl n]).2.1 = false := by
  have h1 : sLt (out.length : Int) (List.length (out : List Int) : Int) = false := sLt_false (by omega)
  simp only [xs23_2, hd_cons, tl_cons, Sc.toI_i, Sc.toB_b, Sc.toD_d']
  rw [h1]
  exact ⟨rfl, rfl⟩
def innV (x : Int) (out : List Int) (j : Nat) : Bool × List Int := (out.take j).foldl (stepV x) (false, [])
theorem innV_succ (x : Int) {out : List Int} {j : Nat} (hj : j < out.length) : innV x out (j + 1) = stepV x (innV x out j) (out.getD j 0) := by
  unfold innV
  have e : out.take (j + 1) = out.take j ++ [out[j]] := by rw [List.take_add_one, List.getElem?_eq_getElem hj]; rfl
  rw [e, List.foldl_append, List.getD_eq_getElem?_getD, List.getElem?_eq_getElem hj]
  rfl
theorem innV_len (x : Int) (out : List Int) (j : Nat) : (innV x out j).2.length ≤ out.length + 1 := by
  have := stepV_len x (out.take j) [] false
  unfold innV
  have h2 : (out.take j).length ≤ out.length := by rw [List.length_take]; omega
  generalize (out.take j).foldl (stepV x) (false, []) = s at this
  obtain ⟨d, n⟩ := s
  cases d <;> simp at this ⊢ <;> omega
theorem run23i (a : List Nod) (k : Nat) (out : List Int) (ho : out.length ≤ 200000) :
    whileW (xs23_2 a [Sc.i (k : Int), Sc.d (Sh.int IntKind.i64).sl out]) [Sc.b false, Sc.i 0, Sc.d (Sh.int IntKind.i64).sl []] =
      some [Sc.b (innV (a.getD k nodS.dflt).2.2.1 out out.length).1, Sc.i (out.length : Int), Sc.d (Sh.int IntKind.i64).sl (innV (a.getD k nodS.dflt).2.2.1 out out.length).2] := by
  refine whileW_upto (fun j => [Sc.b (innV (a.getD k nodS.dflt).2.2.1 out j).1, Sc.i (j : Int), Sc.d (Sh.int IntKind.i64).sl (innV (a.getD k nodS.dflt).2.2.1 out j).2]) out.length rfl (fun j hj => ?_) ?_ ?_
  · have := innV_len (a.getD k nodS.dflt).2.2.1 out j
    rw [innV_succ _ hj]
    exact step23i a k out _ _ hj (by omega) (by omega)
  · exact (stop23i a k out _ _).1
  · exact (stop23i a k out _ _).2
theorem insV_inn (x : Int) (out : List Int) : insV x out = if (innV x out out.length).1 then (innV x out out.length).2 else (innV x out out.length).2 ++ [x] := by
  unfold insV innV
  rw [List.take_length]
def outV (a : List Nod) (j : Nat) : List Int := (regL (a.take j)).foldl (fun o x => insV x o) []
theorem outV_succ {a : List Nod} {j : Nat} (hj : j < a.length) : outV a (j + 1) = if sEq (a.getD j nodS.dflt).1 4 = true then insV (a.getD j nodS.dflt).2.2.1 (outV a j) else outV a j := by
  unfold outV
  rw [regL_succ hj, List.foldl_append]
  unfold regAt
  split <;> rfl
theorem outV_len (a : List Nod) : ∀ j, j ≤ a.length → (outV a j).length ≤ j
  | 0, _ => by simp [outV, regL]
  | j + 1, h => by
    have := outV_len a j (by omega)
    rw [outV_succ (by omega)]
    split
    · have := insV_len (a.getD j nodS.dflt).2.2.1 (outV a j); omega
    · omega
theorem step23 {a : List Nod} (hl : a.length ≤ 100000) {j : Nat} (hj : j < a.length) :
    xs23_3 a [Sc.i (j : Int), Sc.d (Sh.int IntKind.i64).sl (outV a j)] = (true, true, [Sc.i ((j + 1 : Nat) : Int), Sc.d (Sh.int IntKind.i64).sl (outV a (j + 1))]) := by
  have hw : IntKind.i64.wrap ((j : Int) + 1) = ((j + 1 : Nat) : Int) := wrap_i64 (by omega) (by omega)
  have hx := outV_len a j (by omega)
  rw [outV_succ hj]
  generalize outV a j = out at hx
  have L : xL23_2 a [Sc.i (j : Int), Sc.d (Sh.int IntKind.i64).sl out] = [Sc.b (innV (a.getD j nodS.dflt).2.2.1 out out.length).1, Sc.i (out.length : Int), Sc.d (Sh.int IntKind.i64).sl (innV (a.getD j nodS.dflt).2.2.1 out out.length).2] := by
    unfold xL23_2; rw [run23i a j out (by omega)]; rfl
  have hq : a.getD j ((Sh.int IntKind.i64).prod ((Sh.int IntKind.i64).prod ((Sh.int IntKind.i64).prod Sh.unit))).dflt = a.getD j nodS.dflt := rfl
  have e1 : sLt (j : Int) (a.length : Int) = true := sLt_true (by omega)
  have e2 : sLe 0 (j : Int) = true := decide_eq_true (by omega)
  have e3 : sLt (out.length : Int) (List.length (out : List Int) : Int) = false := sLt_false (by omega)
  simp only [xs23_3]
  rw [L, run23i a j out (by omega)]
  simp only [hd_cons, tl_cons, Sc.toI_i, Sc.toB_b, Sc.toD_d', hw, Int.toNat_natCast, sSome_some]
  rw [hq, e1, e2, e3]
  have hi := insV_inn (a.getD j nodS.dflt).2.2.1 out
  have hlen := innV_len (a.getD j nodS.dflt).2.2.1 out out.length
  generalize a.getD j nodS.dflt = e at hi hlen
  rw [hi]
  generalize innV e.2.2.1 out out.length = s at hlen
  obtain ⟨d, n⟩ := s
  have z1 : sLe (((List.length (n : List (Sh.int IntKind.i64).den) + ([e.2.2.1] : List (Sh.int IntKind.i64).den).length) * 8 : Nat) : Int) 140737488355328 = true := decide_eq_true (by
    simp only [List.length_singleton]
    have : List.length (n : List (Sh.int IntKind.i64).den) = n.length := rfl
    have : n.length ≤ out.length + 1 := hlen
    omega)
  have hne : sNe e.1 4 = !sEq e.1 4 := by simp [sNe, sEq, bne]
  rw [hne]
  generalize sEq e.1 4 = c
  cases c <;> cases d
  · rfl
  · rfl
  · rw [if_pos rfl]
    refine Prod.ext ?_ (Prod.ext rfl rfl)
    simp only [z1]
    rfl
  · rfl
theorem stop23 (a : List Nod) (X : List Int) : (xs23_3 a [Sc.i (a.length : Int), Sc.d (Sh.int IntKind.i64).sl X]).1 = true ∧ (xs23_3 a [Sc.i (a.length : Int), Sc.d (Sh.int IntKind.i64).sl X]).2.1 = false := by
  have h1 : sLt (a.length : Int) (a.length : Int) = false := sLt_false (by omega)
  simp only [xs23_3, hd_cons, tl_cons, Sc.toI_i, h1]
  exact ⟨rfl, rfl⟩
theorem run23 {a : List Nod} (hl : a.length ≤ 100000) : whileW (xs23_3 a) [Sc.i 0, Sc.d (Sh.int IntKind.i64).sl []] = some [Sc.i (a.length : Int), Sc.d (Sh.int IntKind.i64).sl (outV a a.length)] :=
  whileW_upto (fun j => [Sc.i (j : Int), Sc.d (Sh.int IntKind.i64).sl (outV a j)]) a.length rfl (fun j hj => step23 hl hj) (stop23 a _).1 (stop23 a _).2
theorem nat23 {a : List Nod} (hl : a.length ≤ 100000) : freshC (exFnI (gX r0) Tryd.f23) [AV.dsl nodS a] = some (true, .dsl i64S (regV a)) := by
  have L : xL23_3 a = [Sc.i (a.length : Int), Sc.d (Sh.int IntKind.i64).sl (outV a a.length)] := by unfold xL23_3; rw [run23 hl]; rfl
  have h1 : sLt (a.length : Int) (a.length : Int) = false := sLt_false (by omega)
  have e : outV a a.length = regV a := by
    unfold outV regV
    rw [List.take_length]
    exact (regs_eq (regL a)).symm
  rw [xf23, L, run23 hl, e]
  simp only [hd_cons, tl_cons, Sc.toI_i, Sc.toD_d', h1, sSome_some]
  rfl
def xm23 : List AV → Option (Bool × AV)
  | [a] => (asNods a).bind fun a => some (len100K a.length, .dsl i64S (regV a))
  | _ => none
theorem xk23 (hm : Tryd.prog.follows .mixedOrders = true) : KFr E0 23 xm23 :=
  KFr.cases (IOk.fresh ((rk0 hm).readI hm Tryd.func23 (by decide) (by rfl))) (IOk.fresh ((rk0 hm).readI hm Tryd.func23 (by decide) (by rfl))) (by
  intro xs r h
  unfold xm23 at h
  split at h
  · simp only [Option.bind_eq_some_iff, Option.some.injEq, Prod.mk.injEq] at h
    obtain ⟨a, ha, h1, rfl⟩ := h
    rw [asNods_eq ha]
    exact .inl (nat23 (Nat.le_of_ble_eq_true h1))
  · cases h)
noncomputable def r1 : XTab := { w2 with k := (21, preC (argsT Tryd.prog Tryd.f21) xm21) :: w2.k, j := (23, xm23) :: w2.j, n := (22, xm22) :: w2.n }
theorem rk1 (hm : Tryd.prog.follows .mixedOrders = true) : XOk r1 := (((wk2 hm).consN (xk22 hm)).consJ (xk23 hm)).consK (xk21 hm)
end Go.Proofs.YtaajbcflmaihgaaDoor
