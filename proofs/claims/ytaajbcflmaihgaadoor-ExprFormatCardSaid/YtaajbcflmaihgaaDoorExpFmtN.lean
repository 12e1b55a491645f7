/- expr.Format and its reference: the text of an expression. No conditions. -/
import Derived.Test.YtaajbcflmaihgaaDoorExpDec
set_option linter.all false
namespace Go.Proofs.YtaajbcflmaihgaaDoor
open Go Ab
set_option maxRecDepth 100000
noncomputable def xs19_0 (a : List nodS.den) : List Sc → Bool × Bool × List Sc := fun xs => let q0 : Bool := sLt (hd (tl xs)).toI ↑a.length;
  let q1 : Tg := Tg.mix q0 Tg.n (Tg.x 0);
  let q2 : Bool := sLt 0 (hd (tl xs)).toI;
  let q3 : Int := 2 ^ 63 - 1;
  let q4 : Tg := Tg.mix q2 Tg.n Tg.n;
  let q5 : ((Sh.int IntKind.i64).prod ((Sh.int IntKind.i64).prod ((Sh.int IntKind.i64).prod Sh.unit))).den := a.getD (hd (tl xs)).toI.toNat ((Sh.int IntKind.i64).prod ((Sh.int IntKind.i64).prod ((Sh.int IntKind.i64).prod Sh.unit))).dflt;
  let q6 : (Sh.int IntKind.i64).den := q5.fst;
  let q7 : Bool := sEq q6 4;
  let q8 : Bool := sNot q7;
  let q9 : ((Sh.int IntKind.i64).prod ((Sh.int IntKind.i64).prod Sh.unit)).den := q5.snd;
  let q10 : (Sh.int IntKind.i64).den := q9.fst;
  let q11 : Bool := sIf q7 (sEq q10 0) false;
  let q12 : (Sh.int IntKind.i64).den := q9.snd.fst;
  let q13 : Bool := sAnd true (okImm q12);
  let q14 : ByteArray := decA q12;
  let q15 : Nat := q14.size;
  let q16 : ByteArray := sIf q2 ((hd xs).toS ++ { data := { toList := [32] } }) (hd xs).toS;
  let q17 : Nat := q16.size;
  let q18 : ByteArray := { data := { toList := [114] } } ++ q14;
  let q19 : Tg := Tg.mix q11 (Tg.x 1) Tg.n;
  let q20 : ByteArray := nameOf q6;
  let q21 : ByteArray := nameB q20 q6;
  let q22 : ByteArray := typeName q10;
  let q23 : ByteArray := { data := { toList := [58] } };
  let q24 : ByteArray := q21 ++ q23;
  let q25 : ByteArray := nameB q22 q10;
  let q26 : ByteArray := q24 ++ q25;
  let q27 : ByteArray := q26 ++ q23;
  let q28 : ByteArray := q27 ++ q14;
  let q29 : Tg := q4.thenN (q19.thenN Tg.n);
  let q30 : Tg := Tg.block 1 q29;
  (sAnd true
    (sIf true
      (sAnd (sAnd true (sIf q0 true true))
        (sIf q1.isN
          (sAnd
            (sAnd (sAnd true (sAnd (sAnd true (sAnd (sLe 0 (hd (tl xs)).toI) q0)) true))
              (sIf true
                (sAnd
                  (sAnd true
                    (sIf true
                      (sAnd true (sIf q2 (sAnd true (sAnd (sAnd true (sLe (↑((hd xs).toS.size + 1)) q3)) true)) true))
                      true))
                  (sIf q4.isN
                    (sAnd
                      (sAnd
                        (sAnd true
                          (sAnd true
                            (sAnd true
                              (sAnd true
                                (sAnd (sOr q8 true)
                                  (sAnd (sOr q8 q7)
                                    (sAnd (sOr q8 (sAnd (sAnd q7 true) true))
                                      (sAnd (sAnd true (sIf q7 q7 true)) true))))))))
                        (sIf true
                          (sAnd true
                            (sIf q11
                              (sAnd
                                (sAnd true
                                  (sAnd true
                                    (sAnd true
                                      (sAnd q13
                                        (sAnd (sAnd true (sLe (↑(1 + q15)) q3))
                                          (sAnd (sAnd true (sLe (↑(q17 + q18.size)) q3)) true))))))
                                true)
                              true))
                          true))
                      (sIf q19.isN
                        (sAnd
                          (sAnd true
                            (sAnd true
                              (sAnd true
                                (sAnd true
                                  (sAnd true
                                    (sAnd true
                                      (sAnd (sAnd true (okNm q20 q6))
                                        (sAnd (sAnd true (sLe (↑(q21.size + 1)) q3))
                                          (sAnd true
                                            (sAnd true
                                              (sAnd true
                                                (sAnd true
                                                  (sAnd true
                                                    (sAnd (sAnd true (okNm q22 q10))
                                                      (sAnd (sAnd true (sLe (↑(q24.size + q25.size)) q3))
                                                        (sAnd (sAnd true (sLe (↑(q26.size + 1)) q3))
                                                          (sAnd true
                                                            (sAnd true
                                                              (sAnd q13
                                                                (sAnd (sAnd true (sLe (↑(q27.size + q15)) q3))
                                                                  (sAnd (sAnd true (sLe (↑(q17 + q28.size)) q3))
                                                                    true)))))))))))))))))))))
                          true)
                        true))
                    true))
                true))
            (sIf q30.isN true true))
          true))
      true),
  (q1.thenN (q30.thenN Tg.n)).isN,
  [Sc.s (sIf q29.isN (q16 ++ q28) (q16 ++ q18)), Sc.i (IntKind.i64.wrap ((hd (tl xs)).toI + 1))])
noncomputable def xL19_0 (a : List nodS.den) : List Sc := Option.getD (whileW (xs19_0 a) [Sc.s { data := { toList := [] } }, Sc.i 0]) [Sc.s { data := { toList := [] } }, Sc.i 0]
theorem xf19 (a : List nodS.den) : exFn (gX q1) Tryd.f19 [AV.dsl nodS a] = (
 let q0 : Bool := sLt (hd (tl (xL19_0 a))).toI ↑a.length;
  let q1 : Tg := Tg.mix q0 Tg.n (Tg.x 0);
  let q2 : Bool := sLt 0 (hd (tl (xL19_0 a))).toI;
  let q3 : Int := 2 ^ 63 - 1;
  let q4 : Tg := Tg.mix q2 Tg.n Tg.n;
  let q5 : ((Sh.int IntKind.i64).prod ((Sh.int IntKind.i64).prod ((Sh.int IntKind.i64).prod Sh.unit))).den := a.getD (hd (tl (xL19_0 a))).toI.toNat ((Sh.int IntKind.i64).prod ((Sh.int IntKind.i64).prod ((Sh.int IntKind.i64).prod Sh.unit))).dflt;
  let q6 : (Sh.int IntKind.i64).den := q5.fst;
  let q7 : Bool := sEq q6 4;
  let q8 : Bool := sNot q7;
  let q9 : ((Sh.int IntKind.i64).prod ((Sh.int IntKind.i64).prod Sh.unit)).den := q5.snd;
  let q10 : (Sh.int IntKind.i64).den := q9.fst;
  let q11 : Bool := sIf q7 (sEq q10 0) false;
  let q12 : (Sh.int IntKind.i64).den := q9.snd.fst;
  let q13 : Bool := sAnd true (okImm q12);
  let q14 : ByteArray := decA q12;
  let q15 : Nat := q14.size;
  let q16 : Nat := (sIf q2 ((hd (xL19_0 a)).toS ++ { data := { toList := [32] } }) (hd (xL19_0 a)).toS).size;
  let q17 : Tg := Tg.mix q11 (Tg.x 1) Tg.n;
  let q18 : ByteArray := nameOf q6;
  let q19 : ByteArray := nameB q18 q6;
  let q20 : ByteArray := typeName q10;
  let q21 : ByteArray := { data := { toList := [58] } };
  let q22 : ByteArray := q19 ++ q21;
  let q23 : ByteArray := nameB q20 q10;
  let q24 : ByteArray := q22 ++ q23;
  let q25 : ByteArray := q24 ++ q21;
  let q26 : Tg := Tg.block 1 (q4.thenN (q17.thenN Tg.n));
  some
  (sAnd true
      (sIf true
        (sAnd true
          (sIf true
            (sAnd
              (sAnd true
                (sIf true
                  (sAnd (sSome (whileW (xs19_0 a) [Sc.s { data := { toList := [] } }, Sc.i 0]))
                    (sAnd true
                      (sIf true
                        (sAnd (sAnd true (sIf q0 true true))
                          (sIf q1.isN
                            (sAnd
                              (sAnd (sAnd true (sAnd (sAnd true (sAnd (sLe 0 (hd (tl (xL19_0 a))).toI) q0)) true))
                                (sIf true
                                  (sAnd
                                    (sAnd true
                                      (sIf true
                                        (sAnd true
                                          (sIf q2
                                            (sAnd true
                                              (sAnd (sAnd true (sLe (↑((hd (xL19_0 a)).toS.size + 1)) q3)) true))
                                            true))
                                        true))
                                    (sIf q4.isN
                                      (sAnd
                                        (sAnd
                                          (sAnd true
                                            (sAnd true
                                              (sAnd true
                                                (sAnd true
                                                  (sAnd (sOr q8 true)
                                                    (sAnd (sOr q8 q7)
                                                      (sAnd (sOr q8 (sAnd (sAnd q7 true) true))
                                                        (sAnd (sAnd true (sIf q7 q7 true)) true))))))))
                                          (sIf true
                                            (sAnd true
                                              (sIf q11
                                                (sAnd
                                                  (sAnd true
                                                    (sAnd true
                                                      (sAnd true
                                                        (sAnd q13
                                                          (sAnd (sAnd true (sLe (↑(1 + q15)) q3))
                                                            (sAnd
                                                              (sAnd true
                                                                (sLe
                                                                  (↑(q16 +
                                                                      ({ data := { toList := [114] } } ++ q14).size))
                                                                  q3))
                                                              true))))))
                                                  true)
                                                true))
                                            true))
                                        (sIf q17.isN
                                          (sAnd
                                            (sAnd true
                                              (sAnd true
                                                (sAnd true
                                                  (sAnd true
                                                    (sAnd true
                                                      (sAnd true
                                                        (sAnd (sAnd true (okNm q18 q6))
                                                          (sAnd (sAnd true (sLe (↑(q19.size + 1)) q3))
                                                            (sAnd true
                                                              (sAnd true
                                                                (sAnd true
                                                                  (sAnd true
                                                                    (sAnd true
                                                                      (sAnd (sAnd true (okNm q20 q10))
                                                                        (sAnd
                                                                          (sAnd true (sLe (↑(q22.size + q23.size)) q3))
                                                                          (sAnd (sAnd true (sLe (↑(q24.size + 1)) q3))
                                                                            (sAnd true
                                                                              (sAnd true
                                                                                (sAnd q13
                                                                                  (sAnd
                                                                                    (sAnd true
                                                                                      (sLe (↑(q25.size + q15)) q3))
                                                                                    (sAnd
                                                                                      (sAnd true
                                                                                        (sLe
                                                                                          (↑(q16 + (q25 ++ q14).size))
                                                                                          q3))
                                                                                      true)))))))))))))))))))))
                                            true)
                                          true))
                                      true))
                                  true))
                              (sIf q26.isN true true))
                            true))
                        true)))
                  true))
              (sIf (Tg.block 0 (q1.thenN (q26.thenN Tg.n))).isN true true))
            true))
        true),
    AV.str (hd (xL19_0 a)).toS)) := by kernel_rfl

noncomputable def xs20_0 (a : List nodS.den) : List Sc → Bool × Bool × List Sc := fun xs => let q0 : Bool := sLt (hd (tl xs)).toI ↑a.length;
  let q1 : Tg := Tg.mix q0 Tg.n (Tg.x 0);
  let q2 : Bool := sLt 0 (hd (tl xs)).toI;
  let q3 : Int := 2 ^ 63 - 1;
  let q4 : Tg := Tg.mix q2 Tg.n Tg.n;
  let q5 : ((Sh.int IntKind.i64).prod ((Sh.int IntKind.i64).prod ((Sh.int IntKind.i64).prod Sh.unit))).den := a.getD (hd (tl xs)).toI.toNat ((Sh.int IntKind.i64).prod ((Sh.int IntKind.i64).prod ((Sh.int IntKind.i64).prod Sh.unit))).dflt;
  let q6 : (Sh.int IntKind.i64).den := q5.fst;
  let q7 : Bool := sEq q6 4;
  let q8 : Bool := sNot q7;
  let q9 : ((Sh.int IntKind.i64).prod ((Sh.int IntKind.i64).prod Sh.unit)).den := q5.snd;
  let q10 : (Sh.int IntKind.i64).den := q9.fst;
  let q11 : Bool := sIf q7 (sEq q10 0) false;
  let q12 : ByteArray := sIf q2 ((hd xs).toS ++ { data := { toList := [32] } }) (hd xs).toS;
  let q13 : Nat := q12.size;
  let q14 : (Sh.int IntKind.i64).den := q9.snd.fst;
  let q15 : Bool := sAnd true (okImm q14);
  let q16 : ByteArray := q12 ++ { data := { toList := [114] } };
  let q17 : ByteArray := decA q14;
  let q18 : Nat := q17.size;
  let q19 : Tg := Tg.mix q11 (Tg.x 1) Tg.n;
  let q20 : ByteArray := nameOf q6;
  let q21 : Bool := bEq q20 { data := { toList := [] } };
  let q22 : Tg := Tg.mix q21 Tg.n Tg.n;
  let q23 : ByteArray := typeName q10;
  let q24 : Bool := bEq q23 { data := { toList := [] } };
  let q25 : Tg := Tg.mix q24 Tg.n Tg.n;
  let q26 : ByteArray := sIf q21 (decA q6) q20;
  let q27 : ByteArray := q12 ++ q26;
  let q28 : ByteArray := { data := { toList := [58] } };
  let q29 : ByteArray := q27 ++ q28;
  let q30 : ByteArray := sIf q24 (decA q10) q23;
  let q31 : ByteArray := q29 ++ q30;
  let q32 : ByteArray := q31 ++ q28;
  let q33 : Tg := q4.thenN (q19.thenN (q22.thenN (q25.thenN Tg.n)));
  let q34 : Tg := Tg.block 1 q33;
  (sAnd true
    (sIf true
      (sAnd (sAnd true (sIf q0 true true))
        (sIf q1.isN
          (sAnd
            (sAnd (sAnd true (sAnd (sAnd true (sAnd (sLe 0 (hd (tl xs)).toI) q0)) true))
              (sIf true
                (sAnd
                  (sAnd true
                    (sIf true
                      (sAnd true (sIf q2 (sAnd true (sAnd (sAnd true (sLe (↑((hd xs).toS.size + 1)) q3)) true)) true))
                      true))
                  (sIf q4.isN
                    (sAnd
                      (sAnd
                        (sAnd true
                          (sAnd true
                            (sAnd true
                              (sAnd true
                                (sAnd (sOr q8 true)
                                  (sAnd (sOr q8 q7)
                                    (sAnd (sOr q8 (sAnd (sAnd q7 true) true))
                                      (sAnd (sAnd true (sIf q7 q7 true)) true))))))))
                        (sIf true
                          (sAnd true
                            (sIf q11
                              (sAnd
                                (sAnd true
                                  (sAnd (sAnd true (sLe (↑(q13 + 1)) q3))
                                    (sAnd true
                                      (sAnd true (sAnd q15 (sAnd (sAnd true (sLe (↑(q16.size + q18)) q3)) true))))))
                                true)
                              true))
                          true))
                      (sIf q19.isN
                        (sAnd true
                          (sIf true
                            (sAnd
                              (sAnd true
                                (sIf true
                                  (sAnd true (sIf q21 (sAnd true (sAnd true (sAnd (sAnd true (okImm q6)) true))) true))
                                  true))
                              (sIf q22.isN
                                (sAnd true
                                  (sIf true
                                    (sAnd
                                      (sAnd true
                                        (sIf true
                                          (sAnd true
                                            (sIf q24 (sAnd true (sAnd true (sAnd (sAnd true (okImm q10)) true))) true))
                                          true))
                                      (sIf q25.isN
                                        (sAnd true
                                          (sAnd true
                                            (sAnd (sAnd true (sLe (↑(q13 + q26.size)) q3))
                                              (sAnd (sAnd true (sLe (↑(q27.size + 1)) q3))
                                                (sAnd true
                                                  (sAnd (sAnd true (sLe (↑(q29.size + q30.size)) q3))
                                                    (sAnd (sAnd true (sLe (↑(q31.size + 1)) q3))
                                                      (sAnd true
                                                        (sAnd true
                                                          (sAnd q15
                                                            (sAnd (sAnd true (sLe (↑(q32.size + q18)) q3))
                                                              true)))))))))))
                                        true))
                                    true))
                                true))
                            true))
                        true))
                    true))
                true))
            (sIf q34.isN true true))
          true))
      true),
  (q1.thenN (q34.thenN Tg.n)).isN,
  [Sc.s (sIf q33.isN (q32 ++ q17) (q16 ++ q17)), Sc.i (IntKind.i64.wrap ((hd (tl xs)).toI + 1))])
noncomputable def xL20_0 (a : List nodS.den) : List Sc := Option.getD (whileW (xs20_0 a) [Sc.s { data := { toList := [] } }, Sc.i 0]) [Sc.s { data := { toList := [] } }, Sc.i 0]
theorem xf20 (a : List nodS.den) : exFn (gX q1) Tryd.f20 [AV.dsl nodS a] = (
 let q0 : Bool := sLt (hd (tl (xL20_0 a))).toI ↑a.length;
  let q1 : Tg := Tg.mix q0 Tg.n (Tg.x 0);
  let q2 : Bool := sLt 0 (hd (tl (xL20_0 a))).toI;
  let q3 : Int := 2 ^ 63 - 1;
  let q4 : Tg := Tg.mix q2 Tg.n Tg.n;
  let q5 : ((Sh.int IntKind.i64).prod ((Sh.int IntKind.i64).prod ((Sh.int IntKind.i64).prod Sh.unit))).den := a.getD (hd (tl (xL20_0 a))).toI.toNat ((Sh.int IntKind.i64).prod ((Sh.int IntKind.i64).prod ((Sh.int IntKind.i64).prod Sh.unit))).dflt;
  let q6 : (Sh.int IntKind.i64).den := q5.fst;
  let q7 : Bool := sEq q6 4;
  let q8 : Bool := sNot q7;
  let q9 : ((Sh.int IntKind.i64).prod ((Sh.int IntKind.i64).prod Sh.unit)).den := q5.snd;
  let q10 : (Sh.int IntKind.i64).den := q9.fst;
  let q11 : Bool := sIf q7 (sEq q10 0) false;
  let q12 : ByteArray := sIf q2 ((hd (xL20_0 a)).toS ++ { data := { toList := [32] } }) (hd (xL20_0 a)).toS;
  let q13 : Nat := q12.size;
  let q14 : (Sh.int IntKind.i64).den := q9.snd.fst;
  let q15 : Bool := sAnd true (okImm q14);
  let q16 : Nat := (decA q14).size;
  let q17 : Tg := Tg.mix q11 (Tg.x 1) Tg.n;
  let q18 : ByteArray := nameOf q6;
  let q19 : Bool := bEq q18 { data := { toList := [] } };
  let q20 : Tg := Tg.mix q19 Tg.n Tg.n;
  let q21 : ByteArray := typeName q10;
  let q22 : Bool := bEq q21 { data := { toList := [] } };
  let q23 : Tg := Tg.mix q22 Tg.n Tg.n;
  let q24 : ByteArray := sIf q19 (decA q6) q18;
  let q25 : ByteArray := q12 ++ q24;
  let q26 : ByteArray := { data := { toList := [58] } };
  let q27 : ByteArray := q25 ++ q26;
  let q28 : ByteArray := sIf q22 (decA q10) q21;
  let q29 : ByteArray := q27 ++ q28;
  let q30 : Tg := Tg.block 1 (q4.thenN (q17.thenN (q20.thenN (q23.thenN Tg.n))));
  some
  (sAnd true
      (sIf true
        (sAnd true
          (sIf true
            (sAnd
              (sAnd true
                (sIf true
                  (sAnd (sSome (whileW (xs20_0 a) [Sc.s { data := { toList := [] } }, Sc.i 0]))
                    (sAnd true
                      (sIf true
                        (sAnd (sAnd true (sIf q0 true true))
                          (sIf q1.isN
                            (sAnd
                              (sAnd (sAnd true (sAnd (sAnd true (sAnd (sLe 0 (hd (tl (xL20_0 a))).toI) q0)) true))
                                (sIf true
                                  (sAnd
                                    (sAnd true
                                      (sIf true
                                        (sAnd true
                                          (sIf q2
                                            (sAnd true
                                              (sAnd (sAnd true (sLe (↑((hd (xL20_0 a)).toS.size + 1)) q3)) true))
                                            true))
                                        true))
                                    (sIf q4.isN
                                      (sAnd
                                        (sAnd
                                          (sAnd true
                                            (sAnd true
                                              (sAnd true
                                                (sAnd true
                                                  (sAnd (sOr q8 true)
                                                    (sAnd (sOr q8 q7)
                                                      (sAnd (sOr q8 (sAnd (sAnd q7 true) true))
                                                        (sAnd (sAnd true (sIf q7 q7 true)) true))))))))
                                          (sIf true
                                            (sAnd true
                                              (sIf q11
                                                (sAnd
                                                  (sAnd true
                                                    (sAnd (sAnd true (sLe (↑(q13 + 1)) q3))
                                                      (sAnd true
                                                        (sAnd true
                                                          (sAnd q15
                                                            (sAnd
                                                              (sAnd true
                                                                (sLe
                                                                  (↑((q12 ++ { data := { toList := [114] } }).size +
                                                                      q16))
                                                                  q3))
                                                              true))))))
                                                  true)
                                                true))
                                            true))
                                        (sIf q17.isN
                                          (sAnd true
                                            (sIf true
                                              (sAnd
                                                (sAnd true
                                                  (sIf true
                                                    (sAnd true
                                                      (sIf q19
                                                        (sAnd true (sAnd true (sAnd (sAnd true (okImm q6)) true)))
                                                        true))
                                                    true))
                                                (sIf q20.isN
                                                  (sAnd true
                                                    (sIf true
                                                      (sAnd
                                                        (sAnd true
                                                          (sIf true
                                                            (sAnd true
                                                              (sIf q22
                                                                (sAnd true
                                                                  (sAnd true (sAnd (sAnd true (okImm q10)) true)))
                                                                true))
                                                            true))
                                                        (sIf q23.isN
                                                          (sAnd true
                                                            (sAnd true
                                                              (sAnd (sAnd true (sLe (↑(q13 + q24.size)) q3))
                                                                (sAnd (sAnd true (sLe (↑(q25.size + 1)) q3))
                                                                  (sAnd true
                                                                    (sAnd (sAnd true (sLe (↑(q27.size + q28.size)) q3))
                                                                      (sAnd (sAnd true (sLe (↑(q29.size + 1)) q3))
                                                                        (sAnd true
                                                                          (sAnd true
                                                                            (sAnd q15
                                                                              (sAnd
                                                                                (sAnd true
                                                                                  (sLe (↑((q29 ++ q26).size + q16)) q3))
                                                                                true)))))))))))
                                                          true))
                                                      true))
                                                  true))
                                              true))
                                          true))
                                      true))
                                  true))
                              (sIf q30.isN true true))
                            true))
                        true)))
                  true))
              (sIf (Tg.block 0 (q1.thenN (q30.thenN Tg.n))).isN true true))
            true))
        true),
    AV.str (hd (xL20_0 a)).toS)) := by kernel_rfl

theorem itoa_len {n : Int} (h : okImm n = true) : (Lib.itoa n).length ≤ 21 := by
  have h := of_decide_eq_true h
  exact Lib.itoa_length_le n h.1 h.2
theorem names_len : ∀ k, k < 34 → (opsL.getD k ByteArray.empty).data.toList.length ≤ 21 := by decide
theorem types_len' : ∀ k, k < 8 → (typesL.getD k ByteArray.empty).data.toList.length ≤ 21 := by decide
theorem nmOp_len {op : Int} (h : okImm op = true) : (nameL (nameOf op) op).length ≤ 21 := by
  unfold nameL
  split
  · exact itoa_len h
  · rename_i hne
    rcases name_cases op with h | ⟨k, hk, rfl, h⟩
    · exact absurd h hne
    · rw [h]; exact names_len k hk
theorem nmTy_len {t : Int} (h : okImm t = true) : (nameL (typeName t) t).length ≤ 21 := by
  unfold nameL
  split
  · exact itoa_len h
  · rename_i hne
    rcases type_cases t with h | ⟨k, hk, rfl, h⟩
    · exact absurd h hne
    · rw [h]; exact types_len' k hk
def wfNod (e : Nod) : Bool := okImm e.1 && okImm e.2.1 && okImm e.2.2.1
theorem tok_len {e : Nod} (h : wfNod e = true) : (tokL e).length ≤ 70 := by
  unfold wfNod at h
  simp only [Bool.and_eq_true] at h
  have h1 := nmOp_len h.1.1
  have h2 := nmTy_len h.1.2
  have h3 := itoa_len h.2
  unfold tokL
  split
  · simp only [List.length_cons]; omega
  · simp only [List.length_append, List.length_cons]; omega
theorem fmt_len : ∀ {a : List Nod}, (∀ e ∈ a, wfNod e = true) → (fmtL a).length ≤ 71 * a.length
  | [], _ => by simp [fmtL]
  | e :: es, h => by
    have h1 := tok_len (h e (List.mem_cons_self ..))
    have h2 := fmt_len fun x hx => h x (List.mem_cons_of_mem _ hx)
    unfold fmtL
    split
    · simp only [List.length_append, List.length_nil, List.length_cons]; omega
    · simp only [List.length_append, List.length_cons]; omega
def txt (a : List Nod) (j : Nat) : List UInt8 := fmtL (a.take j)
theorem txt_len {a : List Nod} (h : ∀ e ∈ a, wfNod e = true) (hl : a.length ≤ 1000) (j : Nat) : (txt a j).length ≤ 71000 := by
  have := fmt_len (a := a.take j) fun e he => h e (List.mem_of_mem_take he)
  have := List.length_take_le j a
  unfold txt
  have : (a.take j).length ≤ a.length := by rw [List.length_take]; omega
  omega
theorem txt_succ {a : List Nod} {j : Nat} (hj : j < a.length) : txt a (j + 1) = (if j = 0 then [] else txt a j ++ [32]) ++ tokL (a.getD j nodS.dflt) := by
  unfold txt
  rw [List.take_add_one, List.getElem?_eq_getElem hj]
  show fmtL (a.take j ++ [a[j]]) = _
  rw [fmt_snoc, List.getD_eq_getElem?_getD, List.getElem?_eq_getElem hj]
  have : (a.take j = []) ↔ j = 0 := by
    rw [List.take_eq_nil_iff]
    constructor
    · rintro (h | h)
      · exact h
      · subst h; simp at hj
    · exact fun h => .inl h
  by_cases h0 : j = 0
  · rw [if_pos (this.2 h0), if_pos h0]; rfl
  · rw [if_neg (fun h => h0 (this.1 h)), if_neg h0]; rfl
theorem step19 {a : List Nod} (h : ∀ e ∈ a, wfNod e = true) (hl : a.length ≤ 1000) {j : Nat} (hj : j < a.length) :
    xs19_0 a [Sc.s (bL (txt a j)), Sc.i (j : Int)] = (true, true, [Sc.s (bL (txt a (j + 1))), Sc.i ((j + 1 : Nat) : Int)]) := by
  have hw : IntKind.i64.wrap ((j : Int) + 1) = ((j + 1 : Nat) : Int) := wrap_i64 (by omega) (by omega)
  have hx := txt_len h hl j
  have he : wfNod (a.getD j nodS.dflt) = true := by
    rw [List.getD_eq_getElem?_getD, List.getElem?_eq_getElem hj]
    exact h _ (List.getElem_mem hj)
  rw [txt_succ hj]
  have hq : a.getD j ((Sh.int IntKind.i64).prod ((Sh.int IntKind.i64).prod ((Sh.int IntKind.i64).prod Sh.unit))).dflt = a.getD j nodS.dflt := rfl
  simp only [xs19_0, hd_cons, tl_cons, Sc.toI_i, Sc.toS_s, hw, Int.toNat_natCast]
  rw [hq]
  generalize a.getD j nodS.dflt = e at he
  obtain ⟨op, ty, n, u⟩ := e
  unfold wfNod at he
  simp only [Bool.and_eq_true] at he
  obtain ⟨⟨i1, i2⟩, i3⟩ := he
  have i1 : okImm op = true := i1
  have i2 : okImm ty = true := i2
  have i3 : okImm n = true := i3
  have l1 := nmOp_len i1
  have l2 := nmTy_len i2
  have l3 := itoa_len i3
  have e1 : sLt (j : Int) (a.length : Int) = true := sLt_true (by omega)
  have e2 : sLe 0 (j : Int) = true := decide_eq_true (by omega)
  have k1 : okNm (nameOf op) op = true := by unfold okNm; rw [i1]; exact sO1 _
  have k2 : okNm (typeName ty) ty = true := by unfold okNm; rw [i2]; exact sO1 _
  have b1 : ({ data := { toList := [32] } } : ByteArray) = bL [32] := rfl
  have b2 : ({ data := { toList := [58] } } : ByteArray) = bL [58] := rfl
  have b3 : ({ data := { toList := [114] } } : ByteArray) = bL [114] := rfl
  have b4 : decA n = bL (Lib.itoa n) := rfl
  have b5 : nameB (nameOf op) op = bL (nameL (nameOf op) op) := rfl
  have b6 : nameB (typeName ty) ty = bL (nameL (typeName ty) ty) := rfl
  have z : ∀ m : Nat, m ≤ 1000000 → sLe (m : Int) (2 ^ 63 - 1) = true := fun m hm => decide_eq_true (by omega)
  simp only [e1, e2, i1, i2, i3, k1, k2, b1, b2, b3, b4, b5, b6, bL_app, bL_size]
  generalize hN : nameL (nameOf op) op = N at *
  generalize hT : nameL (typeName ty) ty = T at *
  generalize hD : Lib.itoa n = D at *
  generalize hX : txt a j = X at *
  have tk : tokL (op, ty, n, u) = if op = 4 ∧ ty = 0 then 114 :: D else N ++ 58 :: (T ++ 58 :: D) := by rw [← hN, ← hT, ← hD]; rfl
  rw [tk]
  have hT4 : ∀ x y : Int, x = y → sEq x y = true := fun x y h => by subst h; simp [sEq]
  have hF4 : ∀ x y : Int, ¬ x = y → sEq x y = false := fun x y h => by simpa [sEq] using h
  have hT4 : ∀ x y : Int, x = y → sEq x y = true := fun x y h => by subst h; simp [sEq]
  have hF4 : ∀ x y : Int, ¬ x = y → sEq x y = false := fun x y h => by simpa [sEq] using h
  have key : ∀ Y : List UInt8, Y.length ≤ 72000 → ∀ W : List UInt8, W = Y ++ (if op = 4 ∧ ty = 0 then 114 :: D else N ++ 58 :: (T ++ 58 :: D)) →
      W = Y ++ (if op = 4 ∧ ty = 0 then 114 :: D else N ++ 58 :: (T ++ 58 :: D)) := fun _ _ _ h => h
  have hT4 : ∀ x y : Int, x = y → sEq x y = true := fun x y h => by subst h; simp [sEq]
  have hF4 : ∀ x y : Int, ¬ x = y → sEq x y = false := fun x y h => by simpa [sEq] using h
  by_cases c : op = 4 ∧ ty = 0
  · obtain ⟨rfl, rfl⟩ := c
    rw [if_pos (show (4 : Int) = 4 ∧ (0 : Int) = 0 from ⟨rfl, rfl⟩)]
    rcases Nat.eq_zero_or_pos j with c0 | c0
    · have e0 : sLt 0 (j : Int) = false := sLt_false (by omega)
      rw [if_pos c0]
      simp only [e0, hT4 4 4 rfl, hT4 0 0 rfl, sI4, sI5, sI1, sI2, tM1, tM2, tT1, tT2, tT3, tB1, tB2, tB3, tI1, tI2, tI3, sN2, sN3, bL_app, bL_size]
      simp (disch := ((try simp only [List.length_append, List.length_cons, List.length_nil]); omega)) only [z]
      have hX0 : X = [] := by rw [← hX, c0]; rfl
      rw [hX0]
      rfl
    · have e0 : sLt 0 (j : Int) = true := sLt_true (by omega)
      rw [if_neg (by omega)]
      simp only [e0, hT4 4 4 rfl, hT4 0 0 rfl, sI4, sI5, sI1, sI2, tM1, tM2, tT1, tT2, tT3, tB1, tB2, tB3, tI1, tI2, tI3, sN2, sN3, bL_app, bL_size]
      simp (disch := ((try simp only [List.length_append, List.length_cons, List.length_nil]); omega)) only [z]
      rfl
  · rw [if_neg c]
    have ht : (sIf (sEq op 4) (sEq ty 0) false) = false := by
      by_cases h4 : op = 4
      · rw [hT4 op 4 h4, sI4, hF4 ty 0 (fun h0 => c ⟨h4, h0⟩)]
      · rw [hF4 op 4 h4, sI5]
    rw [ht]
    generalize sEq op 4 = g
    rcases Nat.eq_zero_or_pos j with c0 | c0
    · have e0 : sLt 0 (j : Int) = false := sLt_false (by omega)
      rw [if_pos c0]
      simp only [e0, sI4, sI5, sI1, sI2, tM1, tM2, tT1, tT2, tT3, tB1, tB2, tB3, tI1, tI2, tI3, sN2, sN3, bL_app, bL_size]
      simp (disch := ((try simp only [List.length_append, List.length_cons, List.length_nil]); omega)) only [z]
      have hX0 : X = [] := by rw [← hX, c0]; rfl
      rw [hX0]
      have w1 : ([] : List UInt8) ++ (N ++ [58] ++ T ++ [58] ++ D) = [] ++ (N ++ 58 :: (T ++ 58 :: D)) := by simp
      cases g <;> first | (rw [w1]; rfl) | (refine Prod.ext ?_ (Prod.ext ?_ ?_); rfl; rfl; simp)
    · have e0 : sLt 0 (j : Int) = true := sLt_true (by omega)
      rw [if_neg (by omega)]
      simp only [e0, sI4, sI5, sI1, sI2, tM1, tM2, tT1, tT2, tT3, tB1, tB2, tB3, tI1, tI2, tI3, sN2, sN3, bL_app, bL_size]
      simp (disch := ((try simp only [List.length_append, List.length_cons, List.length_nil]); omega)) only [z]
      have w1 : X ++ [32] ++ (N ++ [58] ++ T ++ [58] ++ D) = X ++ [32] ++ (N ++ 58 :: (T ++ 58 :: D)) := by simp
      cases g <;> first | (rw [w1]; rfl) | (refine Prod.ext ?_ (Prod.ext ?_ ?_); rfl; rfl; simp)
theorem stop19 {a : List Nod} (X : ByteArray) : (xs19_0 a [Sc.s X, Sc.i (a.length : Int)]).1 = true ∧ (xs19_0 a [Sc.s X, Sc.i (a.length : Int)]).2.1 = false := by
  have h1 : sLt (a.length : Int) (a.length : Int) = false := sLt_false (by omega)
  simp only [xs19_0, hd_cons, tl_cons, Sc.toI_i, h1]
  exact ⟨rfl, rfl⟩
theorem run19 {a : List Nod} (h : ∀ e ∈ a, wfNod e = true) (hl : a.length ≤ 1000) : whileW (xs19_0 a) [Sc.s { data := { toList := [] } }, Sc.i 0] = some [Sc.s (bL (txt a a.length)), Sc.i (a.length : Int)] :=
  whileW_upto (fun j => [Sc.s (bL (txt a j)), Sc.i (j : Int)]) a.length rfl (fun j hj => step19 h hl hj) (stop19 _).1 (stop19 _).2
theorem natF19 {a : List Nod} (h : ∀ e ∈ a, wfNod e = true) (hl : a.length ≤ 1000) : exFn (gX q1) Tryd.f19 [AV.dsl nodS a] = some (true, .str (bL (fmtL a))) := by
  have L : xL19_0 a = [Sc.s (bL (txt a a.length)), Sc.i (a.length : Int)] := by unfold xL19_0; rw [run19 h hl]; rfl
  have h1 : sLt (a.length : Int) (a.length : Int) = false := sLt_false (by omega)
  rw [xf19, L, run19 h hl]
  simp only [hd_cons, tl_cons, Sc.toI_i, Sc.toS_s, h1, sSome_some, tM2, tI1]
  have e : txt a a.length = fmtL a := by unfold txt; rw [List.take_length]
  rw [e]
  rfl
theorem name_sIf (s : ByteArray) (n : Int) : sIf (bEq s { data := { toList := [] } }) (decA n) s = bL (nameL s n) := by
  have hb : bEq s { data := { toList := [] } } = bEq s ByteArray.empty := rfl
  rw [hb]
  have e := emp_iff s
  unfold nameL
  cases hc : bEq s ByteArray.empty
  · rw [hc] at e
    rw [if_neg (by intro hh; exact absurd (e.2 hh) (by simp)), sI5]
    exact bL_of s
  · rw [hc] at e
    rw [if_pos (e.1 rfl), sI4]
    rfl
theorem step20 {a : List Nod} (h : ∀ e ∈ a, wfNod e = true) (hl : a.length ≤ 1000) {j : Nat} (hj : j < a.length) :
    xs20_0 a [Sc.s (bL (txt a j)), Sc.i (j : Int)] = (true, true, [Sc.s (bL (txt a (j + 1))), Sc.i ((j + 1 : Nat) : Int)]) := by
  have hw : IntKind.i64.wrap ((j : Int) + 1) = ((j + 1 : Nat) : Int) := wrap_i64 (by omega) (by omega)
  have hx := txt_len h hl j
  have he : wfNod (a.getD j nodS.dflt) = true := by
    rw [List.getD_eq_getElem?_getD, List.getElem?_eq_getElem hj]
    exact h _ (List.getElem_mem hj)
  rw [txt_succ hj]
  have hq : a.getD j ((Sh.int IntKind.i64).prod ((Sh.int IntKind.i64).prod ((Sh.int IntKind.i64).prod Sh.unit))).dflt = a.getD j nodS.dflt := rfl
  simp only [xs20_0, hd_cons, tl_cons, Sc.toI_i, Sc.toS_s, hw, Int.toNat_natCast]
  rw [hq]
  generalize a.getD j nodS.dflt = e at he
  obtain ⟨op, ty, n, u⟩ := e
  unfold wfNod at he
  simp only [Bool.and_eq_true] at he
  obtain ⟨⟨i1, i2⟩, i3⟩ := he
  have i1 : okImm op = true := i1
  have i2 : okImm ty = true := i2
  have i3 : okImm n = true := i3
  have l1 := nmOp_len i1
  have l2 := nmTy_len i2
  have l3 := itoa_len i3
  have e1 : sLt (j : Int) (a.length : Int) = true := sLt_true (by omega)
  have e2 : sLe 0 (j : Int) = true := decide_eq_true (by omega)
  have k1 : okNm (nameOf op) op = true := by unfold okNm; rw [i1]; exact sO1 _
  have k2 : okNm (typeName ty) ty = true := by unfold okNm; rw [i2]; exact sO1 _
  have b1 : ({ data := { toList := [32] } } : ByteArray) = bL [32] := rfl
  have b2 : ({ data := { toList := [58] } } : ByteArray) = bL [58] := rfl
  have b3 : ({ data := { toList := [114] } } : ByteArray) = bL [114] := rfl
  have b4 : decA n = bL (Lib.itoa n) := rfl
  have b5 : nameB (nameOf op) op = bL (nameL (nameOf op) op) := rfl
  have b6 : nameB (typeName ty) ty = bL (nameL (typeName ty) ty) := rfl
  have n1 : sIf (bEq (nameOf op) { data := { toList := [] } }) (decA op) (nameOf op) = bL (nameL (nameOf op) op) := name_sIf _ _
  have n2 : sIf (bEq (typeName ty) { data := { toList := [] } }) (decA ty) (typeName ty) = bL (nameL (typeName ty) ty) := name_sIf _ _
  have z : ∀ m : Nat, m ≤ 1000000 → sLe (m : Int) (2 ^ 63 - 1) = true := fun m hm => decide_eq_true (by omega)
  simp only [e1, e2, i1, i2, i3, n1, n2, b1, b2, b3, b4, b5, b6, bL_app, bL_size]
  generalize bEq (nameOf op) { data := { toList := [] } } = g1
  generalize bEq (typeName ty) { data := { toList := [] } } = g2
  generalize hN : nameL (nameOf op) op = N at *
  generalize hT : nameL (typeName ty) ty = T at *
  generalize hD : Lib.itoa n = D at *
  generalize hX : txt a j = X at *
  have tk : tokL (op, ty, n, u) = if op = 4 ∧ ty = 0 then 114 :: D else N ++ 58 :: (T ++ 58 :: D) := by rw [← hN, ← hT, ← hD]; rfl
  rw [tk]
  have hT4 : ∀ x y : Int, x = y → sEq x y = true := fun x y h => by subst h; simp [sEq]
  have hF4 : ∀ x y : Int, ¬ x = y → sEq x y = false := fun x y h => by simpa [sEq] using h
  have hT4 : ∀ x y : Int, x = y → sEq x y = true := fun x y h => by subst h; simp [sEq]
  have hF4 : ∀ x y : Int, ¬ x = y → sEq x y = false := fun x y h => by simpa [sEq] using h
  have key : ∀ Y : List UInt8, Y.length ≤ 72000 → ∀ W : List UInt8, W = Y ++ (if op = 4 ∧ ty = 0 then 114 :: D else N ++ 58 :: (T ++ 58 :: D)) →
      W = Y ++ (if op = 4 ∧ ty = 0 then 114 :: D else N ++ 58 :: (T ++ 58 :: D)) := fun _ _ _ h => h
  have hT4 : ∀ x y : Int, x = y → sEq x y = true := fun x y h => by subst h; simp [sEq]
  have hF4 : ∀ x y : Int, ¬ x = y → sEq x y = false := fun x y h => by simpa [sEq] using h
  by_cases c : op = 4 ∧ ty = 0
  · obtain ⟨rfl, rfl⟩ := c
    rw [if_pos (show (4 : Int) = 4 ∧ (0 : Int) = 0 from ⟨rfl, rfl⟩)]
    rcases Nat.eq_zero_or_pos j with c0 | c0
    · have e0 : sLt 0 (j : Int) = false := sLt_false (by omega)
      rw [if_pos c0]
      simp only [e0, hT4 4 4 rfl, hT4 0 0 rfl, sI4, sI5, sI1, sI2, tM1, tM2, tT1, tT2, tT3, tB1, tB2, tB3, tI1, tI2, tI3, sN2, sN3, bL_app, bL_size]
      simp (disch := ((try simp only [List.length_append, List.length_cons, List.length_nil]); omega)) only [z]
      have hX0 : X = [] := by rw [← hX, c0]; rfl
      rw [hX0]
      cases g1 <;> cases g2 <;> first | rfl | (refine Prod.ext ?_ (Prod.ext ?_ ?_); rfl; rfl; simp)
    · have e0 : sLt 0 (j : Int) = true := sLt_true (by omega)
      rw [if_neg (by omega)]
      simp only [e0, hT4 4 4 rfl, hT4 0 0 rfl, sI4, sI5, sI1, sI2, tM1, tM2, tT1, tT2, tT3, tB1, tB2, tB3, tI1, tI2, tI3, sN2, sN3, bL_app, bL_size]
      simp (disch := ((try simp only [List.length_append, List.length_cons, List.length_nil]); omega)) only [z]
      cases g1 <;> cases g2 <;> first | rfl | (refine Prod.ext ?_ (Prod.ext ?_ ?_); rfl; rfl; simp)
  · rw [if_neg c]
    have ht : (sIf (sEq op 4) (sEq ty 0) false) = false := by
      by_cases h4 : op = 4
      · rw [hT4 op 4 h4, sI4, hF4 ty 0 (fun h0 => c ⟨h4, h0⟩)]
      · rw [hF4 op 4 h4, sI5]
    rw [ht]
    generalize sEq op 4 = g
    rcases Nat.eq_zero_or_pos j with c0 | c0
    · have e0 : sLt 0 (j : Int) = false := sLt_false (by omega)
      rw [if_pos c0]
      simp only [e0, sI4, sI5, sI1, sI2, tM1, tM2, tT1, tT2, tT3, tB1, tB2, tB3, tI1, tI2, tI3, sN2, sN3, bL_app, bL_size]
      simp (disch := ((try simp only [List.length_append, List.length_cons, List.length_nil]); omega)) only [z]
      have hX0 : X = [] := by rw [← hX, c0]; rfl
      rw [hX0]
      have w1 : ([] : List UInt8) ++ (N ++ [58] ++ T ++ [58] ++ D) = [] ++ (N ++ 58 :: (T ++ 58 :: D)) := by simp
      cases g <;> cases g1 <;> cases g2 <;> first | (rw [w1]; rfl) | (refine Prod.ext ?_ (Prod.ext ?_ ?_); rfl; rfl; simp)
    · have e0 : sLt 0 (j : Int) = true := sLt_true (by omega)
      rw [if_neg (by omega)]
      simp only [e0, sI4, sI5, sI1, sI2, tM1, tM2, tT1, tT2, tT3, tB1, tB2, tB3, tI1, tI2, tI3, sN2, sN3, bL_app, bL_size]
      simp (disch := ((try simp only [List.length_append, List.length_cons, List.length_nil]); omega)) only [z]
      have w1 : X ++ [32] ++ (N ++ [58] ++ T ++ [58] ++ D) = X ++ [32] ++ (N ++ 58 :: (T ++ 58 :: D)) := by simp
      cases g <;> cases g1 <;> cases g2 <;> first | (rw [w1]; rfl) | (refine Prod.ext ?_ (Prod.ext ?_ ?_); rfl; rfl; simp)
theorem stop20 {a : List Nod} (X : ByteArray) : (xs20_0 a [Sc.s X, Sc.i (a.length : Int)]).1 = true ∧ (xs20_0 a [Sc.s X, Sc.i (a.length : Int)]).2.1 = false := by
  have h1 : sLt (a.length : Int) (a.length : Int) = false := sLt_false (by omega)
  simp only [xs20_0, hd_cons, tl_cons, Sc.toI_i, h1]
  exact ⟨rfl, rfl⟩
theorem run20 {a : List Nod} (h : ∀ e ∈ a, wfNod e = true) (hl : a.length ≤ 1000) : whileW (xs20_0 a) [Sc.s { data := { toList := [] } }, Sc.i 0] = some [Sc.s (bL (txt a a.length)), Sc.i (a.length : Int)] :=
  whileW_upto (fun j => [Sc.s (bL (txt a j)), Sc.i (j : Int)]) a.length rfl (fun j hj => step20 h hl hj) (stop20 _).1 (stop20 _).2
theorem natF20 {a : List Nod} (h : ∀ e ∈ a, wfNod e = true) (hl : a.length ≤ 1000) : exFn (gX q1) Tryd.f20 [AV.dsl nodS a] = some (true, .str (bL (fmtL a))) := by
  have L : xL20_0 a = [Sc.s (bL (txt a a.length)), Sc.i (a.length : Int)] := by unfold xL20_0; rw [run20 h hl]; rfl
  have h1 : sLt (a.length : Int) (a.length : Int) = false := sLt_false (by omega)
  rw [xf20, L, run20 h hl]
  simp only [hd_cons, tl_cons, Sc.toI_i, Sc.toS_s, h1, sSome_some, tM2, tI1]
  have e : txt a a.length = fmtL a := by unfold txt; rw [List.take_length]
  rw [e]
  rfl
def len1000' (n : Nat) : Bool := Nat.ble n 1000
def wfFmt (a : List Nod) : Bool := a.all wfNod
def fmtB (a : List Nod) : ByteArray := bL (fmtL a)
def xm19 (xs : List AV) : Option (Bool × AV) :=
  match xs with
  | [a] => (asNods a).bind fun a => some (sAnd (len1000' a.length) (wfFmt a), .str (fmtB a))
  | _ => none
theorem xk19 (hm : Tryd.prog.follows .mixedOrders = true) : KOk E0 19 (preC (argsT Tryd.prog Tryd.f19) xm19) := KOk.preC ((qk1 hm).read hm Tryd.func19 (by decide) (by rfl) (by
  intro xs r h
  unfold xm19 at h
  split at h
  · simp only [Option.bind_eq_some_iff, Option.some.injEq, Prod.mk.injEq, sAnd, Bool.and_eq_true] at h
    obtain ⟨a, ha, ⟨h1, h2⟩, rfl⟩ := h
    rw [asNods_eq ha]
    exact natF19 (fun e he => List.all_eq_true.mp h2 e he) (Nat.le_of_ble_eq_true h1)
  · cases h)) _
theorem xk20 (hm : Tryd.prog.follows .mixedOrders = true) : KOk E0 20 (preC (argsT Tryd.prog Tryd.f20) xm19) := KOk.preC ((qk1 hm).read hm Tryd.func20 (by decide) (by rfl) (by
  intro xs r h
  unfold xm19 at h
  split at h
  · simp only [Option.bind_eq_some_iff, Option.some.injEq, Prod.mk.injEq, sAnd, Bool.and_eq_true] at h
    obtain ⟨a, ha, ⟨h1, h2⟩, rfl⟩ := h
    rw [asNods_eq ha]
    exact natF20 (fun e he => List.all_eq_true.mp h2 e he) (Nat.le_of_ble_eq_true h1)
  · cases h)) _
noncomputable def q2 : XTab := { w2 with k := (19, preC (argsT Tryd.prog Tryd.f19) xm19) :: (20, preC (argsT Tryd.prog Tryd.f20) xm19) :: w2.k }
theorem qk2 (hm : Tryd.prog.follows .mixedOrders = true) : XOk q2 := ((wk2 hm).consK (xk20 hm)).consK (xk19 hm)
end Go.Proofs.YtaajbcflmaihgaaDoor
