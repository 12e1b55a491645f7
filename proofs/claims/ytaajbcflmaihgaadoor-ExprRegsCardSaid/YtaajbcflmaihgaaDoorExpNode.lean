/- The instruction of a node: program and reference. No conditions. -/
import Derived.Test.YtaajbcflmaihgaaDoorExpEnv
set_option linter.all false
namespace Go.Proofs.YtaajbcflmaihgaaDoor
open Go Ab
set_option maxRecDepth 100000
abbrev nodS : Sh := .prod i64S (.prod i64S (.prod i64S .unit))
/-- 0, 1, ..; 1, 2, .. -/
def rangeL (k : Nat) : List Int := (List.range k).map Int.ofNat
def rangeM (k : Nat) : List Int := (List.range k).map fun i => Int.ofNat i + 1
theorem rangeL_len (k : Nat) : (rangeL k).length = k := by simp [rangeL]
theorem rangeM_len (k : Nat) : (rangeM k).length = k := by simp [rangeM]
theorem rangeL_succ (k : Nat) : rangeL k ++ [(k : Int)] = rangeL (k + 1) := by simp [rangeL, List.range_succ]
theorem rangeM_succ (k : Nat) : rangeM k ++ [(k : Int) + 1] = rangeM (k + 1) := by simp [rangeM, List.range_succ]
def immOf (op n : Int) : Int := sIf (sIf (sEq op 1) true (sEq op 33)) n 0
def symOf (op n : Int) : Int := sIf (sEq op 25) n 0
noncomputable def xs27_0 (op : Int) (ty : Int) (ts : List Int) : List Sc → Bool × Bool × List Sc := fun xs => let q0 : Bool := sLt (Sc.toI (hd xs)) ↑(List.length ts);
  let q1 : Tg := Tg.mix q0 Tg.n (Tg.x 0);
  let q2 : Sh.den (Sh.sl (Sh.int IntKind.i64)) := Sc.toD (Sh.sl (Sh.int IntKind.i64)) (hd (tl (tl (tl (tl (tl (tl (tl (tl xs)))))))));
  let q3 : List (Sh.den (Sh.int IntKind.i64)) := [Sc.toI (hd xs)];
  (sAnd true
    (sIf true
      (sAnd (sAnd true (sIf q0 true true))
        (sIf (Tg.isN q1)
          (sAnd
            (sAnd true
              (sIf true
                (sAnd true
                  (sAnd true
                    (sAnd true
                      (sAnd true
                        (sAnd (sAnd true (sLe (↑((List.length q2 + List.length q3) * 8)) 140737488355328)) true)))))
                true))
            true)
          true))
      true),
  Tg.isN (Tg.thenN q1 Tg.n),
  [Sc.i (IntKind.wrap IntKind.i64 (Sc.toI (hd xs) + 1)), Sc.i (Sc.toI (hd (tl xs))), Sc.i (Sc.toI (hd (tl (tl xs)))),
    Sc.i (Sc.toI (hd (tl (tl (tl xs))))), Sc.i (Sc.toI (hd (tl (tl (tl (tl xs)))))),
    Sc.i (Sc.toI (hd (tl (tl (tl (tl (tl xs))))))), Sc.i (Sc.toI (hd (tl (tl (tl (tl (tl (tl xs)))))))),
    Sc.b (Sc.toB (hd (tl (tl (tl (tl (tl (tl (tl xs))))))))), Sc.d (Sh.sl (Sh.int IntKind.i64)) (q2 ++ q3)])
noncomputable def xL27_0 (op : Int) (ty : Int) (ts : List Int) : List Sc := Option.getD (whileW (xs27_0 op ty ts) [Sc.i 0, Sc.i op, Sc.i ty, Sc.i ↑(List.length ts), Sc.i 0, Sc.i 0, Sc.i 0, Sc.b false,
  Sc.d (Sh.sl (Sh.int IntKind.i64)) []]) [Sc.i 0, Sc.i op, Sc.i ty, Sc.i ↑(List.length ts), Sc.i 0, Sc.i 0, Sc.i 0, Sc.b false,
  Sc.d (Sh.sl (Sh.int IntKind.i64)) []]
theorem xf27 (op : Int) (ty : Int) (n : Int) (ts : List Int) : freshC (exFnI (gX x4) Tryd.f27) [AV.agg [AV.int IntKind.i64 op, AV.int IntKind.i64 ty, AV.int IntKind.i64 n], AV.dsl (Sh.int IntKind.i64) ts] = (
 let q0 : Bool := sLt (Sc.toI (hd (xL27_0 op ty ts))) ↑(List.length ts);
  let q1 : Tg := Tg.mix q0 Tg.n (Tg.x 0);
  let q2 : Sh.den (Sh.sl (Sh.int IntKind.i64)) := Sc.toD (Sh.sl (Sh.int IntKind.i64)) (hd (tl (tl (tl (tl (tl (tl (tl (tl (xL27_0 op ty ts))))))))));
  let q3 : Tg := Tg.mix (sEq op 1) Tg.n Tg.n;
  let q4 : Bool := sIf (sEq op 1) (sEq op 1) (sEq op 33);
  let q5 : List (Sh.den (Sh.int IntKind.i64)) := [ty];
  let q6 : Int := Sc.toI (hd (tl (tl (tl (xL27_0 op ty ts)))));
  let q7 : Int := Sc.toI (hd (tl (tl (tl (tl (xL27_0 op ty ts))))));
  let q8 : Int := Sc.toI (hd (tl (tl (tl (tl (tl (xL27_0 op ty ts)))))));
  let q9 : Int := Sc.toI (hd (tl (tl (tl (tl (tl (tl (xL27_0 op ty ts))))))));
  let q10 : Bool := Sc.toB (hd (tl (tl (tl (tl (tl (tl (tl (xL27_0 op ty ts)))))))));
  some
  (sAnd
      (sAnd true
        (sIf true
          (sAnd true
            (sIf true
              (sAnd
                (sAnd true
                  (sIf true
                    (sAnd
                      (sSome
                        (whileW (xs27_0 op ty ts)
                          [Sc.i 0, Sc.i op, Sc.i ty, Sc.i ↑(List.length ts), Sc.i 0, Sc.i 0, Sc.i 0, Sc.b false,
                            Sc.d (Sh.sl (Sh.int IntKind.i64)) []]))
                      (sAnd true
                        (sIf true
                          (sAnd (sAnd true (sIf q0 true true))
                            (sIf (Tg.isN q1)
                              (sAnd
                                (sAnd true
                                  (sIf true
                                    (sAnd true
                                      (sAnd true
                                        (sAnd true
                                          (sAnd true
                                            (sAnd
                                              (sAnd true
                                                (sLe
                                                  (↑((List.length q2 + List.length [Sc.toI (hd (xL27_0 op ty ts))]) * 8))
                                                  140737488355328))
                                              true)))))
                                    true))
                                true)
                              true))
                          true)))
                    true))
                (sIf (Tg.isN (Tg.block 0 (Tg.thenN q1 Tg.n)))
                  (sAnd
                    (sAnd true
                      (sIf true
                        (sAnd (sAnd true (sIf true (sAnd true (sIf (sEq op 1) true true)) true))
                          (sIf (Tg.isN q3)
                            (sAnd true
                              (sIf q4 true (sAnd true (sIf true (sAnd true (sIf (sEq op 25) true true)) true))))
                            true))
                        true))
                    (sIf (Tg.isN (Tg.block 2 (Tg.thenN q3 (Tg.mix q4 Tg.n (Tg.mix (sEq op 25) Tg.n Tg.n)))))
                      (sAnd
                        (sAnd
                          (sAnd true
                            (sAnd true
                              (sAnd (sAnd true (len1e6 (List.length ts)))
                                (sAnd true
                                  (sAnd true
                                    (sAnd true
                                      (sAnd (sAnd true (sLe (↑((List.length ts + List.length q5) * 8)) 140737488355328))
                                        true)))))))
                          true)
                        true)
                      true))
                  true))
              true))
          true))
      true,
    AV.tup
      [AV.agg
          [AV.int IntKind.i64
              (sIf q4 (Sc.toI (hd (tl (xL27_0 op ty ts))))
                (sIf (sEq op 25) (Sc.toI (hd (tl (xL27_0 op ty ts)))) (Sc.toI (hd (tl (xL27_0 op ty ts)))))),
            AV.int IntKind.i64
              (sIf q4 (Sc.toI (hd (tl (tl (xL27_0 op ty ts)))))
                (sIf (sEq op 25) (Sc.toI (hd (tl (tl (xL27_0 op ty ts))))) (Sc.toI (hd (tl (tl (xL27_0 op ty ts))))))),
            AV.int IntKind.i64 (sIf q4 q6 (sIf (sEq op 25) q6 q6)), AV.dsl (Sh.int IntKind.i64) q2,
            AV.int IntKind.i64 (sIf q4 n (sIf (sEq op 25) q7 q7)),
            AV.int IntKind.i64 (sIf q4 q8 (sIf (sEq op 25) n q8)),
            AV.int IntKind.i64 (sIf q4 q9 (sIf (sEq op 25) q9 q9)), AV.bool (sIf q4 q10 (sIf (sEq op 25) q10 q10))],
        AV.agg
          [AV.str (ByteArray.mk (Array.mk [])), AV.nils, AV.int IntKind.i64 0, AV.dsl (Sh.int IntKind.i64) (ts ++ q5),
            AV.nils]])) := by kernel_rfl


def xst27 (op ty : Int) (ts : List Int) (i : Nat) : List Sc := [Sc.i (i : Int), Sc.i op, Sc.i ty, Sc.i (ts.length : Int), Sc.i 0, Sc.i 0, Sc.i 0, Sc.b false, Sc.d (Sh.sl (Sh.int IntKind.i64)) (rangeL i)]
theorem xstep27 (op ty : Int) (ts : List Int) (j : Nat) (hb : ts.length ≤ 1000) (hj : j < ts.length) : xs27_0 op ty ts (xst27 op ty ts j) = (true, true, xst27 op ty ts (j + 1)) := by
  have h1 : sLt (j : Int) (ts.length : Int) = true := sLt_true (by omega)
  have hsz : sLe (((((rangeL j).length + [(j : Int)].length) * 8 : Nat)) : Int) 140737488355328 = true := by
    rw [rangeL_len]
    exact decide_eq_true (by simp; omega)
  simp only [xs27_0, xst27, hd_cons, tl_cons, Sc.toI_i, Sc.toB_b, Sc.toD_d', wrapL (show j < bigL by unfold bigL; omega), hsz, h1, rangeL_succ]
  rfl
theorem xstop27 (op ty : Int) (ts : List Int) : (xs27_0 op ty ts (xst27 op ty ts ts.length)).1 = true ∧ (xs27_0 op ty ts (xst27 op ty ts ts.length)).2.1 = false := by
  have h1 : sLt (ts.length : Int) (ts.length : Int) = false := sLt_false (by omega)
  simp only [xs27_0, xst27, hd_cons, tl_cons, Sc.toI_i, Sc.toB_b, Sc.toD_d', h1]
  exact ⟨rfl, rfl⟩
theorem xrun27 (op ty : Int) (ts : List Int) (hb : ts.length ≤ 1000) : whileW (xs27_0 op ty ts) [Sc.i 0, Sc.i op, Sc.i ty, Sc.i (ts.length : Int), Sc.i 0, Sc.i 0, Sc.i 0, Sc.b false, Sc.d (Sh.sl (Sh.int IntKind.i64)) []] = some (xst27 op ty ts ts.length) :=
  whileW_upto (xst27 op ty ts) ts.length rfl (fun j hj => xstep27 op ty ts j hb hj) (xstop27 op ty ts).1 (xstop27 op ty ts).2
def xm27 : List AV → Option (Bool × AV)
  | [.agg [.int .i64 op, .int .i64 ty, .int .i64 n], .dsl (.int .i64) ts] => some (len1000 ts.length, .tup [.agg [.int .i64 op, .int .i64 ty, .int .i64 (ts.length : Int), .dsl (.int .i64) (rangeL ts.length), .int .i64 (immOf op n), .int .i64 (symOf op n), .int .i64 0, .bool false],
      .agg [.str ⟨#[]⟩, .nils, .int .i64 0, .dsl (.int .i64) (ts ++ [ty]), .nils]])
  | _ => none
theorem nat27x (op ty n : Int) (ts : List Int) (hb : ts.length ≤ 1000) : freshC (exFnI (gX x4) Tryd.f27) [AV.agg [AV.int .i64 op, AV.int .i64 ty, AV.int .i64 n], AV.dsl (.int .i64) ts] =
    some (true, .tup [.agg [.int .i64 op, .int .i64 ty, .int .i64 (ts.length : Int), .dsl (.int .i64) (rangeL ts.length), .int .i64 (immOf op n), .int .i64 (symOf op n), .int .i64 0, .bool false],
      .agg [.str ⟨#[]⟩, .nils, .int .i64 0, .dsl (.int .i64) (ts ++ [ty]), .nils]]) := by
  rw [xf27]
  have L : xL27_0 op ty ts = xst27 op ty ts ts.length := by unfold xL27_0; rw [xrun27 op ty ts hb]; rfl
  rw [L, xrun27 op ty ts hb]
  have h1 : sLt (ts.length : Int) (ts.length : Int) = false := sLt_false (by omega)
  have h2 : len1e6 ts.length = true := by unfold len1e6; rw [Nat.ble_eq]; omega
  have h3 : sLe (((ts.length + [ty].length) * 8 : Nat) : Int) 140737488355328 = true := decide_eq_true (by simp; omega)
  simp only [xst27, hd_cons, tl_cons, Sc.toI_i, Sc.toB_b, Sc.toD_d', h1, h2, h3, immOf, symOf]
  by_cases e1 : op = 1
  · subst e1; rfl
  by_cases e2 : op = 33
  · subst e2; rfl
  by_cases e3 : op = 25
  · subst e3; rfl
  have f1 : sEq op 1 = false := by simpa [sEq] using e1
  have f2 : sEq op 33 = false := by simpa [sEq] using e2
  have f3 : sEq op 25 = false := by simpa [sEq] using e3
  simp only [f1, f2, f3]
  rfl
noncomputable def x5 : XTab := { x4 with j := (27, preC (argsT Tryd.prog Tryd.f27) xm27) :: x4.j }
theorem xk5 (hm : Tryd.prog.follows .mixedOrders = true) : XOk x5 := (xk4 hm).consJ (KFr.preC (by
  have k := ((xk4 hm).readI hm Tryd.func27 (by decide) (by rfl)).fresh
  refine ⟨k.enter, fun F w us vs r hG hF hr hc => k.valid F w us vs r hG hF hr ?_⟩
  unfold xm27 at hc
  split at hc
  · simp only [Option.some.injEq, Prod.mk.injEq] at hc
    obtain ⟨h1, rfl⟩ := hc
    exact nat27x _ _ _ _ (Nat.le_of_ble_eq_true h1)
  · cases hc) _)
noncomputable def xs31_0 (op : Int) (ty : Int) (ts : List Int) : List Sc → Bool × Bool × List Sc := fun xs => let q0 : Bool := sLt (Sc.toI (hd xs)) ↑(List.length ts);
  let q1 : Tg := Tg.mix q0 Tg.n (Tg.x 0);
  let q2 : Sh.den (Sh.sl (Sh.int IntKind.i64)) := Sc.toD (Sh.sl (Sh.int IntKind.i64)) (hd (tl (tl (tl (tl (tl (tl (tl (tl xs)))))))));
  let q3 : Int := IntKind.wrap IntKind.i64 (Sc.toI (hd xs) + 1);
  let q4 : List (Sh.den (Sh.int IntKind.i64)) := [q3];
  (sAnd true
    (sIf true
      (sAnd (sAnd true (sIf q0 true true))
        (sIf (Tg.isN q1)
          (sAnd
            (sAnd true
              (sIf true
                (sAnd true
                  (sAnd true
                    (sAnd true
                      (sAnd true
                        (sAnd true
                          (sAnd (sAnd true (sLe (↑((List.length q2 + List.length q4) * 8)) 140737488355328)) true))))))
                true))
            true)
          true))
      true),
  Tg.isN (Tg.thenN q1 Tg.n),
  [Sc.i q3, Sc.i (Sc.toI (hd (tl xs))), Sc.i (Sc.toI (hd (tl (tl xs)))), Sc.i (Sc.toI (hd (tl (tl (tl xs))))),
    Sc.i (Sc.toI (hd (tl (tl (tl (tl xs)))))), Sc.i (Sc.toI (hd (tl (tl (tl (tl (tl xs))))))),
    Sc.i (Sc.toI (hd (tl (tl (tl (tl (tl (tl xs)))))))), Sc.b (Sc.toB (hd (tl (tl (tl (tl (tl (tl (tl xs))))))))),
    Sc.d (Sh.sl (Sh.int IntKind.i64)) (q2 ++ q4)])
noncomputable def xL31_0 (op : Int) (ty : Int) (ts : List Int) : List Sc := Option.getD (whileW (xs31_0 op ty ts) [Sc.i 0, Sc.i op, Sc.i ty, Sc.i 0, Sc.i 0, Sc.i 0, Sc.i 0, Sc.b false, Sc.d (Sh.sl (Sh.int IntKind.i64)) []]) [Sc.i 0, Sc.i op, Sc.i ty, Sc.i 0, Sc.i 0, Sc.i 0, Sc.i 0, Sc.b false, Sc.d (Sh.sl (Sh.int IntKind.i64)) []]
theorem xf31 (op : Int) (ty : Int) (n : Int) (ts : List Int) (gs : List (Sh.den gloS)) (fs : List (Sh.den funS)) : exFn (gX x4) Tryd.f31 [AV.agg [AV.int IntKind.i64 op, AV.int IntKind.i64 ty, AV.int IntKind.i64 n], AV.dsl (Sh.int IntKind.i64) ts,
  modA gs fs] = (
 let q0 : List (Sh.den (Sh.int IntKind.i64)) := [ty];
  let q1 : Bool := sLt (Sc.toI (hd (xL31_0 op ty ts))) ↑(List.length ts);
  let q2 : Tg := Tg.mix q1 Tg.n (Tg.x 0);
  let q3 : Sh.den (Sh.sl (Sh.int IntKind.i64)) := Sc.toD (Sh.sl (Sh.int IntKind.i64)) (hd (tl (tl (tl (tl (tl (tl (tl (tl (xL31_0 op ty ts))))))))));
  let q4 : Bool := sNot (sNot (sEq op 1));
  let q5 : Bool := sIf (sEq op 1) true (sEq op 33);
  let q6 : Int := sIf q5 n (Sc.toI (hd (tl (tl (tl (tl (xL31_0 op ty ts)))))));
  let q7 : Int := sIf (sEq op 25) q6 q6;
  let q8 : Int := sIf q5 (Sc.toI (hd (tl (xL31_0 op ty ts)))) (Sc.toI (hd (tl (xL31_0 op ty ts))));
  let q9 : Int := sIf q5 (Sc.toI (hd (tl (tl (xL31_0 op ty ts))))) (Sc.toI (hd (tl (tl (xL31_0 op ty ts)))));
  let q10 : Int := Sc.toI (hd (tl (tl (tl (xL31_0 op ty ts)))));
  let q11 : Int := sIf q5 q10 q10;
  let q12 : Int := Sc.toI (hd (tl (tl (tl (tl (tl (xL31_0 op ty ts)))))));
  let q13 : Int := Sc.toI (hd (tl (tl (tl (tl (tl (tl (xL31_0 op ty ts))))))));
  let q14 : Int := sIf q5 q13 q13;
  let q15 : Bool := Sc.toB (hd (tl (tl (tl (tl (tl (tl (tl (xL31_0 op ty ts)))))))));
  let q16 : Bool := sIf q5 q15 q15;
  some
  (sAnd true
      (sIf true
        (sAnd
          (sAnd true
            (sAnd true
              (sAnd true
                (sAnd true (sAnd (sAnd true (sLe (↑((List.length q0 + List.length ts) * 8)) 140737488355328)) true)))))
          (sIf true
            (sAnd true
              (sIf true
                (sAnd
                  (sAnd true
                    (sIf true
                      (sAnd
                        (sSome
                          (whileW (xs31_0 op ty ts)
                            [Sc.i 0, Sc.i op, Sc.i ty, Sc.i 0, Sc.i 0, Sc.i 0, Sc.i 0, Sc.b false,
                              Sc.d (Sh.sl (Sh.int IntKind.i64)) []]))
                        (sAnd true
                          (sIf true
                            (sAnd (sAnd true (sIf q1 true true))
                              (sIf (Tg.isN q2)
                                (sAnd
                                  (sAnd true
                                    (sIf true
                                      (sAnd true
                                        (sAnd true
                                          (sAnd true
                                            (sAnd true
                                              (sAnd true
                                                (sAnd
                                                  (sAnd true
                                                    (sLe
                                                      (↑((List.length q3 +
                                                            List.length
                                                              [IntKind.wrap IntKind.i64
                                                                  (Sc.toI (hd (xL31_0 op ty ts)) + 1)]) *
                                                          8))
                                                      140737488355328))
                                                  true))))))
                                      true))
                                  true)
                                true))
                            true)))
                      true))
                  (sIf (Tg.isN (Tg.block 0 (Tg.thenN q2 Tg.n)))
                    (sAnd
                      (sAnd
                        (sAnd true
                          (sAnd true
                            (sAnd true
                              (sAnd true
                                (sAnd (sOr q4 true)
                                  (sAnd (sOr q4 (sNot (sEq op 1)))
                                    (sAnd (sOr q4 (sAnd (sAnd (sNot (sEq op 1)) true) true))
                                      (sAnd (sAnd true (sIf (sEq op 1) true (sNot (sEq op 1)))) true))))))))
                        (sIf true (sAnd true (sIf q5 true true)) true))
                      (sIf (Tg.isN (Tg.mix q5 Tg.n Tg.n))
                        (sAnd (sAnd true (sIf true (sAnd true (sIf (sEq op 25) true true)) true))
                          (sIf (Tg.isN (Tg.mix (sEq op 25) Tg.n Tg.n))
                            (sAnd
                              (sAnd
                                (sAnd true
                                  (sAnd true
                                    (sAnd true
                                      (sAnd true
                                        (sAnd true
                                          (sAnd (sAnd true (sAnd (len1000 (List.length q3)) (okImm q7))) true))))))
                                true)
                              true)
                            true))
                        true))
                    true))
                true))
            true))
        true),
    AV.tup
      [AV.int IntKind.i64 ty,
        AV.int IntKind.i64
          (chkV (sIf (sEq op 25) q8 q8) (sIf (sEq op 25) q9 q9) (sIf (sEq op 25) q11 q11) q3 q7
            (sIf (sEq op 25) n (sIf q5 q12 q12)) (sIf (sEq op 25) q14 q14) (sIf (sEq op 25) q16 q16) (q0 ++ ts) gs fs)])) := by kernel_rfl


def xst31 (op ty : Int) (i : Nat) : List Sc := [Sc.i (i : Int), Sc.i op, Sc.i ty, Sc.i 0, Sc.i 0, Sc.i 0, Sc.i 0, Sc.b false, Sc.d (Sh.sl (Sh.int IntKind.i64)) (rangeM i)]
theorem xstep31 (op ty : Int) (ts : List Int) (j : Nat) (hb : ts.length ≤ 1000) (hj : j < ts.length) : xs31_0 op ty ts (xst31 op ty j) = (true, true, xst31 op ty (j + 1)) := by
  have h1 : sLt (j : Int) (ts.length : Int) = true := sLt_true (by omega)
  have hsz : sLe (((((rangeM j).length + [(j : Int) + 1].length) * 8 : Nat)) : Int) 140737488355328 = true := by
    rw [rangeM_len]
    exact decide_eq_true (by simp; omega)
  have hw : IntKind.wrap .i64 ((j : Int) + 1) = (j : Int) + 1 := by have := wrapL (show j < bigL by unfold bigL; omega); simpa using this
  simp only [xs31_0, xst31, hd_cons, tl_cons, Sc.toI_i, Sc.toB_b, Sc.toD_d', hw, hsz, h1, rangeM_succ]
  rfl
theorem xstop31 (op ty : Int) (ts : List Int) : (xs31_0 op ty ts (xst31 op ty ts.length)).1 = true ∧ (xs31_0 op ty ts (xst31 op ty ts.length)).2.1 = false := by
  have h1 : sLt (ts.length : Int) (ts.length : Int) = false := sLt_false (by omega)
  simp only [xs31_0, xst31, hd_cons, tl_cons, Sc.toI_i, Sc.toB_b, Sc.toD_d', h1]
  exact ⟨rfl, rfl⟩
theorem xrun31 (op ty : Int) (ts : List Int) (hb : ts.length ≤ 1000) : whileW (xs31_0 op ty ts) [Sc.i 0, Sc.i op, Sc.i ty, Sc.i 0, Sc.i 0, Sc.i 0, Sc.i 0, Sc.b false, Sc.d (Sh.sl (Sh.int IntKind.i64)) []] = some (xst31 op ty ts.length) :=
  whileW_upto (xst31 op ty) ts.length rfl (fun j hj => xstep31 op ty ts j hb hj) (xstop31 op ty ts).1 (xstop31 op ty ts).2
theorem nat31x (op ty n : Int) (ts : List Int) (gs : List gloS.den) (fs : List funS.den) (hb : ts.length ≤ 1000) (hn : okImm (immOf op n) = true) : exFn (gX x4) Tryd.f31 [AV.agg [AV.int .i64 op, AV.int .i64 ty, AV.int .i64 n], AV.dsl (.int .i64) ts, modA gs fs] =
    some (true, .tup [.int .i64 ty, .int .i64 (chkV op ty 0 (rangeM ts.length) (immOf op n) (symOf op n) 0 false ([ty] ++ ts) gs fs)]) := by
  rw [xf31]
  have L : xL31_0 op ty ts = xst31 op ty ts.length := by unfold xL31_0; rw [xrun31 op ty ts hb]; rfl
  rw [L, xrun31 op ty ts hb]
  have h1 : sLt (ts.length : Int) (ts.length : Int) = false := sLt_false (by omega)
  have h3 : sLe ((([ty].length + ts.length) * 8 : Nat) : Int) 140737488355328 = true := decide_eq_true (by simp; omega)
  have h4 : len1000 (rangeM ts.length).length = true := by rw [rangeM_len]; unfold len1000; rw [Nat.ble_eq]; omega
  simp only [xst31, hd_cons, tl_cons, Sc.toI_i, Sc.toB_b, Sc.toD_d', h1, h3, h4, symOf]
  unfold immOf at hn ⊢
  generalize sEq op 1 = a at hn ⊢
  generalize sEq op 33 = b at hn ⊢
  generalize sEq op 25 = c
  cases a <;> cases b <;> cases c <;> simp only [sIf, cond_true, cond_false] at hn ⊢ <;> simp [sAnd, sOr, sNot, sSome, hn]
noncomputable def xm31 : List AV → Option (Bool × AV)
  | [.agg [.int .i64 op, .int .i64 ty, .int .i64 n], .dsl (.int .i64) ts, m] => (asMod m).bind fun m => some (sAnd (len1000 ts.length) (okImm (immOf op n)), .tup [.int .i64 ty, .int .i64 (chkV op ty 0 (rangeM ts.length) (immOf op n) (symOf op n) 0 false ([ty] ++ ts) m.1 m.2)])
  | _ => none
theorem xk31 (hm : Tryd.prog.follows .mixedOrders = true) : KOk E0 31 (preC (argsT Tryd.prog Tryd.f31) xm31) := KOk.preC ((xk4 hm).read hm Tryd.func31 (by decide) (by rfl) (by
  intro xs r h
  unfold xm31 at h
  split at h
  · simp only [Option.bind_eq_some_iff, Option.some.injEq, Prod.mk.injEq, Bool.and_eq_true] at h
    obtain ⟨m, hm, ⟨h1, h2⟩, rfl⟩ := h
    rw [asMod_eq hm]
    exact nat31x _ _ _ _ _ _ (Nat.le_of_ble_eq_true h1) h2
  · cases h)) _
end Go.Proofs.YtaajbcflmaihgaaDoor
