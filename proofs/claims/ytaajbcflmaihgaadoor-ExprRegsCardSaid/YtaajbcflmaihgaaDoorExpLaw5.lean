/- The law ExprBuilds answers true. No conditions. -/
import Derived.Test.YtaajbcflmaihgaaDoorExpEq
set_option linter.all false
namespace Go.Proofs.YtaajbcflmaihgaaDoor
open Go Ab
set_option maxRecDepth 100000
noncomputable def g5 (l : List (Nat × Bool)) : Fx := { gX w2 with orc := l }
theorem xf51 (op : Int) (t : Int) (n : Int) (a : List nodS.den) (b : List nodS.den) : exFnC (g5 [(19, true)]) 20 Tryd.f5
  [AV.int IntKind.i64 op, AV.int IntKind.i64 t, AV.int IntKind.i64 n, AV.dsl nodS a, AV.dsl nodS b] = (
 let q0 : Bool := sLt 100 ↑a.length;
  let q1 : Bool := sNot q0;
  let q2 : Bool := sNot q1;
  some
  (sAnd true
      (sAnd
        (sAnd true
          (sAnd true
            (sAnd true
              (sAnd true
                (sAnd (sOr q2 true)
                  (sAnd (sOr q2 q1)
                    (sAnd (sOr q2 (sAnd (sAnd q1 true) true)) (sAnd (sAnd true (sIf q0 true q1)) true))))))))
        (sAnd (sAnd true (sIf q0 true (sLt 100 ↑b.length))) true)),
    AV.bool true)) := by kernel_rfl
theorem xf52 (op : Int) (t : Int) (n : Int) (a : List nodS.den) (b : List nodS.den) : exFnC (g5 [(19, false), (28, true), (37, true), (52, true), (62, true)]) 20 Tryd.f5
  [AV.int IntKind.i64 op, AV.int IntKind.i64 t, AV.int IntKind.i64 n, AV.dsl nodS a, AV.dsl nodS b] = (
 let q0 : Bool := sLt 100 ↑a.length;
  let q1 : Bool := sNot q0;
  let q2 : Bool := sNot q1;
  let q3 : List nodS.den := [(4, 0, n.tmod 1099511627776, PUnit.unit)];
  let q4 : Bool := eqNods q3 q3;
  let q5 : Bool := sAnd q4 true;
  let q6 : List nodS.den := [(1, t, n, PUnit.unit)];
  let q7 : Bool := sIf q4 (eqNods q6 q6) false;
  let q8 : Bool := sAnd q7 true;
  let q9 : Bool := sAnd q7 (sAnd true (okAp a b));
  let q10 : i64S.den × (i64S.prod (i64S.prod Sh.unit)).den := (op, t, 0, PUnit.unit);
  let q11 : List Nod := a ++ b ++ [q10];
  let q12 : Bool := sIf q7 (eqNods q11 q11) false;
  let q13 : Bool := sAnd q12 true;
  let q14 : List nodS.den := [q10];
  let q15 : Bool := sIf q12 (eqNods q14 [(op, t, 0, PUnit.unit)]) false;
  some
  (sAnd true
      (sAnd
        (sAnd
          (sAnd true
            (sAnd true
              (sAnd true
                (sAnd true
                  (sAnd (sOr q2 true)
                    (sAnd (sOr q2 q1)
                      (sAnd (sOr q2 (sAnd (sAnd q1 true) true)) (sAnd (sAnd true (sIf q0 true q1)) true))))))))
          (sAnd (sAnd true (sNot (sIf q0 true (sLt 100 ↑b.length)))) true))
        (sAnd true
          (sAnd
            (sAnd true
              (sAnd true
                (sAnd true
                  (sAnd true
                    (sAnd (sAnd true (len1M q3.length))
                      (sAnd true
                        (sAnd q5
                          (sAnd q5
                            (sAnd q5
                              (sAnd q5
                                (sAnd q5
                                  (sAnd q5
                                    (sAnd (sAnd q4 (sAnd true (len1M q6.length)))
                                      (sAnd (sAnd true (sIf q4 true true))
                                        (sAnd true
                                          (sAnd q8
                                            (sAnd q8
                                              (sAnd q8
                                                (sAnd q8
                                                  (sAnd q8
                                                    (sAnd q9
                                                      (sAnd q8
                                                        (sAnd q8
                                                          (sAnd q8
                                                            (sAnd q8
                                                              (sAnd q8
                                                                (sAnd q9
                                                                  (sAnd (sAnd q7 (sAnd true (len1M q11.length)))
                                                                    (sAnd (sAnd true (sIf q7 true true))
                                                                      (sAnd true
                                                                        (sAnd q13
                                                                          (sAnd q13
                                                                            (sAnd q13
                                                                              (sAnd q13
                                                                                (sAnd q13
                                                                                  (sAnd q13
                                                                                    (sAnd q13
                                                                                      (sAnd
                                                                                        (sAnd q12
                                                                                          (sAnd true
                                                                                            (len1M q14.length)))
                                                                                        (sAnd
                                                                                          (sAnd true
                                                                                            (sIf q12 true true))
                                                                                          (sAnd true
                                                                                            (sAnd (sAnd q15 true)
                                                                                              (sAnd
                                                                                                (sAnd true
                                                                                                  (sIf q15 true true))
                                                                                                true))))))))))))))))))))))))))))))))))))))))))
            true))),
    AV.bool (sIf q15 true false))) := by kernel_rfl
theorem eqNods_self (a : List Nod) : eqNods a a = true := by unfold eqNods; exact decide_eq_true rfl
noncomputable def xm5 : List AV → Option (Bool × AV)
  | [.int .i64 op, .int .i64 t, .int .i64 n, a, b] => (asNods a).bind fun _ => (asNods b).bind fun _ => some (true, .bool true)
  | _ => none
theorem XOk.readCo {x : XTab} (h : XOk x) (hm : Tryd.prog.follows .mixedOrders = true) {f : Nat} {fn : Func} (hf : Tryd.prog.funcs[f]? = some fn) (hn : (fn.name == "runtime.NumGoroutine") = false) (hb : fn.body.isNone = false) (orc : List (Nat × Bool)) (k : Nat) :
    KOk E0 f (exFnC { gX x with orc := orc } k fn) :=
  KOk.cast (E := (gX x).toEnv) (E' := E0) (exFnCE_ok (Γ := { gX x with orc := orc }) k (fn := fn) h.env hm hf (fun xs w => enter_of hf hn hb xs w) (fun _ _ h => h)) rfl rfl
theorem law5 (hm : Tryd.prog.follows .mixedOrders = true) : KOk E0 5 xm5 :=
  KOk.cases ((wk2 hm).readCo hm Tryd.func5 (by decide) (by rfl) [(19, true)] 20) ((wk2 hm).readCo hm Tryd.func5 (by decide) (by rfl) [(19, false), (28, true), (37, true), (52, true), (62, true)] 20) (by
  intro xs r h
  unfold xm5 at h
  split at h
  · rename_i op t n a b
    simp only [Option.bind_eq_some_iff, Option.some.injEq, Prod.mk.injEq, true_and] at h
    obtain ⟨a, ha, b, hb, rfl⟩ := h
    rw [asNods_eq ha, asNods_eq hb]
    by_cases h1 : a.length ≤ 100 ∧ b.length ≤ 100
    · right
      refine (xf52 op t n a b).trans ?_
      have e1 : sLt 100 (a.length : Int) = false := sLt_false (by omega)
      have e2 : sLt 100 (b.length : Int) = false := sLt_false (by omega)
      have e3 : okAp a b = true := decide_eq_true (by omega)
      have e4 : len1M (a ++ b ++ [((op, t, 0, PUnit.unit) : Nod)]).length = true := Nat.ble_eq_true_of_le (by simp only [List.length_append, List.length_singleton]; omega)
      simp only [e1, e2, e3, e4, eqNods_self]
      rfl
    · left
      refine (xf51 op t n a b).trans ?_
      by_cases h2 : a.length ≤ 100
      · have e1 : sLt 100 (a.length : Int) = false := sLt_false (by omega)
        have e2 : sLt 100 (b.length : Int) = true := sLt_true (by omega)
        simp only [e1, e2]
        rfl
      · have e1 : sLt 100 (a.length : Int) = true := sLt_true (by omega)
        simp only [e1]
        rfl
  · cases h)
theorem builds5 (op t n : Int) (a b : List Nod) : xm5 [.int .i64 op, .int .i64 t, .int .i64 n, .dsl nodS a, .dsl nodS b] = some (true, .bool true) := by
  unfold xm5
  have h : ∀ x : List Nod, asNods (.dsl nodS x) = some x := fun x => by unfold asNods; exact dif_pos rfl
  simp only [h, Option.bind_some]
end Go.Proofs.YtaajbcflmaihgaaDoor
