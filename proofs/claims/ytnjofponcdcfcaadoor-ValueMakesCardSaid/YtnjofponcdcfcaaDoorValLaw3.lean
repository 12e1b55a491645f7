/- The law ValueMakes answers true. No conditions but that the number fits. -/
import Derived.Test.YtnjofponcdcfcaaDoorValNat3
import Derived.Test.YtnjofponcdcfcaaDoorValWorks
import Derived.Test.YtnjofponcdcfcaaDoorAbRun
set_option linter.all false
namespace Go.Proofs.YtnjofponcdcfcaaDoor
open Go Ab
set_option maxRecDepth 100000
def cm9 (F : Int → Int → Val) : List AV → Option (Bool × AV)
  | [.int .i64 t, .int .i64 n] => some (okImm n, valA (F t n))
  | _ => none
def cm11 (F : Int → Val) : List AV → Option (Bool × AV)
  | [.int .i64 t] => some (true, valA (F t))
  | _ => none
def cm13 (F : Int → Int → Val) : List AV → Option (Bool × AV)
  | [.int .i64 o, .int .i64 n] => some (true, valA (F o n))
  | _ => none
noncomputable def b1 (F : Int → Int → Val) (P : Int → Val) (Q : Int → Int → Val) : XTab := { a4 with k := (17, xm17) :: (9, cm9 F) :: (10, cm9 F) :: (11, cm11 P) :: (12, cm11 P) :: (13, cm13 Q) :: (14, cm13 Q) :: a4.k }
theorem bk1 (hm : Tryd.prog.follows .mixedOrders = true) : XOk (b1 intL poiL ptrL) := (((((((ak4 hm).consK (c := cm13 ptrL) (xk14 hm)).consK (c := cm13 ptrL) (xk13 hm)).consK (c := cm11 poiL) (xk12 hm)).consK (c := cm11 poiL) (xk11 hm)).consK (c := cm9 intL) (xk10 hm)).consK (c := cm9 intL) (xk9 hm)).consK (xk17 hm)
theorem xf3 (F : Int → Int → Val) (P : Int → Val) (Q : Int → Int → Val) (t : Int) (o : Int) (n : Int) : exFnC (gX (b1 F P Q) { orc := [(14, true), (21, true), (30, true), (37, true)] }) 20 Tryd.f3
  [AV.int IntKind.i64 t, AV.int IntKind.i64 o, AV.int IntKind.i64 n] = (
 let q0 : Bool := sAnd (sEq (F t n).t (F t n).t) (sAnd (sEq (F t n).o (F t n).o) (sAnd (sAnd (sAnd (sEq (F t n).a.n (F t n).a.n) (sAnd (sEqB (F t n).a.p (F t n).a.p) (sAnd (sEqB (F t n).a.u (F t n).a.u) true))) (sAnd (sAnd (sEq (F t n).b.n (F t n).b.n) (sAnd (sEqB (F t n).b.p (F t n).b.p) (sAnd (sEqB (F t n).b.u (F t n).b.u) true))) (sAnd (sAnd (sEq (F t n).c.n (F t n).c.n) (sAnd (sEqB (F t n).c.p (F t n).c.p) (sAnd (sEqB (F t n).c.u (F t n).c.u) true))) (sAnd (sAnd (sEq (F t n).d.n (F t n).d.n) (sAnd (sEqB (F t n).d.p (F t n).d.p) (sAnd (sEqB (F t n).d.u (F t n).d.u) true))) true)))) true));
  let q1 : Bool := sAnd q0 true;
  let q2 : Bool := sIf q0 (sAnd (sEq (P t).t (P t).t) (sAnd (sEq (P t).o (P t).o) (sAnd (sAnd (sAnd (sEq (P t).a.n (P t).a.n) (sAnd (sEqB (P t).a.p (P t).a.p) (sAnd (sEqB (P t).a.u (P t).a.u) true))) (sAnd (sAnd (sEq (P t).b.n (P t).b.n) (sAnd (sEqB (P t).b.p (P t).b.p) (sAnd (sEqB (P t).b.u (P t).b.u) true))) (sAnd (sAnd (sEq (P t).c.n (P t).c.n) (sAnd (sEqB (P t).c.p (P t).c.p) (sAnd (sEqB (P t).c.u (P t).c.u) true))) (sAnd (sAnd (sEq (P t).d.n (P t).d.n) (sAnd (sEqB (P t).d.p (P t).d.p) (sAnd (sEqB (P t).d.u (P t).d.u) true))) true)))) true))) false;
  let q3 : Bool := sAnd q2 true;
  let q4 : Bool := sIf q2 (sAnd (sEq (Q o n).t (Q o n).t) (sAnd (sEq (Q o n).o (Q o n).o) (sAnd (sAnd (sAnd (sEq (Q o n).a.n (Q o n).a.n) (sAnd (sEqB (Q o n).a.p (Q o n).a.p) (sAnd (sEqB (Q o n).a.u (Q o n).a.u) true))) (sAnd (sAnd (sEq (Q o n).b.n (Q o n).b.n) (sAnd (sEqB (Q o n).b.p (Q o n).b.p) (sAnd (sEqB (Q o n).b.u (Q o n).b.u) true))) (sAnd (sAnd (sEq (Q o n).c.n (Q o n).c.n) (sAnd (sEqB (Q o n).c.p (Q o n).c.p) (sAnd (sEqB (Q o n).c.u (Q o n).c.u) true))) (sAnd (sAnd (sEq (Q o n).d.n (Q o n).d.n) (sAnd (sEqB (Q o n).d.p (Q o n).d.p) (sAnd (sEqB (Q o n).d.u (Q o n).d.u) true))) true)))) true))) false;
  let q5 : Bool := sAnd q4 true;
  let q6 : Bool := sIf q4 (sEq (nlV t) (nlV t)) false;
  some
  (sAnd true
      (sAnd
        (sAnd true
          (sAnd true
            (sAnd (sAnd true (okImm n))
              (sAnd true
                (sAnd true
                  (sAnd (sAnd true (okImm n))
                    (sAnd true
                      (sAnd true
                        (sAnd q1
                          (sAnd q1
                            (sAnd q1
                              (sAnd q1
                                (sAnd q1
                                  (sAnd (sAnd true (sIf q0 true true))
                                    (sAnd true
                                      (sAnd q3
                                        (sAnd q3
                                          (sAnd q3
                                            (sAnd q3
                                              (sAnd q3
                                                (sAnd q3
                                                  (sAnd q3
                                                    (sAnd (sAnd true (sIf q2 true true))
                                                      (sAnd true
                                                        (sAnd q5
                                                          (sAnd q5
                                                            (sAnd q5
                                                              (sAnd q5
                                                                (sAnd q5
                                                                  (sAnd (sAnd true (sIf q4 true true))
                                                                    (sAnd true
                                                                      (sAnd (sAnd q6 true)
                                                                        (sAnd (sAnd true (sIf q6 true true))
                                                                          true)))))))))))))))))))))))))))))))))
        true),
    AV.bool (sIf q6 true false))) := by kernel_rfl

theorem sEq_self (a : Int) : sEq a a = true := by simp [sEq]
theorem sEqB_self (a : Bool) : sEqB a a = true := by cases a <;> rfl
def xm3 : List AV → Option (Bool × AV)
  | [.int .i64 _, .int .i64 _, .int .i64 n] => some (okImm n, .bool true)
  | _ => none
theorem law3 (hm : Tryd.prog.follows .mixedOrders = true) : KOk E0 3 xm3 := (bk1 hm).readC hm Tryd.func3 (ent Tryd.func3 (by decide) (by rfl)) { orc := [(14, true), (21, true), (30, true), (37, true)] } 20 (by
  intro xs r h
  unfold xm3 at h
  split at h
  · rename_i t o n
    simp only [Option.some.injEq, Prod.mk.injEq] at h
    obtain ⟨h, rfl⟩ := h
    refine (xf3 intL poiL ptrL t o n).trans ?_
    simp only [sEq_self, sEqB_self, h]
    rfl
  · cases h)
theorem okImm_of {n : Int} (h : (Sh.int .i64).Wf n) : okImm n = true := decide_eq_true (bounds_i64 h)
theorem makes3 {t o n : Int} (h : okImm n = true) : xm3 [.int .i64 t, .int .i64 o, .int .i64 n] = some (true, .bool true) := by
  show some (okImm n, AV.bool true) = _
  rw [h]
end Go.Proofs.YtnjofponcdcfcaaDoor
