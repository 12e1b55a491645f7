/- The law ExprFormat answers true. No conditions but that the numbers fit. -/
import Derived.Test.YtaajbcflmaihgaaDoorExpFmtN
import Derived.Test.YtaajbcflmaihgaaDoorAbRun
set_option linter.all false
namespace Go.Proofs.YtaajbcflmaihgaaDoor
open Go Ab
set_option maxRecDepth 100000
theorem wfFmt_of {es : List Nod} (h : (Sh.sl nodS).Wf es) : wfFmt es = true := by
  unfold wfFmt
  rw [List.all_eq_true]
  intro e he
  have w := h.2 e he
  unfold wfNod
  simp only [Bool.and_eq_true]
  exact ⟨⟨decide_eq_true (bounds_i64 w.1), decide_eq_true (bounds_i64 w.2.1)⟩, decide_eq_true (bounds_i64 w.2.2.1)⟩
theorem xf6 (a : List nodS.den) (b : List nodS.den) : exFn (gX q2) Tryd.f6 [AV.dsl nodS a, AV.dsl nodS b] = (
 let q0 : Bool := sLt 100 ↑a.length;
  let q1 : Bool := sNot q0;
  let q2 : Bool := sNot q1;
  let q3 : Bool := sIf q0 true (sLt 100 ↑b.length);
  let q4 : Bool := (Tg.mix q3 Tg.r Tg.n).isN;
  let q5 : Bool := sAnd true (sAnd (len1000' a.length) (wfFmt a));
  let q6 : Bool := sOr (sNot (bEq (fmtB a) (fmtB a))) (sAnd (sAnd (bEq (fmtB a) (fmtB a)) (bEq (fmtB a) (fmtB a))) true);
  let q7 : Bool := sIf (bEq (fmtB a) (fmtB a)) (sEqB (bEq (fmtB a) (fmtB b)) (eqNods a b)) false;
  some
  (sAnd true
      (sIf true
        (sAnd
          (sAnd
            (sAnd true
              (sAnd true
                (sAnd true
                  (sAnd true
                    (sAnd (sOr q2 true)
                      (sAnd (sOr q2 q1)
                        (sAnd (sOr q2 (sAnd (sAnd q1 true) true)) (sAnd (sAnd true (sIf q0 true q1)) true))))))))
            (sIf true (sAnd true (sIf q3 true true)) true))
          (sIf q4
            (sAnd (sAnd true (sAnd q5 (sAnd true (sAnd (sAnd true (sAnd (len1000' b.length) (wfFmt b))) true))))
              (sIf true
                (sAnd
                  (sAnd true
                    (sAnd true
                      (sAnd q5
                        (sAnd true
                          (sAnd true
                            (sAnd (sOr (sNot (bEq (fmtB a) (fmtB a))) true)
                              (sAnd (sOr (sNot (bEq (fmtB a) (fmtB a))) true)
                                (sAnd q6
                                  (sAnd (sOr (sNot (bEq (fmtB a) (fmtB a))) true)
                                    (sAnd (sOr (sNot (bEq (fmtB a) (fmtB a))) true)
                                      (sAnd
                                        (sOr (sNot (bEq (fmtB a) (fmtB a)))
                                          (sAnd (sAnd (bEq (fmtB a) (fmtB a)) (sAnd (bEq (fmtB a) (fmtB a)) true))
                                            (len1M a.length)))
                                        (sAnd q6
                                          (sAnd (sAnd true (sIf (bEq (fmtB a) (fmtB a)) (bEq (fmtB a) (fmtB a)) true))
                                            (sAnd true
                                              (sAnd (sOr (sNot q7) true)
                                                (sAnd (sAnd true (sIf q7 q7 true)) true))))))))))))))))
                  true)
                true))
            true))
        true),
    AV.bool (sIf q4 (sIf q7 true false) true))) := by kernel_rfl

theorem fmtB_eq (a b : List Nod) : sEqB (bEq (fmtB a) (fmtB b)) (eqNods a b) = true := by
  have e : bEq (fmtB a) (fmtB b) = eqNods a b := by
    rw [Bool.eq_iff_iff, bEq_iff]
    unfold eqNods
    rw [decide_eq_true_iff]
    constructor
    · intro h
      have := congrArg (fun x : ByteArray => x.data.toList) h
      exact fmt_inj (by simpa [fmtB, bL] using this)
    · rintro rfl; rfl
  rw [e]
  cases eqNods a b <;> rfl
theorem format6 (a b : List Nod) (ha : wfFmt a = true) (hb : wfFmt b = true) : exFn (gX q2) Tryd.f6 [AV.dsl nodS a, AV.dsl nodS b] = some (true, .bool true) := by
  rw [xf6, fmtB_eq]
  have e1 : bEq (fmtB a) (fmtB a) = true := (bEq_iff _ _).2 rfl
  rw [e1, ha, hb]
  by_cases h1 : a.length ≤ 100 ∧ b.length ≤ 100
  · have z1 : sLt 100 (a.length : Int) = false := sLt_false (by omega)
    have z2 : sLt 100 (b.length : Int) = false := sLt_false (by omega)
    have z3 : len1000' a.length = true := Nat.ble_eq_true_of_le (by omega)
    have z4 : len1000' b.length = true := Nat.ble_eq_true_of_le (by omega)
    have z5 : len1M a.length = true := Nat.ble_eq_true_of_le (by omega)
    rw [z1, z2, z3, z4, z5]
    rfl
  · by_cases h2 : a.length ≤ 100
    · have z1 : sLt 100 (a.length : Int) = false := sLt_false (by omega)
      have z2 : sLt 100 (b.length : Int) = true := sLt_true (by omega)
      rw [z1, z2]
      rfl
    · have z1 : sLt 100 (a.length : Int) = true := sLt_true (by omega)
      rw [z1]
      rfl
end Go.Proofs.YtaajbcflmaihgaaDoor
