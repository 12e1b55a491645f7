/- The law ExprRegs answers true. No conditions. -/
import Derived.Test.YtaajbcflmaihgaaDoorExpRegs
import Derived.Test.YtaajbcflmaihgaaDoorExpLaw5
set_option linter.all false
namespace Go.Proofs.YtaajbcflmaihgaaDoor
open Go Ab
set_option maxRecDepth 100000
noncomputable def g7 (l : List (Nat × Bool)) : Fx := { gX r1 with orc := l }
theorem xf71 (op : Int) (a : List nodS.den) (b : List nodS.den) : exFnC (g7 [(19, true)]) 20 Tryd.f7 [AV.int IntKind.i64 op, AV.dsl nodS a, AV.dsl nodS b] = (
 let q0 : Bool := sLt 100 ↑a.length;
  let q1 : Bool := sNot q0;
  let q2 : Bool := sNot q1;
  let q3 : Bool := sIf q0 true (sLt 100 ↑b.length);
  let q4 : Bool := sNot q3;
  let q5 : Bool := sNot q4;
  some
  (sAnd true
      (sAnd
        (sAnd true
          (sAnd true
            (sAnd true
              (sAnd true
                (sAnd (sOr q2 true)
                  (sAnd (sOr q2 q1)
                    (sAnd (sOr q2 (sAnd (sAnd q1 true) true))
                      (sAnd (sAnd true (sIf q0 true q1))
                        (sAnd true
                          (sAnd (sOr q5 true)
                            (sAnd (sOr q5 (sAnd (sAnd q4 true) true))
                              (sAnd (sAnd true (sIf q3 true q4)) true))))))))))))
        (sAnd (sAnd true (sIf q3 true (sEq op 4))) true)),
    AV.bool true)) := by kernel_rfl

theorem xf72 (op : Int) (a : List nodS.den) (b : List nodS.den) : exFnC (g7 [(19, false), (32, true), (43, true)]) 20 Tryd.f7 [AV.int IntKind.i64 op, AV.dsl nodS a, AV.dsl nodS b] = (
 let q0 : Bool := sLt 100 ↑a.length;
  let q1 : Bool := sNot q0;
  let q2 : Bool := sNot q1;
  let q3 : Bool := sIf q0 true (sLt 100 ↑b.length);
  let q4 : Bool := sNot q3;
  let q5 : Bool := sNot q4;
  let q6 : Nat := a.length;
  let q7 : List Nod := a ++ b ++ [(op, 3, 0, PUnit.unit)];
  let q8 : List ((Sh.int IntKind.i64).prod ((Sh.int IntKind.i64).prod ((Sh.int IntKind.i64).prod Sh.unit))).den := a ++ b;
  let q9 : List Int := regV q7;
  let q10 : Bool := sIf (eqInts (regV a) (regV a)) (eqInts q9 (regV q8)) false;
  some
  (sAnd true
      (sAnd
        (sAnd
          (sAnd true
            (sAnd true
              (sAnd true
                (sAnd true
                  (sAnd (sOr q2 true)
                    (sAnd (sOr q2 q1)
                      (sAnd (sOr q2 (sAnd (sAnd q1 true) true))
                        (sAnd (sAnd true (sIf q0 true q1))
                          (sAnd true
                            (sAnd (sOr q5 true)
                              (sAnd (sOr q5 (sAnd (sAnd q4 true) true))
                                (sAnd (sAnd true (sIf q3 true q4)) true))))))))))))
          (sAnd (sAnd true (sNot (sIf q3 true (sEq op 4)))) true))
        (sAnd true
          (sAnd (sAnd true (sAnd true (sAnd (sAnd true (sLe (↑(q6 * 24)) 140737488355328)) true)))
            (sAnd (sAnd true (sAnd true (sAnd (sAnd true (sLe (↑((q6 + b.length) * 24)) 140737488355328)) true)))
              (sAnd
                (sAnd true
                  (sAnd (sAnd true (len100K a.length))
                    (sAnd true
                      (sAnd (sAnd true (len100K a.length))
                        (sAnd (sAnd true (len1M (regV a).length))
                          (sAnd true
                            (sAnd (sAnd (eqInts (regV a) (regV a)) true)
                              (sAnd (sAnd (eqInts (regV a) (regV a)) true)
                                (sAnd (sAnd (eqInts (regV a) (regV a)) true)
                                  (sAnd (sAnd (eqInts (regV a) (regV a)) true)
                                    (sAnd (sAnd (eqInts (regV a) (regV a)) (sAnd true (okAp a b)))
                                      (sAnd (sAnd (eqInts (regV a) (regV a)) (sAnd true (len100K q7.length)))
                                        (sAnd (sAnd (eqInts (regV a) (regV a)) true)
                                          (sAnd (sAnd (eqInts (regV a) (regV a)) (sAnd true (len100K q8.length)))
                                            (sAnd (sAnd (eqInts (regV a) (regV a)) (sAnd true (len1M q9.length)))
                                              (sAnd (sAnd true (sIf (eqInts (regV a) (regV a)) true true))
                                                (sAnd true
                                                  (sAnd (sAnd q10 true)
                                                    (sAnd (sAnd true (sIf q10 true true)) true)))))))))))))))))))
                true))))),
    AV.bool (sIf q10 true false))) := by kernel_rfl

theorem eqInts_self (a : List Int) : eqInts a a = true := by unfold eqInts; exact decide_eq_true rfl
theorem regV_len (a : List Nod) : (regV a).length ≤ a.length := by
  unfold regV
  refine Nat.le_trans (Lib.compact_length_le _) ?_
  unfold sortL
  rw [List.length_mergeSort]
  have := regL_len a a.length
  rwa [List.take_length] at this
theorem regV_op {op : Int} (h : op ≠ 4) (t n : Int) (c : List Nod) : regV (c ++ [((op, t, n, PUnit.unit) : Nod)]) = regV c := by
  unfold regV
  congr 2
  unfold regL
  rw [List.filter_append]
  have : sEq op 4 = false := by simpa [sEq] using h
  simp [this]
noncomputable def xm7 : List AV → Option (Bool × AV)
  | [.int .i64 op, a, b] => (asNods a).bind fun _ => (asNods b).bind fun _ => some (true, .bool true)
  | _ => none
theorem law7 (hm : Tryd.prog.follows .mixedOrders = true) : KOk E0 7 xm7 :=
  KOk.cases ((rk1 hm).readCo hm Tryd.func7 (by decide) (by rfl) [(19, true)] 20) ((rk1 hm).readCo hm Tryd.func7 (by decide) (by rfl) [(19, false), (32, true), (43, true)] 20) (by
  intro xs r h
  unfold xm7 at h
  split at h
  · rename_i op a b
    simp only [Option.bind_eq_some_iff, Option.some.injEq, Prod.mk.injEq, true_and] at h
    obtain ⟨a, ha, b, hb, rfl⟩ := h
    rw [asNods_eq ha, asNods_eq hb]
    by_cases h1 : a.length ≤ 100 ∧ b.length ≤ 100 ∧ op ≠ 4
    · right
      refine (xf72 op a b).trans ?_
      have e1 : sLt 100 (a.length : Int) = false := sLt_false (by omega)
      have e2 : sLt 100 (b.length : Int) = false := sLt_false (by omega)
      have e3 : okAp a b = true := decide_eq_true (by omega)
      have e4 : sEq op 4 = false := by simpa [sEq] using h1.2.2
      have e5 : len100K a.length = true := Nat.ble_eq_true_of_le (by omega)
      have e6 : len100K (a ++ b ++ [((op, 3, 0, PUnit.unit) : Nod)]).length = true := Nat.ble_eq_true_of_le (by simp only [List.length_append, List.length_singleton]; omega)
      have e7 : len100K (a ++ b).length = true := Nat.ble_eq_true_of_le (by simp only [List.length_append]; omega)
      have e8 : len1M (regV a).length = true := Nat.ble_eq_true_of_le (by have := regV_len a; omega)
      have e9 : len1M (regV (a ++ b)).length = true := Nat.ble_eq_true_of_le (by have := regV_len (a ++ b); rw [List.length_append] at this; omega)
      have z1 : sLe ((a.length * 24 : Nat) : Int) 140737488355328 = true := decide_eq_true (by omega)
      have z2 : sLe (((a.length + b.length) * 24 : Nat) : Int) 140737488355328 = true := decide_eq_true (by omega)
      simp only [e6, regV_op h1.2.2, eqInts_self, e1, e2, e3, e4, e5, e8, e9, z1, z2]
      rw [e7]
      rfl
    · left
      refine (xf71 op a b).trans ?_
      by_cases h2 : a.length ≤ 100
      · have e1 : sLt 100 (a.length : Int) = false := sLt_false (by omega)
        by_cases h3 : b.length ≤ 100
        · have e2 : sLt 100 (b.length : Int) = false := sLt_false (by omega)
          have e4 : sEq op 4 = true := by simp only [sEq, beq_iff_eq]; omega
          simp only [e1, e2, e4]
          rfl
        · have e2 : sLt 100 (b.length : Int) = true := sLt_true (by omega)
          simp only [e1, e2]
          rfl
      · have e1 : sLt 100 (a.length : Int) = true := sLt_true (by omega)
        simp only [e1]
        rfl
  · cases h)
theorem regs7 (op : Int) (a b : List Nod) : xm7 [.int .i64 op, .dsl nodS a, .dsl nodS b] = some (true, .bool true) := by
  unfold xm7
  have h : ∀ x : List Nod, asNods (.dsl nodS x) = some x := fun x => by unfold asNods; exact dif_pos rfl
  simp only [h, Option.bind_some]
end Go.Proofs.YtaajbcflmaihgaaDoor
