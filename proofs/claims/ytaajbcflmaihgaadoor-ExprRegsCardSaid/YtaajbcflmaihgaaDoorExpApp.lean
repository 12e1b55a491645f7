/- expr.Apply and its reference: the operands' nodes one behind the other, the operation's node last. No conditions. -/
import Derived.Test.YtaajbcflmaihgaaDoorExpGrow
set_option linter.all false
namespace Go.Proofs.YtaajbcflmaihgaaDoor
open Go Ab
set_option maxRecDepth 100000
noncomputable def v1 : XTab := { w1 with n := (53, xm53) :: w1.n }
theorem vk1 (hm : Tryd.prog.follows .mixedOrders = true) : XOk v1 := (wk1 hm).consN (xk53 hm)
noncomputable def v2 : XTab := { v1 with n := (32, newC (exFnCI (gX v1) 20 Tryd.f32)) :: v1.n }
theorem vk2 (hm : Tryd.prog.follows .mixedOrders = true) : XOk v2 := (vk1 hm).consN (IOk.new ((vk1 hm).readCI hm Tryd.func32 (by decide) (by rfl) 20))
def asLL : AV → Option (List (List Nod))
  | .dsl e x => if h : e = .sl nodS then some (castL h x) else none
  | .nils => some []
  | _ => none
def okAp (a b : List Nod) : Bool := decide (a.length ≤ 1000 ∧ b.length ≤ 1000)
def xm17 : List AV → Option (Bool × ((s : Sh) × List s.den))
  | [.int .i64 op, .int .i64 t, l] => (asLL l).bind fun ls => match ls with
    | [a, b] => some (okAp a b, ⟨nodS, a ++ b ++ [((op, t, 0, ()) : Nod)]⟩)
    | [] => some (true, ⟨nodS, [((op, t, 0, ()) : Nod)]⟩)
    | _ => none
  | _ => none
theorem sum_wrap {a b : List Nod} (h : okAp a b = true) : IntKind.i64.wrap (IntKind.i64.wrap (0 + (a.length : Int)) + (b.length : Int)) = (a.length : Int) + b.length := by
  have h := of_decide_eq_true h
  rw [wrap_i64 (n := 0 + (a.length : Int)) (by omega) (by omega), Int.zero_add]
  exact wrap_i64 (by omega) (by omega)
theorem xf172 (op : Int) (t : Int) (a : List nodS.den) (b : List nodS.den) : newC (exFnCI (gX v2) 20 Tryd.f17) [AV.int IntKind.i64 op, AV.int IntKind.i64 t, AV.dsl nodS.sl [a, b]] = (
 let q0 : List nodS.sl.den := [a, b];
  let q1 : Int := ↑q0.length;
  let q2 : Bool := sAnd (sAnd true (sAnd true (sLt 0 q1))) true;
  let q3 : nodS.sl.den := nodS.sl.dflt;
  let q4 : nodS.sl.den := q0.getD 0 q3;
  let q5 : Int := IntKind.i64.wrap (0 + ↑(List.length q4));
  let q6 : Bool := sAnd (sAnd true (sAnd true (sLt (IntKind.i64.wrap (0 + 1)) q1))) true;
  let q7 : nodS.sl.den := q0.getD 1 q3;
  let q8 : Int := IntKind.i64.wrap (q5 + ↑(List.length q7));
  let q9 : List nodS.den := [] ++ q4;
  let q10 : List nodS.den := q9 ++ q7;
  let q11 : List nodS.den := [(op, t, 0, PUnit.unit)];
  some
  (sAnd
      (sAnd true
        (sAnd
          (sAnd true
            (sAnd
              (sAnd true
                (sAnd
                  (sAnd true
                    (sAnd true
                      (sAnd
                        (sAnd true
                          (sAnd
                            (sAnd true
                              (sAnd true
                                (sAnd (sAnd q2 (sAnd true (sAnd true (sAnd (sAnd true (sNot (sLt q5 0))) true))))
                                  true)))
                            (sAnd
                              (sAnd true
                                (sAnd true
                                  (sAnd (sAnd q6 (sAnd true (sAnd true (sAnd (sAnd true (sNot (sLt q8 0))) true))))
                                    true)))
                              true)))
                        (sAnd (sAnd true (sAnd (sAnd true (okGrow q8)) true))
                          (sAnd
                            (sAnd true
                              (sAnd
                                (sAnd true
                                  (sAnd true
                                    (sAnd
                                      (sAnd q2
                                        (sAnd true
                                          (sAnd true
                                            (sAnd (sAnd true (sLe (↑((0 + List.length q4) * 24)) 140737488355328))
                                              true))))
                                      true)))
                                (sAnd
                                  (sAnd true
                                    (sAnd true
                                      (sAnd
                                        (sAnd q6
                                          (sAnd true
                                            (sAnd true
                                              (sAnd
                                                (sAnd true (sLe (↑((q9.length + List.length q7) * 24)) 140737488355328))
                                                true))))
                                        true)))
                                  true)))
                            true)))))
                  true))
              (sAnd true
                (sAnd true
                  (sAnd true
                    (sAnd true (sAnd (sAnd true (sLe (↑((q10.length + q11.length) * 24)) 140737488355328)) true)))))))
          true))
      true,
    ⟨nodS, q10 ++ q11⟩)) := by kernel_rfl
theorem xf170 (op : Int) (t : Int) : newC (exFnCI (gX v2) 20 Tryd.f17) [AV.int IntKind.i64 op, AV.int IntKind.i64 t, AV.nils] = (
 some
  (true,
    ⟨nodS,
      [] ++ [(op, t, 0, PUnit.unit)]⟩)) := by kernel_rfl
theorem xf173 (op : Int) (t : Int) : newC (exFnCI (gX v2) 20 Tryd.f17) [AV.int IntKind.i64 op, AV.int IntKind.i64 t, AV.dsl nodS.sl []] = (
 some
  (true,
    ⟨nodS,
      [] ++ [(op, t, 0, PUnit.unit)]⟩)) := by kernel_rfl
theorem xf182 (op : Int) (t : Int) (a : List nodS.den) (b : List nodS.den) : newC (exFnCI (gX v2) 20 Tryd.f18) [AV.int IntKind.i64 op, AV.int IntKind.i64 t, AV.dsl nodS.sl [a, b]] = (
 let q0 : List nodS.sl.den := [a, b];
  let q1 : Int := ↑q0.length;
  let q2 : nodS.sl.den := nodS.sl.dflt;
  let q3 : nodS.sl.den := q0.getD 0 q2;
  let q4 : Nat := List.length q3;
  let q5 : nodS.sl.den := q0.getD 1 q2;
  let q6 : List nodS.den := q3 ++ q5;
  let q7 : List nodS.den := [(op, t, 0, PUnit.unit)];
  some
  (sAnd
      (sAnd true
        (sAnd true
          (sAnd
            (sAnd true
              (sAnd
                (sAnd true
                  (sAnd true
                    (sAnd
                      (sAnd (sAnd (sAnd true (sAnd true (sLt 0 q1))) true)
                        (sAnd true (sAnd true (sAnd (sAnd true (sLe (↑(q4 * 24)) 140737488355328)) true))))
                      true)))
                (sAnd
                  (sAnd true
                    (sAnd true
                      (sAnd
                        (sAnd (sAnd (sAnd true (sAnd true (sLt (IntKind.i64.wrap (0 + 1)) q1))) true)
                          (sAnd true
                            (sAnd true (sAnd (sAnd true (sLe (↑((q4 + List.length q5) * 24)) 140737488355328)) true))))
                        true)))
                  true)))
            (sAnd
              (sAnd true
                (sAnd true
                  (sAnd true
                    (sAnd true
                      (sAnd true (sAnd (sAnd true (sLe (↑((q6.length + q7.length) * 24)) 140737488355328)) true))))))
              true))))
      true,
    ⟨nodS, q6 ++ q7⟩)) := by kernel_rfl
theorem xf180 (op : Int) (t : Int) : newC (exFnCI (gX v2) 20 Tryd.f18) [AV.int IntKind.i64 op, AV.int IntKind.i64 t, AV.nils] = (
 let q0 : List nodS.den := [(op, t, 0, PUnit.unit)];
  some
  (sAnd
      (sAnd true
        (sAnd true
          (sAnd true
            (sAnd
              (sAnd true
                (sAnd true
                  (sAnd true
                    (sAnd true (sAnd true (sAnd (sAnd true (sLe (↑(q0.length * 24)) 140737488355328)) true))))))
              true))))
      true,
    ⟨nodS, q0⟩)) := by kernel_rfl
theorem xf183 (op : Int) (t : Int) : newC (exFnCI (gX v2) 20 Tryd.f18) [AV.int IntKind.i64 op, AV.int IntKind.i64 t, AV.dsl nodS.sl []] = (
 let q0 : List nodS.den := [(op, t, 0, PUnit.unit)];
  some
  (sAnd
      (sAnd true
        (sAnd true
          (sAnd true
            (sAnd
              (sAnd true
                (sAnd true
                  (sAnd true
                    (sAnd true (sAnd true (sAnd (sAnd true (sLe (↑(q0.length * 24)) 140737488355328)) true))))))
              true))))
      true,
    ⟨nodS, q0⟩)) := by kernel_rfl
theorem app2 (op t : Int) {a b : List Nod} (h : okAp a b = true) : newC (exFnCI (gX v2) 20 Tryd.f17) [AV.int .i64 op, AV.int .i64 t, AV.dsl (.sl nodS) [a, b]] = some (true, ⟨nodS, a ++ b ++ [((op, t, 0, ()) : Nod)]⟩) := by
  rw [xf172]
  have hw := sum_wrap h
  have h := of_decide_eq_true h
  have hw1 : IntKind.i64.wrap (0 + (a.length : Int)) = a.length := by rw [Int.zero_add]; exact wrap_i64 (by omega) (by omega)
  have e1 : [a, b].getD 0 (Sh.dflt (Sh.sl nodS)) = a := rfl
  have e2 : [a, b].getD 1 (Sh.dflt (Sh.sl nodS)) = b := rfl
  have k1 : sLt 0 (([a, b].length : Nat) : Int) = true := rfl
  have k2 : sLt (IntKind.i64.wrap (0 + 1)) (([a, b].length : Nat) : Int) = true := rfl
  have k3 : sLt (a.length : Int) 0 = false := sLt_false (by omega)
  have k4 : sLt ((a.length : Int) + b.length) 0 = false := sLt_false (by omega)
  have k5 : okGrow ((a.length : Int) + b.length) = true := decide_eq_true ⟨by omega, by omega⟩
  have k6 : sLe (((0 + a.length) * 24 : Nat) : Int) 140737488355328 = true := decide_eq_true (by omega)
  have k7 : sLe (((([] ++ a).length + b.length) * 24 : Nat) : Int) 140737488355328 = true := decide_eq_true (by simp only [List.nil_append]; omega)
  have k8 : sLe (((([] ++ a ++ b).length + [((op, t, 0, ()) : Nod)].length) * 24 : Nat) : Int) 140737488355328 = true := decide_eq_true (by simp only [List.nil_append, List.length_append, List.length_singleton]; omega)
  have k9 : IntKind.i64.wrap ((a.length : Int) + b.length) = a.length + b.length := wrap_i64 (by omega) (by omega)
  simp only [e1, e2, hw, hw1, k9, k1, k2, k3, k4, k5, k6, k7, k8]
  rfl
theorem app0 (op t : Int) : newC (exFnCI (gX v2) 20 Tryd.f17) [AV.int .i64 op, AV.int .i64 t, AV.nils] = some (true, ⟨nodS, [((op, t, 0, ()) : Nod)]⟩) := xf170 op t
theorem app0' (op t : Int) : newC (exFnCI (gX v2) 20 Tryd.f17) [AV.int .i64 op, AV.int .i64 t, AV.dsl (.sl nodS) []] = some (true, ⟨nodS, [((op, t, 0, ()) : Nod)]⟩) := xf173 op t
theorem rap2 (op t : Int) {a b : List Nod} (h : okAp a b = true) : newC (exFnCI (gX v2) 20 Tryd.f18) [AV.int .i64 op, AV.int .i64 t, AV.dsl (.sl nodS) [a, b]] = some (true, ⟨nodS, a ++ b ++ [((op, t, 0, ()) : Nod)]⟩) := by
  rw [xf182]
  have h := of_decide_eq_true h
  have e1 : [a, b].getD 0 (Sh.dflt (Sh.sl nodS)) = a := rfl
  have e2 : [a, b].getD 1 (Sh.dflt (Sh.sl nodS)) = b := rfl
  have k1 : sLt 0 (([a, b].length : Nat) : Int) = true := rfl
  have k2 : sLt (IntKind.i64.wrap (0 + 1)) (([a, b].length : Nat) : Int) = true := rfl
  have k6 : sLe (((0 + a.length) * 24 : Nat) : Int) 140737488355328 = true := decide_eq_true (by omega)
  have k7 : sLe (((([] ++ a).length + b.length) * 24 : Nat) : Int) 140737488355328 = true := decide_eq_true (by simp only [List.nil_append]; omega)
  have k8 : sLe (((([] ++ a ++ b).length + [((op, t, 0, ()) : Nod)].length) * 24 : Nat) : Int) 140737488355328 = true := decide_eq_true (by simp only [List.nil_append, List.length_append, List.length_singleton]; omega)
  have k6' : sLe ((a.length * 24 : Nat) : Int) 140737488355328 = true := decide_eq_true (by omega)
  have k7' : sLe (((a.length + b.length) * 24 : Nat) : Int) 140737488355328 = true := decide_eq_true (by omega)
  have k8' : sLe (((List.length (a ++ b) + [((op, t, 0, ()) : Nod)].length) * 24 : Nat) : Int) 140737488355328 = true := decide_eq_true (by simp only [List.length_append, List.length_singleton]; omega)
  simp only [e1, e2, k1, k2, List.nil_append, Nat.zero_add, k6', k7', k8']
  rfl
theorem rap0 (op t : Int) : newC (exFnCI (gX v2) 20 Tryd.f18) [AV.int .i64 op, AV.int .i64 t, AV.nils] = some (true, ⟨nodS, [((op, t, 0, ()) : Nod)]⟩) := by kernel_rfl
theorem rap0' (op t : Int) : newC (exFnCI (gX v2) 20 Tryd.f18) [AV.int .i64 op, AV.int .i64 t, AV.dsl (.sl nodS) []] = some (true, ⟨nodS, [((op, t, 0, ()) : Nod)]⟩) := by kernel_rfl
theorem asLL_eq {a : AV} {l : List (List Nod)} (h : asLL a = some l) : a = .dsl (.sl nodS) l ∨ (a = .nils ∧ l = []) := by
  unfold asLL at h
  split at h
  · split at h
    · rename_i e; subst e; cases h; exact .inl rfl
    · cases h
  · cases h; exact .inr ⟨rfl, rfl⟩
  · cases h
theorem xk17 (hm : Tryd.prog.follows .mixedOrders = true) : KNew E0 17 xm17 := KNew.cases (IOk.new ((vk2 hm).readCI hm Tryd.func17 (by decide) (by rfl) 20)) (IOk.new ((vk2 hm).readCI hm Tryd.func17 (by decide) (by rfl) 20)) (by
  intro xs r h
  unfold xm17 at h
  split at h
  · simp only [Option.bind_eq_some_iff] at h
    obtain ⟨ls, hl, h⟩ := h
    split at h
    · simp only [Option.some.injEq, Prod.mk.injEq] at h
      obtain ⟨h1, rfl⟩ := h
      rcases asLL_eq hl with rfl | ⟨_, hl⟩
      · exact .inl (app2 _ _ h1)
      · cases hl
    · simp only [Option.some.injEq, Prod.mk.injEq] at h
      obtain ⟨h1, rfl⟩ := h
      rcases asLL_eq hl with rfl | ⟨rfl, _⟩
      · exact .inl (app0' _ _)
      · exact .inl (app0 _ _)
    · cases h
  · cases h)
theorem xk18 (hm : Tryd.prog.follows .mixedOrders = true) : KNew E0 18 xm17 := KNew.cases (IOk.new ((vk2 hm).readCI hm Tryd.func18 (by decide) (by rfl) 20)) (IOk.new ((vk2 hm).readCI hm Tryd.func18 (by decide) (by rfl) 20)) (by
  intro xs r h
  unfold xm17 at h
  split at h
  · simp only [Option.bind_eq_some_iff] at h
    obtain ⟨ls, hl, h⟩ := h
    split at h
    · simp only [Option.some.injEq, Prod.mk.injEq] at h
      obtain ⟨h1, rfl⟩ := h
      rcases asLL_eq hl with rfl | ⟨_, hl⟩
      · exact .inl (rap2 _ _ h1)
      · cases hl
    · simp only [Option.some.injEq, Prod.mk.injEq] at h
      obtain ⟨h1, rfl⟩ := h
      rcases asLL_eq hl with rfl | ⟨rfl, _⟩
      · exact .inl (rap0' _ _)
      · exact .inl (rap0 _ _)
    · cases h
  · cases h)
end Go.Proofs.YtaajbcflmaihgaaDoor
