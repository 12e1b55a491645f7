/- What the constructors of values return: read type by type. No conditions. -/
import Derived.Test.YtnjofponcdcfcaaDoorValBase
set_option linter.all false
namespace Go.Proofs.YtnjofponcdcfcaaDoor
open Go Ab
set_option maxRecDepth 100000
theorem KOk.any {E : Env} {f : FuncId} {c : List AV → Option (Bool × AV)} (hin : ∀ (args : Array Value) (w : World), (callFunc f args).run E.P w = .ok (.enter f args) w)
    (h : ∀ xs r, c xs = some (true, r) → ∃ c', KOk E f c' ∧ c' xs = some (true, r)) : KOk E f c :=
  ⟨hin, fun F w xs us r hG hF hrel hc => by
    obtain ⟨c', k, e⟩ := h xs r hc
    exact k.valid F w xs us r hG hF hrel e⟩
theorem xf19 (t : Int) (n : Int) : exFn (gX a2) Tryd.f19 [AV.int IntKind.i64 t, AV.int IntKind.i64 n] = (
 let q0 : Bool := sLe 128 (uV t n);
  let q1 : Bool := sLe 2147483648 (uV t n);
  let q2 : Bool := (Tg.block 0 (Tg.mix (sEq (bitsOf t) 8) (Tg.mix q0 Tg.r Tg.n) (Tg.mix (sEq (bitsOf t) 32) (Tg.mix q1 Tg.r Tg.n) Tg.n))).isN;
  some
  (sAnd true
      (sIf true
        (sAnd true
          (sIf true
            (sAnd
              (sAnd true
                (sIf true
                  (sAnd true
                    (sIf true
                      (sAnd true
                        (sIf (sEq (bitsOf t) 8) (sAnd true (sIf true (sAnd true (sIf q0 true true)) true))
                          (sAnd true
                            (sIf true
                              (sAnd true
                                (sIf (sEq (bitsOf t) 32) (sAnd true (sIf true (sAnd true (sIf q1 true true)) true))
                                  true))
                              true))))
                      true))
                  true))
              (sIf q2 true true))
            true))
        true),
    AV.int IntKind.i64
      (sIf q2 (IntKind.i64.wrap (uV t n))
        (sIf (sEq (bitsOf t) 8) (IntKind.i64.wrap (IntKind.i64.wrap (uV t n) - 256))
          (IntKind.i64.wrap (IntKind.i64.wrap (uV t n) - 4294967296)))))) := by kernel_rfl

theorem nat19 (t n : Int) (h : okImm n = true) : exFn (gX a2) Tryd.f19 [.int .i64 t, .int .i64 n] = some (true, .int .i64 (wV t n)) := by
  have h := of_decide_eq_true h
  rw [xf19]
  refine congrArg some (Prod.ext ?_ (congrArg (AV.int IntKind.i64) ?_))
  · rcases bits_cases t with b | b | b | b | b <;> simp [b, sAnd, sIf, sEq]
  · unfold wV uV
    rcases bits_cases t with b | b | b | b | b
    · simp [b, sIf, sEq]; rfl
    · simp [b, sIf, sEq]
      rw [wrap_i]; omega
    · simp [b, sIf, sEq]
      simp only [wrap_i, sLe]
      by_cases hc : 128 ≤ n % 256
      · rw [decide_eq_true hc]; simp only [cond_true]; omega
      · rw [decide_eq_false hc]; simp only [cond_false]; omega
    · simp [b, sIf, sEq]
      simp only [wrap_i, sLe]
      by_cases hc : 2147483648 ≤ n % 4294967296
      · rw [decide_eq_true hc]; simp only [cond_true]; omega
      · rw [decide_eq_false hc]; simp only [cond_false]; omega
    · simp [b, sIf, sEq]
      rw [wrap_i]; omega
theorem xk19 (hm : Tryd.prog.follows .mixedOrders = true) : KOk E0 19 xm31 := (ak2 hm).read hm Tryd.func19 (ent Tryd.func19 (by decide) (by rfl)) {} (by
  intro xs r h
  unfold xm31 at h
  split at h
  · simp only [Option.some.injEq, Prod.mk.injEq] at h
    obtain ⟨h, rfl⟩ := h
    exact nat19 _ _ h
  · cases h)
noncomputable def a3 : XTab := { a2 with k := (19, xm31) :: a2.k, i := [(30, exFnI (gX a2) Tryd.f30), (35, exFnI (gX a2) Tryd.f35)] }
noncomputable def a4 : XTab := { a3 with i := (29, exFnI (gX a3 { lits := [12], unroll := 6 }) Tryd.f29) :: a3.i }
theorem ak3 (hm : Tryd.prog.follows .mixedOrders = true) : XOk a3 := by
  have h := (ak2 hm).consK (xk19 hm)
  exact (h.consI ((ak2 hm).readI hm Tryd.func35 (ent Tryd.func35 (by decide) (by rfl)) {})).consI ((ak2 hm).readI hm Tryd.func30 (ent Tryd.func30 (by decide) (by rfl)) {})
theorem ak4 (hm : Tryd.prog.follows .mixedOrders = true) : XOk a4 := (ak3 hm).consI ((ak3 hm).readI hm Tryd.func29 (ent Tryd.func29 (by decide) (by rfl)) { lits := [12], unroll := 6 })
def L0 : Lane := ⟨0, false, false⟩
def zeroV : Val := ⟨0, 0, L0, L0, L0, L0⟩
/-- A value all of whose lanes are one. -/
def allV (t : Int) (l : Lane) : Val := ⟨t, 0, l, if 2 ≤ nlV t then l else L0, if 3 ≤ nlV t then l else L0, if 4 ≤ nlV t then l else L0⟩
def intL (t n : Int) : Val := if nlV t = 0 ∨ t = 5 then zeroV else allV t ⟨wV (ltV t) n, false, false⟩
def poiL (t : Int) : Val := if nlV t = 0 then zeroV else allV t ⟨0, true, false⟩
def ptrL (o n : Int) : Val := if o < -1 then zeroV else ⟨5, o, ⟨n, false, false⟩, L0, L0, L0⟩
def xm9 : List AV → Option (Bool × AV)
  | [.int .i64 t, .int .i64 n] => some (okImm n, valA (intL t n))
  | _ => none
def xm11 : List AV → Option (Bool × AV)
  | [.int .i64 t] => some (true, valA (poiL t))
  | _ => none
def xm13 : List AV → Option (Bool × AV)
  | [.int .i64 o, .int .i64 n] => some (true, valA (ptrL o n))
  | _ => none
theorem Oth.five {t : Int} (o : Oth t) : t ≠ 5 := by have := o.h; omega
theorem Oth.n6 {t : Int} (o : Oth t) : sNe t 6 = true := sNe_true (by have := o.h; omega)
theorem Oth.n7 {t : Int} (o : Oth t) : sNe t 7 = true := sNe_true (by have := o.h; omega)
theorem Oth.nl0 {t : Int} (o : Oth t) : sEq (nlV t) 0 = true := sEq_true o.nl
theorem Oth.int0 {t : Int} (o : Oth t) : intV t = false := o.g
theorem xf91 (n : Int) : dataC (exFnI (gX a4 { lits := [15], unroll := 6 }) Tryd.f9) [AV.int IntKind.i64 1, AV.int IntKind.i64 n] = (
 some
  (sAnd
      (sAnd true
        (sIf true
          (sAnd true
            (sIf true
              (sAnd
                (sAnd true
                  (sAnd true
                    (sAnd
                      (sAnd true
                        (sAnd
                          (sAnd true
                            (sIf true
                              (sAnd true
                                (sIf true
                                  (sAnd
                                    (sAnd true
                                      (sIf true
                                        (sAnd
                                          (sAnd true
                                            (sIf true
                                              (sAnd true
                                                (sIf true
                                                  (sAnd
                                                    (sAnd true
                                                      (sIf true
                                                        (sAnd true
                                                          (sAnd true
                                                            (sAnd true
                                                              (sAnd
                                                                (sAnd true
                                                                  (sAnd
                                                                    (sAnd true
                                                                      (sIf true
                                                                        (sAnd
                                                                          (sAnd
                                                                            (sAnd true
                                                                              (sAnd true
                                                                                (sAnd true
                                                                                  (sAnd (sAnd true (okImm n)) true))))
                                                                            true)
                                                                          true)
                                                                        true))
                                                                    true))
                                                                true))))
                                                        true))
                                                    true)
                                                  true))
                                              true))
                                          true)
                                        true))
                                    true)
                                  true))
                              true))
                          true))
                      true)))
                true)
              true))
          true))
      true,
    AV.agg
      [AV.int IntKind.i64 1, AV.int IntKind.i64 0, AV.int IntKind.i64 (wV 1 n), AV.bool false, AV.bool false,
        AV.int IntKind.i64 0, AV.bool false, AV.bool false, AV.int IntKind.i64 0, AV.bool false, AV.bool false,
        AV.int IntKind.i64 0, AV.bool false, AV.bool false])) := by kernel_rfl

theorem nat91 (n : Int) (h : okImm n = true) : dataC (exFnI (gX a4 { lits := [15], unroll := 6 }) Tryd.f9) [.int .i64 1, .int .i64 n] = some (true, valA (intL 1 n)) := by
  rw [xf91]
  first | rfl | (rw [h]; rfl) | (simp only [h]; rfl)
theorem xf92 (n : Int) : dataC (exFnI (gX a4 { lits := [15], unroll := 6 }) Tryd.f9) [AV.int IntKind.i64 2, AV.int IntKind.i64 n] = (
 some
  (sAnd
      (sAnd true
        (sIf true
          (sAnd true
            (sIf true
              (sAnd
                (sAnd true
                  (sAnd true
                    (sAnd
                      (sAnd true
                        (sAnd
                          (sAnd true
                            (sIf true
                              (sAnd true
                                (sIf true
                                  (sAnd
                                    (sAnd true
                                      (sIf true
                                        (sAnd
                                          (sAnd true
                                            (sIf true
                                              (sAnd true
                                                (sIf true
                                                  (sAnd
                                                    (sAnd true
                                                      (sIf true
                                                        (sAnd true
                                                          (sAnd true
                                                            (sAnd true
                                                              (sAnd
                                                                (sAnd true
                                                                  (sAnd
                                                                    (sAnd true
                                                                      (sIf true
                                                                        (sAnd
                                                                          (sAnd
                                                                            (sAnd true
                                                                              (sAnd true
                                                                                (sAnd true
                                                                                  (sAnd (sAnd true (okImm n)) true))))
                                                                            true)
                                                                          true)
                                                                        true))
                                                                    true))
                                                                true))))
                                                        true))
                                                    true)
                                                  true))
                                              true))
                                          true)
                                        true))
                                    true)
                                  true))
                              true))
                          true))
                      true)))
                true)
              true))
          true))
      true,
    AV.agg
      [AV.int IntKind.i64 2, AV.int IntKind.i64 0, AV.int IntKind.i64 (wV 2 n), AV.bool false, AV.bool false,
        AV.int IntKind.i64 0, AV.bool false, AV.bool false, AV.int IntKind.i64 0, AV.bool false, AV.bool false,
        AV.int IntKind.i64 0, AV.bool false, AV.bool false])) := by kernel_rfl

theorem nat92 (n : Int) (h : okImm n = true) : dataC (exFnI (gX a4 { lits := [15], unroll := 6 }) Tryd.f9) [.int .i64 2, .int .i64 n] = some (true, valA (intL 2 n)) := by
  rw [xf92]
  first | rfl | (rw [h]; rfl) | (simp only [h]; rfl)
theorem xf93 (n : Int) : dataC (exFnI (gX a4 { lits := [15], unroll := 6 }) Tryd.f9) [AV.int IntKind.i64 3, AV.int IntKind.i64 n] = (
 some
  (sAnd
      (sAnd true
        (sIf true
          (sAnd true
            (sIf true
              (sAnd
                (sAnd true
                  (sAnd true
                    (sAnd
                      (sAnd true
                        (sAnd
                          (sAnd true
                            (sIf true
                              (sAnd true
                                (sIf true
                                  (sAnd
                                    (sAnd true
                                      (sIf true
                                        (sAnd
                                          (sAnd true
                                            (sIf true
                                              (sAnd true
                                                (sIf true
                                                  (sAnd
                                                    (sAnd true
                                                      (sIf true
                                                        (sAnd true
                                                          (sAnd true
                                                            (sAnd true
                                                              (sAnd
                                                                (sAnd true
                                                                  (sAnd
                                                                    (sAnd true
                                                                      (sIf true
                                                                        (sAnd
                                                                          (sAnd
                                                                            (sAnd true
                                                                              (sAnd true
                                                                                (sAnd true
                                                                                  (sAnd (sAnd true (okImm n)) true))))
                                                                            true)
                                                                          true)
                                                                        true))
                                                                    true))
                                                                true))))
                                                        true))
                                                    true)
                                                  true))
                                              true))
                                          true)
                                        true))
                                    true)
                                  true))
                              true))
                          true))
                      true)))
                true)
              true))
          true))
      true,
    AV.agg
      [AV.int IntKind.i64 3, AV.int IntKind.i64 0, AV.int IntKind.i64 (wV 3 n), AV.bool false, AV.bool false,
        AV.int IntKind.i64 0, AV.bool false, AV.bool false, AV.int IntKind.i64 0, AV.bool false, AV.bool false,
        AV.int IntKind.i64 0, AV.bool false, AV.bool false])) := by kernel_rfl

theorem nat93 (n : Int) (h : okImm n = true) : dataC (exFnI (gX a4 { lits := [15], unroll := 6 }) Tryd.f9) [.int .i64 3, .int .i64 n] = some (true, valA (intL 3 n)) := by
  rw [xf93]
  first | rfl | (rw [h]; rfl) | (simp only [h]; rfl)
theorem xf94 (n : Int) : dataC (exFnI (gX a4 { lits := [15], unroll := 6 }) Tryd.f9) [AV.int IntKind.i64 4, AV.int IntKind.i64 n] = (
 some
  (sAnd
      (sAnd true
        (sIf true
          (sAnd true
            (sIf true
              (sAnd
                (sAnd true
                  (sAnd true
                    (sAnd
                      (sAnd true
                        (sAnd
                          (sAnd true
                            (sIf true
                              (sAnd true
                                (sIf true
                                  (sAnd
                                    (sAnd true
                                      (sIf true
                                        (sAnd
                                          (sAnd true
                                            (sIf true
                                              (sAnd true
                                                (sIf true
                                                  (sAnd
                                                    (sAnd true
                                                      (sIf true
                                                        (sAnd true
                                                          (sAnd true
                                                            (sAnd true
                                                              (sAnd
                                                                (sAnd true
                                                                  (sAnd
                                                                    (sAnd true
                                                                      (sIf true
                                                                        (sAnd
                                                                          (sAnd
                                                                            (sAnd true
                                                                              (sAnd true
                                                                                (sAnd true
                                                                                  (sAnd (sAnd true (okImm n)) true))))
                                                                            true)
                                                                          true)
                                                                        true))
                                                                    true))
                                                                true))))
                                                        true))
                                                    true)
                                                  true))
                                              true))
                                          true)
                                        true))
                                    true)
                                  true))
                              true))
                          true))
                      true)))
                true)
              true))
          true))
      true,
    AV.agg
      [AV.int IntKind.i64 4, AV.int IntKind.i64 0, AV.int IntKind.i64 (wV 4 n), AV.bool false, AV.bool false,
        AV.int IntKind.i64 0, AV.bool false, AV.bool false, AV.int IntKind.i64 0, AV.bool false, AV.bool false,
        AV.int IntKind.i64 0, AV.bool false, AV.bool false])) := by kernel_rfl

theorem nat94 (n : Int) (h : okImm n = true) : dataC (exFnI (gX a4 { lits := [15], unroll := 6 }) Tryd.f9) [.int .i64 4, .int .i64 n] = some (true, valA (intL 4 n)) := by
  rw [xf94]
  first | rfl | (rw [h]; rfl) | (simp only [h]; rfl)
theorem xf95 (n : Int) : dataC (exFnI (gX a4 { lits := [15], unroll := 6 }) Tryd.f9) [AV.int IntKind.i64 5, AV.int IntKind.i64 n] = (
 some
  (true,
    AV.agg
      [AV.int IntKind.i64 0, AV.int IntKind.i64 0, AV.int IntKind.i64 0, AV.bool false, AV.bool false,
        AV.int IntKind.i64 0, AV.bool false, AV.bool false, AV.int IntKind.i64 0, AV.bool false, AV.bool false,
        AV.int IntKind.i64 0, AV.bool false, AV.bool false])) := by kernel_rfl

theorem nat95 (n : Int) (h : okImm n = true) : dataC (exFnI (gX a4 { lits := [15], unroll := 6 }) Tryd.f9) [.int .i64 5, .int .i64 n] = some (true, valA (intL 5 n)) := by
  rw [xf95]
  first | rfl | (rw [h]; rfl) | (simp only [h]; rfl)
theorem xf96 (n : Int) : dataC (exFnI (gX a4 { lits := [15], unroll := 6 }) Tryd.f9) [AV.int IntKind.i64 6, AV.int IntKind.i64 n] = (
 let q0 : Bool := sAnd true (sIf true (sAnd true (sIf true (sAnd (sAnd true (sIf true (sAnd true (sAnd true (sAnd true (sAnd (sAnd true (sAnd (sAnd true (sIf true (sAnd (sAnd (sAnd true (sAnd true (sAnd true (sAnd (sAnd true (okImm n)) true)))) true) true) true)) true)) true)))) true)) true) true)) true);
  some
  (sAnd
      (sAnd true
        (sIf true
          (sAnd true
            (sIf true
              (sAnd
                (sAnd true
                  (sAnd true
                    (sAnd
                      (sAnd true
                        (sAnd
                          (sAnd true
                            (sIf true
                              (sAnd true
                                (sIf true
                                  (sAnd (sAnd true (sIf true (sAnd q0 (sIf true (sAnd q0 true) true)) true)) true)
                                  true))
                              true))
                          true))
                      true)))
                true)
              true))
          true))
      true,
    AV.agg
      [AV.int IntKind.i64 6, AV.int IntKind.i64 0, AV.int IntKind.i64 (wV 3 n), AV.bool false, AV.bool false,
        AV.int IntKind.i64 (wV 3 n), AV.bool false, AV.bool false, AV.int IntKind.i64 0, AV.bool false, AV.bool false,
        AV.int IntKind.i64 0, AV.bool false, AV.bool false])) := by kernel_rfl

theorem nat96 (n : Int) (h : okImm n = true) : dataC (exFnI (gX a4 { lits := [15], unroll := 6 }) Tryd.f9) [.int .i64 6, .int .i64 n] = some (true, valA (intL 6 n)) := by
  rw [xf96]
  first | rfl | (rw [h]; rfl) | (simp only [h]; rfl)
theorem xf97 (n : Int) : dataC (exFnI (gX a4 { lits := [15], unroll := 6 }) Tryd.f9) [AV.int IntKind.i64 7, AV.int IntKind.i64 n] = (
 let q0 : Bool := sAnd true (sIf true (sAnd true (sIf true (sAnd (sAnd true (sIf true (sAnd true (sAnd true (sAnd true (sAnd (sAnd true (sAnd (sAnd true (sIf true (sAnd (sAnd (sAnd true (sAnd true (sAnd true (sAnd (sAnd true (okImm n)) true)))) true) true) true)) true)) true)))) true)) true) true)) true);
  some
  (sAnd
      (sAnd true
        (sIf true
          (sAnd true
            (sIf true
              (sAnd
                (sAnd true
                  (sAnd true
                    (sAnd
                      (sAnd true
                        (sAnd
                          (sAnd true
                            (sIf true
                              (sAnd true
                                (sIf true
                                  (sAnd
                                    (sAnd true
                                      (sIf true
                                        (sAnd q0
                                          (sIf true (sAnd q0 (sIf true (sAnd q0 (sIf true (sAnd q0 true) true)) true))
                                            true))
                                        true))
                                    true)
                                  true))
                              true))
                          true))
                      true)))
                true)
              true))
          true))
      true,
    AV.agg
      [AV.int IntKind.i64 7, AV.int IntKind.i64 0, AV.int IntKind.i64 (wV 3 n), AV.bool false, AV.bool false,
        AV.int IntKind.i64 (wV 3 n), AV.bool false, AV.bool false, AV.int IntKind.i64 (wV 3 n), AV.bool false,
        AV.bool false, AV.int IntKind.i64 (wV 3 n), AV.bool false, AV.bool false])) := by kernel_rfl

theorem nat97 (n : Int) (h : okImm n = true) : dataC (exFnI (gX a4 { lits := [15], unroll := 6 }) Tryd.f9) [.int .i64 7, .int .i64 n] = some (true, valA (intL 7 n)) := by
  rw [xf97]
  first | rfl | (rw [h]; rfl) | (simp only [h]; rfl)
theorem xf98 (t : Int) (n : Int) : dataC (exFnI (gX a4 { orc := [(15, true)] }) Tryd.f9) [AV.int IntKind.i64 t, AV.int IntKind.i64 n] = (
 let q0 : Bool := sIf (sNot (intV t)) (sNe t 6) false;
  let q1 : Bool := sNot q0;
  some
  (sAnd
      (sAnd true
        (sIf true
          (sAnd
            (sAnd true
              (sAnd true
                (sAnd true
                  (sAnd true
                    (sAnd (sOr (sNot (sNot (intV t))) true)
                      (sAnd (sOr (sNot (sNot (intV t))) (sAnd (sAnd (sNot (intV t)) true) true))
                        (sAnd (sAnd true (sIf (sNot (intV t)) (sNot (intV t)) true))
                          (sAnd true
                            (sAnd (sOr q1 true)
                              (sAnd (sOr q1 (sAnd (sAnd q0 true) true))
                                (sAnd (sAnd true (sIf q0 q0 true)) true)))))))))))
            (sIf true (sAnd (sAnd true (sIf q0 (sNe t 7) false)) true) true))
          true))
      true,
    AV.agg
      [AV.int IntKind.i64 0, AV.int IntKind.i64 0, AV.int IntKind.i64 0, AV.bool false, AV.bool false,
        AV.int IntKind.i64 0, AV.bool false, AV.bool false, AV.int IntKind.i64 0, AV.bool false, AV.bool false,
        AV.int IntKind.i64 0, AV.bool false, AV.bool false])) := by kernel_rfl

theorem nat98 (t n : Int) (o : Oth t) : dataC (exFnI (gX a4 { orc := [(15, true)] }) Tryd.f9) [.int .i64 t, .int .i64 n] = some (true, valA (intL t n)) := by
  rw [xf98, o.int0, o.n6, o.n7, show intL t n = zeroV from if_pos (.inl o.nl)]
  rfl
theorem xk9 (hm : Tryd.prog.follows .mixedOrders = true) : KOk E0 9 xm9 := KOk.any (ent Tryd.func9 (by decide) (by rfl)) (by
  intro xs r h
  unfold xm9 at h
  split at h
  · rename_i t n
    simp only [Option.some.injEq, Prod.mk.injEq] at h
    obtain ⟨h, rfl⟩ := h
    rcases typ t with rfl | rfl | rfl | rfl | rfl | rfl | rfl | o
    · exact ⟨_, ((ak4 hm).readI hm Tryd.func9 (ent Tryd.func9 (by decide) (by rfl)) { lits := [15], unroll := 6 }).data, (nat91 n h)⟩
    · exact ⟨_, ((ak4 hm).readI hm Tryd.func9 (ent Tryd.func9 (by decide) (by rfl)) { lits := [15], unroll := 6 }).data, (nat92 n h)⟩
    · exact ⟨_, ((ak4 hm).readI hm Tryd.func9 (ent Tryd.func9 (by decide) (by rfl)) { lits := [15], unroll := 6 }).data, (nat93 n h)⟩
    · exact ⟨_, ((ak4 hm).readI hm Tryd.func9 (ent Tryd.func9 (by decide) (by rfl)) { lits := [15], unroll := 6 }).data, (nat94 n h)⟩
    · exact ⟨_, ((ak4 hm).readI hm Tryd.func9 (ent Tryd.func9 (by decide) (by rfl)) { lits := [15], unroll := 6 }).data, (nat95 n h)⟩
    · exact ⟨_, ((ak4 hm).readI hm Tryd.func9 (ent Tryd.func9 (by decide) (by rfl)) { lits := [15], unroll := 6 }).data, (nat96 n h)⟩
    · exact ⟨_, ((ak4 hm).readI hm Tryd.func9 (ent Tryd.func9 (by decide) (by rfl)) { lits := [15], unroll := 6 }).data, (nat97 n h)⟩
    · exact ⟨_, ((ak4 hm).readI hm Tryd.func9 (ent Tryd.func9 (by decide) (by rfl)) { orc := [(15, true)] }).data, (nat98 t n o)⟩
  · cases h)
theorem xf101 (n : Int) : dataC (exFnI (gX a4 { lits := [17, 24], unroll := 6 }) Tryd.f10) [AV.int IntKind.i64 1, AV.int IntKind.i64 n] = (
 some
  (sAnd
      (sAnd true
        (sIf true
          (sAnd true
            (sIf true
              (sAnd true
                (sIf true
                  (sAnd
                    (sAnd true
                      (sIf true
                        (sAnd
                          (sAnd true
                            (sIf true
                              (sAnd (sAnd true (sAnd true (sAnd true (sAnd true (sAnd (sAnd true (okImm n)) true)))))
                                true)
                              true))
                          true)
                        true))
                    true)
                  true))
              true))
          true))
      true,
    AV.agg
      [AV.int IntKind.i64 1, AV.int IntKind.i64 0, AV.int IntKind.i64 (wV 1 n), AV.bool false, AV.bool false,
        AV.int IntKind.i64 0, AV.bool false, AV.bool false, AV.int IntKind.i64 0, AV.bool false, AV.bool false,
        AV.int IntKind.i64 0, AV.bool false, AV.bool false])) := by kernel_rfl

theorem nat101 (n : Int) (h : okImm n = true) : dataC (exFnI (gX a4 { lits := [17, 24], unroll := 6 }) Tryd.f10) [.int .i64 1, .int .i64 n] = some (true, valA (intL 1 n)) := by
  rw [xf101]
  first | rfl | (rw [h]; rfl) | (simp only [h]; rfl)
theorem xf102 (n : Int) : dataC (exFnI (gX a4 { lits := [17, 24], unroll := 6 }) Tryd.f10) [AV.int IntKind.i64 2, AV.int IntKind.i64 n] = (
 some
  (sAnd
      (sAnd true
        (sIf true
          (sAnd true
            (sIf true
              (sAnd true
                (sIf true
                  (sAnd
                    (sAnd true
                      (sIf true
                        (sAnd
                          (sAnd true
                            (sIf true
                              (sAnd (sAnd true (sAnd true (sAnd true (sAnd true (sAnd (sAnd true (okImm n)) true)))))
                                true)
                              true))
                          true)
                        true))
                    true)
                  true))
              true))
          true))
      true,
    AV.agg
      [AV.int IntKind.i64 2, AV.int IntKind.i64 0, AV.int IntKind.i64 (wV 2 n), AV.bool false, AV.bool false,
        AV.int IntKind.i64 0, AV.bool false, AV.bool false, AV.int IntKind.i64 0, AV.bool false, AV.bool false,
        AV.int IntKind.i64 0, AV.bool false, AV.bool false])) := by kernel_rfl

theorem nat102 (n : Int) (h : okImm n = true) : dataC (exFnI (gX a4 { lits := [17, 24], unroll := 6 }) Tryd.f10) [.int .i64 2, .int .i64 n] = some (true, valA (intL 2 n)) := by
  rw [xf102]
  first | rfl | (rw [h]; rfl) | (simp only [h]; rfl)
theorem xf103 (n : Int) : dataC (exFnI (gX a4 { lits := [17, 24], unroll := 6 }) Tryd.f10) [AV.int IntKind.i64 3, AV.int IntKind.i64 n] = (
 some
  (sAnd
      (sAnd true
        (sIf true
          (sAnd true
            (sIf true
              (sAnd true
                (sIf true
                  (sAnd
                    (sAnd true
                      (sIf true
                        (sAnd
                          (sAnd true
                            (sIf true
                              (sAnd (sAnd true (sAnd true (sAnd true (sAnd true (sAnd (sAnd true (okImm n)) true)))))
                                true)
                              true))
                          true)
                        true))
                    true)
                  true))
              true))
          true))
      true,
    AV.agg
      [AV.int IntKind.i64 3, AV.int IntKind.i64 0, AV.int IntKind.i64 (wV 3 n), AV.bool false, AV.bool false,
        AV.int IntKind.i64 0, AV.bool false, AV.bool false, AV.int IntKind.i64 0, AV.bool false, AV.bool false,
        AV.int IntKind.i64 0, AV.bool false, AV.bool false])) := by kernel_rfl

theorem nat103 (n : Int) (h : okImm n = true) : dataC (exFnI (gX a4 { lits := [17, 24], unroll := 6 }) Tryd.f10) [.int .i64 3, .int .i64 n] = some (true, valA (intL 3 n)) := by
  rw [xf103]
  first | rfl | (rw [h]; rfl) | (simp only [h]; rfl)
theorem xf104 (n : Int) : dataC (exFnI (gX a4 { lits := [17, 24], unroll := 6 }) Tryd.f10) [AV.int IntKind.i64 4, AV.int IntKind.i64 n] = (
 some
  (sAnd
      (sAnd true
        (sIf true
          (sAnd true
            (sIf true
              (sAnd true
                (sIf true
                  (sAnd
                    (sAnd true
                      (sIf true
                        (sAnd
                          (sAnd true
                            (sIf true
                              (sAnd (sAnd true (sAnd true (sAnd true (sAnd true (sAnd (sAnd true (okImm n)) true)))))
                                true)
                              true))
                          true)
                        true))
                    true)
                  true))
              true))
          true))
      true,
    AV.agg
      [AV.int IntKind.i64 4, AV.int IntKind.i64 0, AV.int IntKind.i64 (wV 4 n), AV.bool false, AV.bool false,
        AV.int IntKind.i64 0, AV.bool false, AV.bool false, AV.int IntKind.i64 0, AV.bool false, AV.bool false,
        AV.int IntKind.i64 0, AV.bool false, AV.bool false])) := by kernel_rfl

theorem nat104 (n : Int) (h : okImm n = true) : dataC (exFnI (gX a4 { lits := [17, 24], unroll := 6 }) Tryd.f10) [.int .i64 4, .int .i64 n] = some (true, valA (intL 4 n)) := by
  rw [xf104]
  first | rfl | (rw [h]; rfl) | (simp only [h]; rfl)
theorem xf105 (n : Int) : dataC (exFnI (gX a4 { lits := [17, 24], unroll := 6 }) Tryd.f10) [AV.int IntKind.i64 5, AV.int IntKind.i64 n] = (
 some
  (true,
    AV.agg
      [AV.int IntKind.i64 0, AV.int IntKind.i64 0, AV.int IntKind.i64 0, AV.bool false, AV.bool false,
        AV.int IntKind.i64 0, AV.bool false, AV.bool false, AV.int IntKind.i64 0, AV.bool false, AV.bool false,
        AV.int IntKind.i64 0, AV.bool false, AV.bool false])) := by kernel_rfl

theorem nat105 (n : Int) (h : okImm n = true) : dataC (exFnI (gX a4 { lits := [17, 24], unroll := 6 }) Tryd.f10) [.int .i64 5, .int .i64 n] = some (true, valA (intL 5 n)) := by
  rw [xf105]
  first | rfl | (rw [h]; rfl) | (simp only [h]; rfl)
theorem xf106 (n : Int) : dataC (exFnI (gX a4 { lits := [17, 24], unroll := 6 }) Tryd.f10) [AV.int IntKind.i64 6, AV.int IntKind.i64 n] = (
 let q0 : Bool := sAnd true (sIf true (sAnd (sAnd true (sAnd true (sAnd true (sAnd true (sAnd (sAnd true (okImm n)) true))))) true) true);
  some
  (sAnd
      (sAnd true
        (sIf true
          (sAnd true
            (sIf true
              (sAnd true
                (sIf true (sAnd (sAnd true (sIf true (sAnd q0 (sIf true (sAnd q0 true) true)) true)) true) true))
              true))
          true))
      true,
    AV.agg
      [AV.int IntKind.i64 6, AV.int IntKind.i64 0, AV.int IntKind.i64 (wV 3 n), AV.bool false, AV.bool false,
        AV.int IntKind.i64 (wV 3 n), AV.bool false, AV.bool false, AV.int IntKind.i64 0, AV.bool false, AV.bool false,
        AV.int IntKind.i64 0, AV.bool false, AV.bool false])) := by kernel_rfl

theorem nat106 (n : Int) (h : okImm n = true) : dataC (exFnI (gX a4 { lits := [17, 24], unroll := 6 }) Tryd.f10) [.int .i64 6, .int .i64 n] = some (true, valA (intL 6 n)) := by
  rw [xf106]
  first | rfl | (rw [h]; rfl) | (simp only [h]; rfl)
theorem xf107 (n : Int) : dataC (exFnI (gX a4 { lits := [17, 24], unroll := 6 }) Tryd.f10) [AV.int IntKind.i64 7, AV.int IntKind.i64 n] = (
 let q0 : Bool := sAnd true (sIf true (sAnd (sAnd true (sAnd true (sAnd true (sAnd true (sAnd (sAnd true (okImm n)) true))))) true) true);
  some
  (sAnd
      (sAnd true
        (sIf true
          (sAnd true
            (sIf true
              (sAnd true
                (sIf true
                  (sAnd
                    (sAnd true
                      (sIf true
                        (sAnd q0 (sIf true (sAnd q0 (sIf true (sAnd q0 (sIf true (sAnd q0 true) true)) true)) true))
                        true))
                    true)
                  true))
              true))
          true))
      true,
    AV.agg
      [AV.int IntKind.i64 7, AV.int IntKind.i64 0, AV.int IntKind.i64 (wV 3 n), AV.bool false, AV.bool false,
        AV.int IntKind.i64 (wV 3 n), AV.bool false, AV.bool false, AV.int IntKind.i64 (wV 3 n), AV.bool false,
        AV.bool false, AV.int IntKind.i64 (wV 3 n), AV.bool false, AV.bool false])) := by kernel_rfl

theorem nat107 (n : Int) (h : okImm n = true) : dataC (exFnI (gX a4 { lits := [17, 24], unroll := 6 }) Tryd.f10) [.int .i64 7, .int .i64 n] = some (true, valA (intL 7 n)) := by
  rw [xf107]
  first | rfl | (rw [h]; rfl) | (simp only [h]; rfl)
theorem xf108 (t : Int) (n : Int) : dataC (exFnI (gX a4 { orc := [(17, true)] }) Tryd.f10) [AV.int IntKind.i64 t, AV.int IntKind.i64 n] = (
 let q0 : Bool := sIf (sNot (intV t)) (sNe t 6) false;
  let q1 : Bool := sNot q0;
  some
  (sAnd
      (sAnd true
        (sIf true
          (sAnd
            (sAnd true
              (sAnd true
                (sAnd true
                  (sAnd true
                    (sAnd (sOr (sNot (sNot (intV t))) true)
                      (sAnd (sOr (sNot (sNot (intV t))) (sAnd (sAnd (sNot (intV t)) true) true))
                        (sAnd (sAnd true (sIf (sNot (intV t)) (sNot (intV t)) true))
                          (sAnd true
                            (sAnd (sOr q1 true)
                              (sAnd (sOr q1 (sAnd (sAnd q0 true) true))
                                (sAnd (sAnd true (sIf q0 q0 true)) true)))))))))))
            (sIf true (sAnd (sAnd true (sIf q0 (sNe t 7) false)) true) true))
          true))
      true,
    AV.agg
      [AV.int IntKind.i64 0, AV.int IntKind.i64 0, AV.int IntKind.i64 0, AV.bool false, AV.bool false,
        AV.int IntKind.i64 0, AV.bool false, AV.bool false, AV.int IntKind.i64 0, AV.bool false, AV.bool false,
        AV.int IntKind.i64 0, AV.bool false, AV.bool false])) := by kernel_rfl

theorem nat108 (t n : Int) (o : Oth t) : dataC (exFnI (gX a4 { orc := [(17, true)] }) Tryd.f10) [.int .i64 t, .int .i64 n] = some (true, valA (intL t n)) := by
  rw [xf108, o.int0, o.n6, o.n7, show intL t n = zeroV from if_pos (.inl o.nl)]
  rfl
theorem xk10 (hm : Tryd.prog.follows .mixedOrders = true) : KOk E0 10 xm9 := KOk.any (ent Tryd.func10 (by decide) (by rfl)) (by
  intro xs r h
  unfold xm9 at h
  split at h
  · rename_i t n
    simp only [Option.some.injEq, Prod.mk.injEq] at h
    obtain ⟨h, rfl⟩ := h
    rcases typ t with rfl | rfl | rfl | rfl | rfl | rfl | rfl | o
    · exact ⟨_, ((ak4 hm).readI hm Tryd.func10 (ent Tryd.func10 (by decide) (by rfl)) { lits := [17, 24], unroll := 6 }).data, (nat101 n h)⟩
    · exact ⟨_, ((ak4 hm).readI hm Tryd.func10 (ent Tryd.func10 (by decide) (by rfl)) { lits := [17, 24], unroll := 6 }).data, (nat102 n h)⟩
    · exact ⟨_, ((ak4 hm).readI hm Tryd.func10 (ent Tryd.func10 (by decide) (by rfl)) { lits := [17, 24], unroll := 6 }).data, (nat103 n h)⟩
    · exact ⟨_, ((ak4 hm).readI hm Tryd.func10 (ent Tryd.func10 (by decide) (by rfl)) { lits := [17, 24], unroll := 6 }).data, (nat104 n h)⟩
    · exact ⟨_, ((ak4 hm).readI hm Tryd.func10 (ent Tryd.func10 (by decide) (by rfl)) { lits := [17, 24], unroll := 6 }).data, (nat105 n h)⟩
    · exact ⟨_, ((ak4 hm).readI hm Tryd.func10 (ent Tryd.func10 (by decide) (by rfl)) { lits := [17, 24], unroll := 6 }).data, (nat106 n h)⟩
    · exact ⟨_, ((ak4 hm).readI hm Tryd.func10 (ent Tryd.func10 (by decide) (by rfl)) { lits := [17, 24], unroll := 6 }).data, (nat107 n h)⟩
    · exact ⟨_, ((ak4 hm).readI hm Tryd.func10 (ent Tryd.func10 (by decide) (by rfl)) { orc := [(17, true)] }).data, (nat108 t n o)⟩
  · cases h)
theorem nat111 : dataC (exFnI (gX a4 { lits := [5], unroll := 6 }) Tryd.f11) [.int .i64 1] = some (true, valA (poiL 1)) := by kernel_rfl
theorem nat112 : dataC (exFnI (gX a4 { lits := [5], unroll := 6 }) Tryd.f11) [.int .i64 2] = some (true, valA (poiL 2)) := by kernel_rfl
theorem nat113 : dataC (exFnI (gX a4 { lits := [5], unroll := 6 }) Tryd.f11) [.int .i64 3] = some (true, valA (poiL 3)) := by kernel_rfl
theorem nat114 : dataC (exFnI (gX a4 { lits := [5], unroll := 6 }) Tryd.f11) [.int .i64 4] = some (true, valA (poiL 4)) := by kernel_rfl
theorem nat115 : dataC (exFnI (gX a4 { lits := [5], unroll := 6 }) Tryd.f11) [.int .i64 5] = some (true, valA (poiL 5)) := by kernel_rfl
theorem nat116 : dataC (exFnI (gX a4 { lits := [5], unroll := 6 }) Tryd.f11) [.int .i64 6] = some (true, valA (poiL 6)) := by kernel_rfl
theorem nat117 : dataC (exFnI (gX a4 { lits := [5], unroll := 6 }) Tryd.f11) [.int .i64 7] = some (true, valA (poiL 7)) := by kernel_rfl
theorem xf118 (t : Int) : dataC (exFnI (gX a4 { orc := [(5, true)] }) Tryd.f11) [AV.int IntKind.i64 t] = (
 some
  (sAnd (sAnd true (sIf true (sAnd true (sIf true (sAnd (sAnd true (sEq (nlV t) 0)) true) true)) true)) true,
    AV.agg
      [AV.int IntKind.i64 0, AV.int IntKind.i64 0, AV.int IntKind.i64 0, AV.bool false, AV.bool false,
        AV.int IntKind.i64 0, AV.bool false, AV.bool false, AV.int IntKind.i64 0, AV.bool false, AV.bool false,
        AV.int IntKind.i64 0, AV.bool false, AV.bool false])) := by kernel_rfl

theorem nat118 (t : Int) (o : Oth t) : dataC (exFnI (gX a4 { orc := [(5, true)] }) Tryd.f11) [.int .i64 t] = some (true, valA (poiL t)) := by
  rw [xf118, o.nl0, show poiL t = zeroV from if_pos o.nl]
  rfl
theorem xk11 (hm : Tryd.prog.follows .mixedOrders = true) : KOk E0 11 xm11 := KOk.any (ent Tryd.func11 (by decide) (by rfl)) (by
  intro xs r h
  unfold xm11 at h
  split at h
  · rename_i t
    simp only [Option.some.injEq, Prod.mk.injEq, true_and] at h
    subst h
    rcases typ t with rfl | rfl | rfl | rfl | rfl | rfl | rfl | o
    · exact ⟨_, ((ak4 hm).readI hm Tryd.func11 (ent Tryd.func11 (by decide) (by rfl)) { lits := [5], unroll := 6 }).data, nat111⟩
    · exact ⟨_, ((ak4 hm).readI hm Tryd.func11 (ent Tryd.func11 (by decide) (by rfl)) { lits := [5], unroll := 6 }).data, nat112⟩
    · exact ⟨_, ((ak4 hm).readI hm Tryd.func11 (ent Tryd.func11 (by decide) (by rfl)) { lits := [5], unroll := 6 }).data, nat113⟩
    · exact ⟨_, ((ak4 hm).readI hm Tryd.func11 (ent Tryd.func11 (by decide) (by rfl)) { lits := [5], unroll := 6 }).data, nat114⟩
    · exact ⟨_, ((ak4 hm).readI hm Tryd.func11 (ent Tryd.func11 (by decide) (by rfl)) { lits := [5], unroll := 6 }).data, nat115⟩
    · exact ⟨_, ((ak4 hm).readI hm Tryd.func11 (ent Tryd.func11 (by decide) (by rfl)) { lits := [5], unroll := 6 }).data, nat116⟩
    · exact ⟨_, ((ak4 hm).readI hm Tryd.func11 (ent Tryd.func11 (by decide) (by rfl)) { lits := [5], unroll := 6 }).data, nat117⟩
    · exact ⟨_, ((ak4 hm).readI hm Tryd.func11 (ent Tryd.func11 (by decide) (by rfl)) { orc := [(5, true)] }).data, (nat118 t o)⟩
  · cases h)
theorem nat121 : dataC (exFnI (gX a4 { lits := [7, 14], unroll := 6 }) Tryd.f12) [.int .i64 1] = some (true, valA (poiL 1)) := by kernel_rfl
theorem nat122 : dataC (exFnI (gX a4 { lits := [7, 14], unroll := 6 }) Tryd.f12) [.int .i64 2] = some (true, valA (poiL 2)) := by kernel_rfl
theorem nat123 : dataC (exFnI (gX a4 { lits := [7, 14], unroll := 6 }) Tryd.f12) [.int .i64 3] = some (true, valA (poiL 3)) := by kernel_rfl
theorem nat124 : dataC (exFnI (gX a4 { lits := [7, 14], unroll := 6 }) Tryd.f12) [.int .i64 4] = some (true, valA (poiL 4)) := by kernel_rfl
theorem nat125 : dataC (exFnI (gX a4 { lits := [7, 14], unroll := 6 }) Tryd.f12) [.int .i64 5] = some (true, valA (poiL 5)) := by kernel_rfl
theorem nat126 : dataC (exFnI (gX a4 { lits := [7, 14], unroll := 6 }) Tryd.f12) [.int .i64 6] = some (true, valA (poiL 6)) := by kernel_rfl
theorem nat127 : dataC (exFnI (gX a4 { lits := [7, 14], unroll := 6 }) Tryd.f12) [.int .i64 7] = some (true, valA (poiL 7)) := by kernel_rfl
theorem xf128 (t : Int) : dataC (exFnI (gX a4 { orc := [(7, true)] }) Tryd.f12) [AV.int IntKind.i64 t] = (
 some
  (sAnd (sAnd true (sIf true (sAnd true (sIf true (sAnd (sAnd true (sEq (nlV t) 0)) true) true)) true)) true,
    AV.agg
      [AV.int IntKind.i64 0, AV.int IntKind.i64 0, AV.int IntKind.i64 0, AV.bool false, AV.bool false,
        AV.int IntKind.i64 0, AV.bool false, AV.bool false, AV.int IntKind.i64 0, AV.bool false, AV.bool false,
        AV.int IntKind.i64 0, AV.bool false, AV.bool false])) := by kernel_rfl

theorem nat128 (t : Int) (o : Oth t) : dataC (exFnI (gX a4 { orc := [(7, true)] }) Tryd.f12) [.int .i64 t] = some (true, valA (poiL t)) := by
  rw [xf128, o.nl0, show poiL t = zeroV from if_pos o.nl]
  rfl
theorem xk12 (hm : Tryd.prog.follows .mixedOrders = true) : KOk E0 12 xm11 := KOk.any (ent Tryd.func12 (by decide) (by rfl)) (by
  intro xs r h
  unfold xm11 at h
  split at h
  · rename_i t
    simp only [Option.some.injEq, Prod.mk.injEq, true_and] at h
    subst h
    rcases typ t with rfl | rfl | rfl | rfl | rfl | rfl | rfl | o
    · exact ⟨_, ((ak4 hm).readI hm Tryd.func12 (ent Tryd.func12 (by decide) (by rfl)) { lits := [7, 14], unroll := 6 }).data, nat121⟩
    · exact ⟨_, ((ak4 hm).readI hm Tryd.func12 (ent Tryd.func12 (by decide) (by rfl)) { lits := [7, 14], unroll := 6 }).data, nat122⟩
    · exact ⟨_, ((ak4 hm).readI hm Tryd.func12 (ent Tryd.func12 (by decide) (by rfl)) { lits := [7, 14], unroll := 6 }).data, nat123⟩
    · exact ⟨_, ((ak4 hm).readI hm Tryd.func12 (ent Tryd.func12 (by decide) (by rfl)) { lits := [7, 14], unroll := 6 }).data, nat124⟩
    · exact ⟨_, ((ak4 hm).readI hm Tryd.func12 (ent Tryd.func12 (by decide) (by rfl)) { lits := [7, 14], unroll := 6 }).data, nat125⟩
    · exact ⟨_, ((ak4 hm).readI hm Tryd.func12 (ent Tryd.func12 (by decide) (by rfl)) { lits := [7, 14], unroll := 6 }).data, nat126⟩
    · exact ⟨_, ((ak4 hm).readI hm Tryd.func12 (ent Tryd.func12 (by decide) (by rfl)) { lits := [7, 14], unroll := 6 }).data, nat127⟩
    · exact ⟨_, ((ak4 hm).readI hm Tryd.func12 (ent Tryd.func12 (by decide) (by rfl)) { orc := [(7, true)] }).data, (nat128 t o)⟩
  · cases h)
theorem xf13 (o : Int) (n : Int) : dataC (exFnI (gX a4) Tryd.f13) [AV.int IntKind.i64 o, AV.int IntKind.i64 n] = (
 let q0 : Bool := sLt o (-1);
  let q1 : Bool := (Tg.mix q0 Tg.r Tg.n).isN;
  some
  (sAnd (sAnd true (sIf true (sAnd (sAnd true (sIf true (sAnd true (sIf q0 true true)) true)) (sIf q1 true true)) true))
      true,
    AV.agg
      [AV.int IntKind.i64 (sIf q1 5 0), AV.int IntKind.i64 (sIf q1 o 0), AV.int IntKind.i64 (sIf q1 n 0),
        AV.bool (sIf q1 false false), AV.bool (sIf q1 false false), AV.int IntKind.i64 (sIf q1 0 0),
        AV.bool (sIf q1 false false), AV.bool (sIf q1 false false), AV.int IntKind.i64 (sIf q1 0 0),
        AV.bool (sIf q1 false false), AV.bool (sIf q1 false false), AV.int IntKind.i64 (sIf q1 0 0),
        AV.bool (sIf q1 false false), AV.bool (sIf q1 false false)])) := by kernel_rfl

theorem nat13 (o n : Int) : dataC (exFnI (gX a4) Tryd.f13) [.int .i64 o, .int .i64 n] = some (true, valA (ptrL o n)) := by
  rw [xf13]
  unfold ptrL
  by_cases h : o < -1
  · rw [sLt_true h, if_pos h]; rfl
  · rw [sLt_false h, if_neg h]; rfl
theorem xk13 (hm : Tryd.prog.follows .mixedOrders = true) : KOk E0 13 xm13 := KOk.any (ent Tryd.func13 (by decide) (by rfl)) (by
  intro xs r h
  unfold xm13 at h
  split at h
  · cases h
    exact ⟨_, ((ak4 hm).readI hm Tryd.func13 (ent Tryd.func13 (by decide) (by rfl)) {}).data, nat13 _ _⟩
  · cases h)
theorem xf14 (o : Int) (n : Int) : dataC (exFnI (gX a4) Tryd.f14) [AV.int IntKind.i64 o, AV.int IntKind.i64 n] = (
 let q0 : Bool := sLt o (-1);
  let q1 : Bool := (Tg.mix q0 Tg.r Tg.n).isN;
  some
  (sAnd (sAnd true (sIf true (sAnd (sAnd true (sIf true (sAnd true (sIf q0 true true)) true)) (sIf q1 true true)) true))
      true,
    AV.agg
      [AV.int IntKind.i64 (sIf q1 5 0), AV.int IntKind.i64 (sIf q1 o 0), AV.int IntKind.i64 (sIf q1 n 0),
        AV.bool (sIf q1 false false), AV.bool (sIf q1 false false), AV.int IntKind.i64 (sIf q1 0 0),
        AV.bool (sIf q1 false false), AV.bool (sIf q1 false false), AV.int IntKind.i64 (sIf q1 0 0),
        AV.bool (sIf q1 false false), AV.bool (sIf q1 false false), AV.int IntKind.i64 (sIf q1 0 0),
        AV.bool (sIf q1 false false), AV.bool (sIf q1 false false)])) := by kernel_rfl

theorem nat14 (o n : Int) : dataC (exFnI (gX a4) Tryd.f14) [.int .i64 o, .int .i64 n] = some (true, valA (ptrL o n)) := by
  rw [xf14]
  unfold ptrL
  by_cases h : o < -1
  · rw [sLt_true h, if_pos h]; rfl
  · rw [sLt_false h, if_neg h]; rfl
theorem xk14 (hm : Tryd.prog.follows .mixedOrders = true) : KOk E0 14 xm13 := KOk.any (ent Tryd.func14 (by decide) (by rfl)) (by
  intro xs r h
  unfold xm13 at h
  split at h
  · cases h
    exact ⟨_, ((ak4 hm).readI hm Tryd.func14 (ent Tryd.func14 (by decide) (by rfl)) {}).data, nat14 _ _⟩
  · cases h)
noncomputable def a5 : XTab := { a4 with k := (9, xm9) :: (10, xm9) :: (11, xm11) :: (12, xm11) :: (13, xm13) :: (14, xm13) :: a4.k }
theorem ak5 (hm : Tryd.prog.follows .mixedOrders = true) : XOk a5 := ((((((ak4 hm).consK (xk14 hm)).consK (xk13 hm)).consK (xk12 hm)).consK (xk11 hm)).consK (xk10 hm)).consK (xk9 hm)
end Go.Proofs.YtnjofponcdcfcaaDoor
