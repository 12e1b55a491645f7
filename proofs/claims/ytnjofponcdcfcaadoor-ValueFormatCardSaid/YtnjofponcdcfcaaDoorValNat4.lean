/- Which values are valid. No conditions. -/
import Derived.Test.YtnjofponcdcfcaaDoorValNat3
set_option linter.all false
namespace Go.Proofs.YtnjofponcdcfcaaDoor
open Go Ab
set_option maxRecDepth 100000
theorem sEq_self (a : Int) : sEq a a = true := by simp [sEq]
theorem sEqB_self (a : Bool) : sEqB a a = true := by cases a <;> rfl
def zL (l : Lane) : Bool := sAnd (sEq l.n 0) (sAnd (sEqB l.p false) (sAnd (sEqB l.u false) true))
/-- Whether a lane is valid for an integer type. -/
def vlV (l : Lane) (t : Int) : Bool := sIf (sIf l.p true l.u) (sIf (sAnd (sEq l.n 0) (sAnd (sEqB l.p true) (sAnd (sEqB l.u false) true))) true (sAnd (sEq l.n 0) (sAnd (sEqB l.p false) (sAnd (sEqB l.u true) true)))) (sEq (wV t l.n) l.n)
theorem xf54 (l : Lane) (t : Int) : exFn (gX a5) Tryd.f54 [laneA l, AV.int IntKind.i64 t] = (
 let q0 : Bool := sEq l.n 0;
  let q1 : Bool := sAnd q0 (sAnd (sEqB l.p true) (sAnd (sEqB l.u false) true));
  let q2 : Bool := sNot q1;
  let q3 : Bool := sNot q2;
  let q4 : Bool := sOr q3 true;
  let q5 : Bool := (Tg.mix (sIf l.p true l.u) Tg.r Tg.n).isN;
  some
  (sAnd true
      (sIf true
        (sAnd
          (sAnd
            (sAnd true
              (sAnd true
                (sAnd true
                  (sAnd (sOr (sNot (sNot l.p)) true)
                    (sAnd (sOr (sNot (sNot l.p)) (sNot l.p)) (sAnd (sAnd true (sIf l.p true (sNot l.p))) true))))))
            (sIf true
              (sAnd true
                (sIf (sIf l.p true l.u)
                  (sAnd
                    (sAnd true
                      (sAnd true
                        (sAnd true
                          (sAnd true
                            (sAnd q4
                              (sAnd q4
                                (sAnd (sOr q3 (sAnd (sAnd q2 q2) true)) (sAnd (sAnd true (sIf q1 true q2)) true))))))))
                    true)
                  true))
              true))
          (sIf q5 (sAnd (sAnd (sAnd true (sAnd true (sAnd true (sAnd (sAnd true (okImm l.n)) true)))) true) true) true))
        true),
    AV.bool (sIf q5 (sEq (wV t l.n) l.n) (sIf q1 true (sAnd q0 (sAnd (sEqB l.p false) (sAnd (sEqB l.u true) true))))))) := by kernel_rfl

theorem nat54 (l : Lane) (t : Int) (h : okImm l.n = true) : exFn (gX a5) Tryd.f54 [laneA l, .int .i64 t] = some (true, .bool (vlV l t)) := by
  rw [xf54]
  unfold vlV
  simp only [h]
  generalize sEq l.n 0 = z
  generalize sEq (wV t l.n) l.n = w
  cases l.p <;> cases l.u <;> cases z <;> rfl
def cm54 (F : Lane → Int → Bool) (ok : Lane → Bool) : List AV → Option (Bool × AV)
  | [l, .int .i64 t] => (asLane l).bind fun l => some (ok l, .bool (F l t))
  | _ => none
noncomputable def c1 (F : Lane → Int → Bool) (ok : Lane → Bool) : XTab := { a5 with k := (54, cm54 F ok) :: a5.k }
def okL (l : Lane) : Bool := okImm l.n
theorem xk54 (hm : Tryd.prog.follows .mixedOrders = true) : KOk E0 54 (cm54 vlV okL) := (ak5 hm).read hm Tryd.func54 (ent Tryd.func54 (by decide) (by rfl)) {} (by
  intro xs r h
  unfold cm54 at h
  split at h
  · simp only [Option.bind_eq_some_iff, Option.some.injEq, Prod.mk.injEq] at h
    obtain ⟨l, hl, h, rfl⟩ := h
    rw [asLane_eq hl]
    exact nat54 _ _ h
  · cases h)
theorem ck1 (hm : Tryd.prog.follows .mixedOrders = true) : XOk (c1 vlV okL) := (ak5 hm).consK (xk54 hm)
theorem xf25 (F : Lane → Int → Bool) (ok : Lane → Bool) (v : Val) : exFn (gX (c1 F ok) { lits := [14], unroll := 6 }) Tryd.f25 [valA v] = (
 let q0 : Bool := sEq (nlV v.t) 0;
  let q1 : Bool := (Tg.mix q0 Tg.r Tg.n).isN;
  let q2 : Bool := sLt 0 (nlV v.t);
  let q3 : Bool := sNot q2;
  let q4 : Bool := sOr q3 true;
  let q5 : Bool := sOr q3 q2;
  let q6 : Bool := sAnd q2 true;
  let q7 : Bool := sIf q2 (sNot (F { n := v.a.n, p := v.a.p, u := v.a.u } (ltV v.t))) false;
  let q8 : Bool := sNot q7;
  let q9 : Bool := sNot q8;
  let q10 : Bool := sOr q9 true;
  let q11 : Bool := sLe (nlV v.t) 0;
  let q12 : Bool := sAnd q8 q11;
  let q13 : Bool := sNot q12;
  let q14 : Bool := sOr q13 true;
  let q15 : Bool := sIf q7 true (sIf q11 (sNot (sAnd (sEq v.a.n 0) (sAnd (sEqB v.a.p false) (sAnd (sEqB v.a.u false) true)))) false);
  let q16 : Tg := Tg.block 1 (Tg.mix q15 Tg.r Tg.n);
  let q17 : Tg := q16.thenN Tg.n;
  let q18 : Bool := q17.isN;
  let q19 : Int := IntKind.i64.wrap (0 + 1);
  let q20 : Bool := sLt q19 (nlV v.t);
  let q21 : Bool := sNot q20;
  let q22 : Bool := sOr q21 true;
  let q23 : Bool := sOr q21 q20;
  let q24 : Bool := sAnd q20 true;
  let q25 : Bool := sIf q20 (sNot (F { n := v.b.n, p := v.b.p, u := v.b.u } (ltV v.t))) false;
  let q26 : Bool := sNot q25;
  let q27 : Bool := sNot q26;
  let q28 : Bool := sOr q27 true;
  let q29 : Bool := sLe (nlV v.t) q19;
  let q30 : Bool := sAnd q26 q29;
  let q31 : Bool := sNot q30;
  let q32 : Bool := sOr q31 true;
  let q33 : Bool := sIf q25 true (sIf q29 (sNot (sAnd (sEq v.b.n 0) (sAnd (sEqB v.b.p false) (sAnd (sEqB v.b.u false) true)))) false);
  let q34 : Tg := Tg.block 1 (Tg.mix q33 Tg.r Tg.n);
  let q35 : Tg := q34.thenN Tg.n;
  let q36 : Bool := q35.isN;
  let q37 : Int := IntKind.i64.wrap (q19 + 1);
  let q38 : Bool := sLt q37 (nlV v.t);
  let q39 : Bool := sNot q38;
  let q40 : Bool := sOr q39 true;
  let q41 : Bool := sOr q39 q38;
  let q42 : Bool := sAnd q38 true;
  let q43 : Bool := sIf q38 (sNot (F { n := v.c.n, p := v.c.p, u := v.c.u } (ltV v.t))) false;
  let q44 : Bool := sNot q43;
  let q45 : Bool := sNot q44;
  let q46 : Bool := sOr q45 true;
  let q47 : Bool := sLe (nlV v.t) q37;
  let q48 : Bool := sAnd q44 q47;
  let q49 : Bool := sNot q48;
  let q50 : Bool := sOr q49 true;
  let q51 : Bool := sIf q43 true (sIf q47 (sNot (sAnd (sEq v.c.n 0) (sAnd (sEqB v.c.p false) (sAnd (sEqB v.c.u false) true)))) false);
  let q52 : Tg := Tg.block 1 (Tg.mix q51 Tg.r Tg.n);
  let q53 : Tg := q52.thenN Tg.n;
  let q54 : Bool := q53.isN;
  let q55 : Int := IntKind.i64.wrap (q37 + 1);
  let q56 : Bool := sLt q55 (nlV v.t);
  let q57 : Bool := sNot q56;
  let q58 : Bool := sOr q57 true;
  let q59 : Bool := sOr q57 q56;
  let q60 : Bool := sAnd q56 true;
  let q61 : Bool := sIf q56 (sNot (F { n := v.d.n, p := v.d.p, u := v.d.u } (ltV v.t))) false;
  let q62 : Bool := sNot q61;
  let q63 : Bool := sNot q62;
  let q64 : Bool := sOr q63 true;
  let q65 : Bool := sLe (nlV v.t) q55;
  let q66 : Bool := sAnd q62 q65;
  let q67 : Bool := sNot q66;
  let q68 : Bool := sOr q67 true;
  let q69 : Bool := sIf q61 true (sIf q65 (sNot (sAnd (sEq v.d.n 0) (sAnd (sEqB v.d.p false) (sAnd (sEqB v.d.u false) true)))) false);
  let q70 : Tg := Tg.block 1 (Tg.mix q69 Tg.r Tg.n);
  let q71 : Tg := q70.thenN Tg.n;
  let q72 : Bool := (Tg.block 0 (q17.thenN (q35.thenN (q53.thenN (q71.thenN (Tg.x 0)))))).isN;
  let q73 : Bool := sNot (sEq v.t 5);
  let q74 : Bool := sOr q73 (sEq v.t 5);
  let q75 : Bool := sIf (sEq v.t 5) (sNot v.a.p) false;
  let q76 : Bool := (Tg.mix q75 Tg.r Tg.n).isN;
  some
  (sAnd true
      (sIf true
        (sAnd true
          (sIf true
            (sAnd (sAnd true (sIf true (sAnd true (sIf q0 true true)) true))
              (sIf q1
                (sAnd
                  (sAnd true
                    (sIf true
                      (sAnd
                        (sAnd true
                          (sIf true
                            (sAnd true
                              (sIf true
                                (sAnd
                                  (sAnd true
                                    (sIf true
                                      (sAnd
                                        (sAnd
                                          (sAnd true
                                            (sAnd true
                                              (sAnd true
                                                (sAnd true
                                                  (sAnd q4
                                                    (sAnd q4
                                                      (sAnd q5
                                                        (sAnd (sOr q3 (sAnd q6 true))
                                                          (sAnd
                                                            (sOr q3
                                                              (sAnd (sAnd q2 q6)
                                                                (ok { n := v.a.n, p := v.a.p, u := v.a.u })))
                                                            (sAnd q5
                                                              (sAnd (sAnd true (sIf q2 q2 true))
                                                                (sAnd true
                                                                  (sAnd q10
                                                                    (sAnd q10
                                                                      (sAnd (sOr q9 (sAnd (sAnd q8 q8) true))
                                                                        (sAnd (sOr q9 q8)
                                                                          (sAnd q14
                                                                            (sAnd q14
                                                                              (sAnd (sOr q13 (sAnd (sAnd q12 q12) true))
                                                                                (sAnd
                                                                                  (sOr q9 (sAnd q8 (sIf q11 q12 true)))
                                                                                  (sAnd (sAnd true (sIf q7 true q8))
                                                                                    true)))))))))))))))))))))
                                          true)
                                        (sIf true (sAnd true (sIf q15 true true)) true))
                                      true))
                                  (sIf q16.isN true true))
                                true))
                            true))
                        (sIf q18
                          (sAnd
                            (sAnd true
                              (sIf true
                                (sAnd true
                                  (sIf true
                                    (sAnd
                                      (sAnd true
                                        (sIf true
                                          (sAnd
                                            (sAnd
                                              (sAnd true
                                                (sAnd true
                                                  (sAnd true
                                                    (sAnd true
                                                      (sAnd q22
                                                        (sAnd q22
                                                          (sAnd q23
                                                            (sAnd (sOr q21 (sAnd q24 true))
                                                              (sAnd
                                                                (sOr q21
                                                                  (sAnd (sAnd q20 q24)
                                                                    (ok { n := v.b.n, p := v.b.p, u := v.b.u })))
                                                                (sAnd q23
                                                                  (sAnd (sAnd true (sIf q20 q20 true))
                                                                    (sAnd true
                                                                      (sAnd q28
                                                                        (sAnd q28
                                                                          (sAnd (sOr q27 (sAnd (sAnd q26 q26) true))
                                                                            (sAnd (sOr q27 q26)
                                                                              (sAnd q32
                                                                                (sAnd q32
                                                                                  (sAnd
                                                                                    (sOr q31 (sAnd (sAnd q30 q30) true))
                                                                                    (sAnd
                                                                                      (sOr q27
                                                                                        (sAnd q26 (sIf q29 q30 true)))
                                                                                      (sAnd
                                                                                        (sAnd true (sIf q25 true q26))
                                                                                        true)))))))))))))))))))))
                                              true)
                                            (sIf true (sAnd true (sIf q33 true true)) true))
                                          true))
                                      (sIf q34.isN true true))
                                    true))
                                true))
                            (sIf q36
                              (sAnd
                                (sAnd true
                                  (sIf true
                                    (sAnd true
                                      (sIf true
                                        (sAnd
                                          (sAnd true
                                            (sIf true
                                              (sAnd
                                                (sAnd
                                                  (sAnd true
                                                    (sAnd true
                                                      (sAnd true
                                                        (sAnd true
                                                          (sAnd q40
                                                            (sAnd q40
                                                              (sAnd q41
                                                                (sAnd (sOr q39 (sAnd q42 true))
                                                                  (sAnd
                                                                    (sOr q39
                                                                      (sAnd (sAnd q38 q42)
                                                                        (ok { n := v.c.n, p := v.c.p, u := v.c.u })))
                                                                    (sAnd q41
                                                                      (sAnd (sAnd true (sIf q38 q38 true))
                                                                        (sAnd true
                                                                          (sAnd q46
                                                                            (sAnd q46
                                                                              (sAnd (sOr q45 (sAnd (sAnd q44 q44) true))
                                                                                (sAnd (sOr q45 q44)
                                                                                  (sAnd q50
                                                                                    (sAnd q50
                                                                                      (sAnd
                                                                                        (sOr q49
                                                                                          (sAnd (sAnd q48 q48) true))
                                                                                        (sAnd
                                                                                          (sOr q45
                                                                                            (sAnd q44
                                                                                              (sIf q47 q48 true)))
                                                                                          (sAnd
                                                                                            (sAnd true
                                                                                              (sIf q43 true q44))
                                                                                            true)))))))))))))))))))))
                                                  true)
                                                (sIf true (sAnd true (sIf q51 true true)) true))
                                              true))
                                          (sIf q52.isN true true))
                                        true))
                                    true))
                                (sIf q54
                                  (sAnd
                                    (sAnd true
                                      (sIf true
                                        (sAnd true
                                          (sIf true
                                            (sAnd
                                              (sAnd true
                                                (sIf true
                                                  (sAnd
                                                    (sAnd
                                                      (sAnd true
                                                        (sAnd true
                                                          (sAnd true
                                                            (sAnd true
                                                              (sAnd q58
                                                                (sAnd q58
                                                                  (sAnd q59
                                                                    (sAnd (sOr q57 (sAnd q60 true))
                                                                      (sAnd
                                                                        (sOr q57
                                                                          (sAnd (sAnd q56 q60)
                                                                            (ok
                                                                              { n := v.d.n, p := v.d.p, u := v.d.u })))
                                                                        (sAnd q59
                                                                          (sAnd (sAnd true (sIf q56 q56 true))
                                                                            (sAnd true
                                                                              (sAnd q64
                                                                                (sAnd q64
                                                                                  (sAnd
                                                                                    (sOr q63 (sAnd (sAnd q62 q62) true))
                                                                                    (sAnd (sOr q63 q62)
                                                                                      (sAnd q68
                                                                                        (sAnd q68
                                                                                          (sAnd
                                                                                            (sOr q67
                                                                                              (sAnd (sAnd q66 q66)
                                                                                                true))
                                                                                            (sAnd
                                                                                              (sOr q63
                                                                                                (sAnd q62
                                                                                                  (sIf q65 q66 true)))
                                                                                              (sAnd
                                                                                                (sAnd true
                                                                                                  (sIf q61 true q62))
                                                                                                true)))))))))))))))))))))
                                                      true)
                                                    (sIf true (sAnd true (sIf q69 true true)) true))
                                                  true))
                                              (sIf q70.isN true true))
                                            true))
                                        true))
                                    (sIf q71.isN true true))
                                  true))
                              true))
                          true))
                      true))
                  (sIf q72
                    (sAnd
                      (sAnd
                        (sAnd true
                          (sAnd true
                            (sAnd true
                              (sAnd true
                                (sAnd (sOr q73 true)
                                  (sAnd (sOr q73 (sAnd (sAnd (sEq v.t 5) true) true))
                                    (sAnd q74
                                      (sAnd q74
                                        (sAnd q74 (sAnd (sAnd true (sIf (sEq v.t 5) (sEq v.t 5) true)) true))))))))))
                        (sIf true (sAnd true (sIf q75 true true)) true))
                      (sIf q76 true true))
                    true))
                true))
            true))
        true),
    AV.bool
      (sIf q1 (sIf q72 (sIf q76 (sEq v.o 0) (sLe (-1) v.o)) (sIf q18 (sIf q36 (sIf q54 false false) false) false))
        false))) := by kernel_rfl

/-- Lane k of a value of type t is not as it should. -/
def lb (F : Lane → Int → Bool) (t k : Int) (l : Lane) : Bool := sIf (sLt k (nlV t)) (sNot (F l (ltV t))) (sNot (zL l))
def validG (F : Lane → Int → Bool) (v : Val) : Bool :=
  sIf (sEq (nlV v.t) 0) false (sIf (lb F v.t 0 v.a) false (sIf (lb F v.t 1 v.b) false (sIf (lb F v.t 2 v.c) false (sIf (lb F v.t 3 v.d) false (sIf (sIf (sEq v.t 5) (sNot v.a.p) false) (sLe (-1) v.o) (sEq v.o 0))))))
theorem le_not (n k : Int) : sLe n k = sNot (sLt k n) := by
  by_cases h : k < n
  · rw [sLt_true h, sLe_false (by omega)]; rfl
  · rw [sLt_false h, sLe_true (by omega)]; rfl
theorem nat25 (F : Lane → Int → Bool) (v : Val) (ok : Lane → Bool) (ha : ok v.a = true) (hb : ok v.b = true) (hc : ok v.c = true) (hd : ok v.d = true) :
    exFn (gX (c1 F ok) { lits := [14], unroll := 6 }) Tryd.f25 [valA v] = some (true, .bool (validG F v)) := by
  rw [xf25]
  obtain ⟨t, o, ⟨an, ap, au⟩, ⟨bn, bp, bu⟩, ⟨cn, cp, cu⟩, ⟨dn, dp, du⟩⟩ := v
  simp only at ha hb hc hd
  have w1 : IntKind.i64.wrap (0 + 1) = 1 := rfl
  have w2 : IntKind.i64.wrap (1 + 1) = 2 := rfl
  have w3 : IntKind.i64.wrap (2 + 1) = 3 := rfl
  unfold validG lb zL
  simp only [ha, hb, hc, hd, w1, w2, w3, le_not]
  generalize sAnd (sEq an 0) (sAnd (sEqB ap false) (sAnd (sEqB au false) true)) = z0
  generalize sAnd (sEq bn 0) (sAnd (sEqB bp false) (sAnd (sEqB bu false) true)) = z1
  generalize sAnd (sEq cn 0) (sAnd (sEqB cp false) (sAnd (sEqB cu false) true)) = z2
  generalize sAnd (sEq dn 0) (sAnd (sEqB dp false) (sAnd (sEqB du false) true)) = z3
  generalize sLt 0 (nlV t) = c0
  generalize sLt 1 (nlV t) = c1
  generalize sLt 2 (nlV t) = c2
  generalize sLt 3 (nlV t) = c3
  generalize sEq (nlV t) 0 = e0
  generalize sEq t 5 = e5
  generalize F ⟨an, ap, au⟩ (ltV t) = f0
  generalize F ⟨bn, bp, bu⟩ (ltV t) = f1
  generalize F ⟨cn, cp, cu⟩ (ltV t) = f2
  generalize F ⟨dn, dp, du⟩ (ltV t) = f3
  generalize sLe (-1) o = g1
  generalize sEq o 0 = g2
  have B : ∀ c f z : Bool, sIf (sIf c (sNot f) false) true (sIf (sNot c) (sNot z) false) = sIf c (sNot f) (sNot z) := by intro c f z; cases c <;> cases f <;> rfl
  simp only [B, sN1, sA1, sA2, sA3, sA4, sA5, sO1, sO2, sO3, sO4, sO5, sI1, sI2, sI3, sI4, sI5]
  have K : ∀ c f : Bool, sOr (sIf c (sNot f) false) (sAnd (sNot (sIf c (sNot f) false)) (sIf (sNot c) (sAnd (sNot (sIf c (sNot f) false)) (sNot c)) true)) = true := by intro c f; cases c <;> cases f <;> rfl
  simp only [K]
  generalize sIf c0 (sNot f0) (sNot z0) = b0
  generalize sIf c1 (sNot f1) (sNot z1) = b1
  generalize sIf c2 (sNot f2) (sNot z2) = b2
  generalize sIf c3 (sNot f3) (sNot z3) = b3
  generalize sIf e5 (sNot ap) false = h5
  cases e0 <;> cases b0 <;> cases b1 <;> cases b2 <;> cases b3 <;> cases h5 <;> rfl
theorem xf23 (v : Val) : exFn (gX a5 { lits := [14], unroll := 6 }) Tryd.f23 [valA v] = (
 let q0 : Bool := sEq (nlV v.t) 0;
  let q1 : Bool := (Tg.mix q0 Tg.r Tg.n).isN;
  let q2 : Bool := sIf v.a.p v.a.u false;
  let q3 : Bool := sNot q2;
  let q4 : Bool := sNot q3;
  let q5 : Bool := sOr q4 q3;
  let q6 : Bool := sAnd q3 (sNot v.a.p);
  let q7 : Bool := sNot q6;
  let q8 : Bool := sIf v.a.p true v.a.u;
  let q9 : Bool := sAnd q3 q8;
  let q10 : Bool := sNot q9;
  let q11 : Bool := sNe v.a.n 0;
  let q12 : Bool := sIf q2 true (sIf q8 q11 false);
  let q13 : Tg := Tg.mix q12 Tg.r Tg.n;
  let q14 : Bool := q13.isN;
  let q15 : Bool := sLe (nlV v.t) 0;
  let q16 : Bool := sNot q15;
  let q17 : Bool := sOr q16 q15;
  let q18 : Bool := sAnd q15 (sNot v.a.p);
  let q19 : Bool := sNot q18;
  let q20 : Bool := sAnd q15 (sNot q8);
  let q21 : Bool := sNot q20;
  let q22 : Bool := sIf q15 (sIf q8 true q11) false;
  let q23 : Tg := Tg.mix q22 Tg.r Tg.n;
  let q24 : Bool := q23.isN;
  let q25 : Bool := sLt 0 (nlV v.t);
  let q26 : Bool := sNot q25;
  let q27 : Bool := sOr q26 true;
  let q28 : Bool := sOr q26 q25;
  let q29 : Bool := sAnd q25 true;
  let q30 : Bool := sIf q25 (sNe (wV (ltV v.t) v.a.n) v.a.n) false;
  let q31 : Tg := Tg.block 1 (q13.thenN (q23.thenN (Tg.mix q30 Tg.r Tg.n)));
  let q32 : Tg := q31.thenN Tg.n;
  let q33 : Bool := q32.isN;
  let q34 : Bool := sIf v.b.p v.b.u false;
  let q35 : Bool := sNot q34;
  let q36 : Bool := sNot q35;
  let q37 : Bool := sOr q36 q35;
  let q38 : Bool := sAnd q35 (sNot v.b.p);
  let q39 : Bool := sNot q38;
  let q40 : Bool := sIf v.b.p true v.b.u;
  let q41 : Bool := sAnd q35 q40;
  let q42 : Bool := sNot q41;
  let q43 : Bool := sNe v.b.n 0;
  let q44 : Bool := sIf q34 true (sIf q40 q43 false);
  let q45 : Tg := Tg.mix q44 Tg.r Tg.n;
  let q46 : Bool := q45.isN;
  let q47 : Int := IntKind.i64.wrap (0 + 1);
  let q48 : Bool := sLe (nlV v.t) q47;
  let q49 : Bool := sNot q48;
  let q50 : Bool := sOr q49 q48;
  let q51 : Bool := sAnd q48 (sNot v.b.p);
  let q52 : Bool := sNot q51;
  let q53 : Bool := sAnd q48 (sNot q40);
  let q54 : Bool := sNot q53;
  let q55 : Bool := sIf q48 (sIf q40 true q43) false;
  let q56 : Tg := Tg.mix q55 Tg.r Tg.n;
  let q57 : Bool := q56.isN;
  let q58 : Bool := sLt q47 (nlV v.t);
  let q59 : Bool := sNot q58;
  let q60 : Bool := sOr q59 true;
  let q61 : Bool := sOr q59 q58;
  let q62 : Bool := sAnd q58 true;
  let q63 : Bool := sIf q58 (sNe (wV (ltV v.t) v.b.n) v.b.n) false;
  let q64 : Tg := Tg.block 1 (q45.thenN (q56.thenN (Tg.mix q63 Tg.r Tg.n)));
  let q65 : Tg := q64.thenN Tg.n;
  let q66 : Bool := q65.isN;
  let q67 : Bool := sIf v.c.p v.c.u false;
  let q68 : Bool := sNot q67;
  let q69 : Bool := sNot q68;
  let q70 : Bool := sOr q69 q68;
  let q71 : Bool := sAnd q68 (sNot v.c.p);
  let q72 : Bool := sNot q71;
  let q73 : Bool := sIf v.c.p true v.c.u;
  let q74 : Bool := sAnd q68 q73;
  let q75 : Bool := sNot q74;
  let q76 : Bool := sNe v.c.n 0;
  let q77 : Bool := sIf q67 true (sIf q73 q76 false);
  let q78 : Tg := Tg.mix q77 Tg.r Tg.n;
  let q79 : Bool := q78.isN;
  let q80 : Int := IntKind.i64.wrap (q47 + 1);
  let q81 : Bool := sLe (nlV v.t) q80;
  let q82 : Bool := sNot q81;
  let q83 : Bool := sOr q82 q81;
  let q84 : Bool := sAnd q81 (sNot v.c.p);
  let q85 : Bool := sNot q84;
  let q86 : Bool := sAnd q81 (sNot q73);
  let q87 : Bool := sNot q86;
  let q88 : Bool := sIf q81 (sIf q73 true q76) false;
  let q89 : Tg := Tg.mix q88 Tg.r Tg.n;
  let q90 : Bool := q89.isN;
  let q91 : Bool := sLt q80 (nlV v.t);
  let q92 : Bool := sNot q91;
  let q93 : Bool := sOr q92 true;
  let q94 : Bool := sOr q92 q91;
  let q95 : Bool := sAnd q91 true;
  let q96 : Bool := sIf q91 (sNe (wV (ltV v.t) v.c.n) v.c.n) false;
  let q97 : Tg := Tg.block 1 (q78.thenN (q89.thenN (Tg.mix q96 Tg.r Tg.n)));
  let q98 : Tg := q97.thenN Tg.n;
  let q99 : Bool := q98.isN;
  let q100 : Bool := sIf v.d.p v.d.u false;
  let q101 : Bool := sNot q100;
  let q102 : Bool := sNot q101;
  let q103 : Bool := sOr q102 q101;
  let q104 : Bool := sAnd q101 (sNot v.d.p);
  let q105 : Bool := sNot q104;
  let q106 : Bool := sIf v.d.p true v.d.u;
  let q107 : Bool := sAnd q101 q106;
  let q108 : Bool := sNot q107;
  let q109 : Bool := sNe v.d.n 0;
  let q110 : Bool := sIf q100 true (sIf q106 q109 false);
  let q111 : Tg := Tg.mix q110 Tg.r Tg.n;
  let q112 : Bool := q111.isN;
  let q113 : Int := IntKind.i64.wrap (q80 + 1);
  let q114 : Bool := sLe (nlV v.t) q113;
  let q115 : Bool := sNot q114;
  let q116 : Bool := sOr q115 q114;
  let q117 : Bool := sAnd q114 (sNot v.d.p);
  let q118 : Bool := sNot q117;
  let q119 : Bool := sAnd q114 (sNot q106);
  let q120 : Bool := sNot q119;
  let q121 : Bool := sIf q114 (sIf q106 true q109) false;
  let q122 : Tg := Tg.mix q121 Tg.r Tg.n;
  let q123 : Bool := q122.isN;
  let q124 : Bool := sLt q113 (nlV v.t);
  let q125 : Bool := sNot q124;
  let q126 : Bool := sOr q125 true;
  let q127 : Bool := sOr q125 q124;
  let q128 : Bool := sAnd q124 true;
  let q129 : Bool := sIf q124 (sNe (wV (ltV v.t) v.d.n) v.d.n) false;
  let q130 : Tg := Tg.block 1 (q111.thenN (q122.thenN (Tg.mix q129 Tg.r Tg.n)));
  let q131 : Tg := q130.thenN Tg.n;
  let q132 : Bool := (Tg.block 0 (q32.thenN (q65.thenN (q98.thenN (q131.thenN (Tg.x 0)))))).isN;
  let q133 : Bool := sNot (sNe v.t 5);
  let q134 : Bool := sNot q133;
  let q135 : Bool := sOr q134 q133;
  let q136 : Bool := sIf (sNe v.t 5) true v.a.p;
  let q137 : Bool := (Tg.mix q136 Tg.r Tg.n).isN;
  some
  (sAnd true
      (sIf true
        (sAnd true
          (sIf true
            (sAnd (sAnd true (sIf true (sAnd true (sIf q0 true true)) true))
              (sIf q1
                (sAnd
                  (sAnd true
                    (sIf true
                      (sAnd
                        (sAnd true
                          (sIf true
                            (sAnd true
                              (sIf true
                                (sAnd
                                  (sAnd true
                                    (sIf true
                                      (sAnd
                                        (sAnd
                                          (sAnd true
                                            (sAnd true
                                              (sAnd true
                                                (sAnd (sOr (sNot v.a.p) true)
                                                  (sAnd (sOr (sNot v.a.p) v.a.p)
                                                    (sAnd (sAnd true (sIf v.a.p v.a.p true))
                                                      (sAnd true
                                                        (sAnd (sOr q4 true)
                                                          (sAnd q5
                                                            (sAnd q5
                                                              (sAnd (sOr q7 true)
                                                                (sAnd (sOr q7 q6)
                                                                  (sAnd (sOr q4 (sAnd q3 (sIf v.a.p true q6)))
                                                                    (sAnd q5
                                                                      (sAnd (sOr q10 true)
                                                                        (sAnd (sOr q10 q9)
                                                                          (sAnd (sOr q10 (sAnd (sAnd q9 true) true))
                                                                            (sAnd (sOr q4 (sAnd q3 (sIf q8 q9 true)))
                                                                              (sAnd (sAnd true (sIf q2 true q3))
                                                                                true)))))))))))))))))))
                                          (sIf true (sAnd true (sIf q12 true true)) true))
                                        (sIf q14
                                          (sAnd
                                            (sAnd
                                              (sAnd true
                                                (sAnd true
                                                  (sAnd true
                                                    (sAnd true
                                                      (sAnd (sOr q16 true)
                                                        (sAnd q17
                                                          (sAnd q17
                                                            (sAnd (sOr q19 true)
                                                              (sAnd (sOr q19 q18)
                                                                (sAnd (sOr q16 (sAnd q15 (sIf v.a.p true q18)))
                                                                  (sAnd q17
                                                                    (sAnd (sOr q21 true)
                                                                      (sAnd (sOr q21 q20)
                                                                        (sAnd (sOr q21 (sAnd (sAnd q20 true) true))
                                                                          (sAnd (sOr q16 (sAnd q15 (sIf q8 true q20)))
                                                                            (sAnd (sAnd true (sIf q15 q15 true))
                                                                              true))))))))))))))))
                                              (sIf true (sAnd true (sIf q22 true true)) true))
                                            (sIf q24
                                              (sAnd
                                                (sAnd
                                                  (sAnd true
                                                    (sAnd true
                                                      (sAnd true
                                                        (sAnd true
                                                          (sAnd q27
                                                            (sAnd q28
                                                              (sAnd (sOr q26 (sAnd q29 true))
                                                                (sAnd q27
                                                                  (sAnd q28
                                                                    (sAnd (sOr q26 (sAnd (sAnd q25 q29) (okImm v.a.n)))
                                                                      (sAnd q27
                                                                        (sAnd q28
                                                                          (sAnd (sOr q26 (sAnd (sAnd q25 q25) true))
                                                                            (sAnd (sAnd true (sIf q25 q25 true))
                                                                              true))))))))))))))
                                                  true)
                                                (sIf true (sAnd true (sIf q30 true true)) true))
                                              true))
                                          true))
                                      true))
                                  (sIf q31.isN true true))
                                true))
                            true))
                        (sIf q33
                          (sAnd
                            (sAnd true
                              (sIf true
                                (sAnd true
                                  (sIf true
                                    (sAnd
                                      (sAnd true
                                        (sIf true
                                          (sAnd
                                            (sAnd
                                              (sAnd true
                                                (sAnd true
                                                  (sAnd true
                                                    (sAnd (sOr (sNot v.b.p) true)
                                                      (sAnd (sOr (sNot v.b.p) v.b.p)
                                                        (sAnd (sAnd true (sIf v.b.p v.b.p true))
                                                          (sAnd true
                                                            (sAnd (sOr q36 true)
                                                              (sAnd q37
                                                                (sAnd q37
                                                                  (sAnd (sOr q39 true)
                                                                    (sAnd (sOr q39 q38)
                                                                      (sAnd (sOr q36 (sAnd q35 (sIf v.b.p true q38)))
                                                                        (sAnd q37
                                                                          (sAnd (sOr q42 true)
                                                                            (sAnd (sOr q42 q41)
                                                                              (sAnd
                                                                                (sOr q42 (sAnd (sAnd q41 true) true))
                                                                                (sAnd
                                                                                  (sOr q36
                                                                                    (sAnd q35 (sIf q40 q41 true)))
                                                                                  (sAnd (sAnd true (sIf q34 true q35))
                                                                                    true)))))))))))))))))))
                                              (sIf true (sAnd true (sIf q44 true true)) true))
                                            (sIf q46
                                              (sAnd
                                                (sAnd
                                                  (sAnd true
                                                    (sAnd true
                                                      (sAnd true
                                                        (sAnd true
                                                          (sAnd (sOr q49 true)
                                                            (sAnd q50
                                                              (sAnd q50
                                                                (sAnd (sOr q52 true)
                                                                  (sAnd (sOr q52 q51)
                                                                    (sAnd (sOr q49 (sAnd q48 (sIf v.b.p true q51)))
                                                                      (sAnd q50
                                                                        (sAnd (sOr q54 true)
                                                                          (sAnd (sOr q54 q53)
                                                                            (sAnd (sOr q54 (sAnd (sAnd q53 true) true))
                                                                              (sAnd
                                                                                (sOr q49 (sAnd q48 (sIf q40 true q53)))
                                                                                (sAnd (sAnd true (sIf q48 q48 true))
                                                                                  true))))))))))))))))
                                                  (sIf true (sAnd true (sIf q55 true true)) true))
                                                (sIf q57
                                                  (sAnd
                                                    (sAnd
                                                      (sAnd true
                                                        (sAnd true
                                                          (sAnd true
                                                            (sAnd true
                                                              (sAnd q60
                                                                (sAnd q61
                                                                  (sAnd (sOr q59 (sAnd q62 true))
                                                                    (sAnd q60
                                                                      (sAnd q61
                                                                        (sAnd
                                                                          (sOr q59 (sAnd (sAnd q58 q62) (okImm v.b.n)))
                                                                          (sAnd q60
                                                                            (sAnd q61
                                                                              (sAnd (sOr q59 (sAnd (sAnd q58 q58) true))
                                                                                (sAnd (sAnd true (sIf q58 q58 true))
                                                                                  true))))))))))))))
                                                      true)
                                                    (sIf true (sAnd true (sIf q63 true true)) true))
                                                  true))
                                              true))
                                          true))
                                      (sIf q64.isN true true))
                                    true))
                                true))
                            (sIf q66
                              (sAnd
                                (sAnd true
                                  (sIf true
                                    (sAnd true
                                      (sIf true
                                        (sAnd
                                          (sAnd true
                                            (sIf true
                                              (sAnd
                                                (sAnd
                                                  (sAnd true
                                                    (sAnd true
                                                      (sAnd true
                                                        (sAnd (sOr (sNot v.c.p) true)
                                                          (sAnd (sOr (sNot v.c.p) v.c.p)
                                                            (sAnd (sAnd true (sIf v.c.p v.c.p true))
                                                              (sAnd true
                                                                (sAnd (sOr q69 true)
                                                                  (sAnd q70
                                                                    (sAnd q70
                                                                      (sAnd (sOr q72 true)
                                                                        (sAnd (sOr q72 q71)
                                                                          (sAnd
                                                                            (sOr q69 (sAnd q68 (sIf v.c.p true q71)))
                                                                            (sAnd q70
                                                                              (sAnd (sOr q75 true)
                                                                                (sAnd (sOr q75 q74)
                                                                                  (sAnd
                                                                                    (sOr q75
                                                                                      (sAnd (sAnd q74 true) true))
                                                                                    (sAnd
                                                                                      (sOr q69
                                                                                        (sAnd q68 (sIf q73 q74 true)))
                                                                                      (sAnd
                                                                                        (sAnd true (sIf q67 true q68))
                                                                                        true)))))))))))))))))))
                                                  (sIf true (sAnd true (sIf q77 true true)) true))
                                                (sIf q79
                                                  (sAnd
                                                    (sAnd
                                                      (sAnd true
                                                        (sAnd true
                                                          (sAnd true
                                                            (sAnd true
                                                              (sAnd (sOr q82 true)
                                                                (sAnd q83
                                                                  (sAnd q83
                                                                    (sAnd (sOr q85 true)
                                                                      (sAnd (sOr q85 q84)
                                                                        (sAnd (sOr q82 (sAnd q81 (sIf v.c.p true q84)))
                                                                          (sAnd q83
                                                                            (sAnd (sOr q87 true)
                                                                              (sAnd (sOr q87 q86)
                                                                                (sAnd
                                                                                  (sOr q87 (sAnd (sAnd q86 true) true))
                                                                                  (sAnd
                                                                                    (sOr q82
                                                                                      (sAnd q81 (sIf q73 true q86)))
                                                                                    (sAnd (sAnd true (sIf q81 q81 true))
                                                                                      true))))))))))))))))
                                                      (sIf true (sAnd true (sIf q88 true true)) true))
                                                    (sIf q90
                                                      (sAnd
                                                        (sAnd
                                                          (sAnd true
                                                            (sAnd true
                                                              (sAnd true
                                                                (sAnd true
                                                                  (sAnd q93
                                                                    (sAnd q94
                                                                      (sAnd (sOr q92 (sAnd q95 true))
                                                                        (sAnd q93
                                                                          (sAnd q94
                                                                            (sAnd
                                                                              (sOr q92
                                                                                (sAnd (sAnd q91 q95) (okImm v.c.n)))
                                                                              (sAnd q93
                                                                                (sAnd q94
                                                                                  (sAnd
                                                                                    (sOr q92 (sAnd (sAnd q91 q91) true))
                                                                                    (sAnd (sAnd true (sIf q91 q91 true))
                                                                                      true))))))))))))))
                                                          true)
                                                        (sIf true (sAnd true (sIf q96 true true)) true))
                                                      true))
                                                  true))
                                              true))
                                          (sIf q97.isN true true))
                                        true))
                                    true))
                                (sIf q99
                                  (sAnd
                                    (sAnd true
                                      (sIf true
                                        (sAnd true
                                          (sIf true
                                            (sAnd
                                              (sAnd true
                                                (sIf true
                                                  (sAnd
                                                    (sAnd
                                                      (sAnd true
                                                        (sAnd true
                                                          (sAnd true
                                                            (sAnd (sOr (sNot v.d.p) true)
                                                              (sAnd (sOr (sNot v.d.p) v.d.p)
                                                                (sAnd (sAnd true (sIf v.d.p v.d.p true))
                                                                  (sAnd true
                                                                    (sAnd (sOr q102 true)
                                                                      (sAnd q103
                                                                        (sAnd q103
                                                                          (sAnd (sOr q105 true)
                                                                            (sAnd (sOr q105 q104)
                                                                              (sAnd
                                                                                (sOr q102
                                                                                  (sAnd q101 (sIf v.d.p true q104)))
                                                                                (sAnd q103
                                                                                  (sAnd (sOr q108 true)
                                                                                    (sAnd (sOr q108 q107)
                                                                                      (sAnd
                                                                                        (sOr q108
                                                                                          (sAnd (sAnd q107 true) true))
                                                                                        (sAnd
                                                                                          (sOr q102
                                                                                            (sAnd q101
                                                                                              (sIf q106 q107 true)))
                                                                                          (sAnd
                                                                                            (sAnd true
                                                                                              (sIf q100 true q101))
                                                                                            true)))))))))))))))))))
                                                      (sIf true (sAnd true (sIf q110 true true)) true))
                                                    (sIf q112
                                                      (sAnd
                                                        (sAnd
                                                          (sAnd true
                                                            (sAnd true
                                                              (sAnd true
                                                                (sAnd true
                                                                  (sAnd (sOr q115 true)
                                                                    (sAnd q116
                                                                      (sAnd q116
                                                                        (sAnd (sOr q118 true)
                                                                          (sAnd (sOr q118 q117)
                                                                            (sAnd
                                                                              (sOr q115
                                                                                (sAnd q114 (sIf v.d.p true q117)))
                                                                              (sAnd q116
                                                                                (sAnd (sOr q120 true)
                                                                                  (sAnd (sOr q120 q119)
                                                                                    (sAnd
                                                                                      (sOr q120
                                                                                        (sAnd (sAnd q119 true) true))
                                                                                      (sAnd
                                                                                        (sOr q115
                                                                                          (sAnd q114
                                                                                            (sIf q106 true q119)))
                                                                                        (sAnd
                                                                                          (sAnd true
                                                                                            (sIf q114 q114 true))
                                                                                          true))))))))))))))))
                                                          (sIf true (sAnd true (sIf q121 true true)) true))
                                                        (sIf q123
                                                          (sAnd
                                                            (sAnd
                                                              (sAnd true
                                                                (sAnd true
                                                                  (sAnd true
                                                                    (sAnd true
                                                                      (sAnd q126
                                                                        (sAnd q127
                                                                          (sAnd (sOr q125 (sAnd q128 true))
                                                                            (sAnd q126
                                                                              (sAnd q127
                                                                                (sAnd
                                                                                  (sOr q125
                                                                                    (sAnd (sAnd q124 q128)
                                                                                      (okImm v.d.n)))
                                                                                  (sAnd q126
                                                                                    (sAnd q127
                                                                                      (sAnd
                                                                                        (sOr q125
                                                                                          (sAnd (sAnd q124 q124) true))
                                                                                        (sAnd
                                                                                          (sAnd true
                                                                                            (sIf q124 q124 true))
                                                                                          true))))))))))))))
                                                              true)
                                                            (sIf true (sAnd true (sIf q129 true true)) true))
                                                          true))
                                                      true))
                                                  true))
                                              (sIf q130.isN true true))
                                            true))
                                        true))
                                    (sIf q131.isN true true))
                                  true))
                              true))
                          true))
                      true))
                  (sIf q132
                    (sAnd
                      (sAnd
                        (sAnd true
                          (sAnd true
                            (sAnd true
                              (sAnd true
                                (sAnd (sOr q134 true)
                                  (sAnd (sOr q134 (sAnd (sAnd q133 true) true))
                                    (sAnd q135 (sAnd q135 (sAnd (sAnd true (sIf (sNe v.t 5) true q133)) true)))))))))
                        (sIf true (sAnd true (sIf q136 true true)) true))
                      (sIf q137 true true))
                    true))
                true))
            true))
        true),
    AV.bool
      (sIf q1
        (sIf q132 (sIf q137 (sLe (-1) v.o) (sEq v.o 0))
          (sIf q33
            (sIf q66 (sIf q99 (sIf q112 (sIf q123 false false) false) (sIf q79 (sIf q90 false false) false))
              (sIf q46 (sIf q57 false false) false))
            (sIf q14 (sIf q24 false false) false)))
        false))) := by kernel_rfl

theorem wV_zero (t : Int) : wV t 0 = 0 := by
  unfold wV
  rcases bits_cases t with b | b | b | b | b <;> rw [b] <;> rfl
theorem ne_not (a b : Int) : sNe a b = sNot (sEq a b) := by simp [sNe, sEq, bne]
theorem tg3 (a b c : Bool) : (Tg.mix a Tg.r Tg.n).thenN ((Tg.mix b Tg.r Tg.n).thenN (Tg.mix c Tg.r Tg.n)) = Tg.mix (sIf a true (sIf b true c)) Tg.r Tg.n := by
  cases a <;> cases b <;> cases c <;> rfl
theorem nat23 (v : Val) (ha : okL v.a = true) (hb : okL v.b = true) (hc : okL v.c = true) (hd : okL v.d = true) :
    exFn (gX a5 { lits := [14], unroll := 6 }) Tryd.f23 [valA v] = some (true, .bool (validG vlV v)) := by
  rw [xf23]
  obtain ⟨t, o, ⟨an, ap, au⟩, ⟨bn, bp, bu⟩, ⟨cn, cp, cu⟩, ⟨dn, dp, du⟩⟩ := v
  unfold okL at ha hb hc hd
  simp only at ha hb hc hd
  have w1 : IntKind.i64.wrap (0 + 1) = 1 := rfl
  have w2 : IntKind.i64.wrap (1 + 1) = 2 := rfl
  have w3 : IntKind.i64.wrap (2 + 1) = 3 := rfl
  have L : ∀ (k n : Int) (p u : Bool), sIf (sIf (sIf p u false) true (sIf (sIf p true u) (sNot (sEq n 0)) false)) true (sIf (sIf (sNot (sLt k (nlV t))) (sIf (sIf p true u) true (sNot (sEq n 0))) false) true (sIf (sLt k (nlV t)) (sNot (sEq (wV (ltV t) n) n)) false)) = lb vlV t k ⟨n, p, u⟩ := by
    intro k n p u
    unfold lb vlV zL
    have hz : sEq n 0 = true → sEq (wV (ltV t) n) n = true := fun h => by
      have : n = 0 := by simpa [sEq] using h
      subst this
      rw [wV_zero]; rfl
    simp only
    generalize sEq n 0 = z at hz
    generalize sEq (wV (ltV t) n) n = w at hz
    cases z
    · cases sLt k (nlV t) <;> cases p <;> cases u <;> cases w <;> rfl
    · rw [hz rfl]
      cases sLt k (nlV t) <;> cases p <;> cases u <;> rfl
  unfold validG
  simp only [← L]
  simp only [ha, hb, hc, hd, w1, w2, w3, le_not, ne_not]
  generalize sEq an 0 = z0
  generalize sEq bn 0 = z1
  generalize sEq cn 0 = z2
  generalize sEq dn 0 = z3
  generalize sEq (wV (ltV t) an) an = f0
  generalize sEq (wV (ltV t) bn) bn = f1
  generalize sEq (wV (ltV t) cn) cn = f2
  generalize sEq (wV (ltV t) dn) dn = f3
  generalize sLt 0 (nlV t) = c0
  generalize sLt 1 (nlV t) = c1
  generalize sLt 2 (nlV t) = c2
  generalize sLt 3 (nlV t) = c3
  generalize sEq (nlV t) 0 = e0
  generalize sEq t 5 = e5
  generalize sLt o (-1) = g1
  generalize sEq o 0 = g2
  have K1 : ∀ c p : Bool, sOr c (sAnd (sNot c) (sIf p true (sAnd (sNot c) (sNot p)))) = true := by intro c p; cases c <;> cases p <;> rfl
  have K2 : ∀ c q : Bool, sOr c (sAnd (sNot c) (sIf q (sAnd (sNot c) q) true)) = true := by intro c p; cases c <;> cases p <;> rfl
  have K3 : ∀ c : Bool, sIf c false false = false := by intro c; cases c <;> rfl
  have K4 : ∀ c : Bool, sIf c true true = true := by intro c; cases c <;> rfl
  simp only [tg3, sN1, sA1, sA2, sA3, sA4, sA5, sO1, sO2, sO3, sO4, sO5, sI1, sI2, sI3, sI4, sI5, K1, K2, K3, K4]
  generalize sIf (sIf (sIf ap au false) true (sIf (sIf ap true au) (sNot z0) false)) true (sIf (sIf (sNot c0) (sIf (sIf ap true au) true (sNot z0)) false) true (sIf c0 (sNot f0) false)) = b0
  generalize sIf (sIf (sIf bp bu false) true (sIf (sIf bp true bu) (sNot z1) false)) true (sIf (sIf (sNot c1) (sIf (sIf bp true bu) true (sNot z1)) false) true (sIf c1 (sNot f1) false)) = b1
  generalize sIf (sIf (sIf cp cu false) true (sIf (sIf cp true cu) (sNot z2) false)) true (sIf (sIf (sNot c2) (sIf (sIf cp true cu) true (sNot z2)) false) true (sIf c2 (sNot f2) false)) = b2
  generalize sIf (sIf (sIf dp du false) true (sIf (sIf dp true du) (sNot z3) false)) true (sIf (sIf (sNot c3) (sIf (sIf dp true du) true (sNot z3)) false) true (sIf c3 (sNot f3) false)) = b3
  cases e0 <;> cases b0 <;> cases b1 <;> cases b2 <;> cases b3 <;> cases e5 <;> cases ap <;> rfl
def okV (v : Val) : Bool := okL v.a && okL v.b && okL v.c && okL v.d
theorem okV_a {v : Val} (h : okV v = true) : okL v.a = true ∧ okL v.b = true ∧ okL v.c = true ∧ okL v.d = true := by
  unfold okV at h
  simp only [Bool.and_eq_true] at h
  exact ⟨h.1.1.1, h.1.1.2, h.1.2, h.2⟩
def validV (v : Val) : Bool := validG vlV v
def xm25 : List AV → Option (Bool × AV)
  | [v] => (asVal v).bind fun v => some (okV v, .bool (validV v))
  | _ => none
section
variable (hm : Tryd.prog.follows .mixedOrders = true)
include hm
theorem xk25 : KOk E0 25 xm25 := (ck1 hm).read hm Tryd.func25 (ent Tryd.func25 (by decide) (by rfl)) { lits := [14], unroll := 6 } (by
  intro xs r h
  unfold xm25 at h
  split at h
  · simp only [Option.bind_eq_some_iff, Option.some.injEq, Prod.mk.injEq] at h
    obtain ⟨v, hv, h, rfl⟩ := h
    rw [asVal_eq hv]
    obtain ⟨h1, h2, h3, h4⟩ := okV_a h
    exact nat25 vlV v okL h1 h2 h3 h4
  · cases h)
theorem xk23 : KOk E0 23 xm25 := (ak5 hm).read hm Tryd.func23 (ent Tryd.func23 (by decide) (by rfl)) { lits := [14], unroll := 6 } (by
  intro xs r h
  unfold xm25 at h
  split at h
  · simp only [Option.bind_eq_some_iff, Option.some.injEq, Prod.mk.injEq] at h
    obtain ⟨v, hv, h, rfl⟩ := h
    rw [asVal_eq hv]
    obtain ⟨h1, h2, h3, h4⟩ := okV_a h
    exact nat23 v h1 h2 h3 h4
  · cases h)
end
noncomputable def a6 : XTab := { a5 with k := (25, xm25) :: (23, xm25) :: (54, cm54 vlV okL) :: a5.k }
theorem ak6 (hm : Tryd.prog.follows .mixedOrders = true) : XOk a6 := (((ak5 hm).consK (xk54 hm)).consK (xk23 hm)).consK (xk25 hm)
end Go.Proofs.YtnjofponcdcfcaaDoor
