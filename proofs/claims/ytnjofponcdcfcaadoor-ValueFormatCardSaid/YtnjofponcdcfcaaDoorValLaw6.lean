/- The law ValueFormat answers true. No conditions but that the numbers fit. -/
import Derived.Test.YtnjofponcdcfcaaDoorValFmtP
import Derived.Test.YtnjofponcdcfcaaDoorValLaw8
set_option linter.all false
namespace Go.Proofs.YtnjofponcdcfcaaDoor
open Go Ab
set_option maxRecDepth 100000
def cmT (ok : Val → Bool) (T : Val → ByteArray) : List AV → Option (Bool × AV)
  | [v] => (asVal v).bind fun v => some (ok v, .str (T v))
  | _ => none
noncomputable def g1 (V ok okf : Val → Bool) (T : Val → ByteArray) : XTab := { a7 with k := (23, cmV V ok) :: (21, cmT okf T) :: (22, cmT okf T) :: (17, xm17) :: a7.k }
theorem gk1 (hm : Tryd.prog.follows .mixedOrders = true) : XOk (g1 validV okV okF fmtB) :=
  ((((ak7 hm).consK (xk17 hm)).consK (c := cmT okF fmtB) (xk22 hm)).consK (c := cmT okF fmtB) (xk21 hm)).consK (c := cmV validV okV) (xk23 hm)
theorem xf6 (V : Val → Bool) (ok : Val → Bool) (okf : Val → Bool) (T : Val → ByteArray) (a : Val) (b : Val) : exFn (gX (g1 V ok okf T) { orc := [(31, false)] }) Tryd.f6 [valA a, valA b] = (
 let q0 : Bool := sAnd true (okf { t := a.t, o := a.o, a := { n := a.a.n, p := a.a.p, u := a.a.u }, b := { n := a.b.n, p := a.b.p, u := a.b.u }, c := { n := a.c.n, p := a.c.p, u := a.c.u }, d := { n := a.d.n, p := a.d.p, u := a.d.u } });
  let q1 : ByteArray := T { t := a.t, o := a.o, a := { n := a.a.n, p := a.a.p, u := a.a.u }, b := { n := a.b.n, p := a.b.p, u := a.b.u }, c := { n := a.c.n, p := a.c.p, u := a.c.u }, d := { n := a.d.n, p := a.d.p, u := a.d.u } };
  let q2 : Bool := sNot (bEq q1 q1);
  let q3 : Bool := sNot q2;
  let q4 : Bool := sNot q3;
  let q5 : Bool := sOr q4 q3;
  let q6 : Bool := V { t := a.t, o := a.o, a := { n := a.a.n, p := a.a.p, u := a.a.u }, b := { n := a.b.n, p := a.b.p, u := a.b.u }, c := { n := a.c.n, p := a.c.p, u := a.c.u }, d := { n := a.d.n, p := a.d.p, u := a.d.u } };
  let q7 : Bool := sAnd q3 q6;
  let q8 : Bool := sNot q7;
  let q9 : Bool := sIf q6 (V { t := b.t, o := b.o, a := { n := b.a.n, p := b.a.p, u := b.a.u }, b := { n := b.b.n, p := b.b.p, u := b.b.u }, c := { n := b.c.n, p := b.c.p, u := b.c.u }, d := { n := b.d.n, p := b.d.p, u := b.d.u } }) false;
  let q10 : Bool := sAnd q3 q9;
  let q11 : Bool := sNot q10;
  let q12 : Bool := sOr q11 true;
  let q13 : Bool := sOr q11 (sAnd (sAnd q10 q10) true);
  some
  (sAnd true
      (sIf true
        (sAnd
          (sAnd
            (sAnd true
              (sAnd q0
                (sAnd true
                  (sAnd
                    (sAnd true
                      (okf
                        { t := b.t, o := b.o, a := { n := b.a.n, p := b.a.p, u := b.a.u },
                          b := { n := b.b.n, p := b.b.p, u := b.b.u }, c := { n := b.c.n, p := b.c.p, u := b.c.u },
                          d := { n := b.d.n, p := b.d.p, u := b.d.u } }))
                    true))))
            true)
          (sIf true
            (sAnd
              (sAnd
                (sAnd true
                  (sAnd true
                    (sAnd q0
                      (sAnd true
                        (sAnd true
                          (sAnd (sOr q4 true)
                            (sAnd
                              (sOr q4
                                (sAnd (sAnd q3 true)
                                  (ok
                                    { t := a.t, o := a.o, a := { n := a.a.n, p := a.a.p, u := a.a.u },
                                      b := { n := a.b.n, p := a.b.p, u := a.b.u },
                                      c := { n := a.c.n, p := a.c.p, u := a.c.u },
                                      d := { n := a.d.n, p := a.d.p, u := a.d.u } })))
                              (sAnd q5
                                (sAnd (sOr q8 true)
                                  (sAnd
                                    (sOr q8
                                      (sAnd (sAnd q7 true)
                                        (ok
                                          { t := b.t, o := b.o, a := { n := b.a.n, p := b.a.p, u := b.a.u },
                                            b := { n := b.b.n, p := b.b.p, u := b.b.u },
                                            c := { n := b.c.n, p := b.c.p, u := b.c.u },
                                            d := { n := b.d.n, p := b.d.p, u := b.d.u } })))
                                    (sAnd (sOr q4 (sAnd q3 (sIf q6 q7 true)))
                                      (sAnd q5
                                        (sAnd q12
                                          (sAnd q12
                                            (sAnd q13
                                              (sAnd q12
                                                (sAnd q12
                                                  (sAnd q13
                                                    (sAnd q13
                                                      (sAnd (sOr q4 (sAnd q3 (sIf q9 q10 true)))
                                                        (sAnd (sAnd true (sIf q2 true q3)) true)))))))))))))))))))))
                (sIf true
                  (sAnd
                    (sAnd true
                      (sNot
                        (sIf q2 true
                          (sIf q9
                            (sNot
                              (sEqB
                                (bEq q1
                                  (T
                                    { t := b.t, o := b.o, a := { n := b.a.n, p := b.a.p, u := b.a.u },
                                      b := { n := b.b.n, p := b.b.p, u := b.b.u },
                                      c := { n := b.c.n, p := b.c.p, u := b.c.u },
                                      d := { n := b.d.n, p := b.d.p, u := b.d.u } }))
                                (sAnd (sEq a.t b.t)
                                  (sAnd (sEq a.o b.o)
                                    (sAnd
                                      (sAnd
                                        (sAnd (sEq a.a.n b.a.n)
                                          (sAnd (sEqB a.a.p b.a.p) (sAnd (sEqB a.a.u b.a.u) true)))
                                        (sAnd
                                          (sAnd (sEq a.b.n b.b.n)
                                            (sAnd (sEqB a.b.p b.b.p) (sAnd (sEqB a.b.u b.b.u) true)))
                                          (sAnd
                                            (sAnd (sEq a.c.n b.c.n)
                                              (sAnd (sEqB a.c.p b.c.p) (sAnd (sEqB a.c.u b.c.u) true)))
                                            (sAnd
                                              (sAnd (sEq a.d.n b.d.n)
                                                (sAnd (sEqB a.d.p b.d.p) (sAnd (sEqB a.d.u b.d.u) true)))
                                              true))))
                                      true)))))
                            false))))
                    true)
                  true))
              true)
            true))
        true),
    AV.bool true)) := by kernel_rfl

/-- All cells the same. -/
def eqV (a b : Val) : Bool := sAnd (sEq a.t b.t) (sAnd (sEq a.o b.o) (sAnd (sAnd (eqL a.a b.a) (sAnd (eqL a.b b.b) (sAnd (eqL a.c b.c) (sAnd (eqL a.d b.d) true)))) true))
theorem eqV_iff (a b : Val) : eqV a b = true ↔ a = b := by
  constructor
  · intro h
    unfold eqV at h
    simp only [Bool.and_eq_true] at h
    obtain ⟨h1, h2, ⟨h3, h4, h5, h6, _⟩, _⟩ := h
    obtain ⟨t, o, l0, l1, l2, l3⟩ := a
    obtain ⟨t', o', m0, m1, m2, m3⟩ := b
    simp only at h1 h2 h3 h4 h5 h6
    have e1 : t = t' := by simpa [sEq] using h1
    have e2 : o = o' := by simpa [sEq] using h2
    rw [e1, e2, eqL_eq h3, eqL_eq h4, eqL_eq h5, eqL_eq h6]
  · rintro rfl
    unfold eqV
    rw [eqL_refl, eqL_refl, eqL_refl, eqL_refl, sEq_self, sEq_self]
    rfl
theorem nat6 (V ok okf : Val → Bool) (T : Val → ByteArray) (a b : Val) (ha : ok a = true) (hb : ok b = true) (fa : okf a = true) (fb : okf b = true) (h : V a = true → V b = true → bEq (T a) (T b) = eqV a b) :
    exFn (gX (g1 V ok okf T) { orc := [(31, false)] }) Tryd.f6 [valA a, valA b] = some (true, .bool true) := by
  rw [xf6]
  unfold eqV eqL at h
  obtain ⟨t, o, ⟨an, ap, au⟩, ⟨bn, bp, bu⟩, ⟨cn, cp, cu⟩, ⟨dn, dp, du⟩⟩ := a
  obtain ⟨t', o', ⟨an', ap', au'⟩, ⟨bn', bp', bu'⟩, ⟨cn', cp', cu'⟩, ⟨dn', dp', du'⟩⟩ := b
  simp only at h
  have e1 : bEq (T ⟨t, o, ⟨an, ap, au⟩, ⟨bn, bp, bu⟩, ⟨cn, cp, cu⟩, ⟨dn, dp, du⟩⟩) (T ⟨t, o, ⟨an, ap, au⟩, ⟨bn, bp, bu⟩, ⟨cn, cp, cu⟩, ⟨dn, dp, du⟩⟩) = true := (bEq_iff _ _).2 rfl
  simp only [ha, hb, fa, fb, e1]
  generalize V ⟨t, o, ⟨an, ap, au⟩, ⟨bn, bp, bu⟩, ⟨cn, cp, cu⟩, ⟨dn, dp, du⟩⟩ = v1 at *
  generalize V ⟨t', o', ⟨an', ap', au'⟩, ⟨bn', bp', bu'⟩, ⟨cn', cp', cu'⟩, ⟨dn', dp', du'⟩⟩ = v2 at *
  cases v1
  · rfl
  · cases v2
    · rfl
    · rw [h rfl rfl, sEqB_self]
      rfl
theorem text_eq {a b : Val} (ha : validV a = true) (hb : validV b = true) : bEq (fmtB a) (fmtB b) = eqV a b := by
  rw [Bool.eq_iff_iff, bEq_iff, eqV_iff]
  unfold fmtB
  rw [ha, hb]
  constructor
  · exact fun h => fmt_injV ha hb h
  · rintro rfl; rfl
def xm6 : List AV → Option (Bool × AV)
  | [a, b] => (asVal a).bind fun a => (asVal b).bind fun b => some (sAnd (okF a) (okF b), .bool true)
  | _ => none
theorem law6 (hm : Tryd.prog.follows .mixedOrders = true) : KOk E0 6 xm6 := (gk1 hm).read hm Tryd.func6 (ent Tryd.func6 (by decide) (by rfl)) { orc := [(31, false)] } (by
  intro xs r h
  unfold xm6 at h
  split at h
  · simp only [Option.bind_eq_some_iff, Option.some.injEq, Prod.mk.injEq, Bool.and_eq_true] at h
    obtain ⟨a, ha, b, hb, ⟨oka, okb⟩, rfl⟩ := h
    rw [asVal_eq ha, asVal_eq hb]
    have ka : okV a = true := by unfold okF at oka; simp only [Bool.and_eq_true] at oka; exact oka.1
    have kb : okV b = true := by unfold okF at okb; simp only [Bool.and_eq_true] at okb; exact okb.1
    exact nat6 _ _ _ _ a b ka kb oka okb text_eq
  · cases h)
theorem okF_of {x : valS.den} (h : valS.Wf x) : okF (valD x) = true := by
  have h1 := okV_of h
  have h2 : okImm (valD x).o = true := decide_eq_true (bounds_i64 h.2.1)
  unfold okF
  rw [h1, h2]
  rfl
theorem format6 {a b : Val} (ha : okF a = true) (hb : okF b = true) : xm6 [valA a, valA b] = some (true, .bool true) := by
  show some (sAnd (okF a) (okF b), AV.bool true) = _
  rw [ha, hb]; rfl
end Go.Proofs.YtnjofponcdcfcaaDoor
