/- Poison, and which values refine which. No conditions. -/
import Derived.Test.YtnjofponcdcfcaaDoorValNat4
set_option linter.all false
namespace Go.Proofs.YtnjofponcdcfcaaDoor
open Go Ab
set_option maxRecDepth 100000
def cmV (V ok : Val → Bool) : List AV → Option (Bool × AV)
  | [v] => (asVal v).bind fun v => some (ok v, .bool (V v))
  | _ => none
def cmR (R : Lane → Lane → Bool) : List AV → Option (Bool × AV)
  | [a, b] => (asLane a).bind fun a => (asLane b).bind fun b => some (true, .bool (R a b))
  | _ => none
noncomputable def d1 (V ok : Val → Bool) (R : Lane → Lane → Bool) : XTab := { a6 with k := (25, cmV V ok) :: (23, cmV V ok) :: (53, cmR R) :: (47, cmR R) :: a6.k }
def eqL (a b : Lane) : Bool := sAnd (sEq a.n b.n) (sAnd (sEqB a.p b.p) (sAnd (sEqB a.u b.u) true))
/-- Whether a lane refines another. -/
def rlV (a b : Lane) : Bool := sIf b.p true (sIf b.u (sNot a.p) (eqL a b))
theorem xf53 (a : Lane) (b : Lane) : exFn (gX a6) Tryd.f53 [laneA a, laneA b] = (
 let q0 : Bool := sIf b.p true (sAnd (sEq a.n b.n) (sAnd (sEqB a.p b.p) (sAnd (sEqB a.u b.u) true)));
  let q1 : Bool := sNot q0;
  let q2 : Bool := sNot q1;
  let q3 : Bool := sOr q2 q1;
  let q4 : Bool := sAnd q1 b.u;
  let q5 : Bool := sNot q4;
  let q6 : Bool := sOr q5 q4;
  some
  (sAnd true
      (sIf true
        (sAnd
          (sAnd true
            (sAnd true
              (sAnd true
                (sAnd (sOr (sNot (sNot b.p)) true)
                  (sAnd (sOr (sNot (sNot b.p)) true)
                    (sAnd (sOr (sNot (sNot b.p)) (sAnd (sAnd (sNot b.p) (sNot b.p)) true))
                      (sAnd (sAnd true (sIf b.p true (sNot b.p)))
                        (sAnd true
                          (sAnd (sOr q2 true)
                            (sAnd q3
                              (sAnd q3
                                (sAnd (sOr q5 true)
                                  (sAnd q6
                                    (sAnd q6
                                      (sAnd (sOr q2 (sAnd q1 (sIf b.u q4 true)))
                                        (sAnd (sAnd true (sIf q0 true q1)) true))))))))))))))))
          true)
        true),
    AV.bool (sIf q0 true (sIf b.u (sNot a.p) false)))) := by kernel_rfl

theorem xf47 (a : Lane) (b : Lane) : exFn (gX a6) Tryd.f47 [laneA a, laneA b] = (
 some
  (sAnd true
      (sIf true
        (sAnd (sAnd true (sIf true (sAnd true (sIf b.p true true)) true))
          (sIf (Tg.mix b.p Tg.r Tg.n).isN
            (sAnd (sAnd true (sIf true (sAnd true (sIf b.u true true)) true))
              (sIf (Tg.mix b.u Tg.r Tg.n).isN true true))
            true))
        true),
    AV.bool
      (sIf (Tg.mix b.p Tg.r Tg.n).isN
        (sIf (Tg.mix b.u Tg.r Tg.n).isN (sAnd (sEq a.n b.n) (sAnd (sEqB a.p b.p) (sAnd (sEqB a.u b.u) true)))
          (sNot a.p))
        true))) := by kernel_rfl

theorem nat53 (a b : Lane) : exFn (gX a6) Tryd.f53 [laneA a, laneA b] = some (true, .bool (rlV a b)) := by
  rw [xf53]
  unfold rlV eqL
  obtain ⟨an, ap, au⟩ := a
  obtain ⟨bn, bp, bu⟩ := b
  simp only
  generalize sEq an bn = z
  cases z <;> cases ap <;> cases au <;> cases bp <;> cases bu <;> rfl
theorem nat47 (a b : Lane) : exFn (gX a6) Tryd.f47 [laneA a, laneA b] = some (true, .bool (rlV a b)) := by
  rw [xf47]
  unfold rlV eqL
  obtain ⟨an, ap, au⟩ := a
  obtain ⟨bn, bp, bu⟩ := b
  simp only
  generalize sEq an bn = z
  cases z <;> cases ap <;> cases au <;> cases bp <;> cases bu <;> rfl
section
variable (hm : Tryd.prog.follows .mixedOrders = true)
include hm
theorem xk53 : KOk E0 53 (cmR rlV) := (ak6 hm).read hm Tryd.func53 (ent Tryd.func53 (by decide) (by rfl)) {} (by
  intro xs r h
  unfold cmR at h
  split at h
  · simp only [Option.bind_eq_some_iff, Option.some.injEq, Prod.mk.injEq] at h
    obtain ⟨a, ha, b, hb, -, rfl⟩ := h
    rw [asLane_eq ha, asLane_eq hb]
    exact nat53 a b
  · cases h)
theorem xk47 : KOk E0 47 (cmR rlV) := (ak6 hm).read hm Tryd.func47 (ent Tryd.func47 (by decide) (by rfl)) {} (by
  intro xs r h
  unfold cmR at h
  split at h
  · simp only [Option.bind_eq_some_iff, Option.some.injEq, Prod.mk.injEq] at h
    obtain ⟨a, ha, b, hb, -, rfl⟩ := h
    rw [asLane_eq ha, asLane_eq hb]
    exact nat47 a b
  · cases h)
theorem dk1 : XOk (d1 validV okV rlV) := ((((ak6 hm).consK (xk47 hm)).consK (xk53 hm)).consK (c := cmV validV okV) (xk23 hm)).consK (c := cmV validV okV) (xk25 hm)
end
theorem xf26 (V : Val → Bool) (ok : Val → Bool) (R : Lane → Lane → Bool) (v : Val) : exFn (gX (d1 V ok R) { lits := [11], unroll := 6 }) Tryd.f26 [valA v] = (
 let q0 : Bool := sNot (V { t := v.t, o := v.o, a := { n := v.a.n, p := v.a.p, u := v.a.u }, b := { n := v.b.n, p := v.b.p, u := v.b.u }, c := { n := v.c.n, p := v.c.p, u := v.c.u }, d := { n := v.d.n, p := v.d.p, u := v.d.u } });
  let q1 : Bool := (Tg.mix q0 Tg.r Tg.n).isN;
  let q2 : Tg := (Tg.block 1 (Tg.mix v.a.p Tg.r Tg.n)).thenN Tg.n;
  let q3 : Bool := q2.isN;
  let q4 : Tg := (Tg.block 1 (Tg.mix v.b.p Tg.r Tg.n)).thenN Tg.n;
  let q5 : Bool := q4.isN;
  let q6 : Tg := (Tg.block 1 (Tg.mix v.c.p Tg.r Tg.n)).thenN Tg.n;
  let q7 : Bool := q6.isN;
  let q8 : Tg := (Tg.block 1 (Tg.mix v.d.p Tg.r Tg.n)).thenN Tg.n;
  let q9 : Bool := (Tg.block 0 (q2.thenN (q4.thenN (q6.thenN (q8.thenN (Tg.x 0)))))).isN;
  some
  (sAnd true
      (sIf true
        (sAnd
          (sAnd
            (sAnd true
              (sAnd
                (sAnd true
                  (ok
                    { t := v.t, o := v.o, a := { n := v.a.n, p := v.a.p, u := v.a.u },
                      b := { n := v.b.n, p := v.b.p, u := v.b.u }, c := { n := v.c.n, p := v.c.p, u := v.c.u },
                      d := { n := v.d.n, p := v.d.p, u := v.d.u } }))
                true))
            (sIf true (sAnd true (sIf q0 true true)) true))
          (sIf q1
            (sAnd
              (sAnd true
                (sIf true
                  (sAnd
                    (sAnd true
                      (sIf true
                        (sAnd true
                          (sIf true
                            (sAnd
                              (sAnd true (sIf true (sAnd true (sIf true (sAnd true (sIf v.a.p true true)) true)) true))
                              (sIf (Tg.block 1 (Tg.mix v.a.p Tg.r Tg.n)).isN true true))
                            true))
                        true))
                    (sIf q3
                      (sAnd
                        (sAnd true
                          (sIf true
                            (sAnd true
                              (sIf true
                                (sAnd
                                  (sAnd true
                                    (sIf true (sAnd true (sIf true (sAnd true (sIf v.b.p true true)) true)) true))
                                  (sIf (Tg.block 1 (Tg.mix v.b.p Tg.r Tg.n)).isN true true))
                                true))
                            true))
                        (sIf q5
                          (sAnd
                            (sAnd true
                              (sIf true
                                (sAnd true
                                  (sIf true
                                    (sAnd
                                      (sAnd true
                                        (sIf true (sAnd true (sIf true (sAnd true (sIf v.c.p true true)) true)) true))
                                      (sIf (Tg.block 1 (Tg.mix v.c.p Tg.r Tg.n)).isN true true))
                                    true))
                                true))
                            (sIf q7
                              (sAnd
                                (sAnd true
                                  (sIf true
                                    (sAnd true
                                      (sIf true
                                        (sAnd
                                          (sAnd true
                                            (sIf true (sAnd true (sIf true (sAnd true (sIf v.d.p true true)) true))
                                              true))
                                          (sIf (Tg.block 1 (Tg.mix v.d.p Tg.r Tg.n)).isN true true))
                                        true))
                                    true))
                                (sIf q8.isN true true))
                              true))
                          true))
                      true))
                  true))
              (sIf q9 true true))
            true))
        true),
    AV.bool (sIf q1 (sIf q9 false (sIf q3 (sIf q5 (sIf q7 true true) true) true)) false))) := by kernel_rfl

theorem xf27 (V : Val → Bool) (ok : Val → Bool) (R : Lane → Lane → Bool) (v : Val) : exFn (gX (d1 V ok R) { lits := [11], unroll := 6 }) Tryd.f27 [valA v] = (
 let q0 : Bool := sNot (V { t := v.t, o := v.o, a := { n := v.a.n, p := v.a.p, u := v.a.u }, b := { n := v.b.n, p := v.b.p, u := v.b.u }, c := { n := v.c.n, p := v.c.p, u := v.c.u }, d := { n := v.d.n, p := v.d.p, u := v.d.u } });
  let q1 : Bool := (Tg.mix q0 Tg.r Tg.n).isN;
  let q2 : Tg := (Tg.block 1 (Tg.mix v.a.p Tg.r Tg.n)).thenN Tg.n;
  let q3 : Bool := q2.isN;
  let q4 : Tg := (Tg.block 1 (Tg.mix v.b.p Tg.r Tg.n)).thenN Tg.n;
  let q5 : Bool := q4.isN;
  let q6 : Tg := (Tg.block 1 (Tg.mix v.c.p Tg.r Tg.n)).thenN Tg.n;
  let q7 : Bool := q6.isN;
  let q8 : Tg := (Tg.block 1 (Tg.mix v.d.p Tg.r Tg.n)).thenN Tg.n;
  let q9 : Bool := (Tg.block 0 (q2.thenN (q4.thenN (q6.thenN (q8.thenN (Tg.x 0)))))).isN;
  some
  (sAnd true
      (sIf true
        (sAnd
          (sAnd
            (sAnd true
              (sAnd
                (sAnd true
                  (ok
                    { t := v.t, o := v.o, a := { n := v.a.n, p := v.a.p, u := v.a.u },
                      b := { n := v.b.n, p := v.b.p, u := v.b.u }, c := { n := v.c.n, p := v.c.p, u := v.c.u },
                      d := { n := v.d.n, p := v.d.p, u := v.d.u } }))
                true))
            (sIf true (sAnd true (sIf q0 true true)) true))
          (sIf q1
            (sAnd
              (sAnd true
                (sIf true
                  (sAnd
                    (sAnd true
                      (sIf true
                        (sAnd true
                          (sIf true
                            (sAnd
                              (sAnd true (sIf true (sAnd true (sIf true (sAnd true (sIf v.a.p true true)) true)) true))
                              (sIf (Tg.block 1 (Tg.mix v.a.p Tg.r Tg.n)).isN true true))
                            true))
                        true))
                    (sIf q3
                      (sAnd
                        (sAnd true
                          (sIf true
                            (sAnd true
                              (sIf true
                                (sAnd
                                  (sAnd true
                                    (sIf true (sAnd true (sIf true (sAnd true (sIf v.b.p true true)) true)) true))
                                  (sIf (Tg.block 1 (Tg.mix v.b.p Tg.r Tg.n)).isN true true))
                                true))
                            true))
                        (sIf q5
                          (sAnd
                            (sAnd true
                              (sIf true
                                (sAnd true
                                  (sIf true
                                    (sAnd
                                      (sAnd true
                                        (sIf true (sAnd true (sIf true (sAnd true (sIf v.c.p true true)) true)) true))
                                      (sIf (Tg.block 1 (Tg.mix v.c.p Tg.r Tg.n)).isN true true))
                                    true))
                                true))
                            (sIf q7
                              (sAnd
                                (sAnd true
                                  (sIf true
                                    (sAnd true
                                      (sIf true
                                        (sAnd
                                          (sAnd true
                                            (sIf true (sAnd true (sIf true (sAnd true (sIf v.d.p true true)) true))
                                              true))
                                          (sIf (Tg.block 1 (Tg.mix v.d.p Tg.r Tg.n)).isN true true))
                                        true))
                                    true))
                                (sIf q8.isN true true))
                              true))
                          true))
                      true))
                  true))
              (sIf q9 true true))
            true))
        true),
    AV.bool (sIf q1 (sIf q9 false (sIf q3 (sIf q5 (sIf q7 true true) true) true)) false))) := by kernel_rfl

def hpV (V : Val → Bool) (v : Val) : Bool := sIf (V v) (sIf v.a.p true (sIf v.b.p true (sIf v.c.p true v.d.p))) false
theorem nat26 (V ok : Val → Bool) (R : Lane → Lane → Bool) (v : Val) (h : ok v = true) : exFn (gX (d1 V ok R) { lits := [11], unroll := 6 }) Tryd.f26 [valA v] = some (true, .bool (hpV V v)) := by
  rw [xf26]
  obtain ⟨t, o, ⟨an, ap, au⟩, ⟨bn, bp, bu⟩, ⟨cn, cp, cu⟩, ⟨dn, dp, du⟩⟩ := v
  unfold hpV
  simp only [h]
  generalize V ⟨t, o, ⟨an, ap, au⟩, ⟨bn, bp, bu⟩, ⟨cn, cp, cu⟩, ⟨dn, dp, du⟩⟩ = z
  cases z <;> cases ap <;> cases bp <;> cases cp <;> cases dp <;> rfl
theorem nat27 (V ok : Val → Bool) (R : Lane → Lane → Bool) (v : Val) (h : ok v = true) : exFn (gX (d1 V ok R) { lits := [11], unroll := 6 }) Tryd.f27 [valA v] = some (true, .bool (hpV V v)) := by
  rw [xf27]
  obtain ⟨t, o, ⟨an, ap, au⟩, ⟨bn, bp, bu⟩, ⟨cn, cp, cu⟩, ⟨dn, dp, du⟩⟩ := v
  unfold hpV
  simp only [h]
  generalize V ⟨t, o, ⟨an, ap, au⟩, ⟨bn, bp, bu⟩, ⟨cn, cp, cu⟩, ⟨dn, dp, du⟩⟩ = z
  cases z <;> cases ap <;> cases bp <;> cases cp <;> cases dp <;> rfl
def lanesR (R : Lane → Lane → Bool) (t : Int) (a b : Val) : Bool := sAnd (R a.a b.a) (sAnd (sIf (sLt 1 (nlV t)) (R a.b b.b) true) (sAnd (sIf (sLt 2 (nlV t)) (R a.c b.c) true) (sIf (sLt 3 (nlV t)) (R a.d b.d) true)))
def refV (a b : Val) : Bool := sIf (sIf (sIf (sNot (validV a)) true (sNot (validV b))) true (sNe a.t b.t)) false (sAnd (lanesR rlV a.t a b) (sIf (sNe a.t 5) true (sIf b.a.p true (sEq a.o b.o))))
theorem xf249 (V : Val → Bool) (ok : Val → Bool) (R : Lane → Lane → Bool) (a : Val) (b : Val) : exFn (gX (d1 V ok R) { orc := [(20, true)] }) Tryd.f24 [valA a, valA b] = (
 let q0 : Bool := sNot (V { t := a.t, o := a.o, a := { n := a.a.n, p := a.a.p, u := a.a.u }, b := { n := a.b.n, p := a.b.p, u := a.b.u }, c := { n := a.c.n, p := a.c.p, u := a.c.u }, d := { n := a.d.n, p := a.d.p, u := a.d.u } });
  let q1 : Bool := sNot q0;
  let q2 : Bool := sNot q1;
  let q3 : Bool := sIf q0 true (sNot (V { t := b.t, o := b.o, a := { n := b.a.n, p := b.a.p, u := b.a.u }, b := { n := b.b.n, p := b.b.p, u := b.b.u }, c := { n := b.c.n, p := b.c.p, u := b.c.u }, d := { n := b.d.n, p := b.d.p, u := b.d.u } }));
  let q4 : Bool := sNot q3;
  let q5 : Bool := sNot q4;
  let q6 : Bool := sOr q5 true;
  let q7 : Bool := sOr q5 q4;
  some
  (sAnd true
      (sIf true
        (sAnd
          (sAnd true
            (sAnd
              (sAnd true
                (ok
                  { t := a.t, o := a.o, a := { n := a.a.n, p := a.a.p, u := a.a.u },
                    b := { n := a.b.n, p := a.b.p, u := a.b.u }, c := { n := a.c.n, p := a.c.p, u := a.c.u },
                    d := { n := a.d.n, p := a.d.p, u := a.d.u } }))
              (sAnd true
                (sAnd true
                  (sAnd (sOr q2 true)
                    (sAnd
                      (sOr q2
                        (sAnd (sAnd q1 true)
                          (ok
                            { t := b.t, o := b.o, a := { n := b.a.n, p := b.a.p, u := b.a.u },
                              b := { n := b.b.n, p := b.b.p, u := b.b.u }, c := { n := b.c.n, p := b.c.p, u := b.c.u },
                              d := { n := b.d.n, p := b.d.p, u := b.d.u } })))
                      (sAnd (sOr q2 q1)
                        (sAnd (sAnd true (sIf q0 true q1))
                          (sAnd true
                            (sAnd q6
                              (sAnd q7
                                (sAnd q6
                                  (sAnd q7
                                    (sAnd (sOr q5 (sAnd (sAnd q4 q4) true))
                                      (sAnd (sAnd true (sIf q3 true q4)) true)))))))))))))))
          (sIf true (sAnd (sAnd true (sIf q3 true (sNe a.t b.t))) true) true))
        true),
    AV.bool false)) := by kernel_rfl

theorem nat249 (V ok : Val → Bool) (R : Lane → Lane → Bool) (a b : Val) (ha : ok a = true) (hb : ok b = true) (h : sIf (sIf (sNot (V a)) true (sNot (V b))) true (sNe a.t b.t) = true) :
    exFn (gX (d1 V ok R) { orc := [(20, true)] }) Tryd.f24 [valA a, valA b] = some (true, .bool false) := by
  rw [xf249]
  obtain ⟨t, o, ⟨an, ap, au⟩, ⟨bn, bp, bu⟩, ⟨cn, cp, cu⟩, ⟨dn, dp, du⟩⟩ := a
  obtain ⟨t', o', ⟨an', ap', au'⟩, ⟨bn', bp', bu'⟩, ⟨cn', cp', cu'⟩, ⟨dn', dp', du'⟩⟩ := b
  simp only at h
  simp only [ha, hb]
  generalize V ⟨t, o, ⟨an, ap, au⟩, ⟨bn, bp, bu⟩, ⟨cn, cp, cu⟩, ⟨dn, dp, du⟩⟩ = z at *
  generalize V ⟨t', o', ⟨an', ap', au'⟩, ⟨bn', bp', bu'⟩, ⟨cn', cp', cu'⟩, ⟨dn', dp', du'⟩⟩ = z' at *
  generalize sNe t t' = n at *
  cases z <;> cases z' <;> cases n <;> first | rfl | cases h
theorem xf241 (V : Val → Bool) (ok : Val → Bool) (R : Lane → Lane → Bool) (oa : Int) (ob : Int) (tb : Int) (a0 : Lane) (a1 : Lane) (a2 : Lane) (a3 : Lane) (b0 : Lane) (b1 : Lane) (b2 : Lane) (b3 : Lane) : exFn (gX (d1 V ok R) { orc := [(9, false), (14, false), (20, false)], lits := [25], unroll := 6 }) Tryd.f24
  [valA { t := 1, o := oa, a := a0, b := a1, c := a2, d := a3 },
    valA { t := tb, o := ob, a := b0, b := b1, c := b2, d := b3 }] = (
 let q0 : Bool := sNot (V { t := 1, o := oa, a := { n := a0.n, p := a0.p, u := a0.u }, b := { n := a1.n, p := a1.p, u := a1.u }, c := { n := a2.n, p := a2.p, u := a2.u }, d := { n := a3.n, p := a3.p, u := a3.u } });
  let q1 : Bool := sNot q0;
  let q2 : Bool := sAnd q1 true;
  let q3 : Bool := sIf q0 true (sNot (V { t := tb, o := ob, a := { n := b0.n, p := b0.p, u := b0.u }, b := { n := b1.n, p := b1.p, u := b1.u }, c := { n := b2.n, p := b2.p, u := b2.u }, d := { n := b3.n, p := b3.p, u := b3.u } }));
  let q4 : Bool := sAnd (sNot q3) true;
  let q5 : Bool := sNot (R { n := a0.n, p := a0.p, u := a0.u } { n := b0.n, p := b0.p, u := b0.u });
  let q6 : Tg := Tg.block 1 (Tg.mix q5 Tg.r Tg.n);
  let q7 : Tg := q6.thenN Tg.n;
  let q8 : Bool := (Tg.block 0 (q7.thenN (Tg.x 0))).isN;
  some
  (sAnd true
      (sIf true
        (sAnd
          (sAnd
            (sAnd true
              (sAnd
                (sAnd true
                  (ok
                    { t := 1, o := oa, a := { n := a0.n, p := a0.p, u := a0.u },
                      b := { n := a1.n, p := a1.p, u := a1.u }, c := { n := a2.n, p := a2.p, u := a2.u },
                      d := { n := a3.n, p := a3.p, u := a3.u } }))
                (sAnd true
                  (sAnd true
                    (sAnd q2
                      (sAnd
                        (sAnd q1
                          (sAnd true
                            (ok
                              { t := tb, o := ob, a := { n := b0.n, p := b0.p, u := b0.u },
                                b := { n := b1.n, p := b1.p, u := b1.u }, c := { n := b2.n, p := b2.p, u := b2.u },
                                d := { n := b3.n, p := b3.p, u := b3.u } })))
                        (sAnd q2
                          (sAnd (sAnd true (sIf q0 true true))
                            (sAnd true
                              (sAnd q4
                                (sAnd q4
                                  (sAnd q4 (sAnd q4 (sAnd q4 (sAnd (sAnd true (sIf q3 true true)) true)))))))))))))))
            (sIf true (sAnd (sAnd true (sNot (sIf q3 true (sNe 1 tb)))) true) true))
          (sIf true
            (sAnd
              (sAnd true
                (sIf true
                  (sAnd
                    (sAnd true
                      (sIf true
                        (sAnd true
                          (sIf true
                            (sAnd (sAnd true (sIf true (sAnd true (sIf true (sAnd true (sIf q5 true true)) true)) true))
                              (sIf q6.isN true true))
                            true))
                        true))
                    (sIf q7.isN true true))
                  true))
              (sIf q8 true true))
            true))
        true),
    AV.bool (sIf q8 true false))) := by kernel_rfl

theorem nat241 (V ok : Val → Bool) (R : Lane → Lane → Bool) (oa ob : Int) (a0 a1 a2 a3 b0 b1 b2 b3 : Lane) (hva : V ⟨1, oa, a0, a1, a2, a3⟩ = true) (hvb : V ⟨1, ob, b0, b1, b2, b3⟩ = true) (ha : ok ⟨1, oa, a0, a1, a2, a3⟩ = true) (hb : ok ⟨1, ob, b0, b1, b2, b3⟩ = true) :
    exFn (gX (d1 V ok R) { orc := [(9, false), (14, false), (20, false)], lits := [25], unroll := 6 }) Tryd.f24 [valA ⟨1, oa, a0, a1, a2, a3⟩, valA ⟨1, ob, b0, b1, b2, b3⟩] = some (true, .bool (sAnd (lanesR R 1 ⟨1, oa, a0, a1, a2, a3⟩ ⟨1, ob, b0, b1, b2, b3⟩) (sIf (sNe 1 5) true (sIf b0.p true (sEq oa ob))))) := by
  rw [xf241]
  obtain ⟨na0, pa0, ua0⟩ := a0
  obtain ⟨na1, pa1, ua1⟩ := a1
  obtain ⟨na2, pa2, ua2⟩ := a2
  obtain ⟨na3, pa3, ua3⟩ := a3
  obtain ⟨nb0, pb0, ub0⟩ := b0
  obtain ⟨nb1, pb1, ub1⟩ := b1
  obtain ⟨nb2, pb2, ub2⟩ := b2
  obtain ⟨nb3, pb3, ub3⟩ := b3
  unfold lanesR
  simp only [hva, hvb, ha, hb]
  generalize R ⟨na0, pa0, ua0⟩ ⟨nb0, pb0, ub0⟩ = r0
  generalize sEq oa ob = q
  cases pb0 <;> cases q <;> cases r0 <;> rfl
theorem xf242 (V : Val → Bool) (ok : Val → Bool) (R : Lane → Lane → Bool) (oa : Int) (ob : Int) (tb : Int) (a0 : Lane) (a1 : Lane) (a2 : Lane) (a3 : Lane) (b0 : Lane) (b1 : Lane) (b2 : Lane) (b3 : Lane) : exFn (gX (d1 V ok R) { orc := [(9, false), (14, false), (20, false)], lits := [25], unroll := 6 }) Tryd.f24
  [valA { t := 2, o := oa, a := a0, b := a1, c := a2, d := a3 },
    valA { t := tb, o := ob, a := b0, b := b1, c := b2, d := b3 }] = (
 let q0 : Bool := sNot (V { t := 2, o := oa, a := { n := a0.n, p := a0.p, u := a0.u }, b := { n := a1.n, p := a1.p, u := a1.u }, c := { n := a2.n, p := a2.p, u := a2.u }, d := { n := a3.n, p := a3.p, u := a3.u } });
  let q1 : Bool := sNot q0;
  let q2 : Bool := sAnd q1 true;
  let q3 : Bool := sIf q0 true (sNot (V { t := tb, o := ob, a := { n := b0.n, p := b0.p, u := b0.u }, b := { n := b1.n, p := b1.p, u := b1.u }, c := { n := b2.n, p := b2.p, u := b2.u }, d := { n := b3.n, p := b3.p, u := b3.u } }));
  let q4 : Bool := sAnd (sNot q3) true;
  let q5 : Bool := sNot (R { n := a0.n, p := a0.p, u := a0.u } { n := b0.n, p := b0.p, u := b0.u });
  let q6 : Tg := Tg.block 1 (Tg.mix q5 Tg.r Tg.n);
  let q7 : Tg := q6.thenN Tg.n;
  let q8 : Bool := (Tg.block 0 (q7.thenN (Tg.x 0))).isN;
  some
  (sAnd true
      (sIf true
        (sAnd
          (sAnd
            (sAnd true
              (sAnd
                (sAnd true
                  (ok
                    { t := 2, o := oa, a := { n := a0.n, p := a0.p, u := a0.u },
                      b := { n := a1.n, p := a1.p, u := a1.u }, c := { n := a2.n, p := a2.p, u := a2.u },
                      d := { n := a3.n, p := a3.p, u := a3.u } }))
                (sAnd true
                  (sAnd true
                    (sAnd q2
                      (sAnd
                        (sAnd q1
                          (sAnd true
                            (ok
                              { t := tb, o := ob, a := { n := b0.n, p := b0.p, u := b0.u },
                                b := { n := b1.n, p := b1.p, u := b1.u }, c := { n := b2.n, p := b2.p, u := b2.u },
                                d := { n := b3.n, p := b3.p, u := b3.u } })))
                        (sAnd q2
                          (sAnd (sAnd true (sIf q0 true true))
                            (sAnd true
                              (sAnd q4
                                (sAnd q4
                                  (sAnd q4 (sAnd q4 (sAnd q4 (sAnd (sAnd true (sIf q3 true true)) true)))))))))))))))
            (sIf true (sAnd (sAnd true (sNot (sIf q3 true (sNe 2 tb)))) true) true))
          (sIf true
            (sAnd
              (sAnd true
                (sIf true
                  (sAnd
                    (sAnd true
                      (sIf true
                        (sAnd true
                          (sIf true
                            (sAnd (sAnd true (sIf true (sAnd true (sIf true (sAnd true (sIf q5 true true)) true)) true))
                              (sIf q6.isN true true))
                            true))
                        true))
                    (sIf q7.isN true true))
                  true))
              (sIf q8 true true))
            true))
        true),
    AV.bool (sIf q8 true false))) := by kernel_rfl

theorem nat242 (V ok : Val → Bool) (R : Lane → Lane → Bool) (oa ob : Int) (a0 a1 a2 a3 b0 b1 b2 b3 : Lane) (hva : V ⟨2, oa, a0, a1, a2, a3⟩ = true) (hvb : V ⟨2, ob, b0, b1, b2, b3⟩ = true) (ha : ok ⟨2, oa, a0, a1, a2, a3⟩ = true) (hb : ok ⟨2, ob, b0, b1, b2, b3⟩ = true) :
    exFn (gX (d1 V ok R) { orc := [(9, false), (14, false), (20, false)], lits := [25], unroll := 6 }) Tryd.f24 [valA ⟨2, oa, a0, a1, a2, a3⟩, valA ⟨2, ob, b0, b1, b2, b3⟩] = some (true, .bool (sAnd (lanesR R 2 ⟨2, oa, a0, a1, a2, a3⟩ ⟨2, ob, b0, b1, b2, b3⟩) (sIf (sNe 2 5) true (sIf b0.p true (sEq oa ob))))) := by
  rw [xf242]
  obtain ⟨na0, pa0, ua0⟩ := a0
  obtain ⟨na1, pa1, ua1⟩ := a1
  obtain ⟨na2, pa2, ua2⟩ := a2
  obtain ⟨na3, pa3, ua3⟩ := a3
  obtain ⟨nb0, pb0, ub0⟩ := b0
  obtain ⟨nb1, pb1, ub1⟩ := b1
  obtain ⟨nb2, pb2, ub2⟩ := b2
  obtain ⟨nb3, pb3, ub3⟩ := b3
  unfold lanesR
  simp only [hva, hvb, ha, hb]
  generalize R ⟨na0, pa0, ua0⟩ ⟨nb0, pb0, ub0⟩ = r0
  generalize sEq oa ob = q
  cases pb0 <;> cases q <;> cases r0 <;> rfl
theorem xf243 (V : Val → Bool) (ok : Val → Bool) (R : Lane → Lane → Bool) (oa : Int) (ob : Int) (tb : Int) (a0 : Lane) (a1 : Lane) (a2 : Lane) (a3 : Lane) (b0 : Lane) (b1 : Lane) (b2 : Lane) (b3 : Lane) : exFn (gX (d1 V ok R) { orc := [(9, false), (14, false), (20, false)], lits := [25], unroll := 6 }) Tryd.f24
  [valA { t := 3, o := oa, a := a0, b := a1, c := a2, d := a3 },
    valA { t := tb, o := ob, a := b0, b := b1, c := b2, d := b3 }] = (
 let q0 : Bool := sNot (V { t := 3, o := oa, a := { n := a0.n, p := a0.p, u := a0.u }, b := { n := a1.n, p := a1.p, u := a1.u }, c := { n := a2.n, p := a2.p, u := a2.u }, d := { n := a3.n, p := a3.p, u := a3.u } });
  let q1 : Bool := sNot q0;
  let q2 : Bool := sAnd q1 true;
  let q3 : Bool := sIf q0 true (sNot (V { t := tb, o := ob, a := { n := b0.n, p := b0.p, u := b0.u }, b := { n := b1.n, p := b1.p, u := b1.u }, c := { n := b2.n, p := b2.p, u := b2.u }, d := { n := b3.n, p := b3.p, u := b3.u } }));
  let q4 : Bool := sAnd (sNot q3) true;
  let q5 : Bool := sNot (R { n := a0.n, p := a0.p, u := a0.u } { n := b0.n, p := b0.p, u := b0.u });
  let q6 : Tg := Tg.block 1 (Tg.mix q5 Tg.r Tg.n);
  let q7 : Tg := q6.thenN Tg.n;
  let q8 : Bool := (Tg.block 0 (q7.thenN (Tg.x 0))).isN;
  some
  (sAnd true
      (sIf true
        (sAnd
          (sAnd
            (sAnd true
              (sAnd
                (sAnd true
                  (ok
                    { t := 3, o := oa, a := { n := a0.n, p := a0.p, u := a0.u },
                      b := { n := a1.n, p := a1.p, u := a1.u }, c := { n := a2.n, p := a2.p, u := a2.u },
                      d := { n := a3.n, p := a3.p, u := a3.u } }))
                (sAnd true
                  (sAnd true
                    (sAnd q2
                      (sAnd
                        (sAnd q1
                          (sAnd true
                            (ok
                              { t := tb, o := ob, a := { n := b0.n, p := b0.p, u := b0.u },
                                b := { n := b1.n, p := b1.p, u := b1.u }, c := { n := b2.n, p := b2.p, u := b2.u },
                                d := { n := b3.n, p := b3.p, u := b3.u } })))
                        (sAnd q2
                          (sAnd (sAnd true (sIf q0 true true))
                            (sAnd true
                              (sAnd q4
                                (sAnd q4
                                  (sAnd q4 (sAnd q4 (sAnd q4 (sAnd (sAnd true (sIf q3 true true)) true)))))))))))))))
            (sIf true (sAnd (sAnd true (sNot (sIf q3 true (sNe 3 tb)))) true) true))
          (sIf true
            (sAnd
              (sAnd true
                (sIf true
                  (sAnd
                    (sAnd true
                      (sIf true
                        (sAnd true
                          (sIf true
                            (sAnd (sAnd true (sIf true (sAnd true (sIf true (sAnd true (sIf q5 true true)) true)) true))
                              (sIf q6.isN true true))
                            true))
                        true))
                    (sIf q7.isN true true))
                  true))
              (sIf q8 true true))
            true))
        true),
    AV.bool (sIf q8 true false))) := by kernel_rfl

theorem nat243 (V ok : Val → Bool) (R : Lane → Lane → Bool) (oa ob : Int) (a0 a1 a2 a3 b0 b1 b2 b3 : Lane) (hva : V ⟨3, oa, a0, a1, a2, a3⟩ = true) (hvb : V ⟨3, ob, b0, b1, b2, b3⟩ = true) (ha : ok ⟨3, oa, a0, a1, a2, a3⟩ = true) (hb : ok ⟨3, ob, b0, b1, b2, b3⟩ = true) :
    exFn (gX (d1 V ok R) { orc := [(9, false), (14, false), (20, false)], lits := [25], unroll := 6 }) Tryd.f24 [valA ⟨3, oa, a0, a1, a2, a3⟩, valA ⟨3, ob, b0, b1, b2, b3⟩] = some (true, .bool (sAnd (lanesR R 3 ⟨3, oa, a0, a1, a2, a3⟩ ⟨3, ob, b0, b1, b2, b3⟩) (sIf (sNe 3 5) true (sIf b0.p true (sEq oa ob))))) := by
  rw [xf243]
  obtain ⟨na0, pa0, ua0⟩ := a0
  obtain ⟨na1, pa1, ua1⟩ := a1
  obtain ⟨na2, pa2, ua2⟩ := a2
  obtain ⟨na3, pa3, ua3⟩ := a3
  obtain ⟨nb0, pb0, ub0⟩ := b0
  obtain ⟨nb1, pb1, ub1⟩ := b1
  obtain ⟨nb2, pb2, ub2⟩ := b2
  obtain ⟨nb3, pb3, ub3⟩ := b3
  unfold lanesR
  simp only [hva, hvb, ha, hb]
  generalize R ⟨na0, pa0, ua0⟩ ⟨nb0, pb0, ub0⟩ = r0
  generalize sEq oa ob = q
  cases pb0 <;> cases q <;> cases r0 <;> rfl
theorem xf244 (V : Val → Bool) (ok : Val → Bool) (R : Lane → Lane → Bool) (oa : Int) (ob : Int) (tb : Int) (a0 : Lane) (a1 : Lane) (a2 : Lane) (a3 : Lane) (b0 : Lane) (b1 : Lane) (b2 : Lane) (b3 : Lane) : exFn (gX (d1 V ok R) { orc := [(9, false), (14, false), (20, false)], lits := [25], unroll := 6 }) Tryd.f24
  [valA { t := 4, o := oa, a := a0, b := a1, c := a2, d := a3 },
    valA { t := tb, o := ob, a := b0, b := b1, c := b2, d := b3 }] = (
 let q0 : Bool := sNot (V { t := 4, o := oa, a := { n := a0.n, p := a0.p, u := a0.u }, b := { n := a1.n, p := a1.p, u := a1.u }, c := { n := a2.n, p := a2.p, u := a2.u }, d := { n := a3.n, p := a3.p, u := a3.u } });
  let q1 : Bool := sNot q0;
  let q2 : Bool := sAnd q1 true;
  let q3 : Bool := sIf q0 true (sNot (V { t := tb, o := ob, a := { n := b0.n, p := b0.p, u := b0.u }, b := { n := b1.n, p := b1.p, u := b1.u }, c := { n := b2.n, p := b2.p, u := b2.u }, d := { n := b3.n, p := b3.p, u := b3.u } }));
  let q4 : Bool := sAnd (sNot q3) true;
  let q5 : Bool := sNot (R { n := a0.n, p := a0.p, u := a0.u } { n := b0.n, p := b0.p, u := b0.u });
  let q6 : Tg := Tg.block 1 (Tg.mix q5 Tg.r Tg.n);
  let q7 : Tg := q6.thenN Tg.n;
  let q8 : Bool := (Tg.block 0 (q7.thenN (Tg.x 0))).isN;
  some
  (sAnd true
      (sIf true
        (sAnd
          (sAnd
            (sAnd true
              (sAnd
                (sAnd true
                  (ok
                    { t := 4, o := oa, a := { n := a0.n, p := a0.p, u := a0.u },
                      b := { n := a1.n, p := a1.p, u := a1.u }, c := { n := a2.n, p := a2.p, u := a2.u },
                      d := { n := a3.n, p := a3.p, u := a3.u } }))
                (sAnd true
                  (sAnd true
                    (sAnd q2
                      (sAnd
                        (sAnd q1
                          (sAnd true
                            (ok
                              { t := tb, o := ob, a := { n := b0.n, p := b0.p, u := b0.u },
                                b := { n := b1.n, p := b1.p, u := b1.u }, c := { n := b2.n, p := b2.p, u := b2.u },
                                d := { n := b3.n, p := b3.p, u := b3.u } })))
                        (sAnd q2
                          (sAnd (sAnd true (sIf q0 true true))
                            (sAnd true
                              (sAnd q4
                                (sAnd q4
                                  (sAnd q4 (sAnd q4 (sAnd q4 (sAnd (sAnd true (sIf q3 true true)) true)))))))))))))))
            (sIf true (sAnd (sAnd true (sNot (sIf q3 true (sNe 4 tb)))) true) true))
          (sIf true
            (sAnd
              (sAnd true
                (sIf true
                  (sAnd
                    (sAnd true
                      (sIf true
                        (sAnd true
                          (sIf true
                            (sAnd (sAnd true (sIf true (sAnd true (sIf true (sAnd true (sIf q5 true true)) true)) true))
                              (sIf q6.isN true true))
                            true))
                        true))
                    (sIf q7.isN true true))
                  true))
              (sIf q8 true true))
            true))
        true),
    AV.bool (sIf q8 true false))) := by kernel_rfl

theorem nat244 (V ok : Val → Bool) (R : Lane → Lane → Bool) (oa ob : Int) (a0 a1 a2 a3 b0 b1 b2 b3 : Lane) (hva : V ⟨4, oa, a0, a1, a2, a3⟩ = true) (hvb : V ⟨4, ob, b0, b1, b2, b3⟩ = true) (ha : ok ⟨4, oa, a0, a1, a2, a3⟩ = true) (hb : ok ⟨4, ob, b0, b1, b2, b3⟩ = true) :
    exFn (gX (d1 V ok R) { orc := [(9, false), (14, false), (20, false)], lits := [25], unroll := 6 }) Tryd.f24 [valA ⟨4, oa, a0, a1, a2, a3⟩, valA ⟨4, ob, b0, b1, b2, b3⟩] = some (true, .bool (sAnd (lanesR R 4 ⟨4, oa, a0, a1, a2, a3⟩ ⟨4, ob, b0, b1, b2, b3⟩) (sIf (sNe 4 5) true (sIf b0.p true (sEq oa ob))))) := by
  rw [xf244]
  obtain ⟨na0, pa0, ua0⟩ := a0
  obtain ⟨na1, pa1, ua1⟩ := a1
  obtain ⟨na2, pa2, ua2⟩ := a2
  obtain ⟨na3, pa3, ua3⟩ := a3
  obtain ⟨nb0, pb0, ub0⟩ := b0
  obtain ⟨nb1, pb1, ub1⟩ := b1
  obtain ⟨nb2, pb2, ub2⟩ := b2
  obtain ⟨nb3, pb3, ub3⟩ := b3
  unfold lanesR
  simp only [hva, hvb, ha, hb]
  generalize R ⟨na0, pa0, ua0⟩ ⟨nb0, pb0, ub0⟩ = r0
  generalize sEq oa ob = q
  cases pb0 <;> cases q <;> cases r0 <;> rfl
theorem xf245 (V : Val → Bool) (ok : Val → Bool) (R : Lane → Lane → Bool) (oa : Int) (ob : Int) (tb : Int) (a0 : Lane) (a1 : Lane) (a2 : Lane) (a3 : Lane) (b0 : Lane) (b1 : Lane) (b2 : Lane) (b3 : Lane) : exFn (gX (d1 V ok R) { orc := [(9, false), (14, false), (20, false)], lits := [25], unroll := 6 }) Tryd.f24
  [valA { t := 5, o := oa, a := a0, b := a1, c := a2, d := a3 },
    valA { t := tb, o := ob, a := b0, b := b1, c := b2, d := b3 }] = (
 let q0 : Bool := sNot (V { t := 5, o := oa, a := { n := a0.n, p := a0.p, u := a0.u }, b := { n := a1.n, p := a1.p, u := a1.u }, c := { n := a2.n, p := a2.p, u := a2.u }, d := { n := a3.n, p := a3.p, u := a3.u } });
  let q1 : Bool := sNot q0;
  let q2 : Bool := sAnd q1 true;
  let q3 : Bool := sIf q0 true (sNot (V { t := tb, o := ob, a := { n := b0.n, p := b0.p, u := b0.u }, b := { n := b1.n, p := b1.p, u := b1.u }, c := { n := b2.n, p := b2.p, u := b2.u }, d := { n := b3.n, p := b3.p, u := b3.u } }));
  let q4 : Bool := sAnd (sNot q3) true;
  let q5 : Bool := sNot (R { n := a0.n, p := a0.p, u := a0.u } { n := b0.n, p := b0.p, u := b0.u });
  let q6 : Tg := Tg.block 1 (Tg.mix q5 Tg.r Tg.n);
  let q7 : Tg := q6.thenN Tg.n;
  let q8 : Bool := (Tg.block 0 (q7.thenN (Tg.x 0))).isN;
  some
  (sAnd true
      (sIf true
        (sAnd
          (sAnd
            (sAnd true
              (sAnd
                (sAnd true
                  (ok
                    { t := 5, o := oa, a := { n := a0.n, p := a0.p, u := a0.u },
                      b := { n := a1.n, p := a1.p, u := a1.u }, c := { n := a2.n, p := a2.p, u := a2.u },
                      d := { n := a3.n, p := a3.p, u := a3.u } }))
                (sAnd true
                  (sAnd true
                    (sAnd q2
                      (sAnd
                        (sAnd q1
                          (sAnd true
                            (ok
                              { t := tb, o := ob, a := { n := b0.n, p := b0.p, u := b0.u },
                                b := { n := b1.n, p := b1.p, u := b1.u }, c := { n := b2.n, p := b2.p, u := b2.u },
                                d := { n := b3.n, p := b3.p, u := b3.u } })))
                        (sAnd q2
                          (sAnd (sAnd true (sIf q0 true true))
                            (sAnd true
                              (sAnd q4
                                (sAnd q4
                                  (sAnd q4 (sAnd q4 (sAnd q4 (sAnd (sAnd true (sIf q3 true true)) true)))))))))))))))
            (sIf true (sAnd (sAnd true (sNot (sIf q3 true (sNe 5 tb)))) true) true))
          (sIf true
            (sAnd
              (sAnd true
                (sIf true
                  (sAnd
                    (sAnd true
                      (sIf true
                        (sAnd true
                          (sIf true
                            (sAnd (sAnd true (sIf true (sAnd true (sIf true (sAnd true (sIf q5 true true)) true)) true))
                              (sIf q6.isN true true))
                            true))
                        true))
                    (sIf q7.isN true true))
                  true))
              (sIf q8
                (sAnd
                  (sAnd true
                    (sAnd true
                      (sAnd true
                        (sAnd true
                          (sAnd true
                            (sAnd true
                              (sAnd true
                                (sAnd true
                                  (sAnd true
                                    (sAnd true
                                      (sAnd (sOr (sNot (sNot b0.p)) true)
                                        (sAnd (sOr (sNot (sNot b0.p)) (sNot b0.p))
                                          (sAnd (sOr (sNot (sNot b0.p)) true)
                                            (sAnd (sOr (sNot (sNot b0.p)) (sNot b0.p))
                                              (sAnd (sOr (sNot (sNot b0.p)) (sAnd (sAnd (sNot b0.p) (sNot b0.p)) true))
                                                (sAnd (sAnd true (sIf b0.p true (sNot b0.p))) true))))))))))))))))
                  true)
                true))
            true))
        true),
    AV.bool (sIf q8 (sIf b0.p true (sEq oa ob)) false))) := by kernel_rfl

theorem nat245 (V ok : Val → Bool) (R : Lane → Lane → Bool) (oa ob : Int) (a0 a1 a2 a3 b0 b1 b2 b3 : Lane) (hva : V ⟨5, oa, a0, a1, a2, a3⟩ = true) (hvb : V ⟨5, ob, b0, b1, b2, b3⟩ = true) (ha : ok ⟨5, oa, a0, a1, a2, a3⟩ = true) (hb : ok ⟨5, ob, b0, b1, b2, b3⟩ = true) :
    exFn (gX (d1 V ok R) { orc := [(9, false), (14, false), (20, false)], lits := [25], unroll := 6 }) Tryd.f24 [valA ⟨5, oa, a0, a1, a2, a3⟩, valA ⟨5, ob, b0, b1, b2, b3⟩] = some (true, .bool (sAnd (lanesR R 5 ⟨5, oa, a0, a1, a2, a3⟩ ⟨5, ob, b0, b1, b2, b3⟩) (sIf (sNe 5 5) true (sIf b0.p true (sEq oa ob))))) := by
  rw [xf245]
  obtain ⟨na0, pa0, ua0⟩ := a0
  obtain ⟨na1, pa1, ua1⟩ := a1
  obtain ⟨na2, pa2, ua2⟩ := a2
  obtain ⟨na3, pa3, ua3⟩ := a3
  obtain ⟨nb0, pb0, ub0⟩ := b0
  obtain ⟨nb1, pb1, ub1⟩ := b1
  obtain ⟨nb2, pb2, ub2⟩ := b2
  obtain ⟨nb3, pb3, ub3⟩ := b3
  unfold lanesR
  simp only [hva, hvb, ha, hb]
  generalize R ⟨na0, pa0, ua0⟩ ⟨nb0, pb0, ub0⟩ = r0
  generalize sEq oa ob = q
  cases pb0 <;> cases q <;> cases r0 <;> rfl
theorem xf246 (V : Val → Bool) (ok : Val → Bool) (R : Lane → Lane → Bool) (oa : Int) (ob : Int) (tb : Int) (a0 : Lane) (a1 : Lane) (a2 : Lane) (a3 : Lane) (b0 : Lane) (b1 : Lane) (b2 : Lane) (b3 : Lane) : exFn (gX (d1 V ok R) { orc := [(9, false), (14, false), (20, false)], lits := [25], unroll := 6 }) Tryd.f24
  [valA { t := 6, o := oa, a := a0, b := a1, c := a2, d := a3 },
    valA { t := tb, o := ob, a := b0, b := b1, c := b2, d := b3 }] = (
 let q0 : Bool := sNot (V { t := 6, o := oa, a := { n := a0.n, p := a0.p, u := a0.u }, b := { n := a1.n, p := a1.p, u := a1.u }, c := { n := a2.n, p := a2.p, u := a2.u }, d := { n := a3.n, p := a3.p, u := a3.u } });
  let q1 : Bool := sNot q0;
  let q2 : Bool := sAnd q1 true;
  let q3 : Bool := sIf q0 true (sNot (V { t := tb, o := ob, a := { n := b0.n, p := b0.p, u := b0.u }, b := { n := b1.n, p := b1.p, u := b1.u }, c := { n := b2.n, p := b2.p, u := b2.u }, d := { n := b3.n, p := b3.p, u := b3.u } }));
  let q4 : Bool := sAnd (sNot q3) true;
  let q5 : Bool := sNot (R { n := a0.n, p := a0.p, u := a0.u } { n := b0.n, p := b0.p, u := b0.u });
  let q6 : Tg := Tg.block 1 (Tg.mix q5 Tg.r Tg.n);
  let q7 : Tg := q6.thenN Tg.n;
  let q8 : Bool := q7.isN;
  let q9 : Bool := sNot (R { n := a1.n, p := a1.p, u := a1.u } { n := b1.n, p := b1.p, u := b1.u });
  let q10 : Tg := Tg.block 1 (Tg.mix q9 Tg.r Tg.n);
  let q11 : Tg := q10.thenN Tg.n;
  let q12 : Bool := (Tg.block 0 (q7.thenN (q11.thenN (Tg.x 0)))).isN;
  some
  (sAnd true
      (sIf true
        (sAnd
          (sAnd
            (sAnd true
              (sAnd
                (sAnd true
                  (ok
                    { t := 6, o := oa, a := { n := a0.n, p := a0.p, u := a0.u },
                      b := { n := a1.n, p := a1.p, u := a1.u }, c := { n := a2.n, p := a2.p, u := a2.u },
                      d := { n := a3.n, p := a3.p, u := a3.u } }))
                (sAnd true
                  (sAnd true
                    (sAnd q2
                      (sAnd
                        (sAnd q1
                          (sAnd true
                            (ok
                              { t := tb, o := ob, a := { n := b0.n, p := b0.p, u := b0.u },
                                b := { n := b1.n, p := b1.p, u := b1.u }, c := { n := b2.n, p := b2.p, u := b2.u },
                                d := { n := b3.n, p := b3.p, u := b3.u } })))
                        (sAnd q2
                          (sAnd (sAnd true (sIf q0 true true))
                            (sAnd true
                              (sAnd q4
                                (sAnd q4
                                  (sAnd q4 (sAnd q4 (sAnd q4 (sAnd (sAnd true (sIf q3 true true)) true)))))))))))))))
            (sIf true (sAnd (sAnd true (sNot (sIf q3 true (sNe 6 tb)))) true) true))
          (sIf true
            (sAnd
              (sAnd true
                (sIf true
                  (sAnd
                    (sAnd true
                      (sIf true
                        (sAnd true
                          (sIf true
                            (sAnd (sAnd true (sIf true (sAnd true (sIf true (sAnd true (sIf q5 true true)) true)) true))
                              (sIf q6.isN true true))
                            true))
                        true))
                    (sIf q8
                      (sAnd
                        (sAnd true
                          (sIf true
                            (sAnd true
                              (sIf true
                                (sAnd
                                  (sAnd true (sIf true (sAnd true (sIf true (sAnd true (sIf q9 true true)) true)) true))
                                  (sIf q10.isN true true))
                                true))
                            true))
                        (sIf q11.isN true true))
                      true))
                  true))
              (sIf q12 true true))
            true))
        true),
    AV.bool (sIf q12 true (sIf q8 false false)))) := by kernel_rfl

theorem nat246 (V ok : Val → Bool) (R : Lane → Lane → Bool) (oa ob : Int) (a0 a1 a2 a3 b0 b1 b2 b3 : Lane) (hva : V ⟨6, oa, a0, a1, a2, a3⟩ = true) (hvb : V ⟨6, ob, b0, b1, b2, b3⟩ = true) (ha : ok ⟨6, oa, a0, a1, a2, a3⟩ = true) (hb : ok ⟨6, ob, b0, b1, b2, b3⟩ = true) :
    exFn (gX (d1 V ok R) { orc := [(9, false), (14, false), (20, false)], lits := [25], unroll := 6 }) Tryd.f24 [valA ⟨6, oa, a0, a1, a2, a3⟩, valA ⟨6, ob, b0, b1, b2, b3⟩] = some (true, .bool (sAnd (lanesR R 6 ⟨6, oa, a0, a1, a2, a3⟩ ⟨6, ob, b0, b1, b2, b3⟩) (sIf (sNe 6 5) true (sIf b0.p true (sEq oa ob))))) := by
  rw [xf246]
  obtain ⟨na0, pa0, ua0⟩ := a0
  obtain ⟨na1, pa1, ua1⟩ := a1
  obtain ⟨na2, pa2, ua2⟩ := a2
  obtain ⟨na3, pa3, ua3⟩ := a3
  obtain ⟨nb0, pb0, ub0⟩ := b0
  obtain ⟨nb1, pb1, ub1⟩ := b1
  obtain ⟨nb2, pb2, ub2⟩ := b2
  obtain ⟨nb3, pb3, ub3⟩ := b3
  unfold lanesR
  simp only [hva, hvb, ha, hb]
  generalize R ⟨na0, pa0, ua0⟩ ⟨nb0, pb0, ub0⟩ = r0
  generalize R ⟨na1, pa1, ua1⟩ ⟨nb1, pb1, ub1⟩ = r1
  generalize sEq oa ob = q
  cases pb0 <;> cases q <;> cases r0 <;> cases r1 <;> rfl
theorem xf247 (V : Val → Bool) (ok : Val → Bool) (R : Lane → Lane → Bool) (oa : Int) (ob : Int) (tb : Int) (a0 : Lane) (a1 : Lane) (a2 : Lane) (a3 : Lane) (b0 : Lane) (b1 : Lane) (b2 : Lane) (b3 : Lane) : exFn (gX (d1 V ok R) { orc := [(9, false), (14, false), (20, false)], lits := [25], unroll := 6 }) Tryd.f24
  [valA { t := 7, o := oa, a := a0, b := a1, c := a2, d := a3 },
    valA { t := tb, o := ob, a := b0, b := b1, c := b2, d := b3 }] = (
 let q0 : Bool := sNot (V { t := 7, o := oa, a := { n := a0.n, p := a0.p, u := a0.u }, b := { n := a1.n, p := a1.p, u := a1.u }, c := { n := a2.n, p := a2.p, u := a2.u }, d := { n := a3.n, p := a3.p, u := a3.u } });
  let q1 : Bool := sNot q0;
  let q2 : Bool := sAnd q1 true;
  let q3 : Bool := sIf q0 true (sNot (V { t := tb, o := ob, a := { n := b0.n, p := b0.p, u := b0.u }, b := { n := b1.n, p := b1.p, u := b1.u }, c := { n := b2.n, p := b2.p, u := b2.u }, d := { n := b3.n, p := b3.p, u := b3.u } }));
  let q4 : Bool := sAnd (sNot q3) true;
  let q5 : Bool := sNot (R { n := a0.n, p := a0.p, u := a0.u } { n := b0.n, p := b0.p, u := b0.u });
  let q6 : Tg := Tg.block 1 (Tg.mix q5 Tg.r Tg.n);
  let q7 : Tg := q6.thenN Tg.n;
  let q8 : Bool := q7.isN;
  let q9 : Bool := sNot (R { n := a1.n, p := a1.p, u := a1.u } { n := b1.n, p := b1.p, u := b1.u });
  let q10 : Tg := Tg.block 1 (Tg.mix q9 Tg.r Tg.n);
  let q11 : Tg := q10.thenN Tg.n;
  let q12 : Bool := q11.isN;
  let q13 : Bool := sNot (R { n := a2.n, p := a2.p, u := a2.u } { n := b2.n, p := b2.p, u := b2.u });
  let q14 : Tg := Tg.block 1 (Tg.mix q13 Tg.r Tg.n);
  let q15 : Tg := q14.thenN Tg.n;
  let q16 : Bool := q15.isN;
  let q17 : Bool := sNot (R { n := a3.n, p := a3.p, u := a3.u } { n := b3.n, p := b3.p, u := b3.u });
  let q18 : Tg := Tg.block 1 (Tg.mix q17 Tg.r Tg.n);
  let q19 : Tg := q18.thenN Tg.n;
  let q20 : Bool := (Tg.block 0 (q7.thenN (q11.thenN (q15.thenN (q19.thenN (Tg.x 0)))))).isN;
  some
  (sAnd true
      (sIf true
        (sAnd
          (sAnd
            (sAnd true
              (sAnd
                (sAnd true
                  (ok
                    { t := 7, o := oa, a := { n := a0.n, p := a0.p, u := a0.u },
                      b := { n := a1.n, p := a1.p, u := a1.u }, c := { n := a2.n, p := a2.p, u := a2.u },
                      d := { n := a3.n, p := a3.p, u := a3.u } }))
                (sAnd true
                  (sAnd true
                    (sAnd q2
                      (sAnd
                        (sAnd q1
                          (sAnd true
                            (ok
                              { t := tb, o := ob, a := { n := b0.n, p := b0.p, u := b0.u },
                                b := { n := b1.n, p := b1.p, u := b1.u }, c := { n := b2.n, p := b2.p, u := b2.u },
                                d := { n := b3.n, p := b3.p, u := b3.u } })))
                        (sAnd q2
                          (sAnd (sAnd true (sIf q0 true true))
                            (sAnd true
                              (sAnd q4
                                (sAnd q4
                                  (sAnd q4 (sAnd q4 (sAnd q4 (sAnd (sAnd true (sIf q3 true true)) true)))))))))))))))
            (sIf true (sAnd (sAnd true (sNot (sIf q3 true (sNe 7 tb)))) true) true))
          (sIf true
            (sAnd
              (sAnd true
                (sIf true
                  (sAnd
                    (sAnd true
                      (sIf true
                        (sAnd true
                          (sIf true
                            (sAnd (sAnd true (sIf true (sAnd true (sIf true (sAnd true (sIf q5 true true)) true)) true))
                              (sIf q6.isN true true))
                            true))
                        true))
                    (sIf q8
                      (sAnd
                        (sAnd true
                          (sIf true
                            (sAnd true
                              (sIf true
                                (sAnd
                                  (sAnd true (sIf true (sAnd true (sIf true (sAnd true (sIf q9 true true)) true)) true))
                                  (sIf q10.isN true true))
                                true))
                            true))
                        (sIf q12
                          (sAnd
                            (sAnd true
                              (sIf true
                                (sAnd true
                                  (sIf true
                                    (sAnd
                                      (sAnd true
                                        (sIf true (sAnd true (sIf true (sAnd true (sIf q13 true true)) true)) true))
                                      (sIf q14.isN true true))
                                    true))
                                true))
                            (sIf q16
                              (sAnd
                                (sAnd true
                                  (sIf true
                                    (sAnd true
                                      (sIf true
                                        (sAnd
                                          (sAnd true
                                            (sIf true (sAnd true (sIf true (sAnd true (sIf q17 true true)) true)) true))
                                          (sIf q18.isN true true))
                                        true))
                                    true))
                                (sIf q19.isN true true))
                              true))
                          true))
                      true))
                  true))
              (sIf q20 true true))
            true))
        true),
    AV.bool (sIf q20 true (sIf q8 (sIf q12 (sIf q16 false false) false) false)))) := by kernel_rfl

theorem nat247 (V ok : Val → Bool) (R : Lane → Lane → Bool) (oa ob : Int) (a0 a1 a2 a3 b0 b1 b2 b3 : Lane) (hva : V ⟨7, oa, a0, a1, a2, a3⟩ = true) (hvb : V ⟨7, ob, b0, b1, b2, b3⟩ = true) (ha : ok ⟨7, oa, a0, a1, a2, a3⟩ = true) (hb : ok ⟨7, ob, b0, b1, b2, b3⟩ = true) :
    exFn (gX (d1 V ok R) { orc := [(9, false), (14, false), (20, false)], lits := [25], unroll := 6 }) Tryd.f24 [valA ⟨7, oa, a0, a1, a2, a3⟩, valA ⟨7, ob, b0, b1, b2, b3⟩] = some (true, .bool (sAnd (lanesR R 7 ⟨7, oa, a0, a1, a2, a3⟩ ⟨7, ob, b0, b1, b2, b3⟩) (sIf (sNe 7 5) true (sIf b0.p true (sEq oa ob))))) := by
  rw [xf247]
  obtain ⟨na0, pa0, ua0⟩ := a0
  obtain ⟨na1, pa1, ua1⟩ := a1
  obtain ⟨na2, pa2, ua2⟩ := a2
  obtain ⟨na3, pa3, ua3⟩ := a3
  obtain ⟨nb0, pb0, ub0⟩ := b0
  obtain ⟨nb1, pb1, ub1⟩ := b1
  obtain ⟨nb2, pb2, ub2⟩ := b2
  obtain ⟨nb3, pb3, ub3⟩ := b3
  unfold lanesR
  simp only [hva, hvb, ha, hb]
  generalize R ⟨na0, pa0, ua0⟩ ⟨nb0, pb0, ub0⟩ = r0
  generalize R ⟨na1, pa1, ua1⟩ ⟨nb1, pb1, ub1⟩ = r1
  generalize R ⟨na2, pa2, ua2⟩ ⟨nb2, pb2, ub2⟩ = r2
  generalize R ⟨na3, pa3, ua3⟩ ⟨nb3, pb3, ub3⟩ = r3
  generalize sEq oa ob = q
  cases pb0 <;> cases q <;> cases r0 <;> cases r1 <;> cases r2 <;> cases r3 <;> rfl
theorem xf209 (V : Val → Bool) (ok : Val → Bool) (R : Lane → Lane → Bool) (a : Val) (b : Val) : exFn (gX (d1 V ok R) { orc := [(20, true)] }) Tryd.f20 [valA a, valA b] = (
 let q0 : Bool := sNot (V { t := a.t, o := a.o, a := { n := a.a.n, p := a.a.p, u := a.a.u }, b := { n := a.b.n, p := a.b.p, u := a.b.u }, c := { n := a.c.n, p := a.c.p, u := a.c.u }, d := { n := a.d.n, p := a.d.p, u := a.d.u } });
  let q1 : Bool := sNot q0;
  let q2 : Bool := sNot q1;
  let q3 : Bool := sIf q0 true (sNot (V { t := b.t, o := b.o, a := { n := b.a.n, p := b.a.p, u := b.a.u }, b := { n := b.b.n, p := b.b.p, u := b.b.u }, c := { n := b.c.n, p := b.c.p, u := b.c.u }, d := { n := b.d.n, p := b.d.p, u := b.d.u } }));
  let q4 : Bool := sNot q3;
  let q5 : Bool := sNot q4;
  let q6 : Bool := sOr q5 true;
  let q7 : Bool := sOr q5 q4;
  some
  (sAnd true
      (sIf true
        (sAnd
          (sAnd true
            (sAnd
              (sAnd true
                (ok
                  { t := a.t, o := a.o, a := { n := a.a.n, p := a.a.p, u := a.a.u },
                    b := { n := a.b.n, p := a.b.p, u := a.b.u }, c := { n := a.c.n, p := a.c.p, u := a.c.u },
                    d := { n := a.d.n, p := a.d.p, u := a.d.u } }))
              (sAnd true
                (sAnd true
                  (sAnd (sOr q2 true)
                    (sAnd
                      (sOr q2
                        (sAnd (sAnd q1 true)
                          (ok
                            { t := b.t, o := b.o, a := { n := b.a.n, p := b.a.p, u := b.a.u },
                              b := { n := b.b.n, p := b.b.p, u := b.b.u }, c := { n := b.c.n, p := b.c.p, u := b.c.u },
                              d := { n := b.d.n, p := b.d.p, u := b.d.u } })))
                      (sAnd (sOr q2 q1)
                        (sAnd (sAnd true (sIf q0 true q1))
                          (sAnd true
                            (sAnd q6
                              (sAnd q7
                                (sAnd q6
                                  (sAnd q7
                                    (sAnd (sOr q5 (sAnd (sAnd q4 q4) true))
                                      (sAnd (sAnd true (sIf q3 true q4)) true)))))))))))))))
          (sIf true (sAnd (sAnd true (sIf q3 true (sNe a.t b.t))) true) true))
        true),
    AV.bool false)) := by kernel_rfl

theorem nat209 (V ok : Val → Bool) (R : Lane → Lane → Bool) (a b : Val) (ha : ok a = true) (hb : ok b = true) (h : sIf (sIf (sNot (V a)) true (sNot (V b))) true (sNe a.t b.t) = true) :
    exFn (gX (d1 V ok R) { orc := [(20, true)] }) Tryd.f20 [valA a, valA b] = some (true, .bool false) := by
  rw [xf209]
  obtain ⟨t, o, ⟨an, ap, au⟩, ⟨bn, bp, bu⟩, ⟨cn, cp, cu⟩, ⟨dn, dp, du⟩⟩ := a
  obtain ⟨t', o', ⟨an', ap', au'⟩, ⟨bn', bp', bu'⟩, ⟨cn', cp', cu'⟩, ⟨dn', dp', du'⟩⟩ := b
  simp only at h
  simp only [ha, hb]
  generalize V ⟨t, o, ⟨an, ap, au⟩, ⟨bn, bp, bu⟩, ⟨cn, cp, cu⟩, ⟨dn, dp, du⟩⟩ = z at *
  generalize V ⟨t', o', ⟨an', ap', au'⟩, ⟨bn', bp', bu'⟩, ⟨cn', cp', cu'⟩, ⟨dn', dp', du'⟩⟩ = z' at *
  generalize sNe t t' = n at *
  cases z <;> cases z' <;> cases n <;> first | rfl | cases h
theorem xf201 (V : Val → Bool) (ok : Val → Bool) (R : Lane → Lane → Bool) (oa : Int) (ob : Int) (tb : Int) (a0 : Lane) (a1 : Lane) (a2 : Lane) (a3 : Lane) (b0 : Lane) (b1 : Lane) (b2 : Lane) (b3 : Lane) : exFn (gX (d1 V ok R) { orc := [(9, false), (14, false), (20, false)], lits := [25], unroll := 6 }) Tryd.f20
  [valA { t := 1, o := oa, a := a0, b := a1, c := a2, d := a3 },
    valA { t := tb, o := ob, a := b0, b := b1, c := b2, d := b3 }] = (
 let q0 : Bool := sNot (V { t := 1, o := oa, a := { n := a0.n, p := a0.p, u := a0.u }, b := { n := a1.n, p := a1.p, u := a1.u }, c := { n := a2.n, p := a2.p, u := a2.u }, d := { n := a3.n, p := a3.p, u := a3.u } });
  let q1 : Bool := sNot q0;
  let q2 : Bool := sAnd q1 true;
  let q3 : Bool := sIf q0 true (sNot (V { t := tb, o := ob, a := { n := b0.n, p := b0.p, u := b0.u }, b := { n := b1.n, p := b1.p, u := b1.u }, c := { n := b2.n, p := b2.p, u := b2.u }, d := { n := b3.n, p := b3.p, u := b3.u } }));
  let q4 : Bool := sAnd (sNot q3) true;
  let q5 : Bool := sNot (R { n := a0.n, p := a0.p, u := a0.u } { n := b0.n, p := b0.p, u := b0.u });
  let q6 : Tg := Tg.block 1 (Tg.mix q5 Tg.r Tg.n);
  let q7 : Tg := q6.thenN Tg.n;
  let q8 : Bool := (Tg.block 0 (q7.thenN (Tg.x 0))).isN;
  some
  (sAnd true
      (sIf true
        (sAnd
          (sAnd
            (sAnd true
              (sAnd
                (sAnd true
                  (ok
                    { t := 1, o := oa, a := { n := a0.n, p := a0.p, u := a0.u },
                      b := { n := a1.n, p := a1.p, u := a1.u }, c := { n := a2.n, p := a2.p, u := a2.u },
                      d := { n := a3.n, p := a3.p, u := a3.u } }))
                (sAnd true
                  (sAnd true
                    (sAnd q2
                      (sAnd
                        (sAnd q1
                          (sAnd true
                            (ok
                              { t := tb, o := ob, a := { n := b0.n, p := b0.p, u := b0.u },
                                b := { n := b1.n, p := b1.p, u := b1.u }, c := { n := b2.n, p := b2.p, u := b2.u },
                                d := { n := b3.n, p := b3.p, u := b3.u } })))
                        (sAnd q2
                          (sAnd (sAnd true (sIf q0 true true))
                            (sAnd true
                              (sAnd q4
                                (sAnd q4
                                  (sAnd q4 (sAnd q4 (sAnd q4 (sAnd (sAnd true (sIf q3 true true)) true)))))))))))))))
            (sIf true (sAnd (sAnd true (sNot (sIf q3 true (sNe 1 tb)))) true) true))
          (sIf true
            (sAnd
              (sAnd true
                (sIf true
                  (sAnd
                    (sAnd true
                      (sIf true (sAnd (sAnd true (sIf true (sAnd true (sIf q5 true true)) true)) (sIf q6.isN true true))
                        true))
                    (sIf q7.isN true true))
                  true))
              (sIf q8
                (sAnd
                  (sAnd true
                    (sAnd true
                      (sAnd true
                        (sAnd true
                          (sAnd true
                            (sAnd (sOr (sNot (sNot b0.p)) true)
                              (sAnd (sOr (sNot (sNot b0.p)) (sNot b0.p))
                                (sAnd (sOr (sNot (sNot b0.p)) true)
                                  (sAnd (sOr (sNot (sNot b0.p)) (sNot b0.p))
                                    (sAnd (sOr (sNot (sNot b0.p)) (sAnd (sAnd (sNot b0.p) (sNot b0.p)) true))
                                      (sAnd (sAnd true (sIf b0.p true (sNot b0.p))) true)))))))))))
                  true)
                true))
            true))
        true),
    AV.bool (sIf q8 (sIf b0.p true (sEq oa ob)) false))) := by kernel_rfl

theorem nat201 (V ok : Val → Bool) (R : Lane → Lane → Bool) (oa ob : Int) (a0 a1 a2 a3 b0 b1 b2 b3 : Lane) (hva : V ⟨1, oa, a0, a1, a2, a3⟩ = true) (hvb : V ⟨1, ob, b0, b1, b2, b3⟩ = true) (ha : ok ⟨1, oa, a0, a1, a2, a3⟩ = true) (hb : ok ⟨1, ob, b0, b1, b2, b3⟩ = true) :
    exFn (gX (d1 V ok R) { orc := [(9, false), (14, false), (20, false)], lits := [25], unroll := 6 }) Tryd.f20 [valA ⟨1, oa, a0, a1, a2, a3⟩, valA ⟨1, ob, b0, b1, b2, b3⟩] = some (true, .bool (sAnd (lanesR R 1 ⟨1, oa, a0, a1, a2, a3⟩ ⟨1, ob, b0, b1, b2, b3⟩) (sIf b0.p true (sEq oa ob)))) := by
  rw [xf201]
  obtain ⟨na0, pa0, ua0⟩ := a0
  obtain ⟨na1, pa1, ua1⟩ := a1
  obtain ⟨na2, pa2, ua2⟩ := a2
  obtain ⟨na3, pa3, ua3⟩ := a3
  obtain ⟨nb0, pb0, ub0⟩ := b0
  obtain ⟨nb1, pb1, ub1⟩ := b1
  obtain ⟨nb2, pb2, ub2⟩ := b2
  obtain ⟨nb3, pb3, ub3⟩ := b3
  unfold lanesR
  simp only [hva, hvb, ha, hb]
  generalize R ⟨na0, pa0, ua0⟩ ⟨nb0, pb0, ub0⟩ = r0
  generalize sEq oa ob = q
  cases pb0 <;> cases q <;> cases r0 <;> rfl
theorem xf202 (V : Val → Bool) (ok : Val → Bool) (R : Lane → Lane → Bool) (oa : Int) (ob : Int) (tb : Int) (a0 : Lane) (a1 : Lane) (a2 : Lane) (a3 : Lane) (b0 : Lane) (b1 : Lane) (b2 : Lane) (b3 : Lane) : exFn (gX (d1 V ok R) { orc := [(9, false), (14, false), (20, false)], lits := [25], unroll := 6 }) Tryd.f20
  [valA { t := 2, o := oa, a := a0, b := a1, c := a2, d := a3 },
    valA { t := tb, o := ob, a := b0, b := b1, c := b2, d := b3 }] = (
 let q0 : Bool := sNot (V { t := 2, o := oa, a := { n := a0.n, p := a0.p, u := a0.u }, b := { n := a1.n, p := a1.p, u := a1.u }, c := { n := a2.n, p := a2.p, u := a2.u }, d := { n := a3.n, p := a3.p, u := a3.u } });
  let q1 : Bool := sNot q0;
  let q2 : Bool := sAnd q1 true;
  let q3 : Bool := sIf q0 true (sNot (V { t := tb, o := ob, a := { n := b0.n, p := b0.p, u := b0.u }, b := { n := b1.n, p := b1.p, u := b1.u }, c := { n := b2.n, p := b2.p, u := b2.u }, d := { n := b3.n, p := b3.p, u := b3.u } }));
  let q4 : Bool := sAnd (sNot q3) true;
  let q5 : Bool := sNot (R { n := a0.n, p := a0.p, u := a0.u } { n := b0.n, p := b0.p, u := b0.u });
  let q6 : Tg := Tg.block 1 (Tg.mix q5 Tg.r Tg.n);
  let q7 : Tg := q6.thenN Tg.n;
  let q8 : Bool := (Tg.block 0 (q7.thenN (Tg.x 0))).isN;
  some
  (sAnd true
      (sIf true
        (sAnd
          (sAnd
            (sAnd true
              (sAnd
                (sAnd true
                  (ok
                    { t := 2, o := oa, a := { n := a0.n, p := a0.p, u := a0.u },
                      b := { n := a1.n, p := a1.p, u := a1.u }, c := { n := a2.n, p := a2.p, u := a2.u },
                      d := { n := a3.n, p := a3.p, u := a3.u } }))
                (sAnd true
                  (sAnd true
                    (sAnd q2
                      (sAnd
                        (sAnd q1
                          (sAnd true
                            (ok
                              { t := tb, o := ob, a := { n := b0.n, p := b0.p, u := b0.u },
                                b := { n := b1.n, p := b1.p, u := b1.u }, c := { n := b2.n, p := b2.p, u := b2.u },
                                d := { n := b3.n, p := b3.p, u := b3.u } })))
                        (sAnd q2
                          (sAnd (sAnd true (sIf q0 true true))
                            (sAnd true
                              (sAnd q4
                                (sAnd q4
                                  (sAnd q4 (sAnd q4 (sAnd q4 (sAnd (sAnd true (sIf q3 true true)) true)))))))))))))))
            (sIf true (sAnd (sAnd true (sNot (sIf q3 true (sNe 2 tb)))) true) true))
          (sIf true
            (sAnd
              (sAnd true
                (sIf true
                  (sAnd
                    (sAnd true
                      (sIf true (sAnd (sAnd true (sIf true (sAnd true (sIf q5 true true)) true)) (sIf q6.isN true true))
                        true))
                    (sIf q7.isN true true))
                  true))
              (sIf q8
                (sAnd
                  (sAnd true
                    (sAnd true
                      (sAnd true
                        (sAnd true
                          (sAnd true
                            (sAnd (sOr (sNot (sNot b0.p)) true)
                              (sAnd (sOr (sNot (sNot b0.p)) (sNot b0.p))
                                (sAnd (sOr (sNot (sNot b0.p)) true)
                                  (sAnd (sOr (sNot (sNot b0.p)) (sNot b0.p))
                                    (sAnd (sOr (sNot (sNot b0.p)) (sAnd (sAnd (sNot b0.p) (sNot b0.p)) true))
                                      (sAnd (sAnd true (sIf b0.p true (sNot b0.p))) true)))))))))))
                  true)
                true))
            true))
        true),
    AV.bool (sIf q8 (sIf b0.p true (sEq oa ob)) false))) := by kernel_rfl

theorem nat202 (V ok : Val → Bool) (R : Lane → Lane → Bool) (oa ob : Int) (a0 a1 a2 a3 b0 b1 b2 b3 : Lane) (hva : V ⟨2, oa, a0, a1, a2, a3⟩ = true) (hvb : V ⟨2, ob, b0, b1, b2, b3⟩ = true) (ha : ok ⟨2, oa, a0, a1, a2, a3⟩ = true) (hb : ok ⟨2, ob, b0, b1, b2, b3⟩ = true) :
    exFn (gX (d1 V ok R) { orc := [(9, false), (14, false), (20, false)], lits := [25], unroll := 6 }) Tryd.f20 [valA ⟨2, oa, a0, a1, a2, a3⟩, valA ⟨2, ob, b0, b1, b2, b3⟩] = some (true, .bool (sAnd (lanesR R 2 ⟨2, oa, a0, a1, a2, a3⟩ ⟨2, ob, b0, b1, b2, b3⟩) (sIf b0.p true (sEq oa ob)))) := by
  rw [xf202]
  obtain ⟨na0, pa0, ua0⟩ := a0
  obtain ⟨na1, pa1, ua1⟩ := a1
  obtain ⟨na2, pa2, ua2⟩ := a2
  obtain ⟨na3, pa3, ua3⟩ := a3
  obtain ⟨nb0, pb0, ub0⟩ := b0
  obtain ⟨nb1, pb1, ub1⟩ := b1
  obtain ⟨nb2, pb2, ub2⟩ := b2
  obtain ⟨nb3, pb3, ub3⟩ := b3
  unfold lanesR
  simp only [hva, hvb, ha, hb]
  generalize R ⟨na0, pa0, ua0⟩ ⟨nb0, pb0, ub0⟩ = r0
  generalize sEq oa ob = q
  cases pb0 <;> cases q <;> cases r0 <;> rfl
theorem xf203 (V : Val → Bool) (ok : Val → Bool) (R : Lane → Lane → Bool) (oa : Int) (ob : Int) (tb : Int) (a0 : Lane) (a1 : Lane) (a2 : Lane) (a3 : Lane) (b0 : Lane) (b1 : Lane) (b2 : Lane) (b3 : Lane) : exFn (gX (d1 V ok R) { orc := [(9, false), (14, false), (20, false)], lits := [25], unroll := 6 }) Tryd.f20
  [valA { t := 3, o := oa, a := a0, b := a1, c := a2, d := a3 },
    valA { t := tb, o := ob, a := b0, b := b1, c := b2, d := b3 }] = (
 let q0 : Bool := sNot (V { t := 3, o := oa, a := { n := a0.n, p := a0.p, u := a0.u }, b := { n := a1.n, p := a1.p, u := a1.u }, c := { n := a2.n, p := a2.p, u := a2.u }, d := { n := a3.n, p := a3.p, u := a3.u } });
  let q1 : Bool := sNot q0;
  let q2 : Bool := sAnd q1 true;
  let q3 : Bool := sIf q0 true (sNot (V { t := tb, o := ob, a := { n := b0.n, p := b0.p, u := b0.u }, b := { n := b1.n, p := b1.p, u := b1.u }, c := { n := b2.n, p := b2.p, u := b2.u }, d := { n := b3.n, p := b3.p, u := b3.u } }));
  let q4 : Bool := sAnd (sNot q3) true;
  let q5 : Bool := sNot (R { n := a0.n, p := a0.p, u := a0.u } { n := b0.n, p := b0.p, u := b0.u });
  let q6 : Tg := Tg.block 1 (Tg.mix q5 Tg.r Tg.n);
  let q7 : Tg := q6.thenN Tg.n;
  let q8 : Bool := (Tg.block 0 (q7.thenN (Tg.x 0))).isN;
  some
  (sAnd true
      (sIf true
        (sAnd
          (sAnd
            (sAnd true
              (sAnd
                (sAnd true
                  (ok
                    { t := 3, o := oa, a := { n := a0.n, p := a0.p, u := a0.u },
                      b := { n := a1.n, p := a1.p, u := a1.u }, c := { n := a2.n, p := a2.p, u := a2.u },
                      d := { n := a3.n, p := a3.p, u := a3.u } }))
                (sAnd true
                  (sAnd true
                    (sAnd q2
                      (sAnd
                        (sAnd q1
                          (sAnd true
                            (ok
                              { t := tb, o := ob, a := { n := b0.n, p := b0.p, u := b0.u },
                                b := { n := b1.n, p := b1.p, u := b1.u }, c := { n := b2.n, p := b2.p, u := b2.u },
                                d := { n := b3.n, p := b3.p, u := b3.u } })))
                        (sAnd q2
                          (sAnd (sAnd true (sIf q0 true true))
                            (sAnd true
                              (sAnd q4
                                (sAnd q4
                                  (sAnd q4 (sAnd q4 (sAnd q4 (sAnd (sAnd true (sIf q3 true true)) true)))))))))))))))
            (sIf true (sAnd (sAnd true (sNot (sIf q3 true (sNe 3 tb)))) true) true))
          (sIf true
            (sAnd
              (sAnd true
                (sIf true
                  (sAnd
                    (sAnd true
                      (sIf true (sAnd (sAnd true (sIf true (sAnd true (sIf q5 true true)) true)) (sIf q6.isN true true))
                        true))
                    (sIf q7.isN true true))
                  true))
              (sIf q8
                (sAnd
                  (sAnd true
                    (sAnd true
                      (sAnd true
                        (sAnd true
                          (sAnd true
                            (sAnd (sOr (sNot (sNot b0.p)) true)
                              (sAnd (sOr (sNot (sNot b0.p)) (sNot b0.p))
                                (sAnd (sOr (sNot (sNot b0.p)) true)
                                  (sAnd (sOr (sNot (sNot b0.p)) (sNot b0.p))
                                    (sAnd (sOr (sNot (sNot b0.p)) (sAnd (sAnd (sNot b0.p) (sNot b0.p)) true))
                                      (sAnd (sAnd true (sIf b0.p true (sNot b0.p))) true)))))))))))
                  true)
                true))
            true))
        true),
    AV.bool (sIf q8 (sIf b0.p true (sEq oa ob)) false))) := by kernel_rfl

theorem nat203 (V ok : Val → Bool) (R : Lane → Lane → Bool) (oa ob : Int) (a0 a1 a2 a3 b0 b1 b2 b3 : Lane) (hva : V ⟨3, oa, a0, a1, a2, a3⟩ = true) (hvb : V ⟨3, ob, b0, b1, b2, b3⟩ = true) (ha : ok ⟨3, oa, a0, a1, a2, a3⟩ = true) (hb : ok ⟨3, ob, b0, b1, b2, b3⟩ = true) :
    exFn (gX (d1 V ok R) { orc := [(9, false), (14, false), (20, false)], lits := [25], unroll := 6 }) Tryd.f20 [valA ⟨3, oa, a0, a1, a2, a3⟩, valA ⟨3, ob, b0, b1, b2, b3⟩] = some (true, .bool (sAnd (lanesR R 3 ⟨3, oa, a0, a1, a2, a3⟩ ⟨3, ob, b0, b1, b2, b3⟩) (sIf b0.p true (sEq oa ob)))) := by
  rw [xf203]
  obtain ⟨na0, pa0, ua0⟩ := a0
  obtain ⟨na1, pa1, ua1⟩ := a1
  obtain ⟨na2, pa2, ua2⟩ := a2
  obtain ⟨na3, pa3, ua3⟩ := a3
  obtain ⟨nb0, pb0, ub0⟩ := b0
  obtain ⟨nb1, pb1, ub1⟩ := b1
  obtain ⟨nb2, pb2, ub2⟩ := b2
  obtain ⟨nb3, pb3, ub3⟩ := b3
  unfold lanesR
  simp only [hva, hvb, ha, hb]
  generalize R ⟨na0, pa0, ua0⟩ ⟨nb0, pb0, ub0⟩ = r0
  generalize sEq oa ob = q
  cases pb0 <;> cases q <;> cases r0 <;> rfl
theorem xf204 (V : Val → Bool) (ok : Val → Bool) (R : Lane → Lane → Bool) (oa : Int) (ob : Int) (tb : Int) (a0 : Lane) (a1 : Lane) (a2 : Lane) (a3 : Lane) (b0 : Lane) (b1 : Lane) (b2 : Lane) (b3 : Lane) : exFn (gX (d1 V ok R) { orc := [(9, false), (14, false), (20, false)], lits := [25], unroll := 6 }) Tryd.f20
  [valA { t := 4, o := oa, a := a0, b := a1, c := a2, d := a3 },
    valA { t := tb, o := ob, a := b0, b := b1, c := b2, d := b3 }] = (
 let q0 : Bool := sNot (V { t := 4, o := oa, a := { n := a0.n, p := a0.p, u := a0.u }, b := { n := a1.n, p := a1.p, u := a1.u }, c := { n := a2.n, p := a2.p, u := a2.u }, d := { n := a3.n, p := a3.p, u := a3.u } });
  let q1 : Bool := sNot q0;
  let q2 : Bool := sAnd q1 true;
  let q3 : Bool := sIf q0 true (sNot (V { t := tb, o := ob, a := { n := b0.n, p := b0.p, u := b0.u }, b := { n := b1.n, p := b1.p, u := b1.u }, c := { n := b2.n, p := b2.p, u := b2.u }, d := { n := b3.n, p := b3.p, u := b3.u } }));
  let q4 : Bool := sAnd (sNot q3) true;
  let q5 : Bool := sNot (R { n := a0.n, p := a0.p, u := a0.u } { n := b0.n, p := b0.p, u := b0.u });
  let q6 : Tg := Tg.block 1 (Tg.mix q5 Tg.r Tg.n);
  let q7 : Tg := q6.thenN Tg.n;
  let q8 : Bool := (Tg.block 0 (q7.thenN (Tg.x 0))).isN;
  some
  (sAnd true
      (sIf true
        (sAnd
          (sAnd
            (sAnd true
              (sAnd
                (sAnd true
                  (ok
                    { t := 4, o := oa, a := { n := a0.n, p := a0.p, u := a0.u },
                      b := { n := a1.n, p := a1.p, u := a1.u }, c := { n := a2.n, p := a2.p, u := a2.u },
                      d := { n := a3.n, p := a3.p, u := a3.u } }))
                (sAnd true
                  (sAnd true
                    (sAnd q2
                      (sAnd
                        (sAnd q1
                          (sAnd true
                            (ok
                              { t := tb, o := ob, a := { n := b0.n, p := b0.p, u := b0.u },
                                b := { n := b1.n, p := b1.p, u := b1.u }, c := { n := b2.n, p := b2.p, u := b2.u },
                                d := { n := b3.n, p := b3.p, u := b3.u } })))
                        (sAnd q2
                          (sAnd (sAnd true (sIf q0 true true))
                            (sAnd true
                              (sAnd q4
                                (sAnd q4
                                  (sAnd q4 (sAnd q4 (sAnd q4 (sAnd (sAnd true (sIf q3 true true)) true)))))))))))))))
            (sIf true (sAnd (sAnd true (sNot (sIf q3 true (sNe 4 tb)))) true) true))
          (sIf true
            (sAnd
              (sAnd true
                (sIf true
                  (sAnd
                    (sAnd true
                      (sIf true (sAnd (sAnd true (sIf true (sAnd true (sIf q5 true true)) true)) (sIf q6.isN true true))
                        true))
                    (sIf q7.isN true true))
                  true))
              (sIf q8
                (sAnd
                  (sAnd true
                    (sAnd true
                      (sAnd true
                        (sAnd true
                          (sAnd true
                            (sAnd (sOr (sNot (sNot b0.p)) true)
                              (sAnd (sOr (sNot (sNot b0.p)) (sNot b0.p))
                                (sAnd (sOr (sNot (sNot b0.p)) true)
                                  (sAnd (sOr (sNot (sNot b0.p)) (sNot b0.p))
                                    (sAnd (sOr (sNot (sNot b0.p)) (sAnd (sAnd (sNot b0.p) (sNot b0.p)) true))
                                      (sAnd (sAnd true (sIf b0.p true (sNot b0.p))) true)))))))))))
                  true)
                true))
            true))
        true),
    AV.bool (sIf q8 (sIf b0.p true (sEq oa ob)) false))) := by kernel_rfl

theorem nat204 (V ok : Val → Bool) (R : Lane → Lane → Bool) (oa ob : Int) (a0 a1 a2 a3 b0 b1 b2 b3 : Lane) (hva : V ⟨4, oa, a0, a1, a2, a3⟩ = true) (hvb : V ⟨4, ob, b0, b1, b2, b3⟩ = true) (ha : ok ⟨4, oa, a0, a1, a2, a3⟩ = true) (hb : ok ⟨4, ob, b0, b1, b2, b3⟩ = true) :
    exFn (gX (d1 V ok R) { orc := [(9, false), (14, false), (20, false)], lits := [25], unroll := 6 }) Tryd.f20 [valA ⟨4, oa, a0, a1, a2, a3⟩, valA ⟨4, ob, b0, b1, b2, b3⟩] = some (true, .bool (sAnd (lanesR R 4 ⟨4, oa, a0, a1, a2, a3⟩ ⟨4, ob, b0, b1, b2, b3⟩) (sIf b0.p true (sEq oa ob)))) := by
  rw [xf204]
  obtain ⟨na0, pa0, ua0⟩ := a0
  obtain ⟨na1, pa1, ua1⟩ := a1
  obtain ⟨na2, pa2, ua2⟩ := a2
  obtain ⟨na3, pa3, ua3⟩ := a3
  obtain ⟨nb0, pb0, ub0⟩ := b0
  obtain ⟨nb1, pb1, ub1⟩ := b1
  obtain ⟨nb2, pb2, ub2⟩ := b2
  obtain ⟨nb3, pb3, ub3⟩ := b3
  unfold lanesR
  simp only [hva, hvb, ha, hb]
  generalize R ⟨na0, pa0, ua0⟩ ⟨nb0, pb0, ub0⟩ = r0
  generalize sEq oa ob = q
  cases pb0 <;> cases q <;> cases r0 <;> rfl
theorem xf205 (V : Val → Bool) (ok : Val → Bool) (R : Lane → Lane → Bool) (oa : Int) (ob : Int) (tb : Int) (a0 : Lane) (a1 : Lane) (a2 : Lane) (a3 : Lane) (b0 : Lane) (b1 : Lane) (b2 : Lane) (b3 : Lane) : exFn (gX (d1 V ok R) { orc := [(9, false), (14, false), (20, false)], lits := [25], unroll := 6 }) Tryd.f20
  [valA { t := 5, o := oa, a := a0, b := a1, c := a2, d := a3 },
    valA { t := tb, o := ob, a := b0, b := b1, c := b2, d := b3 }] = (
 let q0 : Bool := sNot (V { t := 5, o := oa, a := { n := a0.n, p := a0.p, u := a0.u }, b := { n := a1.n, p := a1.p, u := a1.u }, c := { n := a2.n, p := a2.p, u := a2.u }, d := { n := a3.n, p := a3.p, u := a3.u } });
  let q1 : Bool := sNot q0;
  let q2 : Bool := sAnd q1 true;
  let q3 : Bool := sIf q0 true (sNot (V { t := tb, o := ob, a := { n := b0.n, p := b0.p, u := b0.u }, b := { n := b1.n, p := b1.p, u := b1.u }, c := { n := b2.n, p := b2.p, u := b2.u }, d := { n := b3.n, p := b3.p, u := b3.u } }));
  let q4 : Bool := sAnd (sNot q3) true;
  let q5 : Bool := sNot (R { n := a0.n, p := a0.p, u := a0.u } { n := b0.n, p := b0.p, u := b0.u });
  let q6 : Tg := Tg.block 1 (Tg.mix q5 Tg.r Tg.n);
  let q7 : Tg := q6.thenN Tg.n;
  let q8 : Bool := (Tg.block 0 (q7.thenN (Tg.x 0))).isN;
  some
  (sAnd true
      (sIf true
        (sAnd
          (sAnd
            (sAnd true
              (sAnd
                (sAnd true
                  (ok
                    { t := 5, o := oa, a := { n := a0.n, p := a0.p, u := a0.u },
                      b := { n := a1.n, p := a1.p, u := a1.u }, c := { n := a2.n, p := a2.p, u := a2.u },
                      d := { n := a3.n, p := a3.p, u := a3.u } }))
                (sAnd true
                  (sAnd true
                    (sAnd q2
                      (sAnd
                        (sAnd q1
                          (sAnd true
                            (ok
                              { t := tb, o := ob, a := { n := b0.n, p := b0.p, u := b0.u },
                                b := { n := b1.n, p := b1.p, u := b1.u }, c := { n := b2.n, p := b2.p, u := b2.u },
                                d := { n := b3.n, p := b3.p, u := b3.u } })))
                        (sAnd q2
                          (sAnd (sAnd true (sIf q0 true true))
                            (sAnd true
                              (sAnd q4
                                (sAnd q4
                                  (sAnd q4 (sAnd q4 (sAnd q4 (sAnd (sAnd true (sIf q3 true true)) true)))))))))))))))
            (sIf true (sAnd (sAnd true (sNot (sIf q3 true (sNe 5 tb)))) true) true))
          (sIf true
            (sAnd
              (sAnd true
                (sIf true
                  (sAnd
                    (sAnd true
                      (sIf true (sAnd (sAnd true (sIf true (sAnd true (sIf q5 true true)) true)) (sIf q6.isN true true))
                        true))
                    (sIf q7.isN true true))
                  true))
              (sIf q8
                (sAnd
                  (sAnd true
                    (sAnd true
                      (sAnd true
                        (sAnd true
                          (sAnd true
                            (sAnd (sOr (sNot (sNot b0.p)) true)
                              (sAnd (sOr (sNot (sNot b0.p)) (sNot b0.p))
                                (sAnd (sOr (sNot (sNot b0.p)) true)
                                  (sAnd (sOr (sNot (sNot b0.p)) (sNot b0.p))
                                    (sAnd (sOr (sNot (sNot b0.p)) (sAnd (sAnd (sNot b0.p) (sNot b0.p)) true))
                                      (sAnd (sAnd true (sIf b0.p true (sNot b0.p))) true)))))))))))
                  true)
                true))
            true))
        true),
    AV.bool (sIf q8 (sIf b0.p true (sEq oa ob)) false))) := by kernel_rfl

theorem nat205 (V ok : Val → Bool) (R : Lane → Lane → Bool) (oa ob : Int) (a0 a1 a2 a3 b0 b1 b2 b3 : Lane) (hva : V ⟨5, oa, a0, a1, a2, a3⟩ = true) (hvb : V ⟨5, ob, b0, b1, b2, b3⟩ = true) (ha : ok ⟨5, oa, a0, a1, a2, a3⟩ = true) (hb : ok ⟨5, ob, b0, b1, b2, b3⟩ = true) :
    exFn (gX (d1 V ok R) { orc := [(9, false), (14, false), (20, false)], lits := [25], unroll := 6 }) Tryd.f20 [valA ⟨5, oa, a0, a1, a2, a3⟩, valA ⟨5, ob, b0, b1, b2, b3⟩] = some (true, .bool (sAnd (lanesR R 5 ⟨5, oa, a0, a1, a2, a3⟩ ⟨5, ob, b0, b1, b2, b3⟩) (sIf b0.p true (sEq oa ob)))) := by
  rw [xf205]
  obtain ⟨na0, pa0, ua0⟩ := a0
  obtain ⟨na1, pa1, ua1⟩ := a1
  obtain ⟨na2, pa2, ua2⟩ := a2
  obtain ⟨na3, pa3, ua3⟩ := a3
  obtain ⟨nb0, pb0, ub0⟩ := b0
  obtain ⟨nb1, pb1, ub1⟩ := b1
  obtain ⟨nb2, pb2, ub2⟩ := b2
  obtain ⟨nb3, pb3, ub3⟩ := b3
  unfold lanesR
  simp only [hva, hvb, ha, hb]
  generalize R ⟨na0, pa0, ua0⟩ ⟨nb0, pb0, ub0⟩ = r0
  generalize sEq oa ob = q
  cases pb0 <;> cases q <;> cases r0 <;> rfl
theorem xf206 (V : Val → Bool) (ok : Val → Bool) (R : Lane → Lane → Bool) (oa : Int) (ob : Int) (tb : Int) (a0 : Lane) (a1 : Lane) (a2 : Lane) (a3 : Lane) (b0 : Lane) (b1 : Lane) (b2 : Lane) (b3 : Lane) : exFn (gX (d1 V ok R) { orc := [(9, false), (14, false), (20, false)], lits := [25], unroll := 6 }) Tryd.f20
  [valA { t := 6, o := oa, a := a0, b := a1, c := a2, d := a3 },
    valA { t := tb, o := ob, a := b0, b := b1, c := b2, d := b3 }] = (
 let q0 : Bool := sNot (V { t := 6, o := oa, a := { n := a0.n, p := a0.p, u := a0.u }, b := { n := a1.n, p := a1.p, u := a1.u }, c := { n := a2.n, p := a2.p, u := a2.u }, d := { n := a3.n, p := a3.p, u := a3.u } });
  let q1 : Bool := sNot q0;
  let q2 : Bool := sAnd q1 true;
  let q3 : Bool := sIf q0 true (sNot (V { t := tb, o := ob, a := { n := b0.n, p := b0.p, u := b0.u }, b := { n := b1.n, p := b1.p, u := b1.u }, c := { n := b2.n, p := b2.p, u := b2.u }, d := { n := b3.n, p := b3.p, u := b3.u } }));
  let q4 : Bool := sAnd (sNot q3) true;
  let q5 : Bool := sNot (R { n := a0.n, p := a0.p, u := a0.u } { n := b0.n, p := b0.p, u := b0.u });
  let q6 : Tg := Tg.block 1 (Tg.mix q5 Tg.r Tg.n);
  let q7 : Tg := q6.thenN Tg.n;
  let q8 : Bool := q7.isN;
  let q9 : Bool := sNot (R { n := a1.n, p := a1.p, u := a1.u } { n := b1.n, p := b1.p, u := b1.u });
  let q10 : Tg := Tg.block 1 (Tg.mix q9 Tg.r Tg.n);
  let q11 : Tg := q10.thenN Tg.n;
  let q12 : Bool := (Tg.block 0 (q7.thenN (q11.thenN (Tg.x 0)))).isN;
  some
  (sAnd true
      (sIf true
        (sAnd
          (sAnd
            (sAnd true
              (sAnd
                (sAnd true
                  (ok
                    { t := 6, o := oa, a := { n := a0.n, p := a0.p, u := a0.u },
                      b := { n := a1.n, p := a1.p, u := a1.u }, c := { n := a2.n, p := a2.p, u := a2.u },
                      d := { n := a3.n, p := a3.p, u := a3.u } }))
                (sAnd true
                  (sAnd true
                    (sAnd q2
                      (sAnd
                        (sAnd q1
                          (sAnd true
                            (ok
                              { t := tb, o := ob, a := { n := b0.n, p := b0.p, u := b0.u },
                                b := { n := b1.n, p := b1.p, u := b1.u }, c := { n := b2.n, p := b2.p, u := b2.u },
                                d := { n := b3.n, p := b3.p, u := b3.u } })))
                        (sAnd q2
                          (sAnd (sAnd true (sIf q0 true true))
                            (sAnd true
                              (sAnd q4
                                (sAnd q4
                                  (sAnd q4 (sAnd q4 (sAnd q4 (sAnd (sAnd true (sIf q3 true true)) true)))))))))))))))
            (sIf true (sAnd (sAnd true (sNot (sIf q3 true (sNe 6 tb)))) true) true))
          (sIf true
            (sAnd
              (sAnd true
                (sIf true
                  (sAnd
                    (sAnd true
                      (sIf true (sAnd (sAnd true (sIf true (sAnd true (sIf q5 true true)) true)) (sIf q6.isN true true))
                        true))
                    (sIf q8
                      (sAnd
                        (sAnd true
                          (sIf true
                            (sAnd (sAnd true (sIf true (sAnd true (sIf q9 true true)) true)) (sIf q10.isN true true))
                            true))
                        (sIf q11.isN true true))
                      true))
                  true))
              (sIf q12
                (sAnd
                  (sAnd true
                    (sAnd true
                      (sAnd true
                        (sAnd true
                          (sAnd true
                            (sAnd (sOr (sNot (sNot b0.p)) true)
                              (sAnd (sOr (sNot (sNot b0.p)) (sNot b0.p))
                                (sAnd (sOr (sNot (sNot b0.p)) true)
                                  (sAnd (sOr (sNot (sNot b0.p)) (sNot b0.p))
                                    (sAnd (sOr (sNot (sNot b0.p)) (sAnd (sAnd (sNot b0.p) (sNot b0.p)) true))
                                      (sAnd (sAnd true (sIf b0.p true (sNot b0.p))) true)))))))))))
                  true)
                true))
            true))
        true),
    AV.bool (sIf q12 (sIf b0.p true (sEq oa ob)) (sIf q8 false false)))) := by kernel_rfl

theorem nat206 (V ok : Val → Bool) (R : Lane → Lane → Bool) (oa ob : Int) (a0 a1 a2 a3 b0 b1 b2 b3 : Lane) (hva : V ⟨6, oa, a0, a1, a2, a3⟩ = true) (hvb : V ⟨6, ob, b0, b1, b2, b3⟩ = true) (ha : ok ⟨6, oa, a0, a1, a2, a3⟩ = true) (hb : ok ⟨6, ob, b0, b1, b2, b3⟩ = true) :
    exFn (gX (d1 V ok R) { orc := [(9, false), (14, false), (20, false)], lits := [25], unroll := 6 }) Tryd.f20 [valA ⟨6, oa, a0, a1, a2, a3⟩, valA ⟨6, ob, b0, b1, b2, b3⟩] = some (true, .bool (sAnd (lanesR R 6 ⟨6, oa, a0, a1, a2, a3⟩ ⟨6, ob, b0, b1, b2, b3⟩) (sIf b0.p true (sEq oa ob)))) := by
  rw [xf206]
  obtain ⟨na0, pa0, ua0⟩ := a0
  obtain ⟨na1, pa1, ua1⟩ := a1
  obtain ⟨na2, pa2, ua2⟩ := a2
  obtain ⟨na3, pa3, ua3⟩ := a3
  obtain ⟨nb0, pb0, ub0⟩ := b0
  obtain ⟨nb1, pb1, ub1⟩ := b1
  obtain ⟨nb2, pb2, ub2⟩ := b2
  obtain ⟨nb3, pb3, ub3⟩ := b3
  unfold lanesR
  simp only [hva, hvb, ha, hb]
  generalize R ⟨na0, pa0, ua0⟩ ⟨nb0, pb0, ub0⟩ = r0
  generalize R ⟨na1, pa1, ua1⟩ ⟨nb1, pb1, ub1⟩ = r1
  generalize sEq oa ob = q
  cases pb0 <;> cases q <;> cases r0 <;> cases r1 <;> rfl
theorem xf207 (V : Val → Bool) (ok : Val → Bool) (R : Lane → Lane → Bool) (oa : Int) (ob : Int) (tb : Int) (a0 : Lane) (a1 : Lane) (a2 : Lane) (a3 : Lane) (b0 : Lane) (b1 : Lane) (b2 : Lane) (b3 : Lane) : exFn (gX (d1 V ok R) { orc := [(9, false), (14, false), (20, false)], lits := [25], unroll := 6 }) Tryd.f20
  [valA { t := 7, o := oa, a := a0, b := a1, c := a2, d := a3 },
    valA { t := tb, o := ob, a := b0, b := b1, c := b2, d := b3 }] = (
 let q0 : Bool := sNot (V { t := 7, o := oa, a := { n := a0.n, p := a0.p, u := a0.u }, b := { n := a1.n, p := a1.p, u := a1.u }, c := { n := a2.n, p := a2.p, u := a2.u }, d := { n := a3.n, p := a3.p, u := a3.u } });
  let q1 : Bool := sNot q0;
  let q2 : Bool := sAnd q1 true;
  let q3 : Bool := sIf q0 true (sNot (V { t := tb, o := ob, a := { n := b0.n, p := b0.p, u := b0.u }, b := { n := b1.n, p := b1.p, u := b1.u }, c := { n := b2.n, p := b2.p, u := b2.u }, d := { n := b3.n, p := b3.p, u := b3.u } }));
  let q4 : Bool := sAnd (sNot q3) true;
  let q5 : Bool := sNot (R { n := a0.n, p := a0.p, u := a0.u } { n := b0.n, p := b0.p, u := b0.u });
  let q6 : Tg := Tg.block 1 (Tg.mix q5 Tg.r Tg.n);
  let q7 : Tg := q6.thenN Tg.n;
  let q8 : Bool := q7.isN;
  let q9 : Bool := sNot (R { n := a1.n, p := a1.p, u := a1.u } { n := b1.n, p := b1.p, u := b1.u });
  let q10 : Tg := Tg.block 1 (Tg.mix q9 Tg.r Tg.n);
  let q11 : Tg := q10.thenN Tg.n;
  let q12 : Bool := q11.isN;
  let q13 : Bool := sNot (R { n := a2.n, p := a2.p, u := a2.u } { n := b2.n, p := b2.p, u := b2.u });
  let q14 : Tg := Tg.block 1 (Tg.mix q13 Tg.r Tg.n);
  let q15 : Tg := q14.thenN Tg.n;
  let q16 : Bool := q15.isN;
  let q17 : Bool := sNot (R { n := a3.n, p := a3.p, u := a3.u } { n := b3.n, p := b3.p, u := b3.u });
  let q18 : Tg := Tg.block 1 (Tg.mix q17 Tg.r Tg.n);
  let q19 : Tg := q18.thenN Tg.n;
  let q20 : Bool := (Tg.block 0 (q7.thenN (q11.thenN (q15.thenN (q19.thenN (Tg.x 0)))))).isN;
  some
  (sAnd true
      (sIf true
        (sAnd
          (sAnd
            (sAnd true
              (sAnd
                (sAnd true
                  (ok
                    { t := 7, o := oa, a := { n := a0.n, p := a0.p, u := a0.u },
                      b := { n := a1.n, p := a1.p, u := a1.u }, c := { n := a2.n, p := a2.p, u := a2.u },
                      d := { n := a3.n, p := a3.p, u := a3.u } }))
                (sAnd true
                  (sAnd true
                    (sAnd q2
                      (sAnd
                        (sAnd q1
                          (sAnd true
                            (ok
                              { t := tb, o := ob, a := { n := b0.n, p := b0.p, u := b0.u },
                                b := { n := b1.n, p := b1.p, u := b1.u }, c := { n := b2.n, p := b2.p, u := b2.u },
                                d := { n := b3.n, p := b3.p, u := b3.u } })))
                        (sAnd q2
                          (sAnd (sAnd true (sIf q0 true true))
                            (sAnd true
                              (sAnd q4
                                (sAnd q4
                                  (sAnd q4 (sAnd q4 (sAnd q4 (sAnd (sAnd true (sIf q3 true true)) true)))))))))))))))
            (sIf true (sAnd (sAnd true (sNot (sIf q3 true (sNe 7 tb)))) true) true))
          (sIf true
            (sAnd
              (sAnd true
                (sIf true
                  (sAnd
                    (sAnd true
                      (sIf true (sAnd (sAnd true (sIf true (sAnd true (sIf q5 true true)) true)) (sIf q6.isN true true))
                        true))
                    (sIf q8
                      (sAnd
                        (sAnd true
                          (sIf true
                            (sAnd (sAnd true (sIf true (sAnd true (sIf q9 true true)) true)) (sIf q10.isN true true))
                            true))
                        (sIf q12
                          (sAnd
                            (sAnd true
                              (sIf true
                                (sAnd (sAnd true (sIf true (sAnd true (sIf q13 true true)) true))
                                  (sIf q14.isN true true))
                                true))
                            (sIf q16
                              (sAnd
                                (sAnd true
                                  (sIf true
                                    (sAnd (sAnd true (sIf true (sAnd true (sIf q17 true true)) true))
                                      (sIf q18.isN true true))
                                    true))
                                (sIf q19.isN true true))
                              true))
                          true))
                      true))
                  true))
              (sIf q20
                (sAnd
                  (sAnd true
                    (sAnd true
                      (sAnd true
                        (sAnd true
                          (sAnd true
                            (sAnd (sOr (sNot (sNot b0.p)) true)
                              (sAnd (sOr (sNot (sNot b0.p)) (sNot b0.p))
                                (sAnd (sOr (sNot (sNot b0.p)) true)
                                  (sAnd (sOr (sNot (sNot b0.p)) (sNot b0.p))
                                    (sAnd (sOr (sNot (sNot b0.p)) (sAnd (sAnd (sNot b0.p) (sNot b0.p)) true))
                                      (sAnd (sAnd true (sIf b0.p true (sNot b0.p))) true)))))))))))
                  true)
                true))
            true))
        true),
    AV.bool (sIf q20 (sIf b0.p true (sEq oa ob)) (sIf q8 (sIf q12 (sIf q16 false false) false) false)))) := by kernel_rfl

theorem nat207 (V ok : Val → Bool) (R : Lane → Lane → Bool) (oa ob : Int) (a0 a1 a2 a3 b0 b1 b2 b3 : Lane) (hva : V ⟨7, oa, a0, a1, a2, a3⟩ = true) (hvb : V ⟨7, ob, b0, b1, b2, b3⟩ = true) (ha : ok ⟨7, oa, a0, a1, a2, a3⟩ = true) (hb : ok ⟨7, ob, b0, b1, b2, b3⟩ = true) :
    exFn (gX (d1 V ok R) { orc := [(9, false), (14, false), (20, false)], lits := [25], unroll := 6 }) Tryd.f20 [valA ⟨7, oa, a0, a1, a2, a3⟩, valA ⟨7, ob, b0, b1, b2, b3⟩] = some (true, .bool (sAnd (lanesR R 7 ⟨7, oa, a0, a1, a2, a3⟩ ⟨7, ob, b0, b1, b2, b3⟩) (sIf b0.p true (sEq oa ob)))) := by
  rw [xf207]
  obtain ⟨na0, pa0, ua0⟩ := a0
  obtain ⟨na1, pa1, ua1⟩ := a1
  obtain ⟨na2, pa2, ua2⟩ := a2
  obtain ⟨na3, pa3, ua3⟩ := a3
  obtain ⟨nb0, pb0, ub0⟩ := b0
  obtain ⟨nb1, pb1, ub1⟩ := b1
  obtain ⟨nb2, pb2, ub2⟩ := b2
  obtain ⟨nb3, pb3, ub3⟩ := b3
  unfold lanesR
  simp only [hva, hvb, ha, hb]
  generalize R ⟨na0, pa0, ua0⟩ ⟨nb0, pb0, ub0⟩ = r0
  generalize R ⟨na1, pa1, ua1⟩ ⟨nb1, pb1, ub1⟩ = r1
  generalize R ⟨na2, pa2, ua2⟩ ⟨nb2, pb2, ub2⟩ = r2
  generalize R ⟨na3, pa3, ua3⟩ ⟨nb3, pb3, ub3⟩ = r3
  generalize sEq oa ob = q
  cases pb0 <;> cases q <;> cases r0 <;> cases r1 <;> cases r2 <;> cases r3 <;> rfl
theorem valid_typ {v : Val} (h : validV v = true) : ¬ Oth v.t := by
  intro o
  unfold validV validG at h
  rw [o.nl0, sI4] at h
  cases h
theorem valid_o {v : Val} (h : validV v = true) (h5 : v.t ≠ 5) : v.o = 0 := by
  unfold validV validG at h
  rw [sEq_false h5, sI5, sI5] at h
  generalize lb vlV v.t 0 v.a = b0 at h
  generalize lb vlV v.t 1 v.b = b1 at h
  generalize lb vlV v.t 2 v.c = b2 at h
  generalize lb vlV v.t 3 v.d = b3 at h
  generalize sEq (nlV v.t) 0 = e at h
  have : sEq v.o 0 = true := by
    cases e <;> cases b0 <;> cases b1 <;> cases b2 <;> cases b3 <;> first | exact h | cases h
  simpa [sEq] using this
def xm24 : List AV → Option (Bool × AV)
  | [a, b] => (asVal a).bind fun a => (asVal b).bind fun b => some (sAnd (okV a) (okV b), .bool (refV a b))
  | _ => none
section
variable (hm : Tryd.prog.follows .mixedOrders = true)
include hm
theorem xk26 : KOk E0 26 (cmV (hpV validV) okV) := (dk1 hm).read hm Tryd.func26 (ent Tryd.func26 (by decide) (by rfl)) { lits := [11], unroll := 6 } (by
  intro xs r h
  unfold cmV at h
  split at h
  · simp only [Option.bind_eq_some_iff, Option.some.injEq, Prod.mk.injEq] at h
    obtain ⟨v, hv, h, rfl⟩ := h
    rw [asVal_eq hv]
    exact nat26 _ _ _ v h
  · cases h)
theorem xk27 : KOk E0 27 (cmV (hpV validV) okV) := (dk1 hm).read hm Tryd.func27 (ent Tryd.func27 (by decide) (by rfl)) { lits := [11], unroll := 6 } (by
  intro xs r h
  unfold cmV at h
  split at h
  · simp only [Option.bind_eq_some_iff, Option.some.injEq, Prod.mk.injEq] at h
    obtain ⟨v, hv, h, rfl⟩ := h
    rw [asVal_eq hv]
    exact nat27 _ _ _ v h
  · cases h)
theorem xk24 : KOk E0 24 xm24 := KOk.any (ent Tryd.func24 (by decide) (by rfl)) (by
  intro xs r h
  unfold xm24 at h
  split at h
  · simp only [Option.bind_eq_some_iff, Option.some.injEq, Prod.mk.injEq, Bool.and_eq_true] at h
    obtain ⟨a, ha, b, hb, ⟨oka, okb⟩, rfl⟩ := h
    rw [asVal_eq ha, asVal_eq hb]
    by_cases hc : sIf (sIf (sNot (validV a)) true (sNot (validV b))) true (sNe a.t b.t) = true
    · refine ⟨_, (dk1 hm).read hm Tryd.func24 (ent Tryd.func24 (by decide) (by rfl)) { orc := [(20, true)] } (fun _ _ h => h), ?_⟩
      rw [nat249 validV okV rlV a b oka okb hc]
      unfold refV
      rw [hc]
      rfl
    · have hva : validV a = true := by
        revert hc
        cases validV a <;> simp [sIf, sNot]
      have hvb : validV b = true := by
        revert hc
        rw [hva]
        cases validV b <;> simp [sIf, sNot]
      have ht : a.t = b.t := by
        rw [hva, hvb] at hc
        simpa [sIf, sNot, sNe] using hc
      have hc : sIf (sIf (sNot (validV a)) true (sNot (validV b))) true (sNe a.t b.t) = false := by simpa using hc
      refine ⟨_, (dk1 hm).read hm Tryd.func24 (ent Tryd.func24 (by decide) (by rfl)) { orc := [(9, false), (14, false), (20, false)], lits := [25], unroll := 6 } (fun _ _ h => h), ?_⟩
      have hfin : refV a b = sAnd (lanesR rlV a.t a b) (sIf (sNe a.t 5) true (sIf b.a.p true (sEq a.o b.o))) := by unfold refV; rw [hc, sI5]
      rw [hfin]
      have hty := typ a.t
      obtain ⟨t, oa, a0, a1, a2, a3⟩ := a
      obtain ⟨t', ob, b0, b1, b2, b3⟩ := b
      simp only at ht hty
      subst ht
      rcases hty with rfl | rfl | rfl | rfl | rfl | rfl | rfl | o
      · exact nat241 validV okV rlV oa ob a0 a1 a2 a3 b0 b1 b2 b3 hva hvb oka okb
      · exact nat242 validV okV rlV oa ob a0 a1 a2 a3 b0 b1 b2 b3 hva hvb oka okb
      · exact nat243 validV okV rlV oa ob a0 a1 a2 a3 b0 b1 b2 b3 hva hvb oka okb
      · exact nat244 validV okV rlV oa ob a0 a1 a2 a3 b0 b1 b2 b3 hva hvb oka okb
      · exact nat245 validV okV rlV oa ob a0 a1 a2 a3 b0 b1 b2 b3 hva hvb oka okb
      · exact nat246 validV okV rlV oa ob a0 a1 a2 a3 b0 b1 b2 b3 hva hvb oka okb
      · exact nat247 validV okV rlV oa ob a0 a1 a2 a3 b0 b1 b2 b3 hva hvb oka okb
      · exact absurd o (valid_typ hva)
  · cases h)
theorem xk20 : KOk E0 20 xm24 := KOk.any (ent Tryd.func20 (by decide) (by rfl)) (by
  intro xs r h
  unfold xm24 at h
  split at h
  · simp only [Option.bind_eq_some_iff, Option.some.injEq, Prod.mk.injEq, Bool.and_eq_true] at h
    obtain ⟨a, ha, b, hb, ⟨oka, okb⟩, rfl⟩ := h
    rw [asVal_eq ha, asVal_eq hb]
    by_cases hc : sIf (sIf (sNot (validV a)) true (sNot (validV b))) true (sNe a.t b.t) = true
    · refine ⟨_, (dk1 hm).read hm Tryd.func20 (ent Tryd.func20 (by decide) (by rfl)) { orc := [(20, true)] } (fun _ _ h => h), ?_⟩
      rw [nat209 validV okV rlV a b oka okb hc]
      unfold refV
      rw [hc]
      rfl
    · have hva : validV a = true := by
        revert hc
        cases validV a <;> simp [sIf, sNot]
      have hvb : validV b = true := by
        revert hc
        rw [hva]
        cases validV b <;> simp [sIf, sNot]
      have ht : a.t = b.t := by
        rw [hva, hvb] at hc
        simpa [sIf, sNot, sNe] using hc
      have hc : sIf (sIf (sNot (validV a)) true (sNot (validV b))) true (sNe a.t b.t) = false := by simpa using hc
      refine ⟨_, (dk1 hm).read hm Tryd.func20 (ent Tryd.func20 (by decide) (by rfl)) { orc := [(9, false), (14, false), (20, false)], lits := [25], unroll := 6 } (fun _ _ h => h), ?_⟩
      have hfin : refV a b = sAnd (lanesR rlV a.t a b) (sIf (sNe a.t 5) true (sIf b.a.p true (sEq a.o b.o))) := by unfold refV; rw [hc, sI5]
      rw [hfin]
      have hfr : sIf (sNe a.t 5) true (sIf b.a.p true (sEq a.o b.o)) = sIf b.a.p true (sEq a.o b.o) := by
        by_cases h5 : a.t = 5
        · rw [sNe_false h5, sI5]
        · rw [sNe_true h5, sI4, valid_o hva h5, valid_o hvb (by rw [← ht]; exact h5), sEq_self, sI1]
      rw [hfr]
      have hty := typ a.t
      obtain ⟨t, oa, a0, a1, a2, a3⟩ := a
      obtain ⟨t', ob, b0, b1, b2, b3⟩ := b
      simp only at ht hty
      subst ht
      rcases hty with rfl | rfl | rfl | rfl | rfl | rfl | rfl | o
      · exact nat201 validV okV rlV oa ob a0 a1 a2 a3 b0 b1 b2 b3 hva hvb oka okb
      · exact nat202 validV okV rlV oa ob a0 a1 a2 a3 b0 b1 b2 b3 hva hvb oka okb
      · exact nat203 validV okV rlV oa ob a0 a1 a2 a3 b0 b1 b2 b3 hva hvb oka okb
      · exact nat204 validV okV rlV oa ob a0 a1 a2 a3 b0 b1 b2 b3 hva hvb oka okb
      · exact nat205 validV okV rlV oa ob a0 a1 a2 a3 b0 b1 b2 b3 hva hvb oka okb
      · exact nat206 validV okV rlV oa ob a0 a1 a2 a3 b0 b1 b2 b3 hva hvb oka okb
      · exact nat207 validV okV rlV oa ob a0 a1 a2 a3 b0 b1 b2 b3 hva hvb oka okb
      · exact absurd o (valid_typ hva)
  · cases h)
end
noncomputable def a7 : XTab := { a6 with k := (26, cmV (hpV validV) okV) :: (27, cmV (hpV validV) okV) :: (24, xm24) :: (20, xm24) :: a6.k }
theorem ak7 (hm : Tryd.prog.follows .mixedOrders = true) : XOk a7 := ((((ak6 hm).consK (xk20 hm)).consK (xk24 hm)).consK (xk27 hm)).consK (xk26 hm)
end Go.Proofs.YtnjofponcdcfcaaDoor
