/- The laws ValueValid and ValueOrder answer true. No conditions but that the numbers fit. -/
import Derived.Test.YtnjofponcdcfcaaDoorValNat5
import Derived.Test.YtnjofponcdcfcaaDoorValWorks
import Derived.Test.YtnjofponcdcfcaaDoorAbRun
set_option linter.all false
namespace Go.Proofs.YtnjofponcdcfcaaDoor
open Go Ab
set_option maxRecDepth 100000
def cmB (ok : Val → Bool) (R : Val → Val → Bool) : List AV → Option (Bool × AV)
  | [a, b] => (asVal a).bind fun a => (asVal b).bind fun b => some (sAnd (ok a) (ok b), .bool (R a b))
  | _ => none
noncomputable def e1 (ok V H : Val → Bool) (R : Val → Val → Bool) : XTab := { a7 with k := (25, cmV V ok) :: (23, cmV V ok) :: (26, cmV H ok) :: (27, cmV H ok) :: (24, cmB ok R) :: (20, cmB ok R) :: (17, xm17) :: a7.k }
theorem ek1 (hm : Tryd.prog.follows .mixedOrders = true) : XOk (e1 okV validV (hpV validV) refV) :=
  (((((((ak7 hm).consK (xk17 hm)).consK (c := cmB okV refV) (xk20 hm)).consK (c := cmB okV refV) (xk24 hm)).consK (xk27 hm)).consK (xk26 hm)).consK (c := cmV validV okV) (xk23 hm)).consK (c := cmV validV okV) (xk25 hm)
theorem xf8 (ok : Val → Bool) (V : Val → Bool) (H : Val → Bool) (R : Val → Val → Bool) (a : Val) (b : Val) : exFn (gX (e1 ok V H R)) Tryd.f8 [valA a, valA b] = (
 let q0 : Bool := ok { t := a.t, o := a.o, a := { n := a.a.n, p := a.a.p, u := a.a.u }, b := { n := a.b.n, p := a.b.p, u := a.b.u }, c := { n := a.c.n, p := a.c.p, u := a.c.u }, d := { n := a.d.n, p := a.d.p, u := a.d.u } };
  let q1 : Bool := sAnd true q0;
  let q2 : Bool := V { t := a.t, o := a.o, a := { n := a.a.n, p := a.a.p, u := a.a.u }, b := { n := a.b.n, p := a.b.p, u := a.b.u }, c := { n := a.c.n, p := a.c.p, u := a.c.u }, d := { n := a.d.n, p := a.d.p, u := a.d.u } };
  let q3 : Bool := sEqB q2 q2;
  let q4 : Bool := sNot q3;
  let q5 : Bool := sOr q4 true;
  let q6 : Bool := sOr q4 (sAnd (sAnd q3 true) q0);
  let q7 : Bool := H { t := a.t, o := a.o, a := { n := a.a.n, p := a.a.p, u := a.a.u }, b := { n := a.b.n, p := a.b.p, u := a.b.u }, c := { n := a.c.n, p := a.c.p, u := a.c.u }, d := { n := a.d.n, p := a.d.p, u := a.d.u } };
  let q8 : Bool := sIf q3 (sEqB q7 q7) false;
  let q9 : Bool := sNot q8;
  let q10 : Bool := sOr q9 true;
  let q11 : Bool := sOr q9 (sAnd (sAnd q8 (sAnd q8 true)) (sAnd q0 (ok { t := b.t, o := b.o, a := { n := b.a.n, p := b.a.p, u := b.a.u }, b := { n := b.b.n, p := b.b.p, u := b.b.u }, c := { n := b.c.n, p := b.c.p, u := b.c.u }, d := { n := b.d.n, p := b.d.p, u := b.d.u } })));
  let q12 : Bool := R { t := a.t, o := a.o, a := { n := a.a.n, p := a.a.p, u := a.a.u }, b := { n := a.b.n, p := a.b.p, u := a.b.u }, c := { n := a.c.n, p := a.c.p, u := a.c.u }, d := { n := a.d.n, p := a.d.p, u := a.d.u } } { t := b.t, o := b.o, a := { n := b.a.n, p := b.a.p, u := b.a.u }, b := { n := b.b.n, p := b.b.p, u := b.b.u }, c := { n := b.c.n, p := b.c.p, u := b.c.u }, d := { n := b.d.n, p := b.d.p, u := b.d.u } };
  let q13 : Bool := sIf q8 (sEqB q12 q12) false;
  some
  (sAnd true
      (sIf true
        (sAnd
          (sAnd
            (sAnd true
              (sAnd q1
                (sAnd true
                  (sAnd q1
                    (sAnd true
                      (sAnd true
                        (sAnd q5
                          (sAnd q6
                            (sAnd q5
                              (sAnd q6
                                (sAnd (sOr q4 (sAnd (sAnd q3 q3) true))
                                  (sAnd (sAnd true (sIf q3 q3 true))
                                    (sAnd true
                                      (sAnd q10
                                        (sAnd q10
                                          (sAnd q11
                                            (sAnd q10
                                              (sAnd q10
                                                (sAnd q11
                                                  (sAnd (sOr q9 (sAnd (sAnd q8 q8) true))
                                                    (sAnd (sAnd true (sIf q8 q8 true))
                                                      (sAnd true
                                                        (sAnd (sOr (sNot q13) true)
                                                          (sAnd (sAnd true (sIf q13 q13 true))
                                                            true))))))))))))))))))))))))
            true)
          true)
        true),
    AV.bool (sIf q13 true false))) := by kernel_rfl

theorem xf7 (ok : Val → Bool) (V : Val → Bool) (H : Val → Bool) (R : Val → Val → Bool) (a : Val) (b : Val) (c : Val) : exFn (gX (e1 ok V H R) { orc := [(12, false), (26, false)] }) Tryd.f7 [valA a, valA b, valA c] = (
 let q0 : Bool := ok { t := a.t, o := a.o, a := { n := a.a.n, p := a.a.p, u := a.a.u }, b := { n := a.b.n, p := a.b.p, u := a.b.u }, c := { n := a.c.n, p := a.c.p, u := a.c.u }, d := { n := a.d.n, p := a.d.p, u := a.d.u } };
  let q1 : Bool := ok { t := b.t, o := b.o, a := { n := b.a.n, p := b.a.p, u := b.a.u }, b := { n := b.b.n, p := b.b.p, u := b.b.u }, c := { n := b.c.n, p := b.c.p, u := b.c.u }, d := { n := b.d.n, p := b.d.p, u := b.d.u } };
  let q2 : Bool := R { t := a.t, o := a.o, a := { n := a.a.n, p := a.a.p, u := a.a.u }, b := { n := a.b.n, p := a.b.p, u := a.b.u }, c := { n := a.c.n, p := a.c.p, u := a.c.u }, d := { n := a.d.n, p := a.d.p, u := a.d.u } } { t := b.t, o := b.o, a := { n := b.a.n, p := b.a.p, u := b.a.u }, b := { n := b.b.n, p := b.b.p, u := b.b.u }, c := { n := b.c.n, p := b.c.p, u := b.c.u }, d := { n := b.d.n, p := b.d.p, u := b.d.u } };
  let q3 : Bool := sNot q2;
  let q4 : Bool := sOr q3 true;
  let q5 : Bool := ok { t := c.t, o := c.o, a := { n := c.a.n, p := c.a.p, u := c.a.u }, b := { n := c.b.n, p := c.b.p, u := c.b.u }, c := { n := c.c.n, p := c.c.p, u := c.c.u }, d := { n := c.d.n, p := c.d.p, u := c.d.u } };
  let q6 : Bool := sIf q2 (R { t := b.t, o := b.o, a := { n := b.a.n, p := b.a.p, u := b.a.u }, b := { n := b.b.n, p := b.b.p, u := b.b.u }, c := { n := b.c.n, p := b.c.p, u := b.c.u }, d := { n := b.d.n, p := b.d.p, u := b.d.u } } { t := c.t, o := c.o, a := { n := c.a.n, p := c.a.p, u := c.a.u }, b := { n := c.b.n, p := c.b.p, u := c.b.u }, c := { n := c.c.n, p := c.c.p, u := c.c.u }, d := { n := c.d.n, p := c.d.p, u := c.d.u } }) false;
  let q7 : Bool := sNot q6;
  let q8 : Bool := sOr q7 true;
  some
  (sAnd true
      (sIf true
        (sAnd
          (sAnd
            (sAnd (sAnd true (sAnd true (sAnd (sAnd true (sAnd q0 q0)) (sAnd true (sAnd (sAnd true q0) true))))) true)
            (sIf true
              (sAnd
                (sAnd true
                  (sNot
                    (sNot
                      (sEqB
                        (R
                          { t := a.t, o := a.o, a := { n := a.a.n, p := a.a.p, u := a.a.u },
                            b := { n := a.b.n, p := a.b.p, u := a.b.u }, c := { n := a.c.n, p := a.c.p, u := a.c.u },
                            d := { n := a.d.n, p := a.d.p, u := a.d.u } }
                          { t := a.t, o := a.o, a := { n := a.a.n, p := a.a.p, u := a.a.u },
                            b := { n := a.b.n, p := a.b.p, u := a.b.u }, c := { n := a.c.n, p := a.c.p, u := a.c.u },
                            d := { n := a.d.n, p := a.d.p, u := a.d.u } })
                        (V
                          { t := a.t, o := a.o, a := { n := a.a.n, p := a.a.p, u := a.a.u },
                            b := { n := a.b.n, p := a.b.p, u := a.b.u }, c := { n := a.c.n, p := a.c.p, u := a.c.u },
                            d := { n := a.d.n, p := a.d.p, u := a.d.u } })))))
                true)
              true))
          (sIf true
            (sAnd
              (sAnd
                (sAnd true
                  (sAnd true
                    (sAnd (sAnd true (sAnd q0 q1))
                      (sAnd true
                        (sAnd q4
                          (sAnd q4
                            (sAnd (sOr q3 (sAnd (sAnd q2 (sAnd q2 true)) (sAnd q1 q5)))
                              (sAnd (sAnd true (sIf q2 q2 true))
                                (sAnd true
                                  (sAnd q8
                                    (sAnd q8
                                      (sAnd (sOr q7 (sAnd (sAnd q6 (sAnd q6 true)) (sAnd q0 q5)))
                                        (sAnd (sOr q7 q6) (sAnd (sAnd true (sIf q6 q6 true)) true))))))))))))))
                (sIf true
                  (sAnd
                    (sAnd true
                      (sNot
                        (sIf q6
                          (sNot
                            (R
                              { t := a.t, o := a.o, a := { n := a.a.n, p := a.a.p, u := a.a.u },
                                b := { n := a.b.n, p := a.b.p, u := a.b.u },
                                c := { n := a.c.n, p := a.c.p, u := a.c.u },
                                d := { n := a.d.n, p := a.d.p, u := a.d.u } }
                              { t := c.t, o := c.o, a := { n := c.a.n, p := c.a.p, u := c.a.u },
                                b := { n := c.b.n, p := c.b.p, u := c.b.u },
                                c := { n := c.c.n, p := c.c.p, u := c.c.u },
                                d := { n := c.d.n, p := c.d.p, u := c.d.u } }))
                          false)))
                    true)
                  true))
              true)
            true))
        true),
    AV.bool true)) := by kernel_rfl

theorem nat8 (ok V H : Val → Bool) (R : Val → Val → Bool) (a b : Val) (ha : ok a = true) (hb : ok b = true) : exFn (gX (e1 ok V H R) { }) Tryd.f8 [valA a, valA b] = some (true, .bool true) := by
  rw [xf8]
  obtain ⟨t, o, ⟨an, ap, au⟩, ⟨bn, bp, bu⟩, ⟨cn, cp, cu⟩, ⟨dn, dp, du⟩⟩ := a
  obtain ⟨t', o', ⟨an', ap', au'⟩, ⟨bn', bp', bu'⟩, ⟨cn', cp', cu'⟩, ⟨dn', dp', du'⟩⟩ := b
  simp only [ha, hb, sEqB_self]
  rfl
theorem nat7 (ok V H : Val → Bool) (R : Val → Val → Bool) (a b c : Val) (ha : ok a = true) (hb : ok b = true) (hc : ok c = true) (h1 : R a a = V a) (h2 : R a b = true → R b c = true → R a c = true) :
    exFn (gX (e1 ok V H R) { orc := [(12, false), (26, false)] }) Tryd.f7 [valA a, valA b, valA c] = some (true, .bool true) := by
  rw [xf7]
  obtain ⟨t, o, ⟨an, ap, au⟩, ⟨bn, bp, bu⟩, ⟨cn, cp, cu⟩, ⟨dn, dp, du⟩⟩ := a
  obtain ⟨t', o', ⟨an', ap', au'⟩, ⟨bn', bp', bu'⟩, ⟨cn', cp', cu'⟩, ⟨dn', dp', du'⟩⟩ := b
  obtain ⟨t'', o'', ⟨an'', ap'', au''⟩, ⟨bn'', bp'', bu''⟩, ⟨cn'', cp'', cu''⟩, ⟨dn'', dp'', du''⟩⟩ := c
  simp only [ha, hb, hc, h1, sEqB_self]
  generalize R ⟨t, o, ⟨an, ap, au⟩, ⟨bn, bp, bu⟩, ⟨cn, cp, cu⟩, ⟨dn, dp, du⟩⟩ ⟨t', o', ⟨an', ap', au'⟩, ⟨bn', bp', bu'⟩, ⟨cn', cp', cu'⟩, ⟨dn', dp', du'⟩⟩ = r1 at *
  generalize R ⟨t', o', ⟨an', ap', au'⟩, ⟨bn', bp', bu'⟩, ⟨cn', cp', cu'⟩, ⟨dn', dp', du'⟩⟩ ⟨t'', o'', ⟨an'', ap'', au''⟩, ⟨bn'', bp'', bu''⟩, ⟨cn'', cp'', cu''⟩, ⟨dn'', dp'', du''⟩⟩ = r2 at *
  generalize R ⟨t, o, ⟨an, ap, au⟩, ⟨bn, bp, bu⟩, ⟨cn, cp, cu⟩, ⟨dn, dp, du⟩⟩ ⟨t'', o'', ⟨an'', ap'', au''⟩, ⟨bn'', bp'', bu''⟩, ⟨cn'', cp'', cu''⟩, ⟨dn'', dp'', du''⟩⟩ = r3 at *
  cases r1 <;> cases r2 <;> cases r3 <;> first | rfl | exact absurd (h2 rfl rfl) (by simp)
theorem eqL_refl (a : Lane) : eqL a a = true := by unfold eqL; rw [sEq_self, sEqB_self, sEqB_self]; rfl
theorem eqL_eq {a b : Lane} (h : eqL a b = true) : a = b := by
  obtain ⟨n, p, u⟩ := a
  obtain ⟨n', p', u'⟩ := b
  simpa [eqL, sAnd, sEq, sEqB] using h
theorem rl_refl (a : Lane) : rlV a a = true := by
  unfold rlV
  rw [eqL_refl]
  cases a.p <;> cases a.u <;> rfl
theorem rl_trans {a b c : Lane} (h1 : rlV a b = true) (h2 : rlV b c = true) : rlV a c = true := by
  unfold rlV at h1 h2 ⊢
  cases hc : c.p
  · rw [hc, sI5] at h2
    cases hu : c.u
    · rw [hu, sI5] at h2
      have := eqL_eq h2
      subst this
      rw [hc, hu, sI5, sI5] at h1
      rw [sI5, sI5]
      exact h1
    · rw [hu, sI4] at h2
      have hb : b.p = false := by simpa [sNot] using h2
      rw [hb, sI5] at h1
      rw [sI5, sI4]
      cases hbu : b.u
      · rw [hbu, sI5] at h1
        have := eqL_eq h1
        subst this
        exact h2
      · rw [hbu, sI4] at h1
        exact h1
  · rw [sI4]
theorem lanes_refl (t : Int) (a : Val) : lanesR rlV t a a = true := by
  unfold lanesR
  rw [rl_refl, rl_refl, rl_refl, rl_refl]
  cases sLt 1 (nlV t) <;> cases sLt 2 (nlV t) <;> cases sLt 3 (nlV t) <;> rfl
theorem lane_trans {c : Bool} {a b d : Lane} (h1 : sIf c (rlV a b) true = true) (h2 : sIf c (rlV b d) true = true) : sIf c (rlV a d) true = true := by
  cases c
  · rfl
  · exact rl_trans h1 h2
theorem lanes_trans {t : Int} {a b c : Val} (h1 : lanesR rlV t a b = true) (h2 : lanesR rlV t b c = true) : lanesR rlV t a c = true := by
  unfold lanesR at h1 h2 ⊢
  simp only [Bool.and_eq_true] at h1 h2 ⊢
  exact ⟨rl_trans h1.1 h2.1, lane_trans h1.2.1 h2.2.1, lane_trans h1.2.2.1 h2.2.2.1, lane_trans h1.2.2.2 h2.2.2.2⟩
theorem ref_refl (a : Val) : refV a a = validV a := by
  unfold refV
  rw [lanes_refl, sEq_self, sNe_false rfl]
  cases validV a
  · rfl
  · cases sNe a.t 5 <;> cases a.a.p <;> rfl
theorem ref_iff {a b : Val} : refV a b = true ↔ validV a = true ∧ validV b = true ∧ a.t = b.t ∧ lanesR rlV a.t a b = true ∧ (a.t ≠ 5 ∨ b.a.p = true ∨ a.o = b.o) := by
  unfold refV
  have e : ∀ x y : Int, sNe x y = true ↔ x ≠ y := fun x y => by simp [sNe]
  have e2 : ∀ x y : Int, sEq x y = true ↔ x = y := fun x y => by simp [sEq]
  cases hva : validV a
  · simp [sIf, sNot]
  cases hvb : validV b
  · simp [sIf, sNot]
  by_cases ht : a.t = b.t
  · rw [sNe_false ht]
    cases lanesR rlV a.t a b
    · simp [sIf, sNot, sAnd]
    · by_cases h5 : a.t = 5
      · rw [sNe_false h5]
        cases b.a.p <;> simp [sIf, sNot, sAnd, h5, sEq, ht] <;> omega
      · rw [sNe_true h5]
        simp [sIf, sNot, sAnd, h5, ht]
        exact .inl (by rw [← ht]; exact h5)
  · rw [sNe_true ht]
    simp [sIf, sNot, ht]
theorem ref_trans {a b c : Val} (h1 : refV a b = true) (h2 : refV b c = true) : refV a c = true := by
  rw [ref_iff] at h1 h2 ⊢
  obtain ⟨va, vb, t1, l1, f1⟩ := h1
  obtain ⟨_, vc, t2, l2, f2⟩ := h2
  rw [← t1] at l2 f2
  refine ⟨va, vc, t1.trans t2, lanes_trans l1 l2, ?_⟩
  rcases f2 with f2 | f2 | f2
  · exact .inl f2
  · exact .inr (.inl f2)
  · rcases f1 with f1 | f1 | f1
    · exact .inl f1
    · refine .inr (.inl ?_)
      have hl : rlV b.a c.a = true := by
        unfold lanesR at l2
        simp only [Bool.and_eq_true] at l2
        exact l2.1
      unfold rlV at hl
      cases hc : c.a.p
      · rw [hc, sI5] at hl
        cases hu : c.a.u
        · rw [hu, sI5] at hl
          rw [eqL_eq hl, hc] at f1
          exact f1
        · rw [hu, sI4, f1] at hl
          cases hl
      · rfl
    · exact .inr (.inr (f1.trans f2))
/-! Values as they are opened -/
def laneD (x : laneS.den) : Lane := ⟨x.1, x.2.1, x.2.2.1⟩
def valD (x : valS.den) : Val := ⟨x.1, x.2.1, laneD (x.2.2.1.getD 0 laneS.dflt), laneD (x.2.2.1.getD 1 laneS.dflt), laneD (x.2.2.1.getD 2 laneS.dflt), laneD (x.2.2.1.getD 3 laneS.dflt)⟩
theorem valD_cells (x : valS.den) : AV.agg (cellsOf valS x) = valA (valD x) := rfl
def xm8 : List AV → Option (Bool × AV)
  | [a, b] => (asVal a).bind fun a => (asVal b).bind fun b => some (sAnd (okV a) (okV b), .bool true)
  | _ => none
def xm7 : List AV → Option (Bool × AV)
  | [a, b, c] => (asVal a).bind fun a => (asVal b).bind fun b => (asVal c).bind fun c => some (sAnd (okV a) (sAnd (okV b) (okV c)), .bool true)
  | _ => none
theorem law8 (hm : Tryd.prog.follows .mixedOrders = true) : KOk E0 8 xm8 := (ek1 hm).read hm Tryd.func8 (ent Tryd.func8 (by decide) (by rfl)) {} (by
  intro xs r h
  unfold xm8 at h
  split at h
  · simp only [Option.bind_eq_some_iff, Option.some.injEq, Prod.mk.injEq, Bool.and_eq_true] at h
    obtain ⟨a, ha, b, hb, ⟨oka, okb⟩, rfl⟩ := h
    rw [asVal_eq ha, asVal_eq hb]
    exact nat8 _ _ _ _ _ _ oka okb
  · cases h)
theorem law7 (hm : Tryd.prog.follows .mixedOrders = true) : KOk E0 7 xm7 := (ek1 hm).read hm Tryd.func7 (ent Tryd.func7 (by decide) (by rfl)) { orc := [(12, false), (26, false)] } (by
  intro xs r h
  unfold xm7 at h
  split at h
  · simp only [Option.bind_eq_some_iff, Option.some.injEq, Prod.mk.injEq, Bool.and_eq_true] at h
    obtain ⟨a, ha, b, hb, c, hc, ⟨oka, okb, okc⟩, rfl⟩ := h
    rw [asVal_eq ha, asVal_eq hb, asVal_eq hc]
    exact nat7 _ _ _ _ _ _ _ oka okb okc (ref_refl a) ref_trans
  · cases h)
theorem okV_of {x : valS.den} (h : valS.Wf x) : okV (valD x) = true := by
  obtain ⟨_, _, ⟨hl, hw⟩, _⟩ := h
  have hb : ∀ i, i < 4 → okL (laneD (x.2.2.1.getD i laneS.dflt)) = true := fun i hi => by
    have hi' : i < x.2.2.1.length := by omega
    rw [List.getD_eq_getElem?_getD, List.getElem?_eq_getElem hi']
    exact decide_eq_true (bounds_i64 (hw _ (List.getElem_mem hi')).1)
  unfold okV valD
  rw [hb 0 (by omega), hb 1 (by omega), hb 2 (by omega), hb 3 (by omega)]
  rfl
theorem valid8 {a b : Val} (ha : okV a = true) (hb : okV b = true) : xm8 [valA a, valA b] = some (true, .bool true) := by
  show some (sAnd (okV a) (okV b), AV.bool true) = _
  rw [ha, hb]; rfl
theorem order7 {a b c : Val} (ha : okV a = true) (hb : okV b = true) (hc : okV c = true) : xm7 [valA a, valA b, valA c] = some (true, .bool true) := by
  show some (sAnd (okV a) (sAnd (okV b) (okV c)), AV.bool true) = _
  rw [ha, hb, hc]; rfl
end Go.Proofs.YtnjofponcdcfcaaDoor
