/- The texts of values. No conditions. -/
import Derived.Test.YtnjofponcdcfcaaDoorValDec
set_option linter.all false
namespace Go.Proofs.YtnjofponcdcfcaaDoor
open Go Ab
set_option maxRecDepth 100000
def tnV (t : Int) : ByteArray := [⟨#[]⟩, ⟨#[98, 111, 111, 108]⟩, ⟨#[105, 56]⟩, ⟨#[105, 51, 50]⟩, ⟨#[105, 54, 52]⟩, ⟨#[112, 116, 114]⟩, ⟨#[118, 50]⟩, ⟨#[118, 52]⟩].getD t.toNat ⟨#[]⟩
def okT (t : Int) : Bool := decide (1 ≤ t ∧ t ≤ 7)
def xm48 : List AV → Option (Bool × AV)
  | [.int .i64 t] => some (okT t, .str (tnV t))
  | _ => none
noncomputable def f1 (V ok : Val → Bool) : XTab := { a7 with k := (25, cmV V ok) :: (23, cmV V ok) :: (48, xm48) :: (51, xm48) :: (49, xmI) :: (50, xmF) :: (52, xm52) :: a7.k }
theorem nat48_1 : exFn (gX a7) Tryd.f48 [.int .i64 1] = some (true, .str (tnV 1)) := by kernel_rfl
theorem nat48_2 : exFn (gX a7) Tryd.f48 [.int .i64 2] = some (true, .str (tnV 2)) := by kernel_rfl
theorem nat48_3 : exFn (gX a7) Tryd.f48 [.int .i64 3] = some (true, .str (tnV 3)) := by kernel_rfl
theorem nat48_4 : exFn (gX a7) Tryd.f48 [.int .i64 4] = some (true, .str (tnV 4)) := by kernel_rfl
theorem nat48_5 : exFn (gX a7) Tryd.f48 [.int .i64 5] = some (true, .str (tnV 5)) := by kernel_rfl
theorem nat48_6 : exFn (gX a7) Tryd.f48 [.int .i64 6] = some (true, .str (tnV 6)) := by kernel_rfl
theorem nat48_7 : exFn (gX a7) Tryd.f48 [.int .i64 7] = some (true, .str (tnV 7)) := by kernel_rfl
theorem nat48 (t : Int) (h : okT t = true) : exFn (gX a7) Tryd.f48 [.int .i64 t] = some (true, .str (tnV t)) := by
  have h := of_decide_eq_true h
  have hc : t = 1 ∨ t = 2 ∨ t = 3 ∨ t = 4 ∨ t = 5 ∨ t = 6 ∨ t = 7 := by omega
  rcases hc with rfl | rfl | rfl | rfl | rfl | rfl | rfl
  · exact nat48_1
  · exact nat48_2
  · exact nat48_3
  · exact nat48_4
  · exact nat48_5
  · exact nat48_6
  · exact nat48_7
theorem nat51_1 : exFn (gX a7) Tryd.f51 [.int .i64 1] = some (true, .str (tnV 1)) := by kernel_rfl
theorem nat51_2 : exFn (gX a7) Tryd.f51 [.int .i64 2] = some (true, .str (tnV 2)) := by kernel_rfl
theorem nat51_3 : exFn (gX a7) Tryd.f51 [.int .i64 3] = some (true, .str (tnV 3)) := by kernel_rfl
theorem nat51_4 : exFn (gX a7) Tryd.f51 [.int .i64 4] = some (true, .str (tnV 4)) := by kernel_rfl
theorem nat51_5 : exFn (gX a7) Tryd.f51 [.int .i64 5] = some (true, .str (tnV 5)) := by kernel_rfl
theorem nat51_6 : exFn (gX a7) Tryd.f51 [.int .i64 6] = some (true, .str (tnV 6)) := by kernel_rfl
theorem nat51_7 : exFn (gX a7) Tryd.f51 [.int .i64 7] = some (true, .str (tnV 7)) := by kernel_rfl
theorem nat51 (t : Int) (h : okT t = true) : exFn (gX a7) Tryd.f51 [.int .i64 t] = some (true, .str (tnV t)) := by
  have h := of_decide_eq_true h
  have hc : t = 1 ∨ t = 2 ∨ t = 3 ∨ t = 4 ∨ t = 5 ∨ t = 6 ∨ t = 7 := by omega
  rcases hc with rfl | rfl | rfl | rfl | rfl | rfl | rfl
  · exact nat51_1
  · exact nat51_2
  · exact nat51_3
  · exact nat51_4
  · exact nat51_5
  · exact nat51_6
  · exact nat51_7

section
variable (hm : Tryd.prog.follows .mixedOrders = true)
include hm
theorem xk48 : KOk E0 48 xm48 := (ak7 hm).read hm Tryd.func48 (ent Tryd.func48 (by decide) (by rfl)) {} (by
  intro xs r h
  unfold xm48 at h
  split at h
  · simp only [Option.some.injEq, Prod.mk.injEq] at h
    obtain ⟨h, rfl⟩ := h
    exact nat48 _ h
  · cases h)
theorem xk51 : KOk E0 51 xm48 := (ak7 hm).read hm Tryd.func51 (ent Tryd.func51 (by decide) (by rfl)) {} (by
  intro xs r h
  unfold xm48 at h
  split at h
  · simp only [Option.some.injEq, Prod.mk.injEq] at h
    obtain ⟨h, rfl⟩ := h
    exact nat51 _ h
  · cases h)
theorem fk1 : XOk (f1 validV okV) := (((((((ak7 hm).consK (xk52 hm)).consK xkF).consK xkI).consK (xk51 hm)).consK (xk48 hm)).consK (c := cmV validV okV) (xk23 hm)).consK (c := cmV validV okV) (xk25 hm)
end
def spB : ByteArray := ⟨#[32]⟩
def poB : ByteArray := ⟨#[32, 112, 111, 105, 115, 111, 110]⟩
def unB : ByteArray := ⟨#[32, 117, 110, 107, 110, 111, 119, 110]⟩
/-- A lane's text. -/
def laneB (l : Lane) : ByteArray := sIf l.p poB (sIf l.u unB (spB ++ decA l.n))
def headB (v : Val) : ByteArray := sIf (sIf (sEq v.t 5) (sNot v.a.p) false) (tnV v.t ++ (spB ++ decA v.o)) (tnV v.t)
def fmtV (v : Val) : ByteArray := if nlV v.t = 1 then headB v ++ laneB v.a else if nlV v.t = 2 then headB v ++ laneB v.a ++ laneB v.b else headB v ++ laneB v.a ++ laneB v.b ++ laneB v.c ++ laneB v.d
theorem app2 (c d : Bool) (x y z v : ByteArray) : sIf c (x ++ y) (sIf d (x ++ z) (x ++ v)) = x ++ sIf c y (sIf d z v) := by cases c <;> cases d <;> rfl
theorem app3 (c d : Bool) (x y z s v : ByteArray) : sIf c (x ++ y) (sIf d (x ++ z) (x ++ s ++ v)) = x ++ sIf c y (sIf d z (s ++ v)) := by
  rw [ByteArray.append_assoc]; cases c <;> cases d <;> rfl
theorem dec_size {n : Int} (h : okImm n = true) : (decA n).size ≤ 21 := by
  have h := of_decide_eq_true h
  have := Lib.itoa_length_le n h.1 h.2
  show (Lib.itoa n).toArray.size ≤ 21
  simpa using this
theorem lane_size {l : Lane} (h : okL l = true) : (laneB l).size ≤ 22 := by
  have := dec_size (n := l.n) h
  unfold laneB
  cases l.p
  · cases l.u
    · show (spB ++ decA l.n).size ≤ 22
      rw [ByteArray.size_append]
      have : spB.size = 1 := rfl
      omega
    · show unB.size ≤ 22
      decide
  · show poB.size ≤ 22
    decide
/-- A lane that is as it should be. -/
theorem lane_pu {l : Lane} {t : Int} (h : vlV l t = true) : sAnd (sEq l.n 0) (sAnd (sEqB l.p true) (sAnd (sEqB l.u false) true)) = l.p ∧ sAnd (sEq l.n 0) (sAnd (sEqB l.p false) (sAnd (sEqB l.u true) true)) = l.u := by
  unfold vlV at h
  obtain ⟨n, p, u⟩ := l
  simp only at h ⊢
  generalize sEq n 0 = z at h ⊢
  cases p <;> cases u <;> cases z <;> first | exact ⟨rfl, rfl⟩ | cases h
theorem valid_lanes {v : Val} (h : validV v = true) : vlV v.a (ltV v.t) = true ∧ (1 < nlV v.t → vlV v.b (ltV v.t) = true) ∧ (2 < nlV v.t → vlV v.c (ltV v.t) = true) ∧ (3 < nlV v.t → vlV v.d (ltV v.t) = true) := by
  have h0 : 0 < nlV v.t := by
    have := valid_typ h
    rcases typ v.t with e | e | e | e | e | e | e | e <;> first | exact absurd e this | (rw [e]; decide)
  unfold validV validG lb at h
  rw [sLt_true h0, sI4] at h
  have key : ∀ (e a b c d z : Bool), sIf e false (sIf (sNot a) false (sIf b false (sIf c false (sIf d false z)))) = true → a = true ∧ b = false ∧ c = false ∧ d = false := by
    intro e a b c d z
    cases e <;> cases a <;> cases b <;> cases c <;> cases d <;> simp [sIf, sNot]
  obtain ⟨k0, k1, k2, k3⟩ := key _ _ _ _ _ _ h
  have one : ∀ {k : Int} {l : Lane}, sIf (sLt k (nlV v.t)) (sNot (vlV l (ltV v.t))) (sNot (zL l)) = false → k < nlV v.t → vlV l (ltV v.t) = true := by
    intro k l e hk
    rw [sLt_true hk, sI4] at e
    simpa [sNot] using e
  exact ⟨k0, one k1, one k2, one k3⟩
theorem xf219 (V : Val → Bool) (ok : Val → Bool) (v : Val) : exFn (gX (f1 V ok) { orc := [(8, true)] }) Tryd.f21 [valA v] = (
 some
  (sAnd true
      (sIf true
        (sAnd
          (sAnd true
            (sAnd
              (sAnd true
                (ok
                  { t := v.t, o := v.o, a := { n := v.a.n, p := v.a.p, u := v.a.u },
                    b := { n := v.b.n, p := v.b.p, u := v.b.u }, c := { n := v.c.n, p := v.c.p, u := v.c.u },
                    d := { n := v.d.n, p := v.d.p, u := v.d.u } }))
              true))
          (sIf true
            (sAnd
              (sAnd true
                (sNot
                  (V
                    { t := v.t, o := v.o, a := { n := v.a.n, p := v.a.p, u := v.a.u },
                      b := { n := v.b.n, p := v.b.p, u := v.b.u }, c := { n := v.c.n, p := v.c.p, u := v.c.u },
                      d := { n := v.d.n, p := v.d.p, u := v.d.u } })))
              true)
            true))
        true),
    AV.str { data := { toList := [] } })) := by kernel_rfl

theorem nat219 (V ok : Val → Bool) (v : Val) (h : ok v = true) (hv : V v = false) : exFn (gX (f1 V ok) { orc := [(8, true)] }) Tryd.f21 [valA v] = some (true, .str ByteArray.empty) := by
  rw [xf219]
  obtain ⟨t, o, ⟨an, ap, au⟩, ⟨bn, bp, bu⟩, ⟨cn, cp, cu⟩, ⟨dn, dp, du⟩⟩ := v
  simp only [h, hv]
  rfl
theorem xf211 (V : Val → Bool) (ok : Val → Bool) (o : Int) (a : Lane) (b : Lane) (c : Lane) (d : Lane) : exFn (gX (f1 V ok) { orc := [(8, false)], lits := [35], unroll := 6 }) Tryd.f21
  [valA { t := 1, o := o, a := a, b := b, c := c, d := d }] = (
 let q0 : Bool := sEq a.n 0;
  let q1 : Bool := sAnd q0 (sAnd (sEqB a.p true) (sAnd (sEqB a.u false) true));
  let q2 : Bool := sAnd q0 (sAnd (sEqB a.p false) (sAnd (sEqB a.u true) true));
  let q3 : Int := 2 ^ 63 - 1;
  let q4 : ByteArray := { data := { toList := [32] } } ++ decA a.n;
  let q5 : Tg := Tg.block 1 (Tg.block 2 (Tg.mix q1 Tg.n (Tg.mix q2 Tg.n Tg.n)));
  let q6 : Tg := q5.thenN Tg.n;
  let q7 : List UInt8 := [110];
  some
  (sAnd true
      (sIf true
        (sAnd
          (sAnd
            (sAnd true
              (sAnd
                (sAnd true
                  (ok
                    { t := 1, o := o, a := { n := a.n, p := a.p, u := a.u }, b := { n := b.n, p := b.p, u := b.u },
                      c := { n := c.n, p := c.p, u := c.u }, d := { n := d.n, p := d.p, u := d.u } }))
                true))
            (sIf true
              (sAnd
                (sAnd true
                  (sNot
                    (sNot
                      (V
                        { t := 1, o := o, a := { n := a.n, p := a.p, u := a.u }, b := { n := b.n, p := b.p, u := b.u },
                          c := { n := c.n, p := c.p, u := c.u }, d := { n := d.n, p := d.p, u := d.u } }))))
                true)
              true))
          (sIf true
            (sAnd true
              (sIf true
                (sAnd true
                  (sIf true
                    (sAnd
                      (sAnd true
                        (sIf true
                          (sAnd
                            (sAnd true
                              (sIf true
                                (sAnd true
                                  (sIf true
                                    (sAnd
                                      (sAnd true
                                        (sIf true
                                          (sAnd true
                                            (sIf true
                                              (sAnd true
                                                (sIf true
                                                  (sAnd true
                                                    (sIf q1 true
                                                      (sAnd true
                                                        (sIf true
                                                          (sAnd true
                                                            (sIf q2 true
                                                              (sAnd true
                                                                (sAnd true
                                                                  (sAnd true
                                                                    (sAnd (sAnd true (okImm a.n))
                                                                      (sAnd
                                                                        (sAnd true (sLe (↑(1 + (decA a.n).size)) q3))
                                                                        (sAnd
                                                                          (sAnd true
                                                                            (sLe (↑((tnV 1).size + q4.size)) q3))
                                                                          true))))))))
                                                          true))))
                                                  true))
                                              true))
                                          true))
                                      (sIf q5.isN true true))
                                    true))
                                true))
                            (sIf q6.isN true true))
                          true))
                      (sIf (Tg.block 0 (q6.thenN (Tg.x 0))).isN true true))
                    true))
                true))
            true))
        true),
    AV.str
      (sIf q1 (tnV 1 ++ { data := { toList := 32 :: 112 :: 111 :: 105 :: 115 :: 111 :: q7 } })
        (sIf q2 (tnV 1 ++ { data := { toList := 32 :: 117 :: 110 :: 107 :: 110 :: 111 :: 119 :: q7 } }) (tnV 1 ++ q4))))) := by kernel_rfl

theorem nat211 (V ok : Val → Bool) (o : Int) (a b c d : Lane) (h : ok ⟨1, o, a, b, c, d⟩ = true) (hv : V ⟨1, o, a, b, c, d⟩ = true) (ho : okImm o = true) (ha : sAnd (sEq a.n 0) (sAnd (sEqB a.p true) (sAnd (sEqB a.u false) true)) = a.p ∧ sAnd (sEq a.n 0) (sAnd (sEqB a.p false) (sAnd (sEqB a.u true) true)) = a.u) (ka : okL a = true) :
    exFn (gX (f1 V ok) { orc := [(8, false)], lits := [35], unroll := 6 }) Tryd.f21 [valA ⟨1, o, a, b, c, d⟩] = some (true, .str (fmtV ⟨1, o, a, b, c, d⟩)) := by
  rw [xf211]
  have b1 : ({ data := { toList := [32] } } : ByteArray) = spB := rfl
  have b2 : ({ data := { toList := [32, 112, 111, 105, 115, 111, 110] } } : ByteArray) = poB := rfl
  have b3 : ({ data := { toList := [32, 117, 110, 107, 110, 111, 119, 110] } } : ByteArray) = unB := rfl
  have z : ∀ m : Nat, m ≤ 1000000 → sLe (m : Int) (2 ^ 63 - 1) = true := fun m hm => decide_eq_true (by omega)
  have so := dec_size ho
  have st : (tnV 1).size ≤ 4 := by decide
  have ssp : spB.size = 1 := rfl
  have h' : ok { t := 1, o := o, a := { n := a.n, p := a.p, u := a.u }, b := { n := b.n, p := b.p, u := b.u }, c := { n := c.n, p := c.p, u := c.u }, d := { n := d.n, p := d.p, u := d.u } } = true := h
  have hv' : V { t := 1, o := o, a := { n := a.n, p := a.p, u := a.u }, b := { n := b.n, p := b.p, u := b.u }, c := { n := c.n, p := c.p, u := c.u }, d := { n := d.n, p := d.p, u := d.u } } = true := hv
  have sa := lane_size ka
  have ma := dec_size (n := a.n) ka
  have ia : okImm a.n = true := ka
  have ga : sIf a.p poB (sIf a.u unB (spB ++ decA a.n)) = laneB a := rfl
  have K0 : ∀ c : Bool, Tg.isN (Tg.mix c Tg.n Tg.n) = true := by intro c; cases c <;> rfl
  have K1 : ∀ c d : Bool, (Tg.block 1 (Tg.block 2 (Tg.mix c Tg.n (Tg.mix d Tg.n Tg.n)))) = Tg.n := by intro c d; cases c <;> cases d <;> rfl
  have K2 : ∀ c d : Bool, (Tg.block 1 (Tg.mix c Tg.n (Tg.mix d Tg.n Tg.n))) = Tg.n := by intro c d; cases c <;> cases d <;> rfl
  simp only [h', hv', ho, b1, b2, b3, ha.1, ha.2, ia, app2, app3, ga, K0, K1, K2, tT1, tI2, sN2, sN3]
  have eH : fmtV ⟨1, o, a, b, c, d⟩ = tnV 1 ++ laneB a := rfl
  rw [eH]
  generalize hH : tnV 1 = H at st ⊢
  have sH : H.size ≤ 30 := by omega
  simp (disch := ((try simp only [ByteArray.size_append]); omega)) only [z]
  simp only [sA1, sA2, sI1, sI4]
theorem xf212 (V : Val → Bool) (ok : Val → Bool) (o : Int) (a : Lane) (b : Lane) (c : Lane) (d : Lane) : exFn (gX (f1 V ok) { orc := [(8, false)], lits := [35], unroll := 6 }) Tryd.f21
  [valA { t := 2, o := o, a := a, b := b, c := c, d := d }] = (
 let q0 : Bool := sEq a.n 0;
  let q1 : Bool := sAnd q0 (sAnd (sEqB a.p true) (sAnd (sEqB a.u false) true));
  let q2 : Bool := sAnd q0 (sAnd (sEqB a.p false) (sAnd (sEqB a.u true) true));
  let q3 : Int := 2 ^ 63 - 1;
  let q4 : ByteArray := { data := { toList := [32] } } ++ decA a.n;
  let q5 : Tg := Tg.block 1 (Tg.block 2 (Tg.mix q1 Tg.n (Tg.mix q2 Tg.n Tg.n)));
  let q6 : Tg := q5.thenN Tg.n;
  let q7 : List UInt8 := [110];
  some
  (sAnd true
      (sIf true
        (sAnd
          (sAnd
            (sAnd true
              (sAnd
                (sAnd true
                  (ok
                    { t := 2, o := o, a := { n := a.n, p := a.p, u := a.u }, b := { n := b.n, p := b.p, u := b.u },
                      c := { n := c.n, p := c.p, u := c.u }, d := { n := d.n, p := d.p, u := d.u } }))
                true))
            (sIf true
              (sAnd
                (sAnd true
                  (sNot
                    (sNot
                      (V
                        { t := 2, o := o, a := { n := a.n, p := a.p, u := a.u }, b := { n := b.n, p := b.p, u := b.u },
                          c := { n := c.n, p := c.p, u := c.u }, d := { n := d.n, p := d.p, u := d.u } }))))
                true)
              true))
          (sIf true
            (sAnd true
              (sIf true
                (sAnd true
                  (sIf true
                    (sAnd
                      (sAnd true
                        (sIf true
                          (sAnd
                            (sAnd true
                              (sIf true
                                (sAnd true
                                  (sIf true
                                    (sAnd
                                      (sAnd true
                                        (sIf true
                                          (sAnd true
                                            (sIf true
                                              (sAnd true
                                                (sIf true
                                                  (sAnd true
                                                    (sIf q1 true
                                                      (sAnd true
                                                        (sIf true
                                                          (sAnd true
                                                            (sIf q2 true
                                                              (sAnd true
                                                                (sAnd true
                                                                  (sAnd true
                                                                    (sAnd (sAnd true (okImm a.n))
                                                                      (sAnd
                                                                        (sAnd true (sLe (↑(1 + (decA a.n).size)) q3))
                                                                        (sAnd
                                                                          (sAnd true
                                                                            (sLe (↑((tnV 2).size + q4.size)) q3))
                                                                          true))))))))
                                                          true))))
                                                  true))
                                              true))
                                          true))
                                      (sIf q5.isN true true))
                                    true))
                                true))
                            (sIf q6.isN true true))
                          true))
                      (sIf (Tg.block 0 (q6.thenN (Tg.x 0))).isN true true))
                    true))
                true))
            true))
        true),
    AV.str
      (sIf q1 (tnV 2 ++ { data := { toList := 32 :: 112 :: 111 :: 105 :: 115 :: 111 :: q7 } })
        (sIf q2 (tnV 2 ++ { data := { toList := 32 :: 117 :: 110 :: 107 :: 110 :: 111 :: 119 :: q7 } }) (tnV 2 ++ q4))))) := by kernel_rfl

theorem nat212 (V ok : Val → Bool) (o : Int) (a b c d : Lane) (h : ok ⟨2, o, a, b, c, d⟩ = true) (hv : V ⟨2, o, a, b, c, d⟩ = true) (ho : okImm o = true) (ha : sAnd (sEq a.n 0) (sAnd (sEqB a.p true) (sAnd (sEqB a.u false) true)) = a.p ∧ sAnd (sEq a.n 0) (sAnd (sEqB a.p false) (sAnd (sEqB a.u true) true)) = a.u) (ka : okL a = true) :
    exFn (gX (f1 V ok) { orc := [(8, false)], lits := [35], unroll := 6 }) Tryd.f21 [valA ⟨2, o, a, b, c, d⟩] = some (true, .str (fmtV ⟨2, o, a, b, c, d⟩)) := by
  rw [xf212]
  have b1 : ({ data := { toList := [32] } } : ByteArray) = spB := rfl
  have b2 : ({ data := { toList := [32, 112, 111, 105, 115, 111, 110] } } : ByteArray) = poB := rfl
  have b3 : ({ data := { toList := [32, 117, 110, 107, 110, 111, 119, 110] } } : ByteArray) = unB := rfl
  have z : ∀ m : Nat, m ≤ 1000000 → sLe (m : Int) (2 ^ 63 - 1) = true := fun m hm => decide_eq_true (by omega)
  have so := dec_size ho
  have st : (tnV 2).size ≤ 4 := by decide
  have ssp : spB.size = 1 := rfl
  have h' : ok { t := 2, o := o, a := { n := a.n, p := a.p, u := a.u }, b := { n := b.n, p := b.p, u := b.u }, c := { n := c.n, p := c.p, u := c.u }, d := { n := d.n, p := d.p, u := d.u } } = true := h
  have hv' : V { t := 2, o := o, a := { n := a.n, p := a.p, u := a.u }, b := { n := b.n, p := b.p, u := b.u }, c := { n := c.n, p := c.p, u := c.u }, d := { n := d.n, p := d.p, u := d.u } } = true := hv
  have sa := lane_size ka
  have ma := dec_size (n := a.n) ka
  have ia : okImm a.n = true := ka
  have ga : sIf a.p poB (sIf a.u unB (spB ++ decA a.n)) = laneB a := rfl
  have K0 : ∀ c : Bool, Tg.isN (Tg.mix c Tg.n Tg.n) = true := by intro c; cases c <;> rfl
  have K1 : ∀ c d : Bool, (Tg.block 1 (Tg.block 2 (Tg.mix c Tg.n (Tg.mix d Tg.n Tg.n)))) = Tg.n := by intro c d; cases c <;> cases d <;> rfl
  have K2 : ∀ c d : Bool, (Tg.block 1 (Tg.mix c Tg.n (Tg.mix d Tg.n Tg.n))) = Tg.n := by intro c d; cases c <;> cases d <;> rfl
  simp only [h', hv', ho, b1, b2, b3, ha.1, ha.2, ia, app2, app3, ga, K0, K1, K2, tT1, tI2, sN2, sN3]
  have eH : fmtV ⟨2, o, a, b, c, d⟩ = tnV 2 ++ laneB a := rfl
  rw [eH]
  generalize hH : tnV 2 = H at st ⊢
  have sH : H.size ≤ 30 := by omega
  simp (disch := ((try simp only [ByteArray.size_append]); omega)) only [z]
  simp only [sA1, sA2, sI1, sI4]
theorem xf213 (V : Val → Bool) (ok : Val → Bool) (o : Int) (a : Lane) (b : Lane) (c : Lane) (d : Lane) : exFn (gX (f1 V ok) { orc := [(8, false)], lits := [35], unroll := 6 }) Tryd.f21
  [valA { t := 3, o := o, a := a, b := b, c := c, d := d }] = (
 let q0 : Bool := sEq a.n 0;
  let q1 : Bool := sAnd q0 (sAnd (sEqB a.p true) (sAnd (sEqB a.u false) true));
  let q2 : Bool := sAnd q0 (sAnd (sEqB a.p false) (sAnd (sEqB a.u true) true));
  let q3 : Int := 2 ^ 63 - 1;
  let q4 : ByteArray := { data := { toList := [32] } } ++ decA a.n;
  let q5 : Tg := Tg.block 1 (Tg.block 2 (Tg.mix q1 Tg.n (Tg.mix q2 Tg.n Tg.n)));
  let q6 : Tg := q5.thenN Tg.n;
  let q7 : List UInt8 := [110];
  some
  (sAnd true
      (sIf true
        (sAnd
          (sAnd
            (sAnd true
              (sAnd
                (sAnd true
                  (ok
                    { t := 3, o := o, a := { n := a.n, p := a.p, u := a.u }, b := { n := b.n, p := b.p, u := b.u },
                      c := { n := c.n, p := c.p, u := c.u }, d := { n := d.n, p := d.p, u := d.u } }))
                true))
            (sIf true
              (sAnd
                (sAnd true
                  (sNot
                    (sNot
                      (V
                        { t := 3, o := o, a := { n := a.n, p := a.p, u := a.u }, b := { n := b.n, p := b.p, u := b.u },
                          c := { n := c.n, p := c.p, u := c.u }, d := { n := d.n, p := d.p, u := d.u } }))))
                true)
              true))
          (sIf true
            (sAnd true
              (sIf true
                (sAnd true
                  (sIf true
                    (sAnd
                      (sAnd true
                        (sIf true
                          (sAnd
                            (sAnd true
                              (sIf true
                                (sAnd true
                                  (sIf true
                                    (sAnd
                                      (sAnd true
                                        (sIf true
                                          (sAnd true
                                            (sIf true
                                              (sAnd true
                                                (sIf true
                                                  (sAnd true
                                                    (sIf q1 true
                                                      (sAnd true
                                                        (sIf true
                                                          (sAnd true
                                                            (sIf q2 true
                                                              (sAnd true
                                                                (sAnd true
                                                                  (sAnd true
                                                                    (sAnd (sAnd true (okImm a.n))
                                                                      (sAnd
                                                                        (sAnd true (sLe (↑(1 + (decA a.n).size)) q3))
                                                                        (sAnd
                                                                          (sAnd true
                                                                            (sLe (↑((tnV 3).size + q4.size)) q3))
                                                                          true))))))))
                                                          true))))
                                                  true))
                                              true))
                                          true))
                                      (sIf q5.isN true true))
                                    true))
                                true))
                            (sIf q6.isN true true))
                          true))
                      (sIf (Tg.block 0 (q6.thenN (Tg.x 0))).isN true true))
                    true))
                true))
            true))
        true),
    AV.str
      (sIf q1 (tnV 3 ++ { data := { toList := 32 :: 112 :: 111 :: 105 :: 115 :: 111 :: q7 } })
        (sIf q2 (tnV 3 ++ { data := { toList := 32 :: 117 :: 110 :: 107 :: 110 :: 111 :: 119 :: q7 } }) (tnV 3 ++ q4))))) := by kernel_rfl

theorem nat213 (V ok : Val → Bool) (o : Int) (a b c d : Lane) (h : ok ⟨3, o, a, b, c, d⟩ = true) (hv : V ⟨3, o, a, b, c, d⟩ = true) (ho : okImm o = true) (ha : sAnd (sEq a.n 0) (sAnd (sEqB a.p true) (sAnd (sEqB a.u false) true)) = a.p ∧ sAnd (sEq a.n 0) (sAnd (sEqB a.p false) (sAnd (sEqB a.u true) true)) = a.u) (ka : okL a = true) :
    exFn (gX (f1 V ok) { orc := [(8, false)], lits := [35], unroll := 6 }) Tryd.f21 [valA ⟨3, o, a, b, c, d⟩] = some (true, .str (fmtV ⟨3, o, a, b, c, d⟩)) := by
  rw [xf213]
  have b1 : ({ data := { toList := [32] } } : ByteArray) = spB := rfl
  have b2 : ({ data := { toList := [32, 112, 111, 105, 115, 111, 110] } } : ByteArray) = poB := rfl
  have b3 : ({ data := { toList := [32, 117, 110, 107, 110, 111, 119, 110] } } : ByteArray) = unB := rfl
  have z : ∀ m : Nat, m ≤ 1000000 → sLe (m : Int) (2 ^ 63 - 1) = true := fun m hm => decide_eq_true (by omega)
  have so := dec_size ho
  have st : (tnV 3).size ≤ 4 := by decide
  have ssp : spB.size = 1 := rfl
  have h' : ok { t := 3, o := o, a := { n := a.n, p := a.p, u := a.u }, b := { n := b.n, p := b.p, u := b.u }, c := { n := c.n, p := c.p, u := c.u }, d := { n := d.n, p := d.p, u := d.u } } = true := h
  have hv' : V { t := 3, o := o, a := { n := a.n, p := a.p, u := a.u }, b := { n := b.n, p := b.p, u := b.u }, c := { n := c.n, p := c.p, u := c.u }, d := { n := d.n, p := d.p, u := d.u } } = true := hv
  have sa := lane_size ka
  have ma := dec_size (n := a.n) ka
  have ia : okImm a.n = true := ka
  have ga : sIf a.p poB (sIf a.u unB (spB ++ decA a.n)) = laneB a := rfl
  have K0 : ∀ c : Bool, Tg.isN (Tg.mix c Tg.n Tg.n) = true := by intro c; cases c <;> rfl
  have K1 : ∀ c d : Bool, (Tg.block 1 (Tg.block 2 (Tg.mix c Tg.n (Tg.mix d Tg.n Tg.n)))) = Tg.n := by intro c d; cases c <;> cases d <;> rfl
  have K2 : ∀ c d : Bool, (Tg.block 1 (Tg.mix c Tg.n (Tg.mix d Tg.n Tg.n))) = Tg.n := by intro c d; cases c <;> cases d <;> rfl
  simp only [h', hv', ho, b1, b2, b3, ha.1, ha.2, ia, app2, app3, ga, K0, K1, K2, tT1, tI2, sN2, sN3]
  have eH : fmtV ⟨3, o, a, b, c, d⟩ = tnV 3 ++ laneB a := rfl
  rw [eH]
  generalize hH : tnV 3 = H at st ⊢
  have sH : H.size ≤ 30 := by omega
  simp (disch := ((try simp only [ByteArray.size_append]); omega)) only [z]
  simp only [sA1, sA2, sI1, sI4]
theorem xf214 (V : Val → Bool) (ok : Val → Bool) (o : Int) (a : Lane) (b : Lane) (c : Lane) (d : Lane) : exFn (gX (f1 V ok) { orc := [(8, false)], lits := [35], unroll := 6 }) Tryd.f21
  [valA { t := 4, o := o, a := a, b := b, c := c, d := d }] = (
 let q0 : Bool := sEq a.n 0;
  let q1 : Bool := sAnd q0 (sAnd (sEqB a.p true) (sAnd (sEqB a.u false) true));
  let q2 : Bool := sAnd q0 (sAnd (sEqB a.p false) (sAnd (sEqB a.u true) true));
  let q3 : Int := 2 ^ 63 - 1;
  let q4 : ByteArray := { data := { toList := [32] } } ++ decA a.n;
  let q5 : Tg := Tg.block 1 (Tg.block 2 (Tg.mix q1 Tg.n (Tg.mix q2 Tg.n Tg.n)));
  let q6 : Tg := q5.thenN Tg.n;
  let q7 : List UInt8 := [110];
  some
  (sAnd true
      (sIf true
        (sAnd
          (sAnd
            (sAnd true
              (sAnd
                (sAnd true
                  (ok
                    { t := 4, o := o, a := { n := a.n, p := a.p, u := a.u }, b := { n := b.n, p := b.p, u := b.u },
                      c := { n := c.n, p := c.p, u := c.u }, d := { n := d.n, p := d.p, u := d.u } }))
                true))
            (sIf true
              (sAnd
                (sAnd true
                  (sNot
                    (sNot
                      (V
                        { t := 4, o := o, a := { n := a.n, p := a.p, u := a.u }, b := { n := b.n, p := b.p, u := b.u },
                          c := { n := c.n, p := c.p, u := c.u }, d := { n := d.n, p := d.p, u := d.u } }))))
                true)
              true))
          (sIf true
            (sAnd true
              (sIf true
                (sAnd true
                  (sIf true
                    (sAnd
                      (sAnd true
                        (sIf true
                          (sAnd
                            (sAnd true
                              (sIf true
                                (sAnd true
                                  (sIf true
                                    (sAnd
                                      (sAnd true
                                        (sIf true
                                          (sAnd true
                                            (sIf true
                                              (sAnd true
                                                (sIf true
                                                  (sAnd true
                                                    (sIf q1 true
                                                      (sAnd true
                                                        (sIf true
                                                          (sAnd true
                                                            (sIf q2 true
                                                              (sAnd true
                                                                (sAnd true
                                                                  (sAnd true
                                                                    (sAnd (sAnd true (okImm a.n))
                                                                      (sAnd
                                                                        (sAnd true (sLe (↑(1 + (decA a.n).size)) q3))
                                                                        (sAnd
                                                                          (sAnd true
                                                                            (sLe (↑((tnV 4).size + q4.size)) q3))
                                                                          true))))))))
                                                          true))))
                                                  true))
                                              true))
                                          true))
                                      (sIf q5.isN true true))
                                    true))
                                true))
                            (sIf q6.isN true true))
                          true))
                      (sIf (Tg.block 0 (q6.thenN (Tg.x 0))).isN true true))
                    true))
                true))
            true))
        true),
    AV.str
      (sIf q1 (tnV 4 ++ { data := { toList := 32 :: 112 :: 111 :: 105 :: 115 :: 111 :: q7 } })
        (sIf q2 (tnV 4 ++ { data := { toList := 32 :: 117 :: 110 :: 107 :: 110 :: 111 :: 119 :: q7 } }) (tnV 4 ++ q4))))) := by kernel_rfl

theorem nat214 (V ok : Val → Bool) (o : Int) (a b c d : Lane) (h : ok ⟨4, o, a, b, c, d⟩ = true) (hv : V ⟨4, o, a, b, c, d⟩ = true) (ho : okImm o = true) (ha : sAnd (sEq a.n 0) (sAnd (sEqB a.p true) (sAnd (sEqB a.u false) true)) = a.p ∧ sAnd (sEq a.n 0) (sAnd (sEqB a.p false) (sAnd (sEqB a.u true) true)) = a.u) (ka : okL a = true) :
    exFn (gX (f1 V ok) { orc := [(8, false)], lits := [35], unroll := 6 }) Tryd.f21 [valA ⟨4, o, a, b, c, d⟩] = some (true, .str (fmtV ⟨4, o, a, b, c, d⟩)) := by
  rw [xf214]
  have b1 : ({ data := { toList := [32] } } : ByteArray) = spB := rfl
  have b2 : ({ data := { toList := [32, 112, 111, 105, 115, 111, 110] } } : ByteArray) = poB := rfl
  have b3 : ({ data := { toList := [32, 117, 110, 107, 110, 111, 119, 110] } } : ByteArray) = unB := rfl
  have z : ∀ m : Nat, m ≤ 1000000 → sLe (m : Int) (2 ^ 63 - 1) = true := fun m hm => decide_eq_true (by omega)
  have so := dec_size ho
  have st : (tnV 4).size ≤ 4 := by decide
  have ssp : spB.size = 1 := rfl
  have h' : ok { t := 4, o := o, a := { n := a.n, p := a.p, u := a.u }, b := { n := b.n, p := b.p, u := b.u }, c := { n := c.n, p := c.p, u := c.u }, d := { n := d.n, p := d.p, u := d.u } } = true := h
  have hv' : V { t := 4, o := o, a := { n := a.n, p := a.p, u := a.u }, b := { n := b.n, p := b.p, u := b.u }, c := { n := c.n, p := c.p, u := c.u }, d := { n := d.n, p := d.p, u := d.u } } = true := hv
  have sa := lane_size ka
  have ma := dec_size (n := a.n) ka
  have ia : okImm a.n = true := ka
  have ga : sIf a.p poB (sIf a.u unB (spB ++ decA a.n)) = laneB a := rfl
  have K0 : ∀ c : Bool, Tg.isN (Tg.mix c Tg.n Tg.n) = true := by intro c; cases c <;> rfl
  have K1 : ∀ c d : Bool, (Tg.block 1 (Tg.block 2 (Tg.mix c Tg.n (Tg.mix d Tg.n Tg.n)))) = Tg.n := by intro c d; cases c <;> cases d <;> rfl
  have K2 : ∀ c d : Bool, (Tg.block 1 (Tg.mix c Tg.n (Tg.mix d Tg.n Tg.n))) = Tg.n := by intro c d; cases c <;> cases d <;> rfl
  simp only [h', hv', ho, b1, b2, b3, ha.1, ha.2, ia, app2, app3, ga, K0, K1, K2, tT1, tI2, sN2, sN3]
  have eH : fmtV ⟨4, o, a, b, c, d⟩ = tnV 4 ++ laneB a := rfl
  rw [eH]
  generalize hH : tnV 4 = H at st ⊢
  have sH : H.size ≤ 30 := by omega
  simp (disch := ((try simp only [ByteArray.size_append]); omega)) only [z]
  simp only [sA1, sA2, sI1, sI4]
theorem xf215 (V : Val → Bool) (ok : Val → Bool) (o : Int) (a : Lane) (b : Lane) (c : Lane) (d : Lane) : exFn (gX (f1 V ok) { orc := [(8, false)], lits := [35], unroll := 6 }) Tryd.f21
  [valA { t := 5, o := o, a := a, b := b, c := c, d := d }] = (
 let q0 : Int := 2 ^ 63 - 1;
  let q1 : ByteArray := { data := { toList := [32] } };
  let q2 : ByteArray := q1 ++ decA o;
  let q3 : Bool := sEq a.n 0;
  let q4 : Bool := sAnd q3 (sAnd (sEqB a.p true) (sAnd (sEqB a.u false) true));
  let q5 : ByteArray := sIf (sNot a.p) (tnV 5 ++ q2) (tnV 5);
  let q6 : Nat := q5.size;
  let q7 : Bool := sAnd q3 (sAnd (sEqB a.p false) (sAnd (sEqB a.u true) true));
  let q8 : ByteArray := q1 ++ decA a.n;
  let q9 : Tg := Tg.block 1 (Tg.block 2 (Tg.mix q4 Tg.n (Tg.mix q7 Tg.n Tg.n)));
  let q10 : Tg := q9.thenN Tg.n;
  let q11 : List UInt8 := [110];
  some
  (sAnd true
      (sIf true
        (sAnd
          (sAnd
            (sAnd true
              (sAnd
                (sAnd true
                  (ok
                    { t := 5, o := o, a := { n := a.n, p := a.p, u := a.u }, b := { n := b.n, p := b.p, u := b.u },
                      c := { n := c.n, p := c.p, u := c.u }, d := { n := d.n, p := d.p, u := d.u } }))
                true))
            (sIf true
              (sAnd
                (sAnd true
                  (sNot
                    (sNot
                      (V
                        { t := 5, o := o, a := { n := a.n, p := a.p, u := a.u }, b := { n := b.n, p := b.p, u := b.u },
                          c := { n := c.n, p := c.p, u := c.u }, d := { n := d.n, p := d.p, u := d.u } }))))
                true)
              true))
          (sIf true
            (sAnd true
              (sIf true
                (sAnd
                  (sAnd true
                    (sIf true
                      (sAnd true
                        (sIf (sNot a.p)
                          (sAnd true
                            (sAnd true
                              (sAnd true
                                (sAnd (sAnd true (okImm o))
                                  (sAnd (sAnd true (sLe (↑(1 + (decA o).size)) q0))
                                    (sAnd (sAnd true (sLe (↑((tnV 5).size + q2.size)) q0)) true))))))
                          true))
                      true))
                  (sIf (Tg.mix (sNot a.p) Tg.n Tg.n).isN
                    (sAnd
                      (sAnd true
                        (sIf true
                          (sAnd
                            (sAnd true
                              (sIf true
                                (sAnd true
                                  (sIf true
                                    (sAnd
                                      (sAnd true
                                        (sIf true
                                          (sAnd true
                                            (sIf true
                                              (sAnd true
                                                (sIf true
                                                  (sAnd true
                                                    (sIf q4 (sAnd true (sAnd (sAnd true (sLe (↑(q6 + 7)) q0)) true))
                                                      (sAnd true
                                                        (sIf true
                                                          (sAnd true
                                                            (sIf q7
                                                              (sAnd true (sAnd (sAnd true (sLe (↑(q6 + 8)) q0)) true))
                                                              (sAnd true
                                                                (sAnd true
                                                                  (sAnd true
                                                                    (sAnd (sAnd true (okImm a.n))
                                                                      (sAnd
                                                                        (sAnd true (sLe (↑(1 + (decA a.n).size)) q0))
                                                                        (sAnd (sAnd true (sLe (↑(q6 + q8.size)) q0))
                                                                          true))))))))
                                                          true))))
                                                  true))
                                              true))
                                          true))
                                      (sIf q9.isN true true))
                                    true))
                                true))
                            (sIf q10.isN true true))
                          true))
                      (sIf (Tg.block 0 (q10.thenN (Tg.x 0))).isN true true))
                    true))
                true))
            true))
        true),
    AV.str
      (sIf q4 (q5 ++ { data := { toList := 32 :: 112 :: 111 :: 105 :: 115 :: 111 :: q11 } })
        (sIf q7 (q5 ++ { data := { toList := 32 :: 117 :: 110 :: 107 :: 110 :: 111 :: 119 :: q11 } }) (q5 ++ q8))))) := by kernel_rfl

theorem nat215 (V ok : Val → Bool) (o : Int) (a b c d : Lane) (h : ok ⟨5, o, a, b, c, d⟩ = true) (hv : V ⟨5, o, a, b, c, d⟩ = true) (ho : okImm o = true) (ha : sAnd (sEq a.n 0) (sAnd (sEqB a.p true) (sAnd (sEqB a.u false) true)) = a.p ∧ sAnd (sEq a.n 0) (sAnd (sEqB a.p false) (sAnd (sEqB a.u true) true)) = a.u) (ka : okL a = true) :
    exFn (gX (f1 V ok) { orc := [(8, false)], lits := [35], unroll := 6 }) Tryd.f21 [valA ⟨5, o, a, b, c, d⟩] = some (true, .str (fmtV ⟨5, o, a, b, c, d⟩)) := by
  rw [xf215]
  have b1 : ({ data := { toList := [32] } } : ByteArray) = spB := rfl
  have b2 : ({ data := { toList := [32, 112, 111, 105, 115, 111, 110] } } : ByteArray) = poB := rfl
  have b3 : ({ data := { toList := [32, 117, 110, 107, 110, 111, 119, 110] } } : ByteArray) = unB := rfl
  have z : ∀ m : Nat, m ≤ 1000000 → sLe (m : Int) (2 ^ 63 - 1) = true := fun m hm => decide_eq_true (by omega)
  have so := dec_size ho
  have st : (tnV 5).size ≤ 4 := by decide
  have ssp : spB.size = 1 := rfl
  have h' : ok { t := 5, o := o, a := { n := a.n, p := a.p, u := a.u }, b := { n := b.n, p := b.p, u := b.u }, c := { n := c.n, p := c.p, u := c.u }, d := { n := d.n, p := d.p, u := d.u } } = true := h
  have hv' : V { t := 5, o := o, a := { n := a.n, p := a.p, u := a.u }, b := { n := b.n, p := b.p, u := b.u }, c := { n := c.n, p := c.p, u := c.u }, d := { n := d.n, p := d.p, u := d.u } } = true := hv
  have sa := lane_size ka
  have ma := dec_size (n := a.n) ka
  have ia : okImm a.n = true := ka
  have ga : sIf a.p poB (sIf a.u unB (spB ++ decA a.n)) = laneB a := rfl
  have K0 : ∀ c : Bool, Tg.isN (Tg.mix c Tg.n Tg.n) = true := by intro c; cases c <;> rfl
  have K1 : ∀ c d : Bool, (Tg.block 1 (Tg.block 2 (Tg.mix c Tg.n (Tg.mix d Tg.n Tg.n)))) = Tg.n := by intro c d; cases c <;> cases d <;> rfl
  have K2 : ∀ c d : Bool, (Tg.block 1 (Tg.mix c Tg.n (Tg.mix d Tg.n Tg.n))) = Tg.n := by intro c d; cases c <;> cases d <;> rfl
  simp only [h', hv', ho, b1, b2, b3, ha.1, ha.2, ia, app2, app3, ga, K0, K1, K2, tT1, tI2, sN2, sN3]
  skip
  have sH : (sIf (sNot a.p) (tnV 5 ++ (spB ++ decA o)) (tnV 5)).size ≤ 30 := by
    cases a.p
    · show (tnV 5 ++ (spB ++ decA o)).size ≤ 30
      rw [ByteArray.size_append, ByteArray.size_append]; omega
    · show (tnV 5).size ≤ 30
      omega
  have eH : fmtV ⟨5, o, a, b, c, d⟩ = sIf (sNot a.p) (tnV 5 ++ (spB ++ decA o)) (tnV 5) ++ laneB a := rfl
  rw [eH]
  generalize hH : sIf (sNot a.p) (tnV 5 ++ (spB ++ decA o)) (tnV 5) = H at sH ⊢
  simp (disch := ((try simp only [ByteArray.size_append]); omega)) only [z]
  simp only [sA1, sA2, sI1, sI4]
theorem xf216 (V : Val → Bool) (ok : Val → Bool) (o : Int) (a : Lane) (b : Lane) (c : Lane) (d : Lane) : exFn (gX (f1 V ok) { orc := [(8, false)], lits := [35], unroll := 6 }) Tryd.f21
  [valA { t := 6, o := o, a := a, b := b, c := c, d := d }] = (
 let q0 : Bool := sEq a.n 0;
  let q1 : Bool := sAnd q0 (sAnd (sEqB a.p true) (sAnd (sEqB a.u false) true));
  let q2 : Bool := sAnd q0 (sAnd (sEqB a.p false) (sAnd (sEqB a.u true) true));
  let q3 : Int := 2 ^ 63 - 1;
  let q4 : ByteArray := { data := { toList := [32] } };
  let q5 : ByteArray := q4 ++ decA a.n;
  let q6 : Tg := Tg.block 1 (Tg.block 2 (Tg.mix q1 Tg.n (Tg.mix q2 Tg.n Tg.n)));
  let q7 : Tg := q6.thenN Tg.n;
  let q8 : Bool := sEq b.n 0;
  let q9 : Bool := sAnd q8 (sAnd (sEqB b.p true) (sAnd (sEqB b.u false) true));
  let q10 : List UInt8 := [110];
  let q11 : ByteArray := { data := { toList := 32 :: 112 :: 111 :: 105 :: 115 :: 111 :: q10 } };
  let q12 : ByteArray := { data := { toList := 32 :: 117 :: 110 :: 107 :: 110 :: 111 :: 119 :: q10 } };
  let q13 : ByteArray := sIf q1 (tnV 6 ++ q11) (sIf q2 (tnV 6 ++ q12) (tnV 6 ++ q5));
  let q14 : Nat := q13.size;
  let q15 : Bool := sAnd q8 (sAnd (sEqB b.p false) (sAnd (sEqB b.u true) true));
  let q16 : ByteArray := q4 ++ decA b.n;
  let q17 : Tg := Tg.block 1 (Tg.block 2 (Tg.mix q9 Tg.n (Tg.mix q15 Tg.n Tg.n)));
  let q18 : Tg := q17.thenN Tg.n;
  some
  (sAnd true
      (sIf true
        (sAnd
          (sAnd
            (sAnd true
              (sAnd
                (sAnd true
                  (ok
                    { t := 6, o := o, a := { n := a.n, p := a.p, u := a.u }, b := { n := b.n, p := b.p, u := b.u },
                      c := { n := c.n, p := c.p, u := c.u }, d := { n := d.n, p := d.p, u := d.u } }))
                true))
            (sIf true
              (sAnd
                (sAnd true
                  (sNot
                    (sNot
                      (V
                        { t := 6, o := o, a := { n := a.n, p := a.p, u := a.u }, b := { n := b.n, p := b.p, u := b.u },
                          c := { n := c.n, p := c.p, u := c.u }, d := { n := d.n, p := d.p, u := d.u } }))))
                true)
              true))
          (sIf true
            (sAnd true
              (sIf true
                (sAnd true
                  (sIf true
                    (sAnd
                      (sAnd true
                        (sIf true
                          (sAnd
                            (sAnd true
                              (sIf true
                                (sAnd true
                                  (sIf true
                                    (sAnd
                                      (sAnd true
                                        (sIf true
                                          (sAnd true
                                            (sIf true
                                              (sAnd true
                                                (sIf true
                                                  (sAnd true
                                                    (sIf q1 true
                                                      (sAnd true
                                                        (sIf true
                                                          (sAnd true
                                                            (sIf q2 true
                                                              (sAnd true
                                                                (sAnd true
                                                                  (sAnd true
                                                                    (sAnd (sAnd true (okImm a.n))
                                                                      (sAnd
                                                                        (sAnd true (sLe (↑(1 + (decA a.n).size)) q3))
                                                                        (sAnd
                                                                          (sAnd true
                                                                            (sLe (↑((tnV 6).size + q5.size)) q3))
                                                                          true))))))))
                                                          true))))
                                                  true))
                                              true))
                                          true))
                                      (sIf q6.isN true true))
                                    true))
                                true))
                            (sIf q7.isN
                              (sAnd
                                (sAnd true
                                  (sIf true
                                    (sAnd true
                                      (sIf true
                                        (sAnd
                                          (sAnd true
                                            (sIf true
                                              (sAnd true
                                                (sIf true
                                                  (sAnd true
                                                    (sIf true
                                                      (sAnd true
                                                        (sIf q9
                                                          (sAnd true (sAnd (sAnd true (sLe (↑(q14 + 7)) q3)) true))
                                                          (sAnd true
                                                            (sIf true
                                                              (sAnd true
                                                                (sIf q15
                                                                  (sAnd true
                                                                    (sAnd (sAnd true (sLe (↑(q14 + 8)) q3)) true))
                                                                  (sAnd true
                                                                    (sAnd true
                                                                      (sAnd true
                                                                        (sAnd (sAnd true (okImm b.n))
                                                                          (sAnd
                                                                            (sAnd true
                                                                              (sLe (↑(1 + (decA b.n).size)) q3))
                                                                            (sAnd
                                                                              (sAnd true (sLe (↑(q14 + q16.size)) q3))
                                                                              true))))))))
                                                              true))))
                                                      true))
                                                  true))
                                              true))
                                          (sIf q17.isN true true))
                                        true))
                                    true))
                                (sIf q18.isN true true))
                              true))
                          true))
                      (sIf (Tg.block 0 (q7.thenN (q18.thenN (Tg.x 0)))).isN true true))
                    true))
                true))
            true))
        true),
    AV.str (sIf q9 (q13 ++ q11) (sIf q15 (q13 ++ q12) (q13 ++ q16))))) := by kernel_rfl

theorem nat216 (V ok : Val → Bool) (o : Int) (a b c d : Lane) (h : ok ⟨6, o, a, b, c, d⟩ = true) (hv : V ⟨6, o, a, b, c, d⟩ = true) (ho : okImm o = true) (ha : sAnd (sEq a.n 0) (sAnd (sEqB a.p true) (sAnd (sEqB a.u false) true)) = a.p ∧ sAnd (sEq a.n 0) (sAnd (sEqB a.p false) (sAnd (sEqB a.u true) true)) = a.u) (ka : okL a = true) (hb : sAnd (sEq b.n 0) (sAnd (sEqB b.p true) (sAnd (sEqB b.u false) true)) = b.p ∧ sAnd (sEq b.n 0) (sAnd (sEqB b.p false) (sAnd (sEqB b.u true) true)) = b.u) (kb : okL b = true) :
    exFn (gX (f1 V ok) { orc := [(8, false)], lits := [35], unroll := 6 }) Tryd.f21 [valA ⟨6, o, a, b, c, d⟩] = some (true, .str (fmtV ⟨6, o, a, b, c, d⟩)) := by
  rw [xf216]
  have b1 : ({ data := { toList := [32] } } : ByteArray) = spB := rfl
  have b2 : ({ data := { toList := [32, 112, 111, 105, 115, 111, 110] } } : ByteArray) = poB := rfl
  have b3 : ({ data := { toList := [32, 117, 110, 107, 110, 111, 119, 110] } } : ByteArray) = unB := rfl
  have z : ∀ m : Nat, m ≤ 1000000 → sLe (m : Int) (2 ^ 63 - 1) = true := fun m hm => decide_eq_true (by omega)
  have so := dec_size ho
  have st : (tnV 6).size ≤ 4 := by decide
  have ssp : spB.size = 1 := rfl
  have h' : ok { t := 6, o := o, a := { n := a.n, p := a.p, u := a.u }, b := { n := b.n, p := b.p, u := b.u }, c := { n := c.n, p := c.p, u := c.u }, d := { n := d.n, p := d.p, u := d.u } } = true := h
  have hv' : V { t := 6, o := o, a := { n := a.n, p := a.p, u := a.u }, b := { n := b.n, p := b.p, u := b.u }, c := { n := c.n, p := c.p, u := c.u }, d := { n := d.n, p := d.p, u := d.u } } = true := hv
  have sa := lane_size ka
  have ma := dec_size (n := a.n) ka
  have ia : okImm a.n = true := ka
  have sb := lane_size kb
  have mb := dec_size (n := b.n) kb
  have ib : okImm b.n = true := kb
  have ga : sIf a.p poB (sIf a.u unB (spB ++ decA a.n)) = laneB a := rfl
  have gb : sIf b.p poB (sIf b.u unB (spB ++ decA b.n)) = laneB b := rfl
  have K0 : ∀ c : Bool, Tg.isN (Tg.mix c Tg.n Tg.n) = true := by intro c; cases c <;> rfl
  have K1 : ∀ c d : Bool, (Tg.block 1 (Tg.block 2 (Tg.mix c Tg.n (Tg.mix d Tg.n Tg.n)))) = Tg.n := by intro c d; cases c <;> cases d <;> rfl
  have K2 : ∀ c d : Bool, (Tg.block 1 (Tg.mix c Tg.n (Tg.mix d Tg.n Tg.n))) = Tg.n := by intro c d; cases c <;> cases d <;> rfl
  simp only [h', hv', ho, b1, b2, b3, ha.1, ha.2, ia, hb.1, hb.2, ib, app2, app3, ga, gb, K0, K1, K2, tT1, tI2, sN2, sN3]
  have eH : fmtV ⟨6, o, a, b, c, d⟩ = tnV 6 ++ laneB a ++ laneB b := rfl
  rw [eH]
  generalize hH : tnV 6 = H at st ⊢
  have sH : H.size ≤ 30 := by omega
  simp (disch := ((try simp only [ByteArray.size_append]); omega)) only [z]
  simp only [sA1, sA2, sI1, sI4]
theorem xf217 (V : Val → Bool) (ok : Val → Bool) (o : Int) (a : Lane) (b : Lane) (c : Lane) (d : Lane) : exFn (gX (f1 V ok) { orc := [(8, false)], lits := [35], unroll := 6 }) Tryd.f21
  [valA { t := 7, o := o, a := a, b := b, c := c, d := d }] = (
 let q0 : Bool := sEq a.n 0;
  let q1 : Bool := sAnd q0 (sAnd (sEqB a.p true) (sAnd (sEqB a.u false) true));
  let q2 : Bool := sAnd q0 (sAnd (sEqB a.p false) (sAnd (sEqB a.u true) true));
  let q3 : Int := 2 ^ 63 - 1;
  let q4 : ByteArray := { data := { toList := [32] } };
  let q5 : ByteArray := q4 ++ decA a.n;
  let q6 : Tg := Tg.block 1 (Tg.block 2 (Tg.mix q1 Tg.n (Tg.mix q2 Tg.n Tg.n)));
  let q7 : Tg := q6.thenN Tg.n;
  let q8 : Bool := sEq b.n 0;
  let q9 : Bool := sAnd q8 (sAnd (sEqB b.p true) (sAnd (sEqB b.u false) true));
  let q10 : List UInt8 := [110];
  let q11 : ByteArray := { data := { toList := 32 :: 112 :: 111 :: 105 :: 115 :: 111 :: q10 } };
  let q12 : ByteArray := { data := { toList := 32 :: 117 :: 110 :: 107 :: 110 :: 111 :: 119 :: q10 } };
  let q13 : ByteArray := sIf q1 (tnV 7 ++ q11) (sIf q2 (tnV 7 ++ q12) (tnV 7 ++ q5));
  let q14 : Nat := q13.size;
  let q15 : Bool := sAnd q8 (sAnd (sEqB b.p false) (sAnd (sEqB b.u true) true));
  let q16 : ByteArray := q4 ++ decA b.n;
  let q17 : Tg := Tg.block 1 (Tg.block 2 (Tg.mix q9 Tg.n (Tg.mix q15 Tg.n Tg.n)));
  let q18 : Tg := q17.thenN Tg.n;
  let q19 : Bool := sEq c.n 0;
  let q20 : Bool := sAnd q19 (sAnd (sEqB c.p true) (sAnd (sEqB c.u false) true));
  let q21 : ByteArray := sIf q9 (q13 ++ q11) (sIf q15 (q13 ++ q12) (q13 ++ q16));
  let q22 : Nat := q21.size;
  let q23 : Bool := sAnd q19 (sAnd (sEqB c.p false) (sAnd (sEqB c.u true) true));
  let q24 : ByteArray := q4 ++ decA c.n;
  let q25 : Tg := Tg.block 1 (Tg.block 2 (Tg.mix q20 Tg.n (Tg.mix q23 Tg.n Tg.n)));
  let q26 : Tg := q25.thenN Tg.n;
  let q27 : Bool := sEq d.n 0;
  let q28 : Bool := sAnd q27 (sAnd (sEqB d.p true) (sAnd (sEqB d.u false) true));
  let q29 : ByteArray := sIf q20 (q21 ++ q11) (sIf q23 (q21 ++ q12) (q21 ++ q24));
  let q30 : Nat := q29.size;
  let q31 : Bool := sAnd q27 (sAnd (sEqB d.p false) (sAnd (sEqB d.u true) true));
  let q32 : ByteArray := q4 ++ decA d.n;
  let q33 : Tg := Tg.block 1 (Tg.block 2 (Tg.mix q28 Tg.n (Tg.mix q31 Tg.n Tg.n)));
  let q34 : Tg := q33.thenN Tg.n;
  some
  (sAnd true
      (sIf true
        (sAnd
          (sAnd
            (sAnd true
              (sAnd
                (sAnd true
                  (ok
                    { t := 7, o := o, a := { n := a.n, p := a.p, u := a.u }, b := { n := b.n, p := b.p, u := b.u },
                      c := { n := c.n, p := c.p, u := c.u }, d := { n := d.n, p := d.p, u := d.u } }))
                true))
            (sIf true
              (sAnd
                (sAnd true
                  (sNot
                    (sNot
                      (V
                        { t := 7, o := o, a := { n := a.n, p := a.p, u := a.u }, b := { n := b.n, p := b.p, u := b.u },
                          c := { n := c.n, p := c.p, u := c.u }, d := { n := d.n, p := d.p, u := d.u } }))))
                true)
              true))
          (sIf true
            (sAnd true
              (sIf true
                (sAnd true
                  (sIf true
                    (sAnd
                      (sAnd true
                        (sIf true
                          (sAnd
                            (sAnd true
                              (sIf true
                                (sAnd true
                                  (sIf true
                                    (sAnd
                                      (sAnd true
                                        (sIf true
                                          (sAnd true
                                            (sIf true
                                              (sAnd true
                                                (sIf true
                                                  (sAnd true
                                                    (sIf q1 true
                                                      (sAnd true
                                                        (sIf true
                                                          (sAnd true
                                                            (sIf q2 true
                                                              (sAnd true
                                                                (sAnd true
                                                                  (sAnd true
                                                                    (sAnd (sAnd true (okImm a.n))
                                                                      (sAnd
                                                                        (sAnd true (sLe (↑(1 + (decA a.n).size)) q3))
                                                                        (sAnd
                                                                          (sAnd true
                                                                            (sLe (↑((tnV 7).size + q5.size)) q3))
                                                                          true))))))))
                                                          true))))
                                                  true))
                                              true))
                                          true))
                                      (sIf q6.isN true true))
                                    true))
                                true))
                            (sIf q7.isN
                              (sAnd
                                (sAnd true
                                  (sIf true
                                    (sAnd true
                                      (sIf true
                                        (sAnd
                                          (sAnd true
                                            (sIf true
                                              (sAnd true
                                                (sIf true
                                                  (sAnd true
                                                    (sIf true
                                                      (sAnd true
                                                        (sIf q9
                                                          (sAnd true (sAnd (sAnd true (sLe (↑(q14 + 7)) q3)) true))
                                                          (sAnd true
                                                            (sIf true
                                                              (sAnd true
                                                                (sIf q15
                                                                  (sAnd true
                                                                    (sAnd (sAnd true (sLe (↑(q14 + 8)) q3)) true))
                                                                  (sAnd true
                                                                    (sAnd true
                                                                      (sAnd true
                                                                        (sAnd (sAnd true (okImm b.n))
                                                                          (sAnd
                                                                            (sAnd true
                                                                              (sLe (↑(1 + (decA b.n).size)) q3))
                                                                            (sAnd
                                                                              (sAnd true (sLe (↑(q14 + q16.size)) q3))
                                                                              true))))))))
                                                              true))))
                                                      true))
                                                  true))
                                              true))
                                          (sIf q17.isN true true))
                                        true))
                                    true))
                                (sIf q18.isN
                                  (sAnd
                                    (sAnd true
                                      (sIf true
                                        (sAnd true
                                          (sIf true
                                            (sAnd
                                              (sAnd true
                                                (sIf true
                                                  (sAnd true
                                                    (sIf true
                                                      (sAnd true
                                                        (sIf true
                                                          (sAnd true
                                                            (sIf q20
                                                              (sAnd true (sAnd (sAnd true (sLe (↑(q22 + 7)) q3)) true))
                                                              (sAnd true
                                                                (sIf true
                                                                  (sAnd true
                                                                    (sIf q23
                                                                      (sAnd true
                                                                        (sAnd (sAnd true (sLe (↑(q22 + 8)) q3)) true))
                                                                      (sAnd true
                                                                        (sAnd true
                                                                          (sAnd true
                                                                            (sAnd (sAnd true (okImm c.n))
                                                                              (sAnd
                                                                                (sAnd true
                                                                                  (sLe (↑(1 + (decA c.n).size)) q3))
                                                                                (sAnd
                                                                                  (sAnd true
                                                                                    (sLe (↑(q22 + q24.size)) q3))
                                                                                  true))))))))
                                                                  true))))
                                                          true))
                                                      true))
                                                  true))
                                              (sIf q25.isN true true))
                                            true))
                                        true))
                                    (sIf q26.isN
                                      (sAnd
                                        (sAnd true
                                          (sIf true
                                            (sAnd true
                                              (sIf true
                                                (sAnd
                                                  (sAnd true
                                                    (sIf true
                                                      (sAnd true
                                                        (sIf true
                                                          (sAnd true
                                                            (sIf true
                                                              (sAnd true
                                                                (sIf q28
                                                                  (sAnd true
                                                                    (sAnd (sAnd true (sLe (↑(q30 + 7)) q3)) true))
                                                                  (sAnd true
                                                                    (sIf true
                                                                      (sAnd true
                                                                        (sIf q31
                                                                          (sAnd true
                                                                            (sAnd (sAnd true (sLe (↑(q30 + 8)) q3))
                                                                              true))
                                                                          (sAnd true
                                                                            (sAnd true
                                                                              (sAnd true
                                                                                (sAnd (sAnd true (okImm d.n))
                                                                                  (sAnd
                                                                                    (sAnd true
                                                                                      (sLe (↑(1 + (decA d.n).size)) q3))
                                                                                    (sAnd
                                                                                      (sAnd true
                                                                                        (sLe (↑(q30 + q32.size)) q3))
                                                                                      true))))))))
                                                                      true))))
                                                              true))
                                                          true))
                                                      true))
                                                  (sIf q33.isN true true))
                                                true))
                                            true))
                                        (sIf q34.isN true true))
                                      true))
                                  true))
                              true))
                          true))
                      (sIf (Tg.block 0 (q7.thenN (q18.thenN (q26.thenN (q34.thenN (Tg.x 0)))))).isN true true))
                    true))
                true))
            true))
        true),
    AV.str (sIf q28 (q29 ++ q11) (sIf q31 (q29 ++ q12) (q29 ++ q32))))) := by kernel_rfl

theorem nat217 (V ok : Val → Bool) (o : Int) (a b c d : Lane) (h : ok ⟨7, o, a, b, c, d⟩ = true) (hv : V ⟨7, o, a, b, c, d⟩ = true) (ho : okImm o = true) (ha : sAnd (sEq a.n 0) (sAnd (sEqB a.p true) (sAnd (sEqB a.u false) true)) = a.p ∧ sAnd (sEq a.n 0) (sAnd (sEqB a.p false) (sAnd (sEqB a.u true) true)) = a.u) (ka : okL a = true) (hb : sAnd (sEq b.n 0) (sAnd (sEqB b.p true) (sAnd (sEqB b.u false) true)) = b.p ∧ sAnd (sEq b.n 0) (sAnd (sEqB b.p false) (sAnd (sEqB b.u true) true)) = b.u) (kb : okL b = true) (hc : sAnd (sEq c.n 0) (sAnd (sEqB c.p true) (sAnd (sEqB c.u false) true)) = c.p ∧ sAnd (sEq c.n 0) (sAnd (sEqB c.p false) (sAnd (sEqB c.u true) true)) = c.u) (kc : okL c = true) (hd : sAnd (sEq d.n 0) (sAnd (sEqB d.p true) (sAnd (sEqB d.u false) true)) = d.p ∧ sAnd (sEq d.n 0) (sAnd (sEqB d.p false) (sAnd (sEqB d.u true) true)) = d.u) (kd : okL d = true) :
    exFn (gX (f1 V ok) { orc := [(8, false)], lits := [35], unroll := 6 }) Tryd.f21 [valA ⟨7, o, a, b, c, d⟩] = some (true, .str (fmtV ⟨7, o, a, b, c, d⟩)) := by
  rw [xf217]
  have b1 : ({ data := { toList := [32] } } : ByteArray) = spB := rfl
  have b2 : ({ data := { toList := [32, 112, 111, 105, 115, 111, 110] } } : ByteArray) = poB := rfl
  have b3 : ({ data := { toList := [32, 117, 110, 107, 110, 111, 119, 110] } } : ByteArray) = unB := rfl
  have z : ∀ m : Nat, m ≤ 1000000 → sLe (m : Int) (2 ^ 63 - 1) = true := fun m hm => decide_eq_true (by omega)
  have so := dec_size ho
  have st : (tnV 7).size ≤ 4 := by decide
  have ssp : spB.size = 1 := rfl
  have h' : ok { t := 7, o := o, a := { n := a.n, p := a.p, u := a.u }, b := { n := b.n, p := b.p, u := b.u }, c := { n := c.n, p := c.p, u := c.u }, d := { n := d.n, p := d.p, u := d.u } } = true := h
  have hv' : V { t := 7, o := o, a := { n := a.n, p := a.p, u := a.u }, b := { n := b.n, p := b.p, u := b.u }, c := { n := c.n, p := c.p, u := c.u }, d := { n := d.n, p := d.p, u := d.u } } = true := hv
  have sa := lane_size ka
  have ma := dec_size (n := a.n) ka
  have ia : okImm a.n = true := ka
  have sb := lane_size kb
  have mb := dec_size (n := b.n) kb
  have ib : okImm b.n = true := kb
  have sc := lane_size kc
  have mc := dec_size (n := c.n) kc
  have ic : okImm c.n = true := kc
  have sd := lane_size kd
  have md := dec_size (n := d.n) kd
  have id : okImm d.n = true := kd
  have ga : sIf a.p poB (sIf a.u unB (spB ++ decA a.n)) = laneB a := rfl
  have gb : sIf b.p poB (sIf b.u unB (spB ++ decA b.n)) = laneB b := rfl
  have gc : sIf c.p poB (sIf c.u unB (spB ++ decA c.n)) = laneB c := rfl
  have gd : sIf d.p poB (sIf d.u unB (spB ++ decA d.n)) = laneB d := rfl
  have K0 : ∀ c : Bool, Tg.isN (Tg.mix c Tg.n Tg.n) = true := by intro c; cases c <;> rfl
  have K1 : ∀ c d : Bool, (Tg.block 1 (Tg.block 2 (Tg.mix c Tg.n (Tg.mix d Tg.n Tg.n)))) = Tg.n := by intro c d; cases c <;> cases d <;> rfl
  have K2 : ∀ c d : Bool, (Tg.block 1 (Tg.mix c Tg.n (Tg.mix d Tg.n Tg.n))) = Tg.n := by intro c d; cases c <;> cases d <;> rfl
  simp only [h', hv', ho, b1, b2, b3, ha.1, ha.2, ia, hb.1, hb.2, ib, hc.1, hc.2, ic, hd.1, hd.2, id, app2, app3, ga, gb, gc, gd, K0, K1, K2, tT1, tI2, sN2, sN3]
  have eH : fmtV ⟨7, o, a, b, c, d⟩ = tnV 7 ++ laneB a ++ laneB b ++ laneB c ++ laneB d := rfl
  rw [eH]
  generalize hH : tnV 7 = H at st ⊢
  have sH : H.size ≤ 30 := by omega
  simp (disch := ((try simp only [ByteArray.size_append]); omega)) only [z]
  simp only [sA1, sA2, sI1, sI4]
theorem xf229 (V : Val → Bool) (ok : Val → Bool) (v : Val) : exFn (gX (f1 V ok) { orc := [(8, true)] }) Tryd.f22 [valA v] = (
 some
  (sAnd true
      (sIf true
        (sAnd
          (sAnd true
            (sAnd
              (sAnd true
                (ok
                  { t := v.t, o := v.o, a := { n := v.a.n, p := v.a.p, u := v.a.u },
                    b := { n := v.b.n, p := v.b.p, u := v.b.u }, c := { n := v.c.n, p := v.c.p, u := v.c.u },
                    d := { n := v.d.n, p := v.d.p, u := v.d.u } }))
              true))
          (sIf true
            (sAnd
              (sAnd true
                (sNot
                  (V
                    { t := v.t, o := v.o, a := { n := v.a.n, p := v.a.p, u := v.a.u },
                      b := { n := v.b.n, p := v.b.p, u := v.b.u }, c := { n := v.c.n, p := v.c.p, u := v.c.u },
                      d := { n := v.d.n, p := v.d.p, u := v.d.u } })))
              true)
            true))
        true),
    AV.str { data := { toList := [] } })) := by kernel_rfl

theorem nat229 (V ok : Val → Bool) (v : Val) (h : ok v = true) (hv : V v = false) : exFn (gX (f1 V ok) { orc := [(8, true)] }) Tryd.f22 [valA v] = some (true, .str ByteArray.empty) := by
  rw [xf229]
  obtain ⟨t, o, ⟨an, ap, au⟩, ⟨bn, bp, bu⟩, ⟨cn, cp, cu⟩, ⟨dn, dp, du⟩⟩ := v
  simp only [h, hv]
  rfl
theorem xf221 (V : Val → Bool) (ok : Val → Bool) (o : Int) (a : Lane) (b : Lane) (c : Lane) (d : Lane) : exFn (gX (f1 V ok) { orc := [(8, false)], lits := [32], unroll := 6 }) Tryd.f22
  [valA { t := 1, o := o, a := a, b := b, c := c, d := d }] = (
 let q0 : ByteArray := tnV 1 ++ { data := { toList := [32] } };
  let q1 : Tg := Tg.block 1 (Tg.mix a.p Tg.n (Tg.mix a.u Tg.n Tg.n));
  let q2 : Tg := q1.thenN Tg.n;
  let q3 : List UInt8 := [110];
  some
  (sAnd true
      (sIf true
        (sAnd
          (sAnd
            (sAnd true
              (sAnd
                (sAnd true
                  (ok
                    { t := 1, o := o, a := { n := a.n, p := a.p, u := a.u }, b := { n := b.n, p := b.p, u := b.u },
                      c := { n := c.n, p := c.p, u := c.u }, d := { n := d.n, p := d.p, u := d.u } }))
                true))
            (sIf true
              (sAnd
                (sAnd true
                  (sNot
                    (sNot
                      (V
                        { t := 1, o := o, a := { n := a.n, p := a.p, u := a.u }, b := { n := b.n, p := b.p, u := b.u },
                          c := { n := c.n, p := c.p, u := c.u }, d := { n := d.n, p := d.p, u := d.u } }))))
                true)
              true))
          (sIf true
            (sAnd true
              (sIf true
                (sAnd true
                  (sIf true
                    (sAnd
                      (sAnd true
                        (sIf true
                          (sAnd
                            (sAnd true
                              (sIf true
                                (sAnd
                                  (sAnd true
                                    (sIf true
                                      (sAnd true
                                        (sIf true
                                          (sAnd true
                                            (sIf a.p true
                                              (sAnd true
                                                (sIf true
                                                  (sAnd true
                                                    (sIf a.u true
                                                      (sAnd true
                                                        (sAnd true
                                                          (sAnd true
                                                            (sAnd true
                                                              (sAnd (sAnd true (okImm a.n))
                                                                (sAnd
                                                                  (sAnd true
                                                                    (sLe (↑(q0.size + (decA a.n).size)) (2 ^ 63 - 1)))
                                                                  true))))))))
                                                  true))))
                                          true))
                                      true))
                                  (sIf q1.isN true true))
                                true))
                            (sIf q2.isN true true))
                          true))
                      (sIf (Tg.block 0 (q2.thenN (Tg.x 0))).isN true true))
                    true))
                true))
            true))
        true),
    AV.str
      (sIf a.p (tnV 1 ++ { data := { toList := 32 :: 112 :: 111 :: 105 :: 115 :: 111 :: q3 } })
        (sIf a.u (tnV 1 ++ { data := { toList := 32 :: 117 :: 110 :: 107 :: 110 :: 111 :: 119 :: q3 } })
          (q0 ++ decA a.n))))) := by kernel_rfl

theorem nat221 (V ok : Val → Bool) (o : Int) (a b c d : Lane) (h : ok ⟨1, o, a, b, c, d⟩ = true) (hv : V ⟨1, o, a, b, c, d⟩ = true) (ho : okImm o = true) (ha : sAnd (sEq a.n 0) (sAnd (sEqB a.p true) (sAnd (sEqB a.u false) true)) = a.p ∧ sAnd (sEq a.n 0) (sAnd (sEqB a.p false) (sAnd (sEqB a.u true) true)) = a.u) (ka : okL a = true) :
    exFn (gX (f1 V ok) { orc := [(8, false)], lits := [32], unroll := 6 }) Tryd.f22 [valA ⟨1, o, a, b, c, d⟩] = some (true, .str (fmtV ⟨1, o, a, b, c, d⟩)) := by
  rw [xf221]
  have b1 : ({ data := { toList := [32] } } : ByteArray) = spB := rfl
  have b2 : ({ data := { toList := [32, 112, 111, 105, 115, 111, 110] } } : ByteArray) = poB := rfl
  have b3 : ({ data := { toList := [32, 117, 110, 107, 110, 111, 119, 110] } } : ByteArray) = unB := rfl
  have z : ∀ m : Nat, m ≤ 1000000 → sLe (m : Int) (2 ^ 63 - 1) = true := fun m hm => decide_eq_true (by omega)
  have so := dec_size ho
  have st : (tnV 1).size ≤ 4 := by decide
  have ssp : spB.size = 1 := rfl
  have h' : ok { t := 1, o := o, a := { n := a.n, p := a.p, u := a.u }, b := { n := b.n, p := b.p, u := b.u }, c := { n := c.n, p := c.p, u := c.u }, d := { n := d.n, p := d.p, u := d.u } } = true := h
  have hv' : V { t := 1, o := o, a := { n := a.n, p := a.p, u := a.u }, b := { n := b.n, p := b.p, u := b.u }, c := { n := c.n, p := c.p, u := c.u }, d := { n := d.n, p := d.p, u := d.u } } = true := hv
  have sa := lane_size ka
  have ma := dec_size (n := a.n) ka
  have ia : okImm a.n = true := ka
  have ga : sIf a.p poB (sIf a.u unB (spB ++ decA a.n)) = laneB a := rfl
  have K0 : ∀ c : Bool, Tg.isN (Tg.mix c Tg.n Tg.n) = true := by intro c; cases c <;> rfl
  have K1 : ∀ c d : Bool, (Tg.block 1 (Tg.block 2 (Tg.mix c Tg.n (Tg.mix d Tg.n Tg.n)))) = Tg.n := by intro c d; cases c <;> cases d <;> rfl
  have K2 : ∀ c d : Bool, (Tg.block 1 (Tg.mix c Tg.n (Tg.mix d Tg.n Tg.n))) = Tg.n := by intro c d; cases c <;> cases d <;> rfl
  simp only [h', hv', ho, b1, b2, b3, ha.1, ha.2, ia, app2, app3, ga, K0, K1, K2, tT1, tI2, sN2, sN3]
  have eH : fmtV ⟨1, o, a, b, c, d⟩ = tnV 1 ++ laneB a := rfl
  rw [eH]
  generalize hH : tnV 1 = H at st ⊢
  have sH : H.size ≤ 30 := by omega
  simp (disch := ((try simp only [ByteArray.size_append]); omega)) only [z]
  simp only [sA1, sA2, sI1, sI4]
theorem xf222 (V : Val → Bool) (ok : Val → Bool) (o : Int) (a : Lane) (b : Lane) (c : Lane) (d : Lane) : exFn (gX (f1 V ok) { orc := [(8, false)], lits := [32], unroll := 6 }) Tryd.f22
  [valA { t := 2, o := o, a := a, b := b, c := c, d := d }] = (
 let q0 : ByteArray := tnV 2 ++ { data := { toList := [32] } };
  let q1 : Tg := Tg.block 1 (Tg.mix a.p Tg.n (Tg.mix a.u Tg.n Tg.n));
  let q2 : Tg := q1.thenN Tg.n;
  let q3 : List UInt8 := [110];
  some
  (sAnd true
      (sIf true
        (sAnd
          (sAnd
            (sAnd true
              (sAnd
                (sAnd true
                  (ok
                    { t := 2, o := o, a := { n := a.n, p := a.p, u := a.u }, b := { n := b.n, p := b.p, u := b.u },
                      c := { n := c.n, p := c.p, u := c.u }, d := { n := d.n, p := d.p, u := d.u } }))
                true))
            (sIf true
              (sAnd
                (sAnd true
                  (sNot
                    (sNot
                      (V
                        { t := 2, o := o, a := { n := a.n, p := a.p, u := a.u }, b := { n := b.n, p := b.p, u := b.u },
                          c := { n := c.n, p := c.p, u := c.u }, d := { n := d.n, p := d.p, u := d.u } }))))
                true)
              true))
          (sIf true
            (sAnd true
              (sIf true
                (sAnd true
                  (sIf true
                    (sAnd
                      (sAnd true
                        (sIf true
                          (sAnd
                            (sAnd true
                              (sIf true
                                (sAnd
                                  (sAnd true
                                    (sIf true
                                      (sAnd true
                                        (sIf true
                                          (sAnd true
                                            (sIf a.p true
                                              (sAnd true
                                                (sIf true
                                                  (sAnd true
                                                    (sIf a.u true
                                                      (sAnd true
                                                        (sAnd true
                                                          (sAnd true
                                                            (sAnd true
                                                              (sAnd (sAnd true (okImm a.n))
                                                                (sAnd
                                                                  (sAnd true
                                                                    (sLe (↑(q0.size + (decA a.n).size)) (2 ^ 63 - 1)))
                                                                  true))))))))
                                                  true))))
                                          true))
                                      true))
                                  (sIf q1.isN true true))
                                true))
                            (sIf q2.isN true true))
                          true))
                      (sIf (Tg.block 0 (q2.thenN (Tg.x 0))).isN true true))
                    true))
                true))
            true))
        true),
    AV.str
      (sIf a.p (tnV 2 ++ { data := { toList := 32 :: 112 :: 111 :: 105 :: 115 :: 111 :: q3 } })
        (sIf a.u (tnV 2 ++ { data := { toList := 32 :: 117 :: 110 :: 107 :: 110 :: 111 :: 119 :: q3 } })
          (q0 ++ decA a.n))))) := by kernel_rfl

theorem nat222 (V ok : Val → Bool) (o : Int) (a b c d : Lane) (h : ok ⟨2, o, a, b, c, d⟩ = true) (hv : V ⟨2, o, a, b, c, d⟩ = true) (ho : okImm o = true) (ha : sAnd (sEq a.n 0) (sAnd (sEqB a.p true) (sAnd (sEqB a.u false) true)) = a.p ∧ sAnd (sEq a.n 0) (sAnd (sEqB a.p false) (sAnd (sEqB a.u true) true)) = a.u) (ka : okL a = true) :
    exFn (gX (f1 V ok) { orc := [(8, false)], lits := [32], unroll := 6 }) Tryd.f22 [valA ⟨2, o, a, b, c, d⟩] = some (true, .str (fmtV ⟨2, o, a, b, c, d⟩)) := by
  rw [xf222]
  have b1 : ({ data := { toList := [32] } } : ByteArray) = spB := rfl
  have b2 : ({ data := { toList := [32, 112, 111, 105, 115, 111, 110] } } : ByteArray) = poB := rfl
  have b3 : ({ data := { toList := [32, 117, 110, 107, 110, 111, 119, 110] } } : ByteArray) = unB := rfl
  have z : ∀ m : Nat, m ≤ 1000000 → sLe (m : Int) (2 ^ 63 - 1) = true := fun m hm => decide_eq_true (by omega)
  have so := dec_size ho
  have st : (tnV 2).size ≤ 4 := by decide
  have ssp : spB.size = 1 := rfl
  have h' : ok { t := 2, o := o, a := { n := a.n, p := a.p, u := a.u }, b := { n := b.n, p := b.p, u := b.u }, c := { n := c.n, p := c.p, u := c.u }, d := { n := d.n, p := d.p, u := d.u } } = true := h
  have hv' : V { t := 2, o := o, a := { n := a.n, p := a.p, u := a.u }, b := { n := b.n, p := b.p, u := b.u }, c := { n := c.n, p := c.p, u := c.u }, d := { n := d.n, p := d.p, u := d.u } } = true := hv
  have sa := lane_size ka
  have ma := dec_size (n := a.n) ka
  have ia : okImm a.n = true := ka
  have ga : sIf a.p poB (sIf a.u unB (spB ++ decA a.n)) = laneB a := rfl
  have K0 : ∀ c : Bool, Tg.isN (Tg.mix c Tg.n Tg.n) = true := by intro c; cases c <;> rfl
  have K1 : ∀ c d : Bool, (Tg.block 1 (Tg.block 2 (Tg.mix c Tg.n (Tg.mix d Tg.n Tg.n)))) = Tg.n := by intro c d; cases c <;> cases d <;> rfl
  have K2 : ∀ c d : Bool, (Tg.block 1 (Tg.mix c Tg.n (Tg.mix d Tg.n Tg.n))) = Tg.n := by intro c d; cases c <;> cases d <;> rfl
  simp only [h', hv', ho, b1, b2, b3, ha.1, ha.2, ia, app2, app3, ga, K0, K1, K2, tT1, tI2, sN2, sN3]
  have eH : fmtV ⟨2, o, a, b, c, d⟩ = tnV 2 ++ laneB a := rfl
  rw [eH]
  generalize hH : tnV 2 = H at st ⊢
  have sH : H.size ≤ 30 := by omega
  simp (disch := ((try simp only [ByteArray.size_append]); omega)) only [z]
  simp only [sA1, sA2, sI1, sI4]
theorem xf223 (V : Val → Bool) (ok : Val → Bool) (o : Int) (a : Lane) (b : Lane) (c : Lane) (d : Lane) : exFn (gX (f1 V ok) { orc := [(8, false)], lits := [32], unroll := 6 }) Tryd.f22
  [valA { t := 3, o := o, a := a, b := b, c := c, d := d }] = (
 let q0 : ByteArray := tnV 3 ++ { data := { toList := [32] } };
  let q1 : Tg := Tg.block 1 (Tg.mix a.p Tg.n (Tg.mix a.u Tg.n Tg.n));
  let q2 : Tg := q1.thenN Tg.n;
  let q3 : List UInt8 := [110];
  some
  (sAnd true
      (sIf true
        (sAnd
          (sAnd
            (sAnd true
              (sAnd
                (sAnd true
                  (ok
                    { t := 3, o := o, a := { n := a.n, p := a.p, u := a.u }, b := { n := b.n, p := b.p, u := b.u },
                      c := { n := c.n, p := c.p, u := c.u }, d := { n := d.n, p := d.p, u := d.u } }))
                true))
            (sIf true
              (sAnd
                (sAnd true
                  (sNot
                    (sNot
                      (V
                        { t := 3, o := o, a := { n := a.n, p := a.p, u := a.u }, b := { n := b.n, p := b.p, u := b.u },
                          c := { n := c.n, p := c.p, u := c.u }, d := { n := d.n, p := d.p, u := d.u } }))))
                true)
              true))
          (sIf true
            (sAnd true
              (sIf true
                (sAnd true
                  (sIf true
                    (sAnd
                      (sAnd true
                        (sIf true
                          (sAnd
                            (sAnd true
                              (sIf true
                                (sAnd
                                  (sAnd true
                                    (sIf true
                                      (sAnd true
                                        (sIf true
                                          (sAnd true
                                            (sIf a.p true
                                              (sAnd true
                                                (sIf true
                                                  (sAnd true
                                                    (sIf a.u true
                                                      (sAnd true
                                                        (sAnd true
                                                          (sAnd true
                                                            (sAnd true
                                                              (sAnd (sAnd true (okImm a.n))
                                                                (sAnd
                                                                  (sAnd true
                                                                    (sLe (↑(q0.size + (decA a.n).size)) (2 ^ 63 - 1)))
                                                                  true))))))))
                                                  true))))
                                          true))
                                      true))
                                  (sIf q1.isN true true))
                                true))
                            (sIf q2.isN true true))
                          true))
                      (sIf (Tg.block 0 (q2.thenN (Tg.x 0))).isN true true))
                    true))
                true))
            true))
        true),
    AV.str
      (sIf a.p (tnV 3 ++ { data := { toList := 32 :: 112 :: 111 :: 105 :: 115 :: 111 :: q3 } })
        (sIf a.u (tnV 3 ++ { data := { toList := 32 :: 117 :: 110 :: 107 :: 110 :: 111 :: 119 :: q3 } })
          (q0 ++ decA a.n))))) := by kernel_rfl

theorem nat223 (V ok : Val → Bool) (o : Int) (a b c d : Lane) (h : ok ⟨3, o, a, b, c, d⟩ = true) (hv : V ⟨3, o, a, b, c, d⟩ = true) (ho : okImm o = true) (ha : sAnd (sEq a.n 0) (sAnd (sEqB a.p true) (sAnd (sEqB a.u false) true)) = a.p ∧ sAnd (sEq a.n 0) (sAnd (sEqB a.p false) (sAnd (sEqB a.u true) true)) = a.u) (ka : okL a = true) :
    exFn (gX (f1 V ok) { orc := [(8, false)], lits := [32], unroll := 6 }) Tryd.f22 [valA ⟨3, o, a, b, c, d⟩] = some (true, .str (fmtV ⟨3, o, a, b, c, d⟩)) := by
  rw [xf223]
  have b1 : ({ data := { toList := [32] } } : ByteArray) = spB := rfl
  have b2 : ({ data := { toList := [32, 112, 111, 105, 115, 111, 110] } } : ByteArray) = poB := rfl
  have b3 : ({ data := { toList := [32, 117, 110, 107, 110, 111, 119, 110] } } : ByteArray) = unB := rfl
  have z : ∀ m : Nat, m ≤ 1000000 → sLe (m : Int) (2 ^ 63 - 1) = true := fun m hm => decide_eq_true (by omega)
  have so := dec_size ho
  have st : (tnV 3).size ≤ 4 := by decide
  have ssp : spB.size = 1 := rfl
  have h' : ok { t := 3, o := o, a := { n := a.n, p := a.p, u := a.u }, b := { n := b.n, p := b.p, u := b.u }, c := { n := c.n, p := c.p, u := c.u }, d := { n := d.n, p := d.p, u := d.u } } = true := h
  have hv' : V { t := 3, o := o, a := { n := a.n, p := a.p, u := a.u }, b := { n := b.n, p := b.p, u := b.u }, c := { n := c.n, p := c.p, u := c.u }, d := { n := d.n, p := d.p, u := d.u } } = true := hv
  have sa := lane_size ka
  have ma := dec_size (n := a.n) ka
  have ia : okImm a.n = true := ka
  have ga : sIf a.p poB (sIf a.u unB (spB ++ decA a.n)) = laneB a := rfl
  have K0 : ∀ c : Bool, Tg.isN (Tg.mix c Tg.n Tg.n) = true := by intro c; cases c <;> rfl
  have K1 : ∀ c d : Bool, (Tg.block 1 (Tg.block 2 (Tg.mix c Tg.n (Tg.mix d Tg.n Tg.n)))) = Tg.n := by intro c d; cases c <;> cases d <;> rfl
  have K2 : ∀ c d : Bool, (Tg.block 1 (Tg.mix c Tg.n (Tg.mix d Tg.n Tg.n))) = Tg.n := by intro c d; cases c <;> cases d <;> rfl
  simp only [h', hv', ho, b1, b2, b3, ha.1, ha.2, ia, app2, app3, ga, K0, K1, K2, tT1, tI2, sN2, sN3]
  have eH : fmtV ⟨3, o, a, b, c, d⟩ = tnV 3 ++ laneB a := rfl
  rw [eH]
  generalize hH : tnV 3 = H at st ⊢
  have sH : H.size ≤ 30 := by omega
  simp (disch := ((try simp only [ByteArray.size_append]); omega)) only [z]
  simp only [sA1, sA2, sI1, sI4]
theorem xf224 (V : Val → Bool) (ok : Val → Bool) (o : Int) (a : Lane) (b : Lane) (c : Lane) (d : Lane) : exFn (gX (f1 V ok) { orc := [(8, false)], lits := [32], unroll := 6 }) Tryd.f22
  [valA { t := 4, o := o, a := a, b := b, c := c, d := d }] = (
 let q0 : ByteArray := tnV 4 ++ { data := { toList := [32] } };
  let q1 : Tg := Tg.block 1 (Tg.mix a.p Tg.n (Tg.mix a.u Tg.n Tg.n));
  let q2 : Tg := q1.thenN Tg.n;
  let q3 : List UInt8 := [110];
  some
  (sAnd true
      (sIf true
        (sAnd
          (sAnd
            (sAnd true
              (sAnd
                (sAnd true
                  (ok
                    { t := 4, o := o, a := { n := a.n, p := a.p, u := a.u }, b := { n := b.n, p := b.p, u := b.u },
                      c := { n := c.n, p := c.p, u := c.u }, d := { n := d.n, p := d.p, u := d.u } }))
                true))
            (sIf true
              (sAnd
                (sAnd true
                  (sNot
                    (sNot
                      (V
                        { t := 4, o := o, a := { n := a.n, p := a.p, u := a.u }, b := { n := b.n, p := b.p, u := b.u },
                          c := { n := c.n, p := c.p, u := c.u }, d := { n := d.n, p := d.p, u := d.u } }))))
                true)
              true))
          (sIf true
            (sAnd true
              (sIf true
                (sAnd true
                  (sIf true
                    (sAnd
                      (sAnd true
                        (sIf true
                          (sAnd
                            (sAnd true
                              (sIf true
                                (sAnd
                                  (sAnd true
                                    (sIf true
                                      (sAnd true
                                        (sIf true
                                          (sAnd true
                                            (sIf a.p true
                                              (sAnd true
                                                (sIf true
                                                  (sAnd true
                                                    (sIf a.u true
                                                      (sAnd true
                                                        (sAnd true
                                                          (sAnd true
                                                            (sAnd true
                                                              (sAnd (sAnd true (okImm a.n))
                                                                (sAnd
                                                                  (sAnd true
                                                                    (sLe (↑(q0.size + (decA a.n).size)) (2 ^ 63 - 1)))
                                                                  true))))))))
                                                  true))))
                                          true))
                                      true))
                                  (sIf q1.isN true true))
                                true))
                            (sIf q2.isN true true))
                          true))
                      (sIf (Tg.block 0 (q2.thenN (Tg.x 0))).isN true true))
                    true))
                true))
            true))
        true),
    AV.str
      (sIf a.p (tnV 4 ++ { data := { toList := 32 :: 112 :: 111 :: 105 :: 115 :: 111 :: q3 } })
        (sIf a.u (tnV 4 ++ { data := { toList := 32 :: 117 :: 110 :: 107 :: 110 :: 111 :: 119 :: q3 } })
          (q0 ++ decA a.n))))) := by kernel_rfl

theorem nat224 (V ok : Val → Bool) (o : Int) (a b c d : Lane) (h : ok ⟨4, o, a, b, c, d⟩ = true) (hv : V ⟨4, o, a, b, c, d⟩ = true) (ho : okImm o = true) (ha : sAnd (sEq a.n 0) (sAnd (sEqB a.p true) (sAnd (sEqB a.u false) true)) = a.p ∧ sAnd (sEq a.n 0) (sAnd (sEqB a.p false) (sAnd (sEqB a.u true) true)) = a.u) (ka : okL a = true) :
    exFn (gX (f1 V ok) { orc := [(8, false)], lits := [32], unroll := 6 }) Tryd.f22 [valA ⟨4, o, a, b, c, d⟩] = some (true, .str (fmtV ⟨4, o, a, b, c, d⟩)) := by
  rw [xf224]
  have b1 : ({ data := { toList := [32] } } : ByteArray) = spB := rfl
  have b2 : ({ data := { toList := [32, 112, 111, 105, 115, 111, 110] } } : ByteArray) = poB := rfl
  have b3 : ({ data := { toList := [32, 117, 110, 107, 110, 111, 119, 110] } } : ByteArray) = unB := rfl
  have z : ∀ m : Nat, m ≤ 1000000 → sLe (m : Int) (2 ^ 63 - 1) = true := fun m hm => decide_eq_true (by omega)
  have so := dec_size ho
  have st : (tnV 4).size ≤ 4 := by decide
  have ssp : spB.size = 1 := rfl
  have h' : ok { t := 4, o := o, a := { n := a.n, p := a.p, u := a.u }, b := { n := b.n, p := b.p, u := b.u }, c := { n := c.n, p := c.p, u := c.u }, d := { n := d.n, p := d.p, u := d.u } } = true := h
  have hv' : V { t := 4, o := o, a := { n := a.n, p := a.p, u := a.u }, b := { n := b.n, p := b.p, u := b.u }, c := { n := c.n, p := c.p, u := c.u }, d := { n := d.n, p := d.p, u := d.u } } = true := hv
  have sa := lane_size ka
  have ma := dec_size (n := a.n) ka
  have ia : okImm a.n = true := ka
  have ga : sIf a.p poB (sIf a.u unB (spB ++ decA a.n)) = laneB a := rfl
  have K0 : ∀ c : Bool, Tg.isN (Tg.mix c Tg.n Tg.n) = true := by intro c; cases c <;> rfl
  have K1 : ∀ c d : Bool, (Tg.block 1 (Tg.block 2 (Tg.mix c Tg.n (Tg.mix d Tg.n Tg.n)))) = Tg.n := by intro c d; cases c <;> cases d <;> rfl
  have K2 : ∀ c d : Bool, (Tg.block 1 (Tg.mix c Tg.n (Tg.mix d Tg.n Tg.n))) = Tg.n := by intro c d; cases c <;> cases d <;> rfl
  simp only [h', hv', ho, b1, b2, b3, ha.1, ha.2, ia, app2, app3, ga, K0, K1, K2, tT1, tI2, sN2, sN3]
  have eH : fmtV ⟨4, o, a, b, c, d⟩ = tnV 4 ++ laneB a := rfl
  rw [eH]
  generalize hH : tnV 4 = H at st ⊢
  have sH : H.size ≤ 30 := by omega
  simp (disch := ((try simp only [ByteArray.size_append]); omega)) only [z]
  simp only [sA1, sA2, sI1, sI4]
theorem xf225 (V : Val → Bool) (ok : Val → Bool) (o : Int) (a : Lane) (b : Lane) (c : Lane) (d : Lane) : exFn (gX (f1 V ok) { orc := [(8, false)], lits := [32], unroll := 6 }) Tryd.f22
  [valA { t := 5, o := o, a := a, b := b, c := c, d := d }] = (
 let q0 : ByteArray := { data := { toList := [32] } };
  let q1 : ByteArray := tnV 5 ++ q0;
  let q2 : Int := 2 ^ 63 - 1;
  let q3 : ByteArray := sIf (sNot a.p) (q1 ++ decA o) (tnV 5);
  let q4 : Nat := q3.size;
  let q5 : ByteArray := q3 ++ q0;
  let q6 : Tg := Tg.block 1 (Tg.mix a.p Tg.n (Tg.mix a.u Tg.n Tg.n));
  let q7 : Tg := q6.thenN Tg.n;
  let q8 : List UInt8 := [110];
  some
  (sAnd true
      (sIf true
        (sAnd
          (sAnd
            (sAnd true
              (sAnd
                (sAnd true
                  (ok
                    { t := 5, o := o, a := { n := a.n, p := a.p, u := a.u }, b := { n := b.n, p := b.p, u := b.u },
                      c := { n := c.n, p := c.p, u := c.u }, d := { n := d.n, p := d.p, u := d.u } }))
                true))
            (sIf true
              (sAnd
                (sAnd true
                  (sNot
                    (sNot
                      (V
                        { t := 5, o := o, a := { n := a.n, p := a.p, u := a.u }, b := { n := b.n, p := b.p, u := b.u },
                          c := { n := c.n, p := c.p, u := c.u }, d := { n := d.n, p := d.p, u := d.u } }))))
                true)
              true))
          (sIf true
            (sAnd true
              (sIf true
                (sAnd
                  (sAnd true
                    (sIf true
                      (sAnd true
                        (sIf (sNot a.p)
                          (sAnd true
                            (sAnd true
                              (sAnd true
                                (sAnd true
                                  (sAnd (sAnd true (okImm o))
                                    (sAnd (sAnd true (sLe (↑(q1.size + (decA o).size)) q2)) true))))))
                          true))
                      true))
                  (sIf (Tg.mix (sNot a.p) Tg.n Tg.n).isN
                    (sAnd
                      (sAnd true
                        (sIf true
                          (sAnd
                            (sAnd true
                              (sIf true
                                (sAnd
                                  (sAnd true
                                    (sIf true
                                      (sAnd true
                                        (sIf true
                                          (sAnd true
                                            (sIf a.p (sAnd true (sAnd (sAnd true (sLe (↑(q4 + 7)) q2)) true))
                                              (sAnd true
                                                (sIf true
                                                  (sAnd true
                                                    (sIf a.u (sAnd true (sAnd (sAnd true (sLe (↑(q4 + 8)) q2)) true))
                                                      (sAnd true
                                                        (sAnd (sAnd true (sLe (↑(q4 + 1)) q2))
                                                          (sAnd true
                                                            (sAnd true
                                                              (sAnd (sAnd true (okImm a.n))
                                                                (sAnd
                                                                  (sAnd true (sLe (↑(q5.size + (decA a.n).size)) q2))
                                                                  true))))))))
                                                  true))))
                                          true))
                                      true))
                                  (sIf q6.isN true true))
                                true))
                            (sIf q7.isN true true))
                          true))
                      (sIf (Tg.block 0 (q7.thenN (Tg.x 0))).isN true true))
                    true))
                true))
            true))
        true),
    AV.str
      (sIf a.p (q3 ++ { data := { toList := 32 :: 112 :: 111 :: 105 :: 115 :: 111 :: q8 } })
        (sIf a.u (q3 ++ { data := { toList := 32 :: 117 :: 110 :: 107 :: 110 :: 111 :: 119 :: q8 } })
          (q5 ++ decA a.n))))) := by kernel_rfl

theorem nat225 (V ok : Val → Bool) (o : Int) (a b c d : Lane) (h : ok ⟨5, o, a, b, c, d⟩ = true) (hv : V ⟨5, o, a, b, c, d⟩ = true) (ho : okImm o = true) (ha : sAnd (sEq a.n 0) (sAnd (sEqB a.p true) (sAnd (sEqB a.u false) true)) = a.p ∧ sAnd (sEq a.n 0) (sAnd (sEqB a.p false) (sAnd (sEqB a.u true) true)) = a.u) (ka : okL a = true) :
    exFn (gX (f1 V ok) { orc := [(8, false)], lits := [32], unroll := 6 }) Tryd.f22 [valA ⟨5, o, a, b, c, d⟩] = some (true, .str (fmtV ⟨5, o, a, b, c, d⟩)) := by
  rw [xf225]
  have b1 : ({ data := { toList := [32] } } : ByteArray) = spB := rfl
  have b2 : ({ data := { toList := [32, 112, 111, 105, 115, 111, 110] } } : ByteArray) = poB := rfl
  have b3 : ({ data := { toList := [32, 117, 110, 107, 110, 111, 119, 110] } } : ByteArray) = unB := rfl
  have z : ∀ m : Nat, m ≤ 1000000 → sLe (m : Int) (2 ^ 63 - 1) = true := fun m hm => decide_eq_true (by omega)
  have so := dec_size ho
  have st : (tnV 5).size ≤ 4 := by decide
  have ssp : spB.size = 1 := rfl
  have h' : ok { t := 5, o := o, a := { n := a.n, p := a.p, u := a.u }, b := { n := b.n, p := b.p, u := b.u }, c := { n := c.n, p := c.p, u := c.u }, d := { n := d.n, p := d.p, u := d.u } } = true := h
  have hv' : V { t := 5, o := o, a := { n := a.n, p := a.p, u := a.u }, b := { n := b.n, p := b.p, u := b.u }, c := { n := c.n, p := c.p, u := c.u }, d := { n := d.n, p := d.p, u := d.u } } = true := hv
  have sa := lane_size ka
  have ma := dec_size (n := a.n) ka
  have ia : okImm a.n = true := ka
  have ga : sIf a.p poB (sIf a.u unB (spB ++ decA a.n)) = laneB a := rfl
  have K0 : ∀ c : Bool, Tg.isN (Tg.mix c Tg.n Tg.n) = true := by intro c; cases c <;> rfl
  have K1 : ∀ c d : Bool, (Tg.block 1 (Tg.block 2 (Tg.mix c Tg.n (Tg.mix d Tg.n Tg.n)))) = Tg.n := by intro c d; cases c <;> cases d <;> rfl
  have K2 : ∀ c d : Bool, (Tg.block 1 (Tg.mix c Tg.n (Tg.mix d Tg.n Tg.n))) = Tg.n := by intro c d; cases c <;> cases d <;> rfl
  simp only [h', hv', ho, b1, b2, b3, ha.1, ha.2, ia, app2, app3, ga, K0, K1, K2, tT1, tI2, sN2, sN3]
  simp only [show tnV 5 ++ spB ++ decA o = tnV 5 ++ (spB ++ decA o) from ByteArray.append_assoc]
  have sH : (sIf (sNot a.p) (tnV 5 ++ (spB ++ decA o)) (tnV 5)).size ≤ 30 := by
    cases a.p
    · show (tnV 5 ++ (spB ++ decA o)).size ≤ 30
      rw [ByteArray.size_append, ByteArray.size_append]; omega
    · show (tnV 5).size ≤ 30
      omega
  have eH : fmtV ⟨5, o, a, b, c, d⟩ = sIf (sNot a.p) (tnV 5 ++ (spB ++ decA o)) (tnV 5) ++ laneB a := rfl
  rw [eH]
  generalize hH : sIf (sNot a.p) (tnV 5 ++ (spB ++ decA o)) (tnV 5) = H at sH ⊢
  simp (disch := ((try simp only [ByteArray.size_append]); omega)) only [z]
  simp only [sA1, sA2, sI1, sI4]
theorem xf226 (V : Val → Bool) (ok : Val → Bool) (o : Int) (a : Lane) (b : Lane) (c : Lane) (d : Lane) : exFn (gX (f1 V ok) { orc := [(8, false)], lits := [32], unroll := 6 }) Tryd.f22
  [valA { t := 6, o := o, a := a, b := b, c := c, d := d }] = (
 let q0 : ByteArray := { data := { toList := [32] } };
  let q1 : ByteArray := tnV 6 ++ q0;
  let q2 : Int := 2 ^ 63 - 1;
  let q3 : Tg := Tg.block 1 (Tg.mix a.p Tg.n (Tg.mix a.u Tg.n Tg.n));
  let q4 : Tg := q3.thenN Tg.n;
  let q5 : List UInt8 := [110];
  let q6 : ByteArray := { data := { toList := 32 :: 112 :: 111 :: 105 :: 115 :: 111 :: q5 } };
  let q7 : ByteArray := { data := { toList := 32 :: 117 :: 110 :: 107 :: 110 :: 111 :: 119 :: q5 } };
  let q8 : ByteArray := sIf a.p (tnV 6 ++ q6) (sIf a.u (tnV 6 ++ q7) (q1 ++ decA a.n));
  let q9 : Nat := q8.size;
  let q10 : ByteArray := q8 ++ q0;
  let q11 : Tg := Tg.block 1 (Tg.mix b.p Tg.n (Tg.mix b.u Tg.n Tg.n));
  let q12 : Tg := q11.thenN Tg.n;
  some
  (sAnd true
      (sIf true
        (sAnd
          (sAnd
            (sAnd true
              (sAnd
                (sAnd true
                  (ok
                    { t := 6, o := o, a := { n := a.n, p := a.p, u := a.u }, b := { n := b.n, p := b.p, u := b.u },
                      c := { n := c.n, p := c.p, u := c.u }, d := { n := d.n, p := d.p, u := d.u } }))
                true))
            (sIf true
              (sAnd
                (sAnd true
                  (sNot
                    (sNot
                      (V
                        { t := 6, o := o, a := { n := a.n, p := a.p, u := a.u }, b := { n := b.n, p := b.p, u := b.u },
                          c := { n := c.n, p := c.p, u := c.u }, d := { n := d.n, p := d.p, u := d.u } }))))
                true)
              true))
          (sIf true
            (sAnd true
              (sIf true
                (sAnd true
                  (sIf true
                    (sAnd
                      (sAnd true
                        (sIf true
                          (sAnd
                            (sAnd true
                              (sIf true
                                (sAnd
                                  (sAnd true
                                    (sIf true
                                      (sAnd true
                                        (sIf true
                                          (sAnd true
                                            (sIf a.p true
                                              (sAnd true
                                                (sIf true
                                                  (sAnd true
                                                    (sIf a.u true
                                                      (sAnd true
                                                        (sAnd true
                                                          (sAnd true
                                                            (sAnd true
                                                              (sAnd (sAnd true (okImm a.n))
                                                                (sAnd
                                                                  (sAnd true (sLe (↑(q1.size + (decA a.n).size)) q2))
                                                                  true))))))))
                                                  true))))
                                          true))
                                      true))
                                  (sIf q3.isN true true))
                                true))
                            (sIf q4.isN
                              (sAnd
                                (sAnd true
                                  (sIf true
                                    (sAnd
                                      (sAnd true
                                        (sIf true
                                          (sAnd true
                                            (sIf true
                                              (sAnd true
                                                (sIf b.p (sAnd true (sAnd (sAnd true (sLe (↑(q9 + 7)) q2)) true))
                                                  (sAnd true
                                                    (sIf true
                                                      (sAnd true
                                                        (sIf b.u
                                                          (sAnd true (sAnd (sAnd true (sLe (↑(q9 + 8)) q2)) true))
                                                          (sAnd true
                                                            (sAnd (sAnd true (sLe (↑(q9 + 1)) q2))
                                                              (sAnd true
                                                                (sAnd true
                                                                  (sAnd (sAnd true (okImm b.n))
                                                                    (sAnd
                                                                      (sAnd true
                                                                        (sLe (↑(q10.size + (decA b.n).size)) q2))
                                                                      true))))))))
                                                      true))))
                                              true))
                                          true))
                                      (sIf q11.isN true true))
                                    true))
                                (sIf q12.isN true true))
                              true))
                          true))
                      (sIf (Tg.block 0 (q4.thenN (q12.thenN (Tg.x 0)))).isN true true))
                    true))
                true))
            true))
        true),
    AV.str (sIf b.p (q8 ++ q6) (sIf b.u (q8 ++ q7) (q10 ++ decA b.n))))) := by kernel_rfl

theorem nat226 (V ok : Val → Bool) (o : Int) (a b c d : Lane) (h : ok ⟨6, o, a, b, c, d⟩ = true) (hv : V ⟨6, o, a, b, c, d⟩ = true) (ho : okImm o = true) (ha : sAnd (sEq a.n 0) (sAnd (sEqB a.p true) (sAnd (sEqB a.u false) true)) = a.p ∧ sAnd (sEq a.n 0) (sAnd (sEqB a.p false) (sAnd (sEqB a.u true) true)) = a.u) (ka : okL a = true) (hb : sAnd (sEq b.n 0) (sAnd (sEqB b.p true) (sAnd (sEqB b.u false) true)) = b.p ∧ sAnd (sEq b.n 0) (sAnd (sEqB b.p false) (sAnd (sEqB b.u true) true)) = b.u) (kb : okL b = true) :
    exFn (gX (f1 V ok) { orc := [(8, false)], lits := [32], unroll := 6 }) Tryd.f22 [valA ⟨6, o, a, b, c, d⟩] = some (true, .str (fmtV ⟨6, o, a, b, c, d⟩)) := by
  rw [xf226]
  have b1 : ({ data := { toList := [32] } } : ByteArray) = spB := rfl
  have b2 : ({ data := { toList := [32, 112, 111, 105, 115, 111, 110] } } : ByteArray) = poB := rfl
  have b3 : ({ data := { toList := [32, 117, 110, 107, 110, 111, 119, 110] } } : ByteArray) = unB := rfl
  have z : ∀ m : Nat, m ≤ 1000000 → sLe (m : Int) (2 ^ 63 - 1) = true := fun m hm => decide_eq_true (by omega)
  have so := dec_size ho
  have st : (tnV 6).size ≤ 4 := by decide
  have ssp : spB.size = 1 := rfl
  have h' : ok { t := 6, o := o, a := { n := a.n, p := a.p, u := a.u }, b := { n := b.n, p := b.p, u := b.u }, c := { n := c.n, p := c.p, u := c.u }, d := { n := d.n, p := d.p, u := d.u } } = true := h
  have hv' : V { t := 6, o := o, a := { n := a.n, p := a.p, u := a.u }, b := { n := b.n, p := b.p, u := b.u }, c := { n := c.n, p := c.p, u := c.u }, d := { n := d.n, p := d.p, u := d.u } } = true := hv
  have sa := lane_size ka
  have ma := dec_size (n := a.n) ka
  have ia : okImm a.n = true := ka
  have sb := lane_size kb
  have mb := dec_size (n := b.n) kb
  have ib : okImm b.n = true := kb
  have ga : sIf a.p poB (sIf a.u unB (spB ++ decA a.n)) = laneB a := rfl
  have gb : sIf b.p poB (sIf b.u unB (spB ++ decA b.n)) = laneB b := rfl
  have K0 : ∀ c : Bool, Tg.isN (Tg.mix c Tg.n Tg.n) = true := by intro c; cases c <;> rfl
  have K1 : ∀ c d : Bool, (Tg.block 1 (Tg.block 2 (Tg.mix c Tg.n (Tg.mix d Tg.n Tg.n)))) = Tg.n := by intro c d; cases c <;> cases d <;> rfl
  have K2 : ∀ c d : Bool, (Tg.block 1 (Tg.mix c Tg.n (Tg.mix d Tg.n Tg.n))) = Tg.n := by intro c d; cases c <;> cases d <;> rfl
  simp only [h', hv', ho, b1, b2, b3, ha.1, ha.2, ia, hb.1, hb.2, ib, app2, app3, ga, gb, K0, K1, K2, tT1, tI2, sN2, sN3]
  have eH : fmtV ⟨6, o, a, b, c, d⟩ = tnV 6 ++ laneB a ++ laneB b := rfl
  rw [eH]
  generalize hH : tnV 6 = H at st ⊢
  have sH : H.size ≤ 30 := by omega
  simp (disch := ((try simp only [ByteArray.size_append]); omega)) only [z]
  simp only [sA1, sA2, sI1, sI4]
theorem xf227 (V : Val → Bool) (ok : Val → Bool) (o : Int) (a : Lane) (b : Lane) (c : Lane) (d : Lane) : exFn (gX (f1 V ok) { orc := [(8, false)], lits := [32], unroll := 6 }) Tryd.f22
  [valA { t := 7, o := o, a := a, b := b, c := c, d := d }] = (
 let q0 : ByteArray := { data := { toList := [32] } };
  let q1 : ByteArray := tnV 7 ++ q0;
  let q2 : Int := 2 ^ 63 - 1;
  let q3 : Tg := Tg.block 1 (Tg.mix a.p Tg.n (Tg.mix a.u Tg.n Tg.n));
  let q4 : Tg := q3.thenN Tg.n;
  let q5 : List UInt8 := [110];
  let q6 : ByteArray := { data := { toList := 32 :: 112 :: 111 :: 105 :: 115 :: 111 :: q5 } };
  let q7 : ByteArray := { data := { toList := 32 :: 117 :: 110 :: 107 :: 110 :: 111 :: 119 :: q5 } };
  let q8 : ByteArray := sIf a.p (tnV 7 ++ q6) (sIf a.u (tnV 7 ++ q7) (q1 ++ decA a.n));
  let q9 : Nat := q8.size;
  let q10 : ByteArray := q8 ++ q0;
  let q11 : Tg := Tg.block 1 (Tg.mix b.p Tg.n (Tg.mix b.u Tg.n Tg.n));
  let q12 : Tg := q11.thenN Tg.n;
  let q13 : ByteArray := sIf b.p (q8 ++ q6) (sIf b.u (q8 ++ q7) (q10 ++ decA b.n));
  let q14 : Nat := q13.size;
  let q15 : ByteArray := q13 ++ q0;
  let q16 : Tg := Tg.block 1 (Tg.mix c.p Tg.n (Tg.mix c.u Tg.n Tg.n));
  let q17 : Tg := q16.thenN Tg.n;
  let q18 : ByteArray := sIf c.p (q13 ++ q6) (sIf c.u (q13 ++ q7) (q15 ++ decA c.n));
  let q19 : Nat := q18.size;
  let q20 : ByteArray := q18 ++ q0;
  let q21 : Tg := Tg.block 1 (Tg.mix d.p Tg.n (Tg.mix d.u Tg.n Tg.n));
  let q22 : Tg := q21.thenN Tg.n;
  some
  (sAnd true
      (sIf true
        (sAnd
          (sAnd
            (sAnd true
              (sAnd
                (sAnd true
                  (ok
                    { t := 7, o := o, a := { n := a.n, p := a.p, u := a.u }, b := { n := b.n, p := b.p, u := b.u },
                      c := { n := c.n, p := c.p, u := c.u }, d := { n := d.n, p := d.p, u := d.u } }))
                true))
            (sIf true
              (sAnd
                (sAnd true
                  (sNot
                    (sNot
                      (V
                        { t := 7, o := o, a := { n := a.n, p := a.p, u := a.u }, b := { n := b.n, p := b.p, u := b.u },
                          c := { n := c.n, p := c.p, u := c.u }, d := { n := d.n, p := d.p, u := d.u } }))))
                true)
              true))
          (sIf true
            (sAnd true
              (sIf true
                (sAnd true
                  (sIf true
                    (sAnd
                      (sAnd true
                        (sIf true
                          (sAnd
                            (sAnd true
                              (sIf true
                                (sAnd
                                  (sAnd true
                                    (sIf true
                                      (sAnd true
                                        (sIf true
                                          (sAnd true
                                            (sIf a.p true
                                              (sAnd true
                                                (sIf true
                                                  (sAnd true
                                                    (sIf a.u true
                                                      (sAnd true
                                                        (sAnd true
                                                          (sAnd true
                                                            (sAnd true
                                                              (sAnd (sAnd true (okImm a.n))
                                                                (sAnd
                                                                  (sAnd true (sLe (↑(q1.size + (decA a.n).size)) q2))
                                                                  true))))))))
                                                  true))))
                                          true))
                                      true))
                                  (sIf q3.isN true true))
                                true))
                            (sIf q4.isN
                              (sAnd
                                (sAnd true
                                  (sIf true
                                    (sAnd
                                      (sAnd true
                                        (sIf true
                                          (sAnd true
                                            (sIf true
                                              (sAnd true
                                                (sIf b.p (sAnd true (sAnd (sAnd true (sLe (↑(q9 + 7)) q2)) true))
                                                  (sAnd true
                                                    (sIf true
                                                      (sAnd true
                                                        (sIf b.u
                                                          (sAnd true (sAnd (sAnd true (sLe (↑(q9 + 8)) q2)) true))
                                                          (sAnd true
                                                            (sAnd (sAnd true (sLe (↑(q9 + 1)) q2))
                                                              (sAnd true
                                                                (sAnd true
                                                                  (sAnd (sAnd true (okImm b.n))
                                                                    (sAnd
                                                                      (sAnd true
                                                                        (sLe (↑(q10.size + (decA b.n).size)) q2))
                                                                      true))))))))
                                                      true))))
                                              true))
                                          true))
                                      (sIf q11.isN true true))
                                    true))
                                (sIf q12.isN
                                  (sAnd
                                    (sAnd true
                                      (sIf true
                                        (sAnd
                                          (sAnd true
                                            (sIf true
                                              (sAnd true
                                                (sIf true
                                                  (sAnd true
                                                    (sIf c.p (sAnd true (sAnd (sAnd true (sLe (↑(q14 + 7)) q2)) true))
                                                      (sAnd true
                                                        (sIf true
                                                          (sAnd true
                                                            (sIf c.u
                                                              (sAnd true (sAnd (sAnd true (sLe (↑(q14 + 8)) q2)) true))
                                                              (sAnd true
                                                                (sAnd (sAnd true (sLe (↑(q14 + 1)) q2))
                                                                  (sAnd true
                                                                    (sAnd true
                                                                      (sAnd (sAnd true (okImm c.n))
                                                                        (sAnd
                                                                          (sAnd true
                                                                            (sLe (↑(q15.size + (decA c.n).size)) q2))
                                                                          true))))))))
                                                          true))))
                                                  true))
                                              true))
                                          (sIf q16.isN true true))
                                        true))
                                    (sIf q17.isN
                                      (sAnd
                                        (sAnd true
                                          (sIf true
                                            (sAnd
                                              (sAnd true
                                                (sIf true
                                                  (sAnd true
                                                    (sIf true
                                                      (sAnd true
                                                        (sIf d.p
                                                          (sAnd true (sAnd (sAnd true (sLe (↑(q19 + 7)) q2)) true))
                                                          (sAnd true
                                                            (sIf true
                                                              (sAnd true
                                                                (sIf d.u
                                                                  (sAnd true
                                                                    (sAnd (sAnd true (sLe (↑(q19 + 8)) q2)) true))
                                                                  (sAnd true
                                                                    (sAnd (sAnd true (sLe (↑(q19 + 1)) q2))
                                                                      (sAnd true
                                                                        (sAnd true
                                                                          (sAnd (sAnd true (okImm d.n))
                                                                            (sAnd
                                                                              (sAnd true
                                                                                (sLe (↑(q20.size + (decA d.n).size))
                                                                                  q2))
                                                                              true))))))))
                                                              true))))
                                                      true))
                                                  true))
                                              (sIf q21.isN true true))
                                            true))
                                        (sIf q22.isN true true))
                                      true))
                                  true))
                              true))
                          true))
                      (sIf (Tg.block 0 (q4.thenN (q12.thenN (q17.thenN (q22.thenN (Tg.x 0)))))).isN true true))
                    true))
                true))
            true))
        true),
    AV.str (sIf d.p (q18 ++ q6) (sIf d.u (q18 ++ q7) (q20 ++ decA d.n))))) := by kernel_rfl

theorem nat227 (V ok : Val → Bool) (o : Int) (a b c d : Lane) (h : ok ⟨7, o, a, b, c, d⟩ = true) (hv : V ⟨7, o, a, b, c, d⟩ = true) (ho : okImm o = true) (ha : sAnd (sEq a.n 0) (sAnd (sEqB a.p true) (sAnd (sEqB a.u false) true)) = a.p ∧ sAnd (sEq a.n 0) (sAnd (sEqB a.p false) (sAnd (sEqB a.u true) true)) = a.u) (ka : okL a = true) (hb : sAnd (sEq b.n 0) (sAnd (sEqB b.p true) (sAnd (sEqB b.u false) true)) = b.p ∧ sAnd (sEq b.n 0) (sAnd (sEqB b.p false) (sAnd (sEqB b.u true) true)) = b.u) (kb : okL b = true) (hc : sAnd (sEq c.n 0) (sAnd (sEqB c.p true) (sAnd (sEqB c.u false) true)) = c.p ∧ sAnd (sEq c.n 0) (sAnd (sEqB c.p false) (sAnd (sEqB c.u true) true)) = c.u) (kc : okL c = true) (hd : sAnd (sEq d.n 0) (sAnd (sEqB d.p true) (sAnd (sEqB d.u false) true)) = d.p ∧ sAnd (sEq d.n 0) (sAnd (sEqB d.p false) (sAnd (sEqB d.u true) true)) = d.u) (kd : okL d = true) :
    exFn (gX (f1 V ok) { orc := [(8, false)], lits := [32], unroll := 6 }) Tryd.f22 [valA ⟨7, o, a, b, c, d⟩] = some (true, .str (fmtV ⟨7, o, a, b, c, d⟩)) := by
  rw [xf227]
  have b1 : ({ data := { toList := [32] } } : ByteArray) = spB := rfl
  have b2 : ({ data := { toList := [32, 112, 111, 105, 115, 111, 110] } } : ByteArray) = poB := rfl
  have b3 : ({ data := { toList := [32, 117, 110, 107, 110, 111, 119, 110] } } : ByteArray) = unB := rfl
  have z : ∀ m : Nat, m ≤ 1000000 → sLe (m : Int) (2 ^ 63 - 1) = true := fun m hm => decide_eq_true (by omega)
  have so := dec_size ho
  have st : (tnV 7).size ≤ 4 := by decide
  have ssp : spB.size = 1 := rfl
  have h' : ok { t := 7, o := o, a := { n := a.n, p := a.p, u := a.u }, b := { n := b.n, p := b.p, u := b.u }, c := { n := c.n, p := c.p, u := c.u }, d := { n := d.n, p := d.p, u := d.u } } = true := h
  have hv' : V { t := 7, o := o, a := { n := a.n, p := a.p, u := a.u }, b := { n := b.n, p := b.p, u := b.u }, c := { n := c.n, p := c.p, u := c.u }, d := { n := d.n, p := d.p, u := d.u } } = true := hv
  have sa := lane_size ka
  have ma := dec_size (n := a.n) ka
  have ia : okImm a.n = true := ka
  have sb := lane_size kb
  have mb := dec_size (n := b.n) kb
  have ib : okImm b.n = true := kb
  have sc := lane_size kc
  have mc := dec_size (n := c.n) kc
  have ic : okImm c.n = true := kc
  have sd := lane_size kd
  have md := dec_size (n := d.n) kd
  have id : okImm d.n = true := kd
  have ga : sIf a.p poB (sIf a.u unB (spB ++ decA a.n)) = laneB a := rfl
  have gb : sIf b.p poB (sIf b.u unB (spB ++ decA b.n)) = laneB b := rfl
  have gc : sIf c.p poB (sIf c.u unB (spB ++ decA c.n)) = laneB c := rfl
  have gd : sIf d.p poB (sIf d.u unB (spB ++ decA d.n)) = laneB d := rfl
  have K0 : ∀ c : Bool, Tg.isN (Tg.mix c Tg.n Tg.n) = true := by intro c; cases c <;> rfl
  have K1 : ∀ c d : Bool, (Tg.block 1 (Tg.block 2 (Tg.mix c Tg.n (Tg.mix d Tg.n Tg.n)))) = Tg.n := by intro c d; cases c <;> cases d <;> rfl
  have K2 : ∀ c d : Bool, (Tg.block 1 (Tg.mix c Tg.n (Tg.mix d Tg.n Tg.n))) = Tg.n := by intro c d; cases c <;> cases d <;> rfl
  simp only [h', hv', ho, b1, b2, b3, ha.1, ha.2, ia, hb.1, hb.2, ib, hc.1, hc.2, ic, hd.1, hd.2, id, app2, app3, ga, gb, gc, gd, K0, K1, K2, tT1, tI2, sN2, sN3]
  have eH : fmtV ⟨7, o, a, b, c, d⟩ = tnV 7 ++ laneB a ++ laneB b ++ laneB c ++ laneB d := rfl
  rw [eH]
  generalize hH : tnV 7 = H at st ⊢
  have sH : H.size ≤ 30 := by omega
  simp (disch := ((try simp only [ByteArray.size_append]); omega)) only [z]
  simp only [sA1, sA2, sI1, sI4]
def okF (v : Val) : Bool := sAnd (okV v) (okImm v.o)
def fmtB (v : Val) : ByteArray := sIf (validV v) (fmtV v) ByteArray.empty
def xm21 : List AV → Option (Bool × AV)
  | [v] => (asVal v).bind fun v => some (okF v, .str (fmtB v))
  | _ => none
section
variable (hm : Tryd.prog.follows .mixedOrders = true)
include hm
theorem xk21 : KOk E0 21 xm21 := KOk.any (ent Tryd.func21 (by decide) (by rfl)) (by
  intro xs r h
  unfold xm21 at h
  split at h
  · simp only [Option.bind_eq_some_iff, Option.some.injEq, Prod.mk.injEq, okF, sAnd, Bool.and_eq_true] at h
    obtain ⟨v, hv, ⟨hk, ho⟩, rfl⟩ := h
    rw [asVal_eq hv]
    unfold fmtB
    cases hva : validV v
    · refine ⟨_, (fk1 hm).read hm Tryd.func21 (ent Tryd.func21 (by decide) (by rfl)) { orc := [(8, true)] } (fun _ _ h => h), nat219 validV okV v hk hva⟩
    · refine ⟨_, (fk1 hm).read hm Tryd.func21 (ent Tryd.func21 (by decide) (by rfl)) { orc := [(8, false)], lits := [35], unroll := 6 } (fun _ _ h => h), ?_⟩
      obtain ⟨l0, l1, l2, l3⟩ := valid_lanes hva
      obtain ⟨k0, k1, k2, k3⟩ := okV_a hk
      have hty := typ v.t
      have hno := valid_typ hva
      obtain ⟨t, o, a, b, c, d⟩ := v
      simp only at l0 l1 l2 l3 k0 k1 k2 k3 hty hno ho
      rcases hty with rfl | rfl | rfl | rfl | rfl | rfl | rfl | o
      · exact nat211 validV okV o a b c d hk hva ho (lane_pu l0) k0
      · exact nat212 validV okV o a b c d hk hva ho (lane_pu l0) k0
      · exact nat213 validV okV o a b c d hk hva ho (lane_pu l0) k0
      · exact nat214 validV okV o a b c d hk hva ho (lane_pu l0) k0
      · exact nat215 validV okV o a b c d hk hva ho (lane_pu l0) k0
      · exact nat216 validV okV o a b c d hk hva ho (lane_pu l0) k0 (lane_pu (l1 (by decide))) k1
      · exact nat217 validV okV o a b c d hk hva ho (lane_pu l0) k0 (lane_pu (l1 (by decide))) k1 (lane_pu (l2 (by decide))) k2 (lane_pu (l3 (by decide))) k3
      · exact absurd o hno
  · cases h)
theorem xk22 : KOk E0 22 xm21 := KOk.any (ent Tryd.func22 (by decide) (by rfl)) (by
  intro xs r h
  unfold xm21 at h
  split at h
  · simp only [Option.bind_eq_some_iff, Option.some.injEq, Prod.mk.injEq, okF, sAnd, Bool.and_eq_true] at h
    obtain ⟨v, hv, ⟨hk, ho⟩, rfl⟩ := h
    rw [asVal_eq hv]
    unfold fmtB
    cases hva : validV v
    · refine ⟨_, (fk1 hm).read hm Tryd.func22 (ent Tryd.func22 (by decide) (by rfl)) { orc := [(8, true)] } (fun _ _ h => h), nat229 validV okV v hk hva⟩
    · refine ⟨_, (fk1 hm).read hm Tryd.func22 (ent Tryd.func22 (by decide) (by rfl)) { orc := [(8, false)], lits := [32], unroll := 6 } (fun _ _ h => h), ?_⟩
      obtain ⟨l0, l1, l2, l3⟩ := valid_lanes hva
      obtain ⟨k0, k1, k2, k3⟩ := okV_a hk
      have hty := typ v.t
      have hno := valid_typ hva
      obtain ⟨t, o, a, b, c, d⟩ := v
      simp only at l0 l1 l2 l3 k0 k1 k2 k3 hty hno ho
      rcases hty with rfl | rfl | rfl | rfl | rfl | rfl | rfl | o
      · exact nat221 validV okV o a b c d hk hva ho (lane_pu l0) k0
      · exact nat222 validV okV o a b c d hk hva ho (lane_pu l0) k0
      · exact nat223 validV okV o a b c d hk hva ho (lane_pu l0) k0
      · exact nat224 validV okV o a b c d hk hva ho (lane_pu l0) k0
      · exact nat225 validV okV o a b c d hk hva ho (lane_pu l0) k0
      · exact nat226 validV okV o a b c d hk hva ho (lane_pu l0) k0 (lane_pu (l1 (by decide))) k1
      · exact nat227 validV okV o a b c d hk hva ho (lane_pu l0) k0 (lane_pu (l1 (by decide))) k1 (lane_pu (l2 (by decide))) k2 (lane_pu (l3 (by decide))) k3
      · exact absurd o hno
  · cases h)
end
end Go.Proofs.YtnjofponcdcfcaaDoor
