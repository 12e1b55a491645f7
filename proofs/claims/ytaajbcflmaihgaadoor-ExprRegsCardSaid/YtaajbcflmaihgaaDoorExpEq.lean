/- slices.Equal of nodes; Reg and Const, and their references. No conditions. -/
import Derived.Test.YtaajbcflmaihgaaDoorExpApp
set_option linter.all false
namespace Go.Proofs.YtaajbcflmaihgaaDoor
open Go Ab
set_option maxRecDepth 100000
noncomputable def xs12_0 (a : List nodS.den) (b : List nodS.den) : List Sc → Bool × Bool × List Sc := fun xs => let q0 : Bool := sLt (hd xs).toI ↑a.length;
  let q1 : Tg := Tg.mix q0 Tg.n (Tg.x 0);
  let q2 : Bool := sLe 0 (hd xs).toI;
  let q3 : nodS.den := nodS.dflt;
  let q4 : nodS.den := a.getD (hd xs).toI.toNat q3;
  let q5 : nodS.den := b.getD (hd xs).toI.toNat q3;
  let q6 : ((Sh.int IntKind.i64).prod ((Sh.int IntKind.i64).prod Sh.unit)).den := q4.snd;
  let q7 : ((Sh.int IntKind.i64).prod ((Sh.int IntKind.i64).prod Sh.unit)).den := q5.snd;
  let q8 : Bool := sNot (sAnd (sEq q4.fst q5.fst) (sAnd (sEq q6.fst q7.fst) (sAnd (sEq q6.snd.fst q7.snd.fst) true)));
  let q9 : Tg := Tg.block 1 (Tg.mix q8 Tg.r Tg.n);
  (sAnd true
    (sIf true
      (sAnd (sAnd true (sIf q0 true true))
        (sIf q1.isN
          (sAnd
            (sAnd true
              (sIf true
                (sAnd
                  (sAnd
                    (sAnd true
                      (sAnd true
                        (sAnd (sAnd true (sAnd q2 q0))
                          (sAnd true
                            (sAnd true (sAnd true (sAnd (sAnd true (sAnd q2 (sLt (hd xs).toI ↑b.length))) true)))))))
                    true)
                  (sIf true (sAnd true (sIf q8 true true)) true))
                true))
            (sIf q9.isN true true))
          true))
      true),
  (q1.thenN (q9.thenN Tg.n)).isN, [Sc.i (IntKind.i64.wrap ((hd xs).toI + 1))])
noncomputable def xL12_0 (a : List nodS.den) (b : List nodS.den) : List Sc := Option.getD (whileW (xs12_0 a b) [Sc.i 0]) [Sc.i 0]
theorem xf12 (a : List nodS.den) (b : List nodS.den) : exFn (gX w1) Tryd.f12 [AV.dsl nodS a, AV.dsl nodS b] = (
 let q0 : Int := ↑a.length;
  let q1 : Int := ↑b.length;
  let q2 : Bool := sNe q0 q1;
  let q3 : Bool := (Tg.mix q2 Tg.r Tg.n).isN;
  let q4 : Bool := sLt (hd (xL12_0 a b)).toI q0;
  let q5 : Tg := Tg.mix q4 Tg.n (Tg.x 0);
  let q6 : Bool := sLe 0 (hd (xL12_0 a b)).toI;
  let q7 : nodS.den := nodS.dflt;
  let q8 : nodS.den := a.getD (hd (xL12_0 a b)).toI.toNat q7;
  let q9 : nodS.den := b.getD (hd (xL12_0 a b)).toI.toNat q7;
  let q10 : ((Sh.int IntKind.i64).prod ((Sh.int IntKind.i64).prod Sh.unit)).den := q8.snd;
  let q11 : ((Sh.int IntKind.i64).prod ((Sh.int IntKind.i64).prod Sh.unit)).den := q9.snd;
  let q12 : Bool := sNot (sAnd (sEq q8.fst q9.fst) (sAnd (sEq q10.fst q11.fst) (sAnd (sEq q10.snd.fst q11.snd.fst) true)));
  let q13 : Tg := Tg.block 1 (Tg.mix q12 Tg.r Tg.n);
  let q14 : Bool := (Tg.block 0 (q5.thenN (q13.thenN Tg.n))).isN;
  some
  (sAnd true
      (sIf true
        (sAnd (sAnd true (sIf true (sAnd true (sIf q2 true true)) true))
          (sIf q3
            (sAnd
              (sAnd true
                (sIf true
                  (sAnd (sSome (whileW (xs12_0 a b) [Sc.i 0]))
                    (sAnd true
                      (sIf true
                        (sAnd (sAnd true (sIf q4 true true))
                          (sIf q5.isN
                            (sAnd
                              (sAnd true
                                (sIf true
                                  (sAnd
                                    (sAnd
                                      (sAnd true
                                        (sAnd true
                                          (sAnd (sAnd true (sAnd q6 q4))
                                            (sAnd true
                                              (sAnd true
                                                (sAnd true
                                                  (sAnd (sAnd true (sAnd q6 (sLt (hd (xL12_0 a b)).toI q1))) true)))))))
                                      true)
                                    (sIf true (sAnd true (sIf q12 true true)) true))
                                  true))
                              (sIf q13.isN true true))
                            true))
                        true)))
                  true))
              (sIf q14 true true))
            true))
        true),
    AV.bool (sIf q3 (sIf q14 true false) false))) := by kernel_rfl
theorem xf13 (r : Int) : exFn (gX w1) Tryd.f13 [AV.int IntKind.i64 r] = (
 some
  (true,
    AV.dsl nodS
      [(4, 0, r, PUnit.unit)])) := by kernel_rfl
theorem xf14 (r : Int) : exFn (gX w1) Tryd.f14 [AV.int IntKind.i64 r] = (
 some
  (true,
    AV.dsl nodS
      [(4, 0, r, PUnit.unit)])) := by kernel_rfl
theorem xf15 (t : Int) (n : Int) : exFn (gX w1) Tryd.f15 [AV.int IntKind.i64 t, AV.int IntKind.i64 n] = (
 some
  (true,
    AV.dsl nodS
      [(1, t, n, PUnit.unit)])) := by kernel_rfl
theorem xf16 (t : Int) (n : Int) : exFn (gX w1) Tryd.f16 [AV.int IntKind.i64 t, AV.int IntKind.i64 n] = (
 some
  (true,
    AV.dsl nodS
      [(1, t, n, PUnit.unit)])) := by kernel_rfl
def neN (x y : Nod) : Bool := sNot (sAnd (sEq x.1 y.1) (sAnd (sEq x.2.1 y.2.1) (sAnd (sEq x.2.2.1 y.2.2.1) true)))
theorem neN_iff (x y : Nod) : neN x y = false ↔ x = y := by
  obtain ⟨a, b, c, u⟩ := x
  obtain ⟨a', b', c', u'⟩ := y
  simp [neN, sEq]
open Classical in
/-- Whether two lists of nodes are the same. -/
noncomputable def eqNods (a b : List Nod) : Bool := decide (a = b)
def neAt (a b : List Nod) (j : Nat) : Bool := neN (a.getD j nodS.dflt) (b.getD j nodS.dflt)
theorem neAt_all {a b : List Nod} (hl : a.length = b.length) : (∀ j, j < a.length → neAt a b j = false) ↔ a = b := by
  constructor
  · intro h
    apply List.ext_getElem hl
    intro i h1 h2
    have := (neN_iff _ _).1 (h i h1)
    rw [List.getD_eq_getElem?_getD, List.getD_eq_getElem?_getD, List.getElem?_eq_getElem h1, List.getElem?_eq_getElem h2] at this
    exact this
  · rintro rfl j _
    exact (neN_iff _ _).2 rfl
theorem step12 (a b : List Nod) (hl : a.length = b.length) (hb : a.length ≤ 1000000) (j : Nat) (hj : j < a.length) :
    (neAt a b j = false → xs12_0 a b [Sc.i (j : Int)] = (true, true, [Sc.i ((j + 1 : Nat) : Int)])) ∧ (neAt a b j = true → (xs12_0 a b [Sc.i (j : Int)]).1 = true ∧ (xs12_0 a b [Sc.i (j : Int)]).2.1 = false) := by
  have h1 : sLt (j : Int) (a.length : Int) = true := sLt_true (by omega)
  have h2 : sLt (j : Int) (b.length : Int) = true := sLt_true (by omega)
  have h0 : sLe 0 (j : Int) = true := decide_eq_true (by omega)
  have hw : IntKind.wrap .i64 ((j : Int) + 1) = ((j + 1 : Nat) : Int) := wrap_i64 (by omega) (by omega)
  simp only [xs12_0, hd_cons, tl_cons, Sc.toI_i, Int.toNat_natCast, h1, h2, h0, hw]
  have hn : sNot (sAnd (sEq (a.getD j nodS.dflt).1 (b.getD j nodS.dflt).1) (sAnd (sEq (a.getD j nodS.dflt).2.1 (b.getD j nodS.dflt).2.1) (sAnd (sEq (a.getD j nodS.dflt).2.2.1 (b.getD j nodS.dflt).2.2.1) true))) = neAt a b j := rfl
  rw [hn]
  generalize neAt a b j = c
  cases c
  · exact ⟨fun _ => rfl, fun h => by cases h⟩
  · exact ⟨fun h => (by cases h), fun _ => ⟨rfl, rfl⟩⟩
theorem stop12 (a b : List Nod) : (xs12_0 a b [Sc.i (a.length : Int)]).1 = true ∧ (xs12_0 a b [Sc.i (a.length : Int)]).2.1 = false := by
  have h1 : sLt (a.length : Int) (a.length : Int) = false := sLt_false (by omega)
  simp only [xs12_0, hd_cons, tl_cons, Sc.toI_i, h1]
  exact ⟨rfl, rfl⟩
theorem run12 (a b : List Nod) (hl : a.length = b.length) (hb : a.length ≤ 1000000) : whileW (xs12_0 a b) [Sc.i 0] = some [Sc.i ((scanN a.length (neAt a b) : Nat) : Int)] :=
  scanW (fun j => [Sc.i (j : Int)]) a.length (neAt a b) rfl (fun j hj => (step12 a b hl hb j hj).1) (fun j hj => (step12 a b hl hb j hj).2) (stop12 a b)
theorem natEq (a b : List Nod) (hb : a.length ≤ 1000000) : exFn (gX w1) Tryd.f12 [AV.dsl nodS a, AV.dsl nodS b] = some (true, .bool (eqNods a b)) := by
  rw [xf12]
  by_cases hl : a.length = b.length
  · have L : xL12_0 a b = [Sc.i ((scanN a.length (neAt a b) : Nat) : Int)] := by unfold xL12_0; rw [run12 a b hl hb]; rfl
    rw [L, run12 a b hl hb]
    have hq : sNe (a.length : Int) (b.length : Int) = false := by rw [hl]; simp [sNe]
    have hle := scanN_le a.length (neAt a b)
    rcases Nat.lt_or_ge (scanN a.length (neAt a b)) a.length with h | h
    · have ht := scanN_at h
      have hne : eqNods a b = false := by
        unfold eqNods
        rw [decide_eq_false_iff_not]
        intro e
        rw [(neAt_all hl).2 e _ h] at ht
        cases ht
      rw [hne]
      generalize scanN a.length (neAt a b) = j at h ht
      have h1 : sLt (j : Int) (a.length : Int) = true := sLt_true (by omega)
      have h2 : sLt (j : Int) (b.length : Int) = true := sLt_true (by omega)
      have h0 : sLe 0 (j : Int) = true := decide_eq_true (by omega)
      simp only [hd_cons, tl_cons, Sc.toI_i, Int.toNat_natCast, h1, h2, h0, hq]
      have hn : sNot (sAnd (sEq (a.getD j nodS.dflt).1 (b.getD j nodS.dflt).1) (sAnd (sEq (a.getD j nodS.dflt).2.1 (b.getD j nodS.dflt).2.1) (sAnd (sEq (a.getD j nodS.dflt).2.2.1 (b.getD j nodS.dflt).2.2.1) true))) = neAt a b j := rfl
      rw [hn, ht]
      rfl
    · have hs : scanN a.length (neAt a b) = a.length := by omega
      have he : eqNods a b = true := by
        unfold eqNods
        rw [decide_eq_true_iff]
        exact (neAt_all hl).1 fun j hj => scanN_before (n := a.length) (by omega)
      rw [he, hs]
      have h1 : sLt (a.length : Int) (a.length : Int) = false := sLt_false (by omega)
      simp only [hd_cons, tl_cons, Sc.toI_i, h1, hq]
      rfl
  · have hq : sNe (a.length : Int) (b.length : Int) = true := by simp [sNe]; omega
    have he : eqNods a b = false := by
      unfold eqNods
      rw [decide_eq_false_iff_not]
      rintro rfl
      exact hl rfl
    rw [he]
    simp only [hq]
    rfl
def len1M (n : Nat) : Bool := Nat.ble n 1000000
noncomputable def xm12 : List AV → Option (Bool × AV)
  | [a, b] => (asNods a).bind fun a => (asNods b).bind fun b => some (len1M a.length, .bool (eqNods a b))
  | _ => none
theorem xk12 (hm : Tryd.prog.follows .mixedOrders = true) : KOk E0 12 (preC (argsT Tryd.prog Tryd.f12) xm12) := KOk.preC ((wk1 hm).read hm Tryd.func12 (by decide) (by rfl) (by
  intro xs r h
  unfold xm12 at h
  split at h
  · simp only [Option.bind_eq_some_iff, Option.some.injEq, Prod.mk.injEq] at h
    obtain ⟨a, ha, b, hb, h1, rfl⟩ := h
    rw [asNods_eq ha, asNods_eq hb]
    exact natEq a b (Nat.le_of_ble_eq_true h1)
  · cases h)) _
def xm13 : List AV → Option (Bool × AV)
  | [.int .i64 r] => some (true, .dsl nodS [((4, 0, r, ()) : Nod)])
  | _ => none
def xm15 : List AV → Option (Bool × AV)
  | [.int .i64 t, .int .i64 n] => some (true, .dsl nodS [((1, t, n, ()) : Nod)])
  | _ => none
theorem xk13 (hm : Tryd.prog.follows .mixedOrders = true) : KOk E0 13 xm13 := (wk1 hm).read hm Tryd.func13 (by decide) (by rfl) (by
  intro xs r h
  unfold xm13 at h
  split at h
  · cases h; exact xf13 _
  · cases h)
theorem xk14 (hm : Tryd.prog.follows .mixedOrders = true) : KOk E0 14 xm13 := (wk1 hm).read hm Tryd.func14 (by decide) (by rfl) (by
  intro xs r h
  unfold xm13 at h
  split at h
  · cases h; exact xf14 _
  · cases h)
theorem xk15 (hm : Tryd.prog.follows .mixedOrders = true) : KOk E0 15 xm15 := (wk1 hm).read hm Tryd.func15 (by decide) (by rfl) (by
  intro xs r h
  unfold xm15 at h
  split at h
  · cases h; exact xf15 _ _
  · cases h)
theorem xk16 (hm : Tryd.prog.follows .mixedOrders = true) : KOk E0 16 xm15 := (wk1 hm).read hm Tryd.func16 (by decide) (by rfl) (by
  intro xs r h
  unfold xm15 at h
  split at h
  · cases h; exact xf16 _ _
  · cases h)
noncomputable def w2 : XTab := { w1 with k := (12, preC (argsT Tryd.prog Tryd.f12) xm12) :: (13, xm13) :: (14, xm13) :: (15, xm15) :: (16, xm15) :: w1.k, n := (17, xm17) :: (18, xm17) :: w1.n }
theorem wk2 (hm : Tryd.prog.follows .mixedOrders = true) : XOk w2 := ((((((((wk1 hm).consK (xk16 hm)).consK (xk15 hm)).consK (xk14 hm)).consK (xk13 hm)).consK (xk12 hm)).consN (xk18 hm)).consN (xk17 hm))
end Go.Proofs.YtaajbcflmaihgaaDoor
