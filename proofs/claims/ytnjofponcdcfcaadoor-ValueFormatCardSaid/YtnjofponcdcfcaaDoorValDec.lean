/- Decimal numbers by division, one digit at a time; numbers' texts differ. No conditions. -/
import Derived.Test.YtnjofponcdcfcaaDoorValFmt
import Derived.Test.YtnjofponcdcfcaaDoorValNat5
import Derived.Lib.ItoaLen
set_option linter.all false
namespace Go.Proofs.YtnjofponcdcfcaaDoor
open Go Ab
set_option maxRecDepth 100000
/-! Pieces between a separator -/
theorem sep_inj {α : Type} (c : α) : ∀ {t u r s : List α}, c ∉ t → c ∉ u → (r = [] ∨ ∃ r', r = c :: r') → (s = [] ∨ ∃ s', s = c :: s') → t ++ r = u ++ s → t = u ∧ r = s
  | [], [], r, s, _, _, _, _, h => ⟨rfl, by simpa using h⟩
  | [], y :: u, r, s, _, hu, hr, _, h => by
    rcases hr with rfl | ⟨r', rfl⟩
    · simp at h
    · simp only [List.nil_append, List.cons_append, List.cons.injEq] at h
      exact absurd (h.1 ▸ List.mem_cons_self ..) hu
  | x :: t, [], r, s, ht, _, _, hs, h => by
    rcases hs with rfl | ⟨s', rfl⟩
    · simp at h
    · simp only [List.nil_append, List.cons_append, List.cons.injEq] at h
      exact absurd (h.1 ▸ List.mem_cons_self ..) ht
  | x :: t, y :: u, r, s, ht, hu, hr, hs, h => by
    simp only [List.cons_append, List.cons.injEq] at h
    obtain ⟨rfl, h⟩ := h
    obtain ⟨rfl, h2⟩ := sep_inj c (fun m => ht (List.mem_cons_of_mem _ m)) (fun m => hu (List.mem_cons_of_mem _ m)) hr hs h
    exact ⟨rfl, h2⟩
/-! Decimal numbers -/
theorem dec_digit (u : Nat) : ∀ b ∈ Lib.decDigits u, 48 ≤ b.toNat ∧ b.toNat ≤ 57 := by
  induction u using Nat.strongRecOn with
  | _ u ih =>
    intro b hb
    rw [Lib.decDigits] at hb
    split at hb
    · rename_i h
      simp only [List.mem_singleton] at hb
      subst hb
      rw [UInt8.toNat_ofNat']
      omega
    · rename_i h
      rcases List.mem_append.1 hb with hb | hb
      · exact ih (u / 10) (by omega) b hb
      · simp only [List.mem_singleton] at hb
        subst hb
        rw [UInt8.toNat_ofNat']
        omega
def valDec (l : List UInt8) : Nat := l.foldl (fun a b => a * 10 + (b.toNat - 48)) 0
theorem val_dec (u : Nat) : valDec (Lib.decDigits u) = u := by
  induction u using Nat.strongRecOn with
  | _ u ih =>
    rw [Lib.decDigits]
    split
    · rename_i h
      simp only [valDec, List.foldl_cons, List.foldl_nil]
      rw [UInt8.toNat_ofNat']
      omega
    · rename_i h
      unfold valDec
      rw [List.foldl_append]
      have := ih (u / 10) (by omega)
      unfold valDec at this
      rw [this]
      simp only [List.foldl_cons, List.foldl_nil]
      rw [UInt8.toNat_ofNat']
      omega
theorem dec_ne (u : Nat) : Lib.decDigits u ≠ [] := by
  rw [Lib.decDigits]
  split <;> simp
theorem dec_inj {u v : Nat} (h : Lib.decDigits u = Lib.decDigits v) : u = v := by rw [← val_dec u, h, val_dec]
theorem itoa_byte (n : Int) : ∀ b ∈ Lib.itoa n, b.toNat = 45 ∨ (48 ≤ b.toNat ∧ b.toNat ≤ 57) := by
  intro b hb
  unfold Lib.itoa at hb
  split at hb
  · rcases List.mem_cons.1 hb with rfl | hb
    · exact .inl rfl
    · exact .inr (dec_digit _ b hb)
  · exact .inr (dec_digit _ b hb)
theorem itoa_inj {m n : Int} (h : Lib.itoa m = Lib.itoa n) : m = n := by
  have key : ∀ (u : Nat) (l : List UInt8), Lib.decDigits u = 45 :: l → False := by
    intro u l e
    have := dec_digit u 45 (by rw [e]; exact List.mem_cons_self ..)
    have e2 : (45 : UInt8).toNat = 45 := rfl
    omega
  unfold Lib.itoa at h
  split at h
  · split at h
    · simp only [List.cons.injEq, true_and] at h
      have := dec_inj h
      omega
    · exact absurd h.symm (fun e => key _ _ e)
  · split at h
    · exact absurd h (fun e => key _ _ e)
    · have := dec_inj h
      omega
theorem itoa_ne (n : Int) : Lib.itoa n ≠ [] := by
  unfold Lib.itoa
  split
  · simp
  · exact dec_ne _
def bL (l : List UInt8) : ByteArray := ⟨l.toArray⟩
theorem bL_app (l m : List UInt8) : bL l ++ bL m = bL (l ++ m) := by
  apply ByteArray.ext
  simp [bL]
theorem bL_size (l : List UInt8) : (bL l).size = l.length := by simp [bL, ByteArray.size]
theorem bL_of (s : ByteArray) : s = bL s.data.toList := by
  apply ByteArray.ext
  simp [bL]
noncomputable def xs52_0 (n : Int) : List Sc → Bool × Bool × List Sc := fun xs => let q0 : Int := (hd (tl xs)).toI.tmod 10;
  let q1 : Bool := sLt q0 0;
  let q2 : Tg := Tg.mix q1 Tg.n Tg.n;
  let q3 : Int := sIf q1 (IntKind.i64.wrap (0 - q0)) q0;
  let q4 : Int := (some q3).getD 0;
  let q5 : Int := (some (IntKind.i64.wrap (q3 + 1))).getD ↑10;
  let q6 : ByteArray := (ByteArray.mk (Array.mk [48, 49, 50, 51, 52, 53, 54, 55, 56, 57])).extract q4.toNat q5.toNat;
  let q7 : Int := IntKind.i64.wrap ((hd (tl xs)).toI.tdiv 10);
  let q8 : Bool := sEq q7 0;
  let q9 : Tg := Tg.block 1 (q2.thenN (Tg.mix q8 (Tg.x 0) Tg.n));
  (sAnd
    (sAnd true
      (sIf true
        (sAnd (sAnd true (sIf true (sAnd true (sIf q1 true true)) true))
          (sIf q2.isN
            (sAnd
              (sAnd true
                (sAnd true
                  (sAnd true
                    (sAnd (sAnd true (sAnd (sAnd (sLe 0 q4) (sLe q4 q5)) (sLe q5 ↑10)))
                      (sAnd true (sAnd (sAnd true (sLe (↑(q6.size + (hd xs).toS.size)) (2 ^ 63 - 1))) true))))))
              (sIf true (sAnd true (sIf true (sAnd true (sIf q8 true true)) true)) true))
            true))
        true))
    (sIf q9.isN true true),
  (q9.thenN Tg.n).isN, [Sc.s (q6 ++ (hd xs).toS), Sc.i q7])
noncomputable def xL52_0 (n : Int) : List Sc := Option.getD (whileW (xs52_0 n) [Sc.s { data := { toList := [] } }, Sc.i n]) [Sc.s { data := { toList := [] } }, Sc.i n]
theorem xf52 (n : Int) : exFn (gX a7) Tryd.f52 [AV.int IntKind.i64 n] = (
 let q0 : Int := (hd (tl (xL52_0 n))).toI.tmod 10;
  let q1 : Bool := sLt q0 0;
  let q2 : Tg := Tg.mix q1 Tg.n Tg.n;
  let q3 : Int := sIf q1 (IntKind.i64.wrap (0 - q0)) q0;
  let q4 : Int := (some q3).getD 0;
  let q5 : Int := (some (IntKind.i64.wrap (q3 + 1))).getD ↑10;
  let q6 : ByteArray := (ByteArray.mk (Array.mk [48, 49, 50, 51, 52, 53, 54, 55, 56, 57])).extract q4.toNat q5.toNat;
  let q7 : Int := 2 ^ 63 - 1;
  let q8 : Bool := sEq (IntKind.i64.wrap ((hd (tl (xL52_0 n))).toI.tdiv 10)) 0;
  let q9 : Tg := Tg.block 1 (q2.thenN (Tg.mix q8 (Tg.x 0) Tg.n));
  let q10 : ByteArray := q6 ++ (hd (xL52_0 n)).toS;
  some
  (sAnd true
      (sIf true
        (sAnd true
          (sIf true
            (sAnd
              (sAnd true
                (sIf true
                  (sAnd (sSome (whileW (xs52_0 n) [Sc.s { data := { toList := [] } }, Sc.i n]))
                    (sAnd
                      (sAnd true
                        (sIf true
                          (sAnd (sAnd true (sIf true (sAnd true (sIf q1 true true)) true))
                            (sIf q2.isN
                              (sAnd
                                (sAnd true
                                  (sAnd true
                                    (sAnd true
                                      (sAnd (sAnd true (sAnd (sAnd (sLe 0 q4) (sLe q4 q5)) (sLe q5 ↑10)))
                                        (sAnd true
                                          (sAnd (sAnd true (sLe (↑(q6.size + (hd (xL52_0 n)).toS.size)) q7)) true))))))
                                (sIf true (sAnd true (sIf true (sAnd true (sIf q8 true true)) true)) true))
                              true))
                          true))
                      (sIf q9.isN true true)))
                  true))
              (sIf (Tg.block 0 (q9.thenN Tg.n)).isN
                (sAnd
                  (sAnd true
                    (sIf true
                      (sAnd true (sIf (sLt n 0) (sAnd true (sAnd (sAnd true (sLe (↑(1 + q10.size)) q7)) true)) true))
                      true))
                  (sIf (Tg.mix (sLt n 0) Tg.n Tg.n).isN true true))
                true))
            true))
        true),
    AV.str (sIf (sLt n 0) ({ data := { toList := [45] } } ++ q10) q10))) := by kernel_rfl

/-! The loop -/
def remT (n : Int) : Nat → Int
  | 0 => n
  | k + 1 => (remT n k).tdiv 10
def digT (n : Int) : Nat → List UInt8
  | 0 => []
  | k + 1 => UInt8.ofNat (48 + (remT n k).natAbs % 10) :: digT n k
theorem abs10 (m : Int) : (m.tdiv 10).natAbs = m.natAbs / 10 := Int.natAbs_tdiv m 10
theorem remT_abs (n : Int) (k : Nat) : (remT n k).natAbs = n.natAbs / 10 ^ k := by
  induction k with
  | zero => simp [remT]
  | succ k ih =>
    rw [remT, abs10, ih, Nat.pow_succ, Nat.div_div_eq_div_mul]
theorem dig_dec (n : Int) (k : Nat) (h : ∀ j, j < k → 10 ≤ (remT n j).natAbs) : Lib.decDigits n.natAbs = Lib.decDigits (remT n k).natAbs ++ digT n k := by
  induction k with
  | zero => simp [remT, digT]
  | succ k ih =>
    rw [ih fun j hj => h j (by omega), Lib.decDigits, dif_neg (by have := h k (by omega); omega), remT, digT, abs10]
    simp
theorem digT_len (n : Int) (k : Nat) : (digT n k).length = k := by
  induction k with
  | zero => rfl
  | succ k ih => simp [digT, ih]
def lastT (n : Int) : Nat := Lib.nDigits n.natAbs - 1
theorem nd_before : ∀ (j u : Nat), j + 1 < Lib.nDigits u → 10 ≤ u / 10 ^ j
  | 0, u, h => by
    have h10 : ¬ u < 10 := fun hh => by rw [Lib.nDigits_small hh] at h; omega
    simpa using h10
  | j + 1, u, h => by
    have h10 : ¬ u < 10 := fun hh => by rw [Lib.nDigits_small hh] at h; omega
    rw [Lib.nDigits_big h10] at h
    have := nd_before j (u / 10) (by omega)
    rw [Nat.div_div_eq_div_mul] at this
    rw [Nat.pow_succ, Nat.mul_comm]
    exact this
theorem last_before {n : Int} {j : Nat} (h : j < lastT n) : 10 ≤ (remT n j).natAbs := by
  rw [remT_abs]
  exact nd_before j _ (by unfold lastT at h; omega)
theorem last_at (n : Int) : (remT n (lastT n)).natAbs < 10 := by
  rw [remT_abs]
  unfold lastT
  have h1 := Lib.lt_pow_nDigits n.natAbs
  have h2 := Lib.nDigits_pos n.natAbs
  rw [Nat.div_lt_iff_lt_mul (Nat.pow_pos (by omega)), ← Nat.pow_succ']
  rwa [show (Lib.nDigits n.natAbs - 1).succ = Lib.nDigits n.natAbs by omega]
theorem remT_range {n : Int} (h : okImm n = true) (k : Nat) : -9223372036854775808 ≤ remT n k ∧ remT n k ≤ 9223372036854775807 := by
  have h := of_decide_eq_true h
  induction k with
  | zero => exact h
  | succ k ih =>
    rw [remT]
    have := abs10 (remT n k)
    omega
theorem digit_ex : ∀ d : Nat, d < 10 → ({ data := { toList := [48, 49, 50, 51, 52, 53, 54, 55, 56, 57] } } : ByteArray).extract d (d + 1) = bL [UInt8.ofNat (48 + d)] := by decide
/-- One digit. -/
theorem digit_of (m : Int) (h0 : -9223372036854775808 ≤ m) (h1 : m ≤ 9223372036854775807) : ∃ d : Nat, d = m.natAbs % 10 ∧ sIf (sLt (m.tmod 10) 0) (IntKind.i64.wrap (0 - m.tmod 10)) (m.tmod 10) = (d : Int) ∧ d < 10 := by
  refine ⟨_, rfl, ?_, by omega⟩
  have ha : (m.tmod 10).natAbs = m.natAbs % 10 := Int.natAbs_tmod m 10
  by_cases h : m.tmod 10 < 0
  · rw [sLt_true h, wrap_i64 (by omega) (by omega)]
    show 0 - m.tmod 10 = _
    omega
  · rw [sLt_false h]
    show m.tmod 10 = _
    omega
theorem step52 (n : Int) (h : okImm n = true) (k : Nat) (hk : k ≤ 30) :
    (xs52_0 n [Sc.s (bL (digT n k)), Sc.i (remT n k)]).1 = true ∧ (xs52_0 n [Sc.s (bL (digT n k)), Sc.i (remT n k)]).2.1 = decide (10 ≤ (remT n k).natAbs) ∧ (xs52_0 n [Sc.s (bL (digT n k)), Sc.i (remT n k)]).2.2 = [Sc.s (bL (digT n (k + 1))), Sc.i (remT n (k + 1))] := by
  obtain ⟨h0, h1⟩ := remT_range h k
  obtain ⟨d, hd, he, hl⟩ := digit_of (remT n k) h0 h1
  have h2 := remT_range h (k + 1)
  rw [remT] at h2
  have hw : IntKind.i64.wrap ((remT n k).tdiv 10) = (remT n k).tdiv 10 := wrap_i64 h2.1 h2.2
  have hd1 : IntKind.i64.wrap ((d : Int) + 1) = ((d + 1 : Nat) : Int) := wrap_i64 (by omega) (by omega)
  simp only [xs52_0, hd_cons, tl_cons, Sc.toI_i, Sc.toS_s, he, hw, hd1, Option.getD_some, Int.toNat_natCast, digit_ex d hl, bL_app, bL_size]
  have e1 : sLe 0 (d : Int) = true := decide_eq_true (by omega)
  have e2 : sLe (d : Int) ((d + 1 : Nat) : Int) = true := decide_eq_true (by omega)
  have e3 : sLe ((d + 1 : Nat) : Int) 10 = true := decide_eq_true (by omega)
  have e4 : sLe (([UInt8.ofNat (48 + d)].length + (digT n k).length : Nat) : Int) (2 ^ 63 - 1) = true := decide_eq_true (by rw [digT_len]; simp; omega)
  have e5 : sEq ((remT n k).tdiv 10) 0 = !decide (10 ≤ (remT n k).natAbs) := by
    have := abs10 (remT n k)
    by_cases hh : 10 ≤ (remT n k).natAbs
    · rw [decide_eq_true hh]
      simp only [sEq, Bool.not_true, beq_eq_false_iff_ne]
      omega
    · rw [decide_eq_false hh]
      simp only [sEq, Bool.not_false, beq_iff_eq]
      omega
  rw [e1, e2, e3, e4, e5]
  have e6 : [UInt8.ofNat (48 + d)] ++ digT n k = digT n (k + 1) := by rw [hd]; rfl
  rw [e6]
  generalize sLt ((remT n k).tmod 10) 0 = c
  generalize decide (10 ≤ (remT n k).natAbs) = b
  cases c <;> cases b <;> exact ⟨rfl, rfl, rfl⟩
theorem lastT_le {n : Int} (h : okImm n = true) : lastT n ≤ 20 := by
  have h := of_decide_eq_true h
  have := Lib.nDigits_le20 n.natAbs (by omega)
  unfold lastT
  omega
theorem run52 (n : Int) (h : okImm n = true) : whileW (xs52_0 n) [Sc.s { data := { toList := [] } }, Sc.i n] = some [Sc.s (bL (digT n (lastT n))), Sc.i (remT n (lastT n))] := by
  have hl := lastT_le h
  refine whileW_upto (fun k => [Sc.s (bL (digT n k)), Sc.i (remT n k)]) (lastT n) rfl (fun j hj => ?_) ?_ ?_
  · obtain ⟨h1, h2, h3⟩ := step52 n h j (by omega)
    rw [decide_eq_true (last_before hj)] at h2
    exact Prod.ext h1 (Prod.ext h2 h3)
  · exact (step52 n h (lastT n) (by omega)).1
  · rw [(step52 n h (lastT n) (by omega)).2.1]
    exact decide_eq_false (by have := last_at n; omega)
theorem dec_all (n : Int) : digT n (lastT n + 1) = Lib.decDigits n.natAbs := by
  rw [dig_dec n (lastT n) fun j hj => last_before hj, Lib.decDigits, dif_pos (last_at n), digT]
  have := last_at n
  rw [Nat.mod_eq_of_lt this]
  rfl
theorem nat52 (n : Int) (h : okImm n = true) : exFn (gX a7) Tryd.f52 [.int .i64 n] = some (true, .str (decA n)) := by
  have hl := lastT_le h
  have hn := of_decide_eq_true h
  obtain ⟨h0, h1⟩ := remT_range h (lastT n)
  obtain ⟨d, hd, he, hl10⟩ := digit_of (remT n (lastT n)) h0 h1
  have h2 := remT_range h (lastT n + 1)
  rw [remT] at h2
  have hw : IntKind.i64.wrap ((remT n (lastT n)).tdiv 10) = (remT n (lastT n)).tdiv 10 := wrap_i64 h2.1 h2.2
  have hd1 : IntKind.i64.wrap ((d : Int) + 1) = ((d + 1 : Nat) : Int) := wrap_i64 (by omega) (by omega)
  have L : xL52_0 n = [Sc.s (bL (digT n (lastT n))), Sc.i (remT n (lastT n))] := by unfold xL52_0; rw [run52 n h]; rfl
  rw [xf52]
  have h45 : ({ data := { toList := [45] } } : ByteArray) = bL [45] := rfl
  rw [L, run52 n h]
  simp only [hd_cons, tl_cons, Sc.toI_i, Sc.toS_s, he, hw, hd1, Option.getD_some, Int.toNat_natCast, digit_ex d hl10, bL_app, bL_size, sSome_some, h45]
  have e1 : sLe 0 (d : Int) = true := decide_eq_true (by omega)
  have e2 : sLe (d : Int) ((d + 1 : Nat) : Int) = true := decide_eq_true (by omega)
  have e3 : sLe ((d + 1 : Nat) : Int) 10 = true := decide_eq_true (by omega)
  have e4 : sLe (([UInt8.ofNat (48 + d)].length + (digT n (lastT n)).length : Nat) : Int) (2 ^ 63 - 1) = true := decide_eq_true (by rw [digT_len]; simp; omega)
  have e5 : sEq ((remT n (lastT n)).tdiv 10) 0 = true := by
    have := abs10 (remT n (lastT n))
    have := last_at n
    simp only [sEq, beq_iff_eq]
    omega
  have e6 : [UInt8.ofNat (48 + d)] ++ digT n (lastT n) = Lib.decDigits n.natAbs := by rw [← dec_all, hd]; rfl
  have e7 : (Lib.decDigits n.natAbs).length ≤ 21 := by rw [← dec_all, digT_len]; omega
  have e8 : sLe ((1 + (Lib.decDigits n.natAbs).length : Nat) : Int) (2 ^ 63 - 1) = true := decide_eq_true (by omega)
  rw [e1, e2, e3, e4, e5, e6, e8]
  have e9 : decA n = sIf (sLt n 0) (bL ([45] ++ Lib.decDigits n.natAbs)) (bL (Lib.decDigits n.natAbs)) := by
    unfold decA Lib.itoa
    by_cases hh : n < 0
    · rw [if_pos hh, sLt_true hh]; rfl
    · rw [if_neg hh, sLt_false hh, show n.toNat = n.natAbs by omega]; rfl
  rw [e9]
  generalize sLt ((remT n (lastT n)).tmod 10) 0 = c
  generalize sLt n 0 = b
  cases c <;> cases b <;> rfl
def xm52 : List AV → Option (Bool × AV)
  | [.int .i64 n] => some (okImm n, .str (decA n))
  | _ => none
theorem xk52 (hm : Tryd.prog.follows .mixedOrders = true) : KOk E0 52 xm52 := (ak7 hm).read hm Tryd.func52 (ent Tryd.func52 (by decide) (by rfl)) {} (by
  intro xs r h
  unfold xm52 at h
  split at h
  · simp only [Option.some.injEq, Prod.mk.injEq] at h
    obtain ⟨h, rfl⟩ := h
    exact nat52 _ h
  · cases h)
end Go.Proofs.YtnjofponcdcfcaaDoor
