-- Printed by a program of this project (xprint), after the kit's print; Lean checks every line.
import Derived.Test.YtjfpaglnadfppaaPx0
import Derived.Test.YtjfpaglnadfppaaPx4
import Derived.Test.YtjfpaglnadfppaaPx5
namespace Go.Proofs.Ytjfpaglnadfppaa.P
open Go.RowKit Go.Proofs.YtjfpaglnadfppaaW.PrintWords Go.Proofs.YtjfpaglnadfppaaW.PrintLast Go.Proofs.YtjfpaglnadfppaaW.PrintMore
attribute [local go_sem] max2_int min2_int max_two min_two max_three min_three max_four min_four   -- for this text's walks alone
set_option linter.unusedVariables false
set_option linter.unusedSimpArgs false

/-! ### burnishref13_number: function 29 -/
mutual
def burnishref13_number.j0 : Nat → ByteArray → Int → Int → ByteArray → Option (Int × Int × Int × ByteArray × Int)
  | 0, _, _, _, _ => none
  | k + 1, x0, x1, x2, x8 => if (x8.size : Int) > 1 then (if 0 < (x8.size : Int) then (if (bt x8 0) = 48 then (burnishref13_number.j1 k x0 x1 x2 true) else (if 0 ≤ x1 then (if x1 ≤ x2 then (if x2 ≤ (x0.size : Int) then (if (x0.extract (x1 : Int).toNat (x2 : Int).toNat).toList = ([45, 48] : List UInt8) then (burnishref13_number.j1 k x0 x1 x2 true) else (if x2 < (x0.size : Int) then (if 0 ≤ x2 then ((burnishref13_letter.f (bt x0 x2)).bind fun t161 => (burnishref13_number.j1 k x0 x1 x2 t161)) else (none)) else (burnishref13_number.j1 k x0 x1 x2 false))) else (none)) else (none)) else (none))) else (none)) else (if 0 ≤ x1 then (if x1 ≤ x2 then (if x2 ≤ (x0.size : Int) then (if (x0.extract (x1 : Int).toNat (x2 : Int).toNat).toList = ([45, 48] : List UInt8) then (burnishref13_number.j1 k x0 x1 x2 true) else (if x2 < (x0.size : Int) then (if 0 ≤ x2 then ((burnishref13_letter.f (bt x0 x2)).bind fun t162 => (burnishref13_number.j1 k x0 x1 x2 t162)) else (none)) else (burnishref13_number.j1 k x0 x1 x2 false))) else (none)) else (none)) else (none))
def burnishref13_number.j1 : Nat → ByteArray → Int → Int → Bool → Option (Int × Int × Int × ByteArray × Int)
  | 0, _, _, _, _ => none
  | k + 1, x0, x1, x2, x46 => if x46 = true then (some (0, 0, 0, (⟨#[]⟩ : ByteArray), 3)) else (if 0 ≤ x1 then (if x1 ≤ x2 then (if x2 ≤ (x0.size : Int) then ((burnishref13_ParseInt.f k (x0.extract (x1 : Int).toNat (x2 : Int).toNat)).bind fun bt163 => (if bt163.2 = true then (some (2, x1, bt163.1, (⟨#[]⟩ : ByteArray), 0)) else (some (0, 0, 0, (⟨#[]⟩ : ByteArray), 10)))) else (none)) else (none)) else (none))
end
def burnishref13_number.f (k : Nat) (a0 : ByteArray) (a1 : Int) (a2 : Int) : Option (Int × Int × Int × ByteArray × Int) := if 0 ≤ a1 then (if a1 ≤ a2 then (if a2 ≤ (a0.size : Int) then (if 0 < ((a0.extract (a1 : Int).toNat (a2 : Int).toNat).size : Int) then (if (bt (a0.extract (a1 : Int).toNat (a2 : Int).toNat) 0) = 45 then (if 1 ≤ ((a0.extract (a1 : Int).toNat (a2 : Int).toNat).size : Int) then (burnishref13_number.j0 k a0 a1 a2 ((a0.extract (a1 : Int).toNat (a2 : Int).toNat).extract 1 (a0.extract (a1 : Int).toNat (a2 : Int).toNat).size)) else (none)) else (burnishref13_number.j0 k a0 a1 a2 (a0.extract (a1 : Int).toNat (a2 : Int).toNat))) else (none)) else (none)) else (none)) else (none)
theorem burnishref13_number.mono_l : ∀ k, (∀ y0 y1 y2 y3, LeO (burnishref13_number.j0 k y0 y1 y2 y3) (burnishref13_number.j0 (k + 1) y0 y1 y2 y3)) ∧ (∀ y0 y1 y2 y3, LeO (burnishref13_number.j1 k y0 y1 y2 y3) (burnishref13_number.j1 (k + 1) y0 y1 y2 y3))
  | 0 => ⟨fun _ _ _ _ r h => by simp [burnishref13_number.j0] at h, fun _ _ _ _ r h => by simp [burnishref13_number.j1] at h⟩
  | k + 1 => by
    obtain ⟨ih0, ih1⟩ := burnishref13_number.mono_l k
    refine ⟨?_, ?_⟩
    · intro y0 y1 y2 y3
      unfold burnishref13_number.j0
      repeat' first
      | (with_reducible exact ih0 _ _ _ _)
      | (with_reducible exact ih1 _ _ _ _)
      | (with_reducible exact burnishref13_ParseInt.mono _ _)
      | (with_reducible exact LeO.refl _)
      | (with_reducible exact LeO.none _)
      | (with_reducible refine LeO.ite ?_ ?_)
      | (with_reducible refine LeO.bind ?_ (fun _ => ?_))
      | exact ih0 _ _ _ _
      | exact ih1 _ _ _ _
      | exact burnishref13_ParseInt.mono _ _
      | exact LeO.none _
      | refine LeO.ite ?_ ?_
      | refine LeO.bind ?_ (fun _ => ?_)
    · intro y0 y1 y2 y3
      unfold burnishref13_number.j1
      repeat' first
      | (with_reducible exact ih0 _ _ _ _)
      | (with_reducible exact ih1 _ _ _ _)
      | (with_reducible exact burnishref13_ParseInt.mono _ _)
      | (with_reducible exact LeO.refl _)
      | (with_reducible exact LeO.none _)
      | (with_reducible refine LeO.ite ?_ ?_)
      | (with_reducible refine LeO.bind ?_ (fun _ => ?_))
      | exact ih0 _ _ _ _
      | exact ih1 _ _ _ _
      | exact burnishref13_ParseInt.mono _ _
      | exact LeO.none _
      | refine LeO.ite ?_ ?_
      | refine LeO.bind ?_ (fun _ => ?_)
theorem burnishref13_number.mono : ∀ a0 a1 a2 k, LeO (burnishref13_number.f k a0 a1 a2) (burnishref13_number.f (k + 1) a0 a1 a2) := by
  intro a0 a1 a2 k
  obtain ⟨ih0, ih1⟩ := burnishref13_number.mono_l k
  unfold burnishref13_number.f
  repeat' first
      | (with_reducible exact ih0 _ _ _ _)
      | (with_reducible exact ih1 _ _ _ _)
      | (with_reducible exact burnishref13_ParseInt.mono _ _)
      | (with_reducible exact LeO.refl _)
      | (with_reducible exact LeO.none _)
      | (with_reducible refine LeO.ite ?_ ?_)
      | (with_reducible refine LeO.bind ?_ (fun _ => ?_))
      | exact ih0 _ _ _ _
      | exact ih1 _ _ _ _
      | exact burnishref13_ParseInt.mono _ _
      | exact LeO.none _
      | refine LeO.ite ?_ ?_
      | refine LeO.bind ?_ (fun _ => ?_)
set_option maxHeartbeats 8000000 in
set_option maxRecDepth 100000 in
theorem burnishref13_number.calls (k : Nat) (a0 : ByteArray) (a1 : Int) (a2 : Int) (r1 : Int) (r2 : Int) (r3 : Int) (r4 : ByteArray) (r5 : Int) (w : World) (h : burnishref13_number.f k a0 a1 a2 = some (r1, r2, r3, r4, r5)) :
    Calls Try.prog 29 #[.string a0, .int .i64 a1, .int .i64 a2] w fun e w' => e = .returned (.tuple #[.agg #[.int .i64 r1, .int .i64 r2, .int .i64 r3, .string r4], .int .i64 r5]) ∧ Below w.heap.size w w' := by
  have hu36 := Try.underlying36
  have HB := Aside0.mk (Below.refl w.heap.size w)
  have H : (if 0 ≤ a1 then (if a1 ≤ a2 then (if a2 ≤ (a0.size : Int) then (if 0 < ((a0.extract (a1 : Int).toNat (a2 : Int).toNat).size : Int) then (if (bt (a0.extract (a1 : Int).toNat (a2 : Int).toNat) 0) = 45 then (if 1 ≤ ((a0.extract (a1 : Int).toNat (a2 : Int).toNat).size : Int) then (burnishref13_number.j0 k a0 a1 a2 ((a0.extract (a1 : Int).toNat (a2 : Int).toNat).extract 1 (a0.extract (a1 : Int).toNat (a2 : Int).toNat).size)) else (none)) else (burnishref13_number.j0 k a0 a1 a2 (a0.extract (a1 : Int).toNat (a2 : Int).toNat))) else (none)) else (none)) else (none)) else (none)) = some (r1, r2, r3, r4, r5) := h
  clear h
  by_cases c4 : 0 ≤ a1
  · rw [if_pos c4] at H
    have c4b0 := eq_true c4
    have c4b1 : decide (0 ≤ a1) = true := decide_eq_true c4
    clear c4
    by_cases c5 : a1 ≤ a2
    · rw [if_pos c5] at H
      have c5b0 := eq_true c5
      have c5b1 : decide (a1 ≤ a2) = true := decide_eq_true c5
      clear c5
      by_cases c6 : a2 ≤ (a0.size : Int)
      · rw [if_pos c6] at H
        have c6b0 := eq_true c6
        have c6b1 : decide (a2 ≤ (a0.size : Int)) = true := decide_eq_true c6
        clear c6
        by_cases c7 : 0 < ((a0.extract (a1 : Int).toNat (a2 : Int).toNat).size : Int)
        · rw [if_pos c7] at H
          have c7b0 : decide (0 < ((a0.extract (a1 : Int).toNat (a2 : Int).toNat).size : Int)) = true := decide_eq_true c7
          have c7b1 : decide (0 < (a0.extract (a1 : Int).toNat (a2 : Int).toNat).size) = true := decide_eq_true (by omega)
          (try (have c7b2 : (0 < (a2 : Int).toNat - (a1 : Int).toNat) := by (have h_ := c7; rw [ByteArray.size_extract] at h_; omega)))
          clear c7
          have HC9 := Aside0.mk H
          clear H
          go_enter Try.func29, Try.ntmps29
          go_upto_if 17 with (first | ((with_reducible refine gate_dst (N := 6) rfl ?_); (try (refine gate_guard (by rfl) ?_; dsimp only)); refine box_event ?hg (N := 6) ?hd (cs := #[.int .i64 0, .int .i64 0, .int .i64 0, .string (⟨#[]⟩ : ByteArray)]) (t := 36) ?hr ?_; (case hd => rfl); (case hg => rfl); (case hr => first | (go_simp; done) | (go_simp; rfl)); intro gb160 hg w10 hbox hb; have n0_ := Aside0.mk (below_step (by repeat (first | (with_reducible first | exact HB.out | apply below_alloc | apply pw_below_drewN | apply below_drew1) | exact HB.out)) hb); have n1_ := Aside0.mk (hbox); have n2_ := Aside0.mk ((by rw [hg]; exact (below_size (by repeat (first | (with_reducible first | exact HB.out | apply below_alloc | apply pw_below_drewN | apply below_drew1) | exact HB.out))) : w.heap.size ≤ gb160)); have n3_ := Aside0.mk ((by rw [hg]; exact (below_size (by repeat (first | (with_reducible first | exact HB.out | apply below_alloc | apply pw_below_drewN | apply below_drew1) | exact HB.out))) : w.heap.size ≤ gb160)); clear HB; have HB := n0_; have BK160 := n1_; have GW160 := n2_; have GE160 := n3_; clear n0_ n1_ n2_ n3_; clear hb hbox hg; have p8 : 0 ≤ (0 : Int) := (by omega); have q8 : 0 < (a0.extract (a1 : Int).toNat (a2 : Int).toNat).size := (by have : (0 : Int) < ((a0.extract (a1 : Int).toNat (a2 : Int).toNat).size : Int) := of_decide_eq_true (by first | (with_reducible assumption) | assumption); omega); have hx8 : ∀ h : 0 < (a0.extract (a1 : Int).toNat (a2 : Int).toNat).size, (((a0.extract (a1 : Int).toNat (a2 : Int).toNat)[0]'h).toNat : Int) = bt (a0.extract (a1 : Int).toNat (a2 : Int).toNat) 0 := bt_at (a0.extract (a1 : Int).toNat (a2 : Int).toNat) 0; clear p8; have qi8 : (0 < ((a0.extract (a1 : Int).toNat (a2 : Int).toNat).size : Int)) = True := eq_true (of_decide_eq_true (by first | (with_reducible assumption) | assumption)); replace q8 := eq_true q8))
          (try simp only [Act.put, List.setIfInBounds_toArray, List.set_cons_zero, List.set_cons_succ])
          go_cut [8] (fun v8 wc => ∃ (kq : Nat) (x8_8 : ByteArray), v8 = .string x8_8 ∧ Aside0 (burnishref13_number.j0 kq a0 a1 a2 x8_8 = some (r1, r2, r3, r4, r5)) ∧ Aside0 (kq ≤ k) ∧ Aside0 (wc.heap[gb160]? = some (.cells #[.int .i64 0, .int .i64 0, .int .i64 0, .string (⟨#[]⟩ : ByteArray)] 36 (0, 0))) ∧ Aside0 (Below w.heap.size w wc))
          case first =>
            have H := HC9.out
            clear HC9
            by_cases c11 : (bt (a0.extract (a1 : Int).toNat (a2 : Int).toNat) 0) = 45
            · rw [if_pos c11] at H
              have c11b0 : ((bt (a0.extract (a1 : Int).toNat (a2 : Int).toNat) 0) == 45) = true := beq_iff_eq.mpr c11
              have c11b1 : ((bt (a0.extract (a1 : Int).toNat (a2 : Int).toNat) 0) != 45) = false := bne_eq_false_iff_eq.mpr c11
              clear c11
              (first | rw [c11b0] | (simp only [i64_w, i32_w]; rw [c11b0]) | skip)
              by_cases c12 : 1 ≤ ((a0.extract (a1 : Int).toNat (a2 : Int).toNat).size : Int)
              · rw [if_pos c12] at H
                have c12b0 := eq_true c12
                have c12b1 : decide (1 ≤ ((a0.extract (a1 : Int).toNat (a2 : Int).toNat).size : Int)) = true := decide_eq_true c12
                clear c12
                have H' := Aside0.mk H
                clear H
                go_wp2
                go_meet
                case rel => exact ⟨_, ((a0.extract (a1 : Int).toNat (a2 : Int).toNat).extract 1 (a0.extract (a1 : Int).toNat (a2 : Int).toNat).size), (by first | rfl | (simp; done) | (simp [*]; done)), H', ⟨by first | omega | exact Nat.le_refl _⟩, ⟨by (with_reducible repeat (first | refine blk_drewN ?_ _ | refine blk_drew ?_ | refine blk_alloc ?_ _)); exact BK160.out⟩, ⟨by repeat (first | (with_reducible first | exact HB.out | apply below_alloc | apply pw_below_drewN | apply below_drew1 | refine below_set ?_ GE160.out) | exact HB.out)⟩⟩
              · rw [if_neg c12] at H
                exact absurd H (by simp)
            · rw [if_neg c11] at H
              have c11b0 : ((bt (a0.extract (a1 : Int).toNat (a2 : Int).toNat) 0) == 45) = false := beq_eq_false_iff_ne.mpr c11
              have c11b1 : ((bt (a0.extract (a1 : Int).toNat (a2 : Int).toNat) 0) != 45) = true := bne_iff_ne.mpr c11
              (first | rw [c11b0] | (simp only [i64_w, i32_w]; rw [c11b0]) | skip)
              have H' := Aside0.mk H
              clear H
              go_wp2
              go_meet
              case rel => exact ⟨_, (a0.extract (a1 : Int).toNat (a2 : Int).toNat), (by first | rfl | (simp; done) | (simp [*]; done)), H', ⟨by first | omega | exact Nat.le_refl _⟩, ⟨by (with_reducible repeat (first | refine blk_drewN ?_ _ | refine blk_drew ?_ | refine blk_alloc ?_ _)); exact BK160.out⟩, ⟨by repeat (first | (with_reducible first | exact HB.out | apply below_alloc | apply pw_below_drewN | apply below_drew1 | refine below_set ?_ GE160.out) | exact HB.out)⟩⟩
          case rest =>
            clear HC9
            try clear c1
            try clear c2
            try clear p2
            try clear c4
            try clear c4b0
            try clear c4b1
            try clear c5
            try clear c5b0
            try clear c5b1
            try clear c6
            try clear c6b0
            try clear c6b1
            try clear c7
            try clear c7b0
            try clear c7b1
            try clear c7b2
            try clear p8
            try clear q8
            try clear hx8
            try clear qi8
            try clear c11
            try clear c11b0
            try clear c11b1
            try clear c12
            try clear c12b0
            try clear c12b1
            try clear p8
            try clear q8
            obtain ⟨kq, x8_8, rfl, HA, HJ8, BK160, HB⟩ := hcut
            cases kq with
            | zero => exact absurd HA.out (by simp [burnishref13_number.j0])
            | succ kj8 =>
              have H := HA.out
              clear HA
              simp only [burnishref13_number.j0] at H
              have HC13 := Aside0.mk H
              clear H
              go_upto_region 4 with (fail)
              go_cut [46] (fun v46 wc => ∃ (kq : Nat) (x46_12 : Bool), v46 = .bool x46_12 ∧ Aside0 (burnishref13_number.j1 kq a0 a1 a2 x46_12 = some (r1, r2, r3, r4, r5)) ∧ Aside0 (kq ≤ kj8) ∧ Aside0 (wc.heap[gb160]? = some (.cells #[.int .i64 0, .int .i64 0, .int .i64 0, .string (⟨#[]⟩ : ByteArray)] 36 (0, 0))) ∧ Aside0 (Below w.heap.size w wc))
              case first =>
                have H := HC13.out
                clear HC13
                by_cases c14 : (x8_8.size : Int) > 1
                · rw [if_pos c14] at H
                  have c14b0 : decide (1 < (x8_8.size : Int)) = true := decide_eq_true c14
                  have c14b1 : decide (1 < x8_8.size) = true := decide_eq_true (by omega)
                  clear c14
                  (first | rw [c14b0] | (simp only [i64_w, i32_w]; rw [c14b0]) | skip)
                  by_cases c15 : 0 < (x8_8.size : Int)
                  · rw [if_pos c15] at H
                    have c15b0 : decide (0 < (x8_8.size : Int)) = true := decide_eq_true c15
                    have c15b1 : decide (0 < x8_8.size) = true := decide_eq_true (by omega)
                    clear c15
                    by_cases c17 : (bt x8_8 0) = 48
                    · rw [if_pos c17] at H
                      have c17b0 : ((bt x8_8 0) == 48) = true := beq_iff_eq.mpr c17
                      have c17b1 : ((bt x8_8 0) != 48) = false := bne_eq_false_iff_eq.mpr c17
                      clear c17
                      have H' := Aside0.mk H
                      clear H
                      have p16 : 0 ≤ (0 : Int) := (by omega)
                      have q16 : 0 < x8_8.size := (by have : (0 : Int) < (x8_8.size : Int) := of_decide_eq_true (by first | (with_reducible assumption) | assumption); omega)
                      have hx16 : ∀ h : 0 < x8_8.size, ((x8_8[0]'h).toNat : Int) = bt x8_8 0 := bt_at x8_8 0
                      clear p16
                      have qi16 : (0 < (x8_8.size : Int)) = True := eq_true (of_decide_eq_true (by first | (with_reducible assumption) | assumption))
                      replace q16 := eq_true q16
                      go_wp2
                      go_meet
                      case rel => exact ⟨_, (true), (by first | rfl | (simp; done) | (simp [*]; done)), H', ⟨by have := HJ8.out; first | omega | exact Nat.le_refl _⟩, ⟨by (with_reducible repeat (first | refine blk_drewN ?_ _ | refine blk_drew ?_ | refine blk_alloc ?_ _)); exact BK160.out⟩, ⟨by repeat (first | (with_reducible first | exact HB.out | apply below_alloc | apply pw_below_drewN | apply below_drew1 | refine below_set ?_ GE160.out) | exact HB.out)⟩⟩
                    · rw [if_neg c17] at H
                      have c17b0 : ((bt x8_8 0) == 48) = false := beq_eq_false_iff_ne.mpr c17
                      have c17b1 : ((bt x8_8 0) != 48) = true := bne_iff_ne.mpr c17
                      by_cases c18 : 0 ≤ a1
                      · rw [if_pos c18] at H
                        have c18b0 := eq_true c18
                        have c18b1 : decide (0 ≤ a1) = true := decide_eq_true c18
                        clear c18
                        by_cases c19 : a1 ≤ a2
                        · rw [if_pos c19] at H
                          have c19b0 := eq_true c19
                          have c19b1 : decide (a1 ≤ a2) = true := decide_eq_true c19
                          clear c19
                          by_cases c20 : a2 ≤ (a0.size : Int)
                          · rw [if_pos c20] at H
                            have c20b0 := eq_true c20
                            have c20b1 : decide (a2 ≤ (a0.size : Int)) = true := decide_eq_true c20
                            clear c20
                            by_cases c21 : (a0.extract (a1 : Int).toNat (a2 : Int).toNat).toList = ([45, 48] : List UInt8)
                            · rw [if_pos c21] at H
                              have c21b0 : ((a0.extract (a1 : Int).toNat (a2 : Int).toNat).toList == ([45, 48] : List UInt8)) = true := beq_iff_eq.mpr c21
                              have c21b1 : ((a0.extract (a1 : Int).toNat (a2 : Int).toNat).toList != ([45, 48] : List UInt8)) = false := bne_eq_false_iff_eq.mpr c21
                              clear c21
                              have H' := Aside0.mk H
                              clear H
                              have p16 : 0 ≤ (0 : Int) := (by omega)
                              have q16 : 0 < x8_8.size := (by have : (0 : Int) < (x8_8.size : Int) := of_decide_eq_true (by first | (with_reducible assumption) | assumption); omega)
                              have hx16 : ∀ h : 0 < x8_8.size, ((x8_8[0]'h).toNat : Int) = bt x8_8 0 := bt_at x8_8 0
                              clear p16
                              have qi16 : (0 < (x8_8.size : Int)) = True := eq_true (of_decide_eq_true (by first | (with_reducible assumption) | assumption))
                              replace q16 := eq_true q16
                              go_wp2
                              go_meet
                              case rel => exact ⟨_, (true), (by first | rfl | (simp; done) | (simp [*]; done)), H', ⟨by have := HJ8.out; first | omega | exact Nat.le_refl _⟩, ⟨by (with_reducible repeat (first | refine blk_drewN ?_ _ | refine blk_drew ?_ | refine blk_alloc ?_ _)); exact BK160.out⟩, ⟨by repeat (first | (with_reducible first | exact HB.out | apply below_alloc | apply pw_below_drewN | apply below_drew1 | refine below_set ?_ GE160.out) | exact HB.out)⟩⟩
                            · rw [if_neg c21] at H
                              have c21b0 : ((a0.extract (a1 : Int).toNat (a2 : Int).toNat).toList == ([45, 48] : List UInt8)) = false := beq_eq_false_iff_ne.mpr c21
                              have c21b1 : ((a0.extract (a1 : Int).toNat (a2 : Int).toNat).toList != ([45, 48] : List UInt8)) = true := bne_iff_ne.mpr c21
                              by_cases c22 : a2 < (a0.size : Int)
                              · rw [if_pos c22] at H
                                have c22b0 : decide (a2 < (a0.size : Int)) = true := decide_eq_true c22
                                clear c22
                                by_cases c23 : 0 ≤ a2
                                · rw [if_pos c23] at H
                                  have c23b0 : decide (0 ≤ a2) = true := decide_eq_true c23
                                  clear c23
                                  replace H := Option.bind_eq_some_iff.mp H
                                  obtain ⟨t161, A250, H⟩ := H
                                  replace H : (burnishref13_number.j1 kj8 a0 a1 a2 t161) = some (r1, r2, r3, r4, r5) := H
                                  have A25 := Aside0.mk A250
                                  clear A250
                                  have H' := Aside0.mk H
                                  clear H
                                  have p16 : 0 ≤ (0 : Int) := (by omega)
                                  have q16 : 0 < x8_8.size := (by have : (0 : Int) < (x8_8.size : Int) := of_decide_eq_true (by first | (with_reducible assumption) | assumption); omega)
                                  have hx16 : ∀ h : 0 < x8_8.size, ((x8_8[0]'h).toNat : Int) = bt x8_8 0 := bt_at x8_8 0
                                  clear p16
                                  have qi16 : (0 < (x8_8.size : Int)) = True := eq_true (of_decide_eq_true (by first | (with_reducible assumption) | assumption))
                                  replace q16 := eq_true q16
                                  have p24 : 0 ≤ (a2 : Int) := of_decide_eq_true (by first | (with_reducible assumption) | assumption)
                                  have q24 : a2 < (a0.size : Int) := of_decide_eq_true (by first | (with_reducible assumption) | assumption)
                                  have hx24 := bt_at a0 a2
                                  replace p24 := eq_true p24
                                  replace q24 := eq_true q24
                                  go_wp2_with (first | (go_at_call 26; (with_reducible refine (burnishref13_letter.calls (bt a0 a2) t161 _ A25.out).mono ?_); rintro e w' ⟨rfl, ⟨nd, rfl⟩⟩))
                                  go_meet
                                  case rel => exact ⟨_, (t161), (by first | rfl | (simp; done) | (simp [*]; done)), H', ⟨by have := HJ8.out; first | omega | exact Nat.le_refl _⟩, ⟨by (with_reducible repeat (first | refine blk_drewN ?_ _ | refine blk_drew ?_ | refine blk_alloc ?_ _)); exact BK160.out⟩, ⟨by repeat (first | (with_reducible first | exact HB.out | apply below_alloc | apply pw_below_drewN | apply below_drew1 | refine below_set ?_ GE160.out) | exact HB.out)⟩⟩
                                · rw [if_neg c23] at H
                                  exact absurd H (by simp)
                              · rw [if_neg c22] at H
                                have c22b0 : decide (a2 < (a0.size : Int)) = false := decide_eq_false c22
                                clear c22
                                have H' := Aside0.mk H
                                clear H
                                have p16 : 0 ≤ (0 : Int) := (by omega)
                                have q16 : 0 < x8_8.size := (by have : (0 : Int) < (x8_8.size : Int) := of_decide_eq_true (by first | (with_reducible assumption) | assumption); omega)
                                have hx16 : ∀ h : 0 < x8_8.size, ((x8_8[0]'h).toNat : Int) = bt x8_8 0 := bt_at x8_8 0
                                clear p16
                                have qi16 : (0 < (x8_8.size : Int)) = True := eq_true (of_decide_eq_true (by first | (with_reducible assumption) | assumption))
                                replace q16 := eq_true q16
                                go_wp2
                                go_meet
                                case rel => exact ⟨_, (false), (by first | rfl | (simp; done) | (simp [*]; done)), H', ⟨by have := HJ8.out; first | omega | exact Nat.le_refl _⟩, ⟨by (with_reducible repeat (first | refine blk_drewN ?_ _ | refine blk_drew ?_ | refine blk_alloc ?_ _)); exact BK160.out⟩, ⟨by repeat (first | (with_reducible first | exact HB.out | apply below_alloc | apply pw_below_drewN | apply below_drew1 | refine below_set ?_ GE160.out) | exact HB.out)⟩⟩
                          · rw [if_neg c20] at H
                            exact absurd H (by simp)
                        · rw [if_neg c19] at H
                          exact absurd H (by simp)
                      · rw [if_neg c18] at H
                        exact absurd H (by simp)
                  · rw [if_neg c15] at H
                    exact absurd H (by simp)
                · rw [if_neg c14] at H
                  have c14b0 : decide (1 < (x8_8.size : Int)) = false := decide_eq_false c14
                  have c14b1 : decide (1 < x8_8.size) = false := decide_eq_false (by omega)
                  clear c14
                  (first | rw [c14b0] | (simp only [i64_w, i32_w]; rw [c14b0]) | skip)
                  by_cases c26 : 0 ≤ a1
                  · rw [if_pos c26] at H
                    have c26b0 := eq_true c26
                    have c26b1 : decide (0 ≤ a1) = true := decide_eq_true c26
                    clear c26
                    by_cases c27 : a1 ≤ a2
                    · rw [if_pos c27] at H
                      have c27b0 := eq_true c27
                      have c27b1 : decide (a1 ≤ a2) = true := decide_eq_true c27
                      clear c27
                      by_cases c28 : a2 ≤ (a0.size : Int)
                      · rw [if_pos c28] at H
                        have c28b0 := eq_true c28
                        have c28b1 : decide (a2 ≤ (a0.size : Int)) = true := decide_eq_true c28
                        clear c28
                        by_cases c29 : (a0.extract (a1 : Int).toNat (a2 : Int).toNat).toList = ([45, 48] : List UInt8)
                        · rw [if_pos c29] at H
                          have c29b0 : ((a0.extract (a1 : Int).toNat (a2 : Int).toNat).toList == ([45, 48] : List UInt8)) = true := beq_iff_eq.mpr c29
                          have c29b1 : ((a0.extract (a1 : Int).toNat (a2 : Int).toNat).toList != ([45, 48] : List UInt8)) = false := bne_eq_false_iff_eq.mpr c29
                          clear c29
                          have H' := Aside0.mk H
                          clear H
                          go_wp2
                          go_meet
                          case rel => exact ⟨_, (true), (by first | rfl | (simp; done) | (simp [*]; done)), H', ⟨by have := HJ8.out; first | omega | exact Nat.le_refl _⟩, ⟨by (with_reducible repeat (first | refine blk_drewN ?_ _ | refine blk_drew ?_ | refine blk_alloc ?_ _)); exact BK160.out⟩, ⟨by repeat (first | (with_reducible first | exact HB.out | apply below_alloc | apply pw_below_drewN | apply below_drew1 | refine below_set ?_ GE160.out) | exact HB.out)⟩⟩
                        · rw [if_neg c29] at H
                          have c29b0 : ((a0.extract (a1 : Int).toNat (a2 : Int).toNat).toList == ([45, 48] : List UInt8)) = false := beq_eq_false_iff_ne.mpr c29
                          have c29b1 : ((a0.extract (a1 : Int).toNat (a2 : Int).toNat).toList != ([45, 48] : List UInt8)) = true := bne_iff_ne.mpr c29
                          by_cases c30 : a2 < (a0.size : Int)
                          · rw [if_pos c30] at H
                            have c30b0 : decide (a2 < (a0.size : Int)) = true := decide_eq_true c30
                            clear c30
                            by_cases c31 : 0 ≤ a2
                            · rw [if_pos c31] at H
                              have c31b0 : decide (0 ≤ a2) = true := decide_eq_true c31
                              clear c31
                              replace H := Option.bind_eq_some_iff.mp H
                              obtain ⟨t162, A330, H⟩ := H
                              replace H : (burnishref13_number.j1 kj8 a0 a1 a2 t162) = some (r1, r2, r3, r4, r5) := H
                              have A33 := Aside0.mk A330
                              clear A330
                              have H' := Aside0.mk H
                              clear H
                              have p32 : 0 ≤ (a2 : Int) := of_decide_eq_true (by first | (with_reducible assumption) | assumption)
                              have q32 : a2 < (a0.size : Int) := of_decide_eq_true (by first | (with_reducible assumption) | assumption)
                              have hx32 := bt_at a0 a2
                              replace p32 := eq_true p32
                              replace q32 := eq_true q32
                              go_wp2_with (first | (go_at_call 26; (with_reducible refine (burnishref13_letter.calls (bt a0 a2) t162 _ A33.out).mono ?_); rintro e w' ⟨rfl, ⟨nd, rfl⟩⟩))
                              go_meet
                              case rel => exact ⟨_, (t162), (by first | rfl | (simp; done) | (simp [*]; done)), H', ⟨by have := HJ8.out; first | omega | exact Nat.le_refl _⟩, ⟨by (with_reducible repeat (first | refine blk_drewN ?_ _ | refine blk_drew ?_ | refine blk_alloc ?_ _)); exact BK160.out⟩, ⟨by repeat (first | (with_reducible first | exact HB.out | apply below_alloc | apply pw_below_drewN | apply below_drew1 | refine below_set ?_ GE160.out) | exact HB.out)⟩⟩
                            · rw [if_neg c31] at H
                              exact absurd H (by simp)
                          · rw [if_neg c30] at H
                            have c30b0 : decide (a2 < (a0.size : Int)) = false := decide_eq_false c30
                            clear c30
                            have H' := Aside0.mk H
                            clear H
                            go_wp2
                            go_meet
                            case rel => exact ⟨_, (false), (by first | rfl | (simp; done) | (simp [*]; done)), H', ⟨by have := HJ8.out; first | omega | exact Nat.le_refl _⟩, ⟨by (with_reducible repeat (first | refine blk_drewN ?_ _ | refine blk_drew ?_ | refine blk_alloc ?_ _)); exact BK160.out⟩, ⟨by repeat (first | (with_reducible first | exact HB.out | apply below_alloc | apply pw_below_drewN | apply below_drew1 | refine below_set ?_ GE160.out) | exact HB.out)⟩⟩
                      · rw [if_neg c28] at H
                        exact absurd H (by simp)
                    · rw [if_neg c27] at H
                      exact absurd H (by simp)
                  · rw [if_neg c26] at H
                    exact absurd H (by simp)
              case rest =>
                clear HC13
                try clear c1
                try clear p1
                try clear q1
                try clear hx1
                try clear qi1
                try clear c2
                try clear p2
                try clear q2
                try clear hx2
                try clear c3
                try clear p3
                try clear q3
                try clear hx3
                try clear c4
                try clear c4b0
                try clear c4b1
                try clear c5
                try clear c5b0
                try clear c5b1
                try clear c6
                try clear c6b0
                try clear c6b1
                try clear c7
                try clear c7b0
                try clear c7b1
                try clear c7b2
                try clear p8
                try clear q8
                try clear hx8
                try clear qi8
                try clear c11
                try clear c11b0
                try clear c11b1
                try clear c12
                try clear c12b0
                try clear c12b1
                try clear c14
                try clear c14b0
                try clear c14b1
                try clear c15
                try clear c15b0
                try clear c15b1
                try clear p16
                try clear q16
                try clear hx16
                try clear qi16
                try clear c17
                try clear c17b0
                try clear c17b1
                try clear c18
                try clear c18b0
                try clear c18b1
                try clear c19
                try clear c19b0
                try clear c19b1
                try clear c20
                try clear c20b0
                try clear c20b1
                try clear c21
                try clear c21b0
                try clear c21b1
                try clear c22
                try clear c22b0
                try clear c23
                try clear c23b0
                try clear p24
                try clear q24
                try clear hx24
                try clear c26
                try clear c26b0
                try clear c26b1
                try clear c27
                try clear c27b0
                try clear c27b1
                try clear c28
                try clear c28b0
                try clear c28b1
                try clear c29
                try clear c29b0
                try clear c29b1
                try clear c30
                try clear c30b0
                try clear c31
                try clear c31b0
                try clear p32
                try clear q32
                try clear hx32
                try clear p16
                try clear p2
                try clear p24
                try clear p32
                try clear p8
                try clear q16
                try clear q24
                try clear q32
                try clear q8
                obtain ⟨kq, x46_12, rfl, HA, HJ12, BK160, HB⟩ := hcut
                cases kq with
                | zero => exact absurd HA.out (by simp [burnishref13_number.j1])
                | succ kj12 =>
                  have H := HA.out
                  clear HA
                  simp only [burnishref13_number.j1] at H
                  by_cases c34 : x46_12 = true
                  · subst c34
                    have H1 : (some (0, 0, 0, (⟨#[]⟩ : ByteArray), 3)) = some (r1, r2, r3, r4, r5) := by rw [if_pos rfl] at H; exact H
                    clear H
                    have H := H1
                    clear H1
                    simp only [Option.some.injEq, Prod.mk.injEq] at H
                    obtain ⟨rfl, rfl, rfl, rfl, rfl⟩ := H
                    have hcz35_0 : wc.cell? ⟨gb160, 0, none⟩ = some (.int .i64 0) := (blk_cell BK160.out 0).trans rfl
                    have hcz35_1 : wc.cell? ⟨gb160, 1, none⟩ = some (.int .i64 0) := (blk_cell BK160.out 1).trans rfl
                    have hcz35_2 : wc.cell? ⟨gb160, 2, none⟩ = some (.int .i64 0) := (blk_cell BK160.out 2).trans rfl
                    have hcz35_3 : wc.cell? ⟨gb160, 3, none⟩ = some (.string (⟨#[]⟩ : ByteArray)) := (blk_cell BK160.out 3).trans rfl
                    have hfz35_0 := blk_frozen BK160.out 0
                    have hfz35_1 := blk_frozen BK160.out 1
                    have hfz35_2 := blk_frozen BK160.out 2
                    have hfz35_3 := blk_frozen BK160.out 3
                    go_wp2_with (first | ((with_reducible refine gate_store (t := 36) (p := 6) rfl ?_); refine store_event (t := 36) (p := 6) (v := ?vo_w36) (w1 := ((((wc.setCell ⟨gb160, 0, none⟩ (.int .i64 0)).setCell ⟨gb160, 1, none⟩ (.int .i64 0)).setCell ⟨gb160, 2, none⟩ (.int .i64 0)).setCell ⟨gb160, 3, none⟩ (.string (⟨#[]⟩ : ByteArray)))) ?hg ?ho ?hn ?hr ?_; (case ho => rfl); (case hg => rfl); (case hn => rfl); (case hr => first | (go_simp; done) | (go_simp; rfl)); intro w36 hw; have n0_ : Aside0 (w36.heap[gb160]? = some (.cells #[.int .i64 0, .int .i64 0, .int .i64 0, .string (⟨#[]⟩ : ByteArray)] 36 (0, 0))) := ⟨(by rw [hw]; exact (by (with_reducible repeat (first | refine blk_drewN ?_ _ | refine blk_drew ?_ | refine blk_alloc ?_ _)); refine blk_put (cs := #[.int .i64 0, .int .i64 0, .int .i64 0, .string (⟨#[]⟩ : ByteArray)]) ?_ 3 _ rfl; (with_reducible repeat (first | refine blk_drewN ?_ _ | refine blk_drew ?_ | refine blk_alloc ?_ _)); refine blk_put (cs := #[.int .i64 0, .int .i64 0, .int .i64 0, .string (⟨#[]⟩ : ByteArray)]) ?_ 2 _ rfl; (with_reducible repeat (first | refine blk_drewN ?_ _ | refine blk_drew ?_ | refine blk_alloc ?_ _)); refine blk_put (cs := #[.int .i64 0, .int .i64 0, .int .i64 0, .string (⟨#[]⟩ : ByteArray)]) ?_ 1 _ rfl; (with_reducible repeat (first | refine blk_drewN ?_ _ | refine blk_drew ?_ | refine blk_alloc ?_ _)); refine blk_put (cs := #[.int .i64 0, .int .i64 0, .int .i64 0, .string (⟨#[]⟩ : ByteArray)]) ?_ 0 _ rfl; (with_reducible repeat (first | refine blk_drewN ?_ _ | refine blk_drew ?_ | refine blk_alloc ?_ _)); exact BK160.out))⟩; have n1_ : Aside0 (Below w.heap.size w w36) := ⟨(by rw [hw]; exact (by repeat (first | (with_reducible first | exact HB.out | apply below_alloc | apply pw_below_drewN | apply below_drew1 | refine below_set ?_ GE160.out) | exact HB.out)))⟩; clear hw; clear BK160; clear HB; have BK160 := n0_; have HB := n1_; clear n0_ n1_))
                    refine bodyPost_ret (results_ct rfl _ _ gb160 36 #[.int .i64 0, .int .i64 0, .int .i64 0, .string (⟨#[]⟩ : ByteArray)] (0, 0) _ rfl (by (with_reducible repeat (first | refine blk_drewN ?_ _ | refine blk_drew ?_ | refine blk_alloc ?_ _)); exact BK160.out) Try.underlying36 rfl (by kernel_rfl)) rfl ?_
                    exact ⟨by first | rfl | (simp [errW_none, errW_some] <;> rfl) | (simp [*, errW_none, errW_some] <;> rfl), by repeat (first | (with_reducible first | exact HB.out | apply below_alloc | apply pw_below_drewN | apply below_drew1 | refine below_set ?_ GE160.out) | exact HB.out)⟩
                  · replace c34 := Bool.eq_false_iff.mpr c34
                    subst c34
                    have H1 : (if 0 ≤ a1 then (if a1 ≤ a2 then (if a2 ≤ (a0.size : Int) then ((burnishref13_ParseInt.f kj12 (a0.extract (a1 : Int).toNat (a2 : Int).toNat)).bind fun bt163 => (if bt163.2 = true then (some (2, a1, bt163.1, (⟨#[]⟩ : ByteArray), 0)) else (some (0, 0, 0, (⟨#[]⟩ : ByteArray), 10)))) else (none)) else (none)) else (none)) = some (r1, r2, r3, r4, r5) := by rw [if_neg (show ¬ (false = true) by decide)] at H; exact H
                    clear H
                    have H := H1
                    clear H1
                    by_cases c37 : 0 ≤ a1
                    · rw [if_pos c37] at H
                      have c37b0 := eq_true c37
                      have c37b1 : decide (0 ≤ a1) = true := decide_eq_true c37
                      clear c37
                      by_cases c38 : a1 ≤ a2
                      · rw [if_pos c38] at H
                        have c38b0 := eq_true c38
                        have c38b1 : decide (a1 ≤ a2) = true := decide_eq_true c38
                        clear c38
                        by_cases c39 : a2 ≤ (a0.size : Int)
                        · rw [if_pos c39] at H
                          have c39b0 := eq_true c39
                          have c39b1 : decide (a2 ≤ (a0.size : Int)) = true := decide_eq_true c39
                          clear c39
                          replace H := Option.bind_eq_some_iff.mp H
                          obtain ⟨⟨t163, t164⟩, A400, H⟩ := H
                          replace H : (if t164 = true then (some (2, a1, t163, (⟨#[]⟩ : ByteArray), 0)) else (some (0, 0, 0, (⟨#[]⟩ : ByteArray), 10))) = some (r1, r2, r3, r4, r5) := H
                          have A40 := Aside0.mk A400
                          clear A400
                          by_cases c41 : t164 = true
                          · subst c41
                            have H1 : (some (2, a1, t163, (⟨#[]⟩ : ByteArray), 0)) = some (r1, r2, r3, r4, r5) := by rw [if_pos rfl] at H; exact H
                            clear H
                            have H := H1
                            clear H1
                            simp only [Option.some.injEq, Prod.mk.injEq] at H
                            obtain ⟨rfl, rfl, rfl, rfl, rfl⟩ := H
                            go_wp2_with (first | ((with_reducible refine gate_callee (f := 36) rfl ?_); refine goesL_ (some 53) rfl rfl Try.func36 (by kernel_rfl) rfl #[.string (a0.extract (a1 : Int).toNat (a2 : Int).toNat)] rfl (by (try simp only [List.map_toArray, List.map_cons, List.map_nil]); first | done | rfl | (simp only [List.length_drop, List.length_take]; rfl)) ?_; (with_reducible refine (burnishref13_ParseInt.calls kj12 (a0.extract (a1 : Int).toNat (a2 : Int).toNat) t163 true _ A40.out).mono ?_); rintro e w' ⟨rfl, ⟨nd, rfl⟩⟩; refine ⟨_, rfl, ?_⟩; (try (rw [drewN_self wc]; generalize hq_ : World.drewN wc _ = wc; have n0_ : Aside0 (wc.heap[gb160]? = some (.cells #[.int .i64 0, .int .i64 0, .int .i64 0, .string (⟨#[]⟩ : ByteArray)] 36 (0, 0))) := ⟨by rw [← hq_]; exact (by (with_reducible repeat (first | refine blk_drewN ?_ _ | refine blk_drew ?_ | refine blk_alloc ?_ _)); exact BK160.out)⟩; have n1_ : Aside0 (Below w.heap.size w wc) := ⟨by rw [← hq_]; exact (by repeat (first | (with_reducible first | exact HB.out | apply below_alloc | apply pw_below_drewN | apply below_drew1 | refine below_set ?_ GE160.out) | exact HB.out))⟩; clear BK160 HB hq_; have BK160 := n0_; have HB := n1_; clear n0_ n1_)); have hcz42_0 : wc.cell? ⟨gb160, 0, none⟩ = some (.int .i64 0) := (blk_cell BK160.out 0).trans rfl; have hcz42_1 : wc.cell? ⟨gb160, 1, none⟩ = some (.int .i64 0) := (blk_cell BK160.out 1).trans rfl; have hcz42_2 : wc.cell? ⟨gb160, 2, none⟩ = some (.int .i64 0) := (blk_cell BK160.out 2).trans rfl; have hcz42_3 : wc.cell? ⟨gb160, 3, none⟩ = some (.string (⟨#[]⟩ : ByteArray)) := (blk_cell BK160.out 3).trans rfl; have hfz42_0 := blk_frozen BK160.out 0; have hfz42_1 := blk_frozen BK160.out 1; have hfz42_2 := blk_frozen BK160.out 2; have hfz42_3 := blk_frozen BK160.out 3) | ((with_reducible refine gate_store (t := 36) (p := 6) rfl ?_); refine store_event (t := 36) (p := 6) (v := ?vo_w43) (w1 := ((((wc.setCell ⟨gb160, 0, none⟩ (.int .i64 2)).setCell ⟨gb160, 1, none⟩ (.int .i64 a1)).setCell ⟨gb160, 2, none⟩ (.int .i64 t163)).setCell ⟨gb160, 3, none⟩ (.string (⟨#[]⟩ : ByteArray)))) ?hg ?ho ?hn ?hr ?_; (case ho => rfl); (case hg => rfl); (case hn => rfl); (case hr => first | (go_simp; done) | (go_simp; rfl)); intro w43 hw; have n0_ : Aside0 (w43.heap[gb160]? = some (.cells #[.int .i64 2, .int .i64 a1, .int .i64 t163, .string (⟨#[]⟩ : ByteArray)] 36 (0, 0))) := ⟨(by rw [hw]; exact (by (with_reducible repeat (first | refine blk_drewN ?_ _ | refine blk_drew ?_ | refine blk_alloc ?_ _)); refine blk_put (cs := #[.int .i64 2, .int .i64 a1, .int .i64 t163, .string (⟨#[]⟩ : ByteArray)]) ?_ 3 _ rfl; (with_reducible repeat (first | refine blk_drewN ?_ _ | refine blk_drew ?_ | refine blk_alloc ?_ _)); refine blk_put (cs := #[.int .i64 2, .int .i64 a1, .int .i64 0, .string (⟨#[]⟩ : ByteArray)]) ?_ 2 _ rfl; (with_reducible repeat (first | refine blk_drewN ?_ _ | refine blk_drew ?_ | refine blk_alloc ?_ _)); refine blk_put (cs := #[.int .i64 2, .int .i64 0, .int .i64 0, .string (⟨#[]⟩ : ByteArray)]) ?_ 1 _ rfl; (with_reducible repeat (first | refine blk_drewN ?_ _ | refine blk_drew ?_ | refine blk_alloc ?_ _)); refine blk_put (cs := #[.int .i64 0, .int .i64 0, .int .i64 0, .string (⟨#[]⟩ : ByteArray)]) ?_ 0 _ rfl; (with_reducible repeat (first | refine blk_drewN ?_ _ | refine blk_drew ?_ | refine blk_alloc ?_ _)); exact BK160.out))⟩; have n1_ : Aside0 (Below w.heap.size w w43) := ⟨(by rw [hw]; exact (by repeat (first | (with_reducible first | exact HB.out | apply below_alloc | apply pw_below_drewN | apply below_drew1 | refine below_set ?_ GE160.out) | exact HB.out)))⟩; clear hw; clear BK160; clear HB; have BK160 := n0_; have HB := n1_; clear n0_ n1_))
                            refine bodyPost_ret (results_ct rfl _ _ gb160 36 #[.int .i64 2, .int .i64 a1, .int .i64 t163, .string (⟨#[]⟩ : ByteArray)] (0, 0) _ rfl (by (with_reducible repeat (first | refine blk_drewN ?_ _ | refine blk_drew ?_ | refine blk_alloc ?_ _)); exact BK160.out) Try.underlying36 rfl (by kernel_rfl)) rfl ?_
                            exact ⟨by first | rfl | (simp [errW_none, errW_some] <;> rfl) | (simp [*, errW_none, errW_some] <;> rfl), by repeat (first | (with_reducible first | exact HB.out | apply below_alloc | apply pw_below_drewN | apply below_drew1 | refine below_set ?_ GE160.out) | exact HB.out)⟩
                          · replace c41 := Bool.eq_false_iff.mpr c41
                            subst c41
                            have H1 : (some (0, 0, 0, (⟨#[]⟩ : ByteArray), 10)) = some (r1, r2, r3, r4, r5) := by rw [if_neg (show ¬ (false = true) by decide)] at H; exact H
                            clear H
                            have H := H1
                            clear H1
                            simp only [Option.some.injEq, Prod.mk.injEq] at H
                            obtain ⟨rfl, rfl, rfl, rfl, rfl⟩ := H
                            go_wp2_with (first | ((with_reducible refine gate_callee (f := 36) rfl ?_); refine goesL_ (some 53) rfl rfl Try.func36 (by kernel_rfl) rfl #[.string (a0.extract (a1 : Int).toNat (a2 : Int).toNat)] rfl (by (try simp only [List.map_toArray, List.map_cons, List.map_nil]); first | done | rfl | (simp only [List.length_drop, List.length_take]; rfl)) ?_; (with_reducible refine (burnishref13_ParseInt.calls kj12 (a0.extract (a1 : Int).toNat (a2 : Int).toNat) t163 false _ A40.out).mono ?_); rintro e w' ⟨rfl, ⟨nd, rfl⟩⟩; refine ⟨_, rfl, ?_⟩; (try (rw [drewN_self wc]; generalize hq_ : World.drewN wc _ = wc; have n0_ : Aside0 (wc.heap[gb160]? = some (.cells #[.int .i64 0, .int .i64 0, .int .i64 0, .string (⟨#[]⟩ : ByteArray)] 36 (0, 0))) := ⟨by rw [← hq_]; exact (by (with_reducible repeat (first | refine blk_drewN ?_ _ | refine blk_drew ?_ | refine blk_alloc ?_ _)); exact BK160.out)⟩; have n1_ : Aside0 (Below w.heap.size w wc) := ⟨by rw [← hq_]; exact (by repeat (first | (with_reducible first | exact HB.out | apply below_alloc | apply pw_below_drewN | apply below_drew1 | refine below_set ?_ GE160.out) | exact HB.out))⟩; clear BK160 HB hq_; have BK160 := n0_; have HB := n1_; clear n0_ n1_)); have hcz44_0 : wc.cell? ⟨gb160, 0, none⟩ = some (.int .i64 0) := (blk_cell BK160.out 0).trans rfl; have hcz44_1 : wc.cell? ⟨gb160, 1, none⟩ = some (.int .i64 0) := (blk_cell BK160.out 1).trans rfl; have hcz44_2 : wc.cell? ⟨gb160, 2, none⟩ = some (.int .i64 0) := (blk_cell BK160.out 2).trans rfl; have hcz44_3 : wc.cell? ⟨gb160, 3, none⟩ = some (.string (⟨#[]⟩ : ByteArray)) := (blk_cell BK160.out 3).trans rfl; have hfz44_0 := blk_frozen BK160.out 0; have hfz44_1 := blk_frozen BK160.out 1; have hfz44_2 := blk_frozen BK160.out 2; have hfz44_3 := blk_frozen BK160.out 3) | ((with_reducible refine gate_store (t := 36) (p := 6) rfl ?_); refine store_event (t := 36) (p := 6) (v := ?vo_w45) (w1 := ((((wc.setCell ⟨gb160, 0, none⟩ (.int .i64 0)).setCell ⟨gb160, 1, none⟩ (.int .i64 0)).setCell ⟨gb160, 2, none⟩ (.int .i64 0)).setCell ⟨gb160, 3, none⟩ (.string (⟨#[]⟩ : ByteArray)))) ?hg ?ho ?hn ?hr ?_; (case ho => rfl); (case hg => rfl); (case hn => rfl); (case hr => first | (go_simp; done) | (go_simp; rfl)); intro w45 hw; have n0_ : Aside0 (w45.heap[gb160]? = some (.cells #[.int .i64 0, .int .i64 0, .int .i64 0, .string (⟨#[]⟩ : ByteArray)] 36 (0, 0))) := ⟨(by rw [hw]; exact (by (with_reducible repeat (first | refine blk_drewN ?_ _ | refine blk_drew ?_ | refine blk_alloc ?_ _)); refine blk_put (cs := #[.int .i64 0, .int .i64 0, .int .i64 0, .string (⟨#[]⟩ : ByteArray)]) ?_ 3 _ rfl; (with_reducible repeat (first | refine blk_drewN ?_ _ | refine blk_drew ?_ | refine blk_alloc ?_ _)); refine blk_put (cs := #[.int .i64 0, .int .i64 0, .int .i64 0, .string (⟨#[]⟩ : ByteArray)]) ?_ 2 _ rfl; (with_reducible repeat (first | refine blk_drewN ?_ _ | refine blk_drew ?_ | refine blk_alloc ?_ _)); refine blk_put (cs := #[.int .i64 0, .int .i64 0, .int .i64 0, .string (⟨#[]⟩ : ByteArray)]) ?_ 1 _ rfl; (with_reducible repeat (first | refine blk_drewN ?_ _ | refine blk_drew ?_ | refine blk_alloc ?_ _)); refine blk_put (cs := #[.int .i64 0, .int .i64 0, .int .i64 0, .string (⟨#[]⟩ : ByteArray)]) ?_ 0 _ rfl; (with_reducible repeat (first | refine blk_drewN ?_ _ | refine blk_drew ?_ | refine blk_alloc ?_ _)); exact BK160.out))⟩; have n1_ : Aside0 (Below w.heap.size w w45) := ⟨(by rw [hw]; exact (by repeat (first | (with_reducible first | exact HB.out | apply below_alloc | apply pw_below_drewN | apply below_drew1 | refine below_set ?_ GE160.out) | exact HB.out)))⟩; clear hw; clear BK160; clear HB; have BK160 := n0_; have HB := n1_; clear n0_ n1_))
                            refine bodyPost_ret (results_ct rfl _ _ gb160 36 #[.int .i64 0, .int .i64 0, .int .i64 0, .string (⟨#[]⟩ : ByteArray)] (0, 0) _ rfl (by (with_reducible repeat (first | refine blk_drewN ?_ _ | refine blk_drew ?_ | refine blk_alloc ?_ _)); exact BK160.out) Try.underlying36 rfl (by kernel_rfl)) rfl ?_
                            exact ⟨by first | rfl | (simp [errW_none, errW_some] <;> rfl) | (simp [*, errW_none, errW_some] <;> rfl), by repeat (first | (with_reducible first | exact HB.out | apply below_alloc | apply pw_below_drewN | apply below_drew1 | refine below_set ?_ GE160.out) | exact HB.out)⟩
                        · rw [if_neg c39] at H
                          exact absurd H (by simp)
                      · rw [if_neg c38] at H
                        exact absurd H (by simp)
                    · rw [if_neg c37] at H
                      exact absurd H (by simp)
        · rw [if_neg c7] at H
          exact absurd H (by simp)
      · rw [if_neg c6] at H
        exact absurd H (by simp)
    · rw [if_neg c5] at H
      exact absurd H (by simp)
  · rw [if_neg c4] at H
    exact absurd H (by simp)

end Go.Proofs.Ytjfpaglnadfppaa.P
