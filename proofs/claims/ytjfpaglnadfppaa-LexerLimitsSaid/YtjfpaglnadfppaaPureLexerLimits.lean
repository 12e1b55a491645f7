/- LexerLimits: a text of n copies of a piece that is one token, each followed by a blank, has n tokens, or the error that the limits require, at the right offset; for every piece and number. -/
import Derived.Test.YtjfpaglnadfppaaPx9
import Derived.Test.YtjfpaglnadfppaaLexMore
import Derived.Test.YtjfpaglnadfppaaPureLexerScans
namespace Go.Proofs.Ytjfpaglnadfppaa.Pure
open Go.RowKit Go.Proofs.Ytjfpaglnadfppaa.P Go.Proofs.YtjfpaglnadfppaaW.PrintWords Go.Proofs.YtjfpaglnadfppaaW.PrintLast Lex

def nums (l : List UInt8) : List Int := l.map fun b => (b.toNat : Int)
theorem L_nums (l : List UInt8) : L (strOfNums (nums l)) = l := by
  show (nums l).map (fun n => UInt8.ofNat n.toNat) = l
  induction l with
  | nil => rfl
  | cons c t ih =>
    have e : nums (c :: t) = (c.toNat : Int) :: nums t := rfl
    rw [e, List.map_cons, ih, Int.toNat_natCast, UInt8.ofNat_toNat]
theorem limit_off (a b : Nat) (ha : a ≤ 40) (hb : b ≤ 40) : wrap64 ((wrap64 (20000 * (wrap64 ((a : Int) + 1)))) + (b : Int)) = ((20000 * (a + 1) + b : Nat) : Int) := by
  rw [show (a : Int) + 1 = ((a + 1 : Nat) : Int) by omega, wrap_nat _ (by omega)]
  rw [show 20000 * ((a + 1 : Nat) : Int) = ((20000 * (a + 1) : Nat) : Int) by omega, wrap_nat _ (by omega)]
  rw [show ((20000 * (a + 1) : Nat) : Int) + (b : Int) = ((20000 * (a + 1) + b : Nat) : Int) by omega, wrap_nat _ (by omega)]
theorem scan_big (s : ByteArray) (h : 60000 < s.size) : ∀ k, lexer_Scan.f k s = some ([], 0, 5) := fun k => by
  have g6 : ((s.size : Int) > 60000) = True := eq_true (by omega)
  unfold lexer_Scan.f; simp only [g6, if_true]
/-- The loop and what stands behind it, for a piece that is one token. -/
theorem limits_l0 (s : ByteArray) (hs : s.size ≤ 40) (n : Nat) (hn : n ≤ 20002) (x5 : List S34) (c : UInt8) (t : List UInt8)
    (hp : (L s).drop (span blankB (L s)) = c :: t) (h0 : (tokL c t).err = 0) (hq : ((c :: t).drop (tokL c t).len).all blankB = true)
    (hx : 0 < x5.length) (hoff : (rd_T34 x5 0).f1 = (span blankB (L s) : Nat)) :
    ∀ d i : Nat, n - i = d → i ≤ n → i * (s.size + 1) ≤ 70000 →
      Ev (fun k => burnishlaw13_LexerLimits.l0 k s (n : Int) x5 (nums (rep (L s) i)) (i : Int)) true := by
  intro d
  induction d with
  | zero =>
    intro i hd hi hb
    have hin : i = n := by omega
    subst hin
    have g1 : ((i : Int) < (i : Int)) = False := eq_false (by omega)
    obtain ⟨S, hS⟩ : ∃ S, S = strOfNums (nums (rep (L s) i)) := ⟨_, rfl⟩
    have hL : L S = rep (L s) i := by rw [hS, L_nums]
    have hsz : S.size = i * (s.size + 1) := by rw [← L_length, hL, rep_length, L_length]
    have hlen : (nums (rep (L s) i)).length = S.size := by rw [nums, List.length_map, ← hL, L_length]
    refine Ev_up ?_
    simp only [burnishlaw13_LexerLimits.l0, g1, if_false, ← hS, hlen]
    by_cases hbig : 60000 < S.size
    · have g2 : ((S.size : Int) > 60000) = True := eq_true (by omega)
      simp only [scan_big S hbig, Option.bind_some, g2, if_true]
      refine Ev.bind awake_ok ?_
      exact Ev_now rfl
    · have g2 : ((S.size : Int) > 60000) = False := eq_false (by omega)
      refine Ev.bind (scan_f S (by omega)) ?_
      have hrep := scanF_rep (L s) c t hp h0 hq i S.size 0 [] (by rw [hsz]; exact Nat.le_mul_of_pos_right i (by omega)) (by simp)
      rw [hL]
      simp only [g2, if_false]
      by_cases hmany : 20000 < i
      · have g3 : ((i : Int) > 20000) = True := eq_true (by omega)
        have g4 : (0 < (x5.length : Int)) = True := eq_true (by omega)
        rw [hrep.2 (by simp; omega)]
        simp only [g3, g4, if_true]
        refine Ev.bind awake_ok ?_
        have hsp := span_le blankB (L s)
        rw [L_length] at hsp
        have hw3 := limit_off s.size (span blankB (L s)) hs (Nat.le_trans hsp hs)
        simp only [if_true, hoff, hw3, res34, List.length_nil, Nat.sub_zero, Nat.zero_add, L_length]
        exact Ev_now rfl
      · have g3 : ((i : Int) > 20000) = False := eq_false (by omega)
        obtain ⟨j1, j2⟩ := hrep.1 (by simp; omega)
        simp only [g3, if_false]
        refine Ev.bind awake_ok ?_
        simp only [if_true, res34, j2, List.length_map, j1]
        exact Ev_now (by simp)
  | succ d ih =>
    intro i hd hi hb
    have q1 : n - (i + 1) = d := by omega
    have q2 : i + 1 ≤ n := by omega
    have g1 : ((i : Int) < (n : Int)) = True := eq_true (by omega)
    have hlen : (nums (rep (L s) i)).length = i * (s.size + 1) := by rw [nums, List.length_map, rep_length, L_length]
    have hnx : nums (rep (L s) i) ++ bytesOf s ++ [32] = nums (rep (L s) (i + 1)) := by
      rw [rep_snoc]; unfold nums; rw [List.map_append, List.map_append, List.append_assoc]; rfl
    have hlen2 : (nums (rep (L s) (i + 1))).length = i * (s.size + 1) + (s.size + 1) := by rw [nums, List.length_map, rep_length, L_length, Nat.succ_mul]
    have hm : i * (s.size + 1) + s.size < 140737488355328 := by omega
    have g2 : ((nums (rep (L s) i)).length + s.size < 140737488355328) = True := eq_true (by rw [hlen]; exact hm)
    have g3 : ((nums (rep (L s) i) ++ bytesOf s).length < 140737488355328) = True := eq_true (by rw [List.length_append, hlen, bytesOf_length]; exact hm)
    have hw : wrap64 ((i : Int) + 1) = ((i + 1 : Nat) : Int) := by rw [show (i : Int) + 1 = ((i + 1 : Nat) : Int) by omega]; exact wrap_nat _ (by omega)
    refine Ev_up ?_
    simp only [burnishlaw13_LexerLimits.l0, g1, g2, if_true, Option.bind_some, g3, hnx, hw]
    by_cases hbig : 70000 < i * (s.size + 1) + (s.size + 1)
    · have g4 : (((nums (rep (L s) (i + 1))).length : Int) > 70000) = True := eq_true (by rw [hlen2]; omega)
      simp only [g4, if_true]
      exact Ev.bind awake_ok (Ev.now _)
    · have g4 : (((nums (rep (L s) (i + 1))).length : Int) > 70000) = False := eq_false (by rw [hlen2]; omega)
      simp only [g4, if_false]
      exact ih (i + 1) q1 q2 (by rw [Nat.succ_mul]; exact Nat.le_of_not_lt hbig)
theorem j0_true (s : ByteArray) (n : Int) : Ev (fun k => burnishlaw13_LexerLimits.j0 k s n true) true := by
  refine Ev_up ?_
  simp only [burnishlaw13_LexerLimits.j0, if_true]
  exact Ev.bind awake_ok (Ev.now _)
theorem j1_true (s : ByteArray) (n : Int) (l : List S34) : Ev (fun k => burnishlaw13_LexerLimits.j1 k s n l true) true := by
  refine Ev_up ?_
  simp only [burnishlaw13_LexerLimits.j1, if_true]
  exact Ev.bind awake_ok (Ev.now _)
theorem LexerLimits : burnishlaw13_LexerLimits.Pure := by
  intro s n hs hn
  apply Ev.rounds
  unfold burnishlaw13_LexerLimits.f
  by_cases h4 : s.size > 40
  · have g : ((s.size : Int) > 40) = True := eq_true (by omega)
    simp only [g, if_true]; exact j0_true s n
  · have g : ((s.size : Int) > 40) = False := eq_false (by omega)
    simp only [g, if_false]
    by_cases hneg : n < 0
    · simp only [eq_true hneg, if_true]; exact j0_true s n
    · simp only [eq_false hneg, if_false]
      by_cases hbig : n > 20002
      · simp only [decide_eq_true hbig]; exact j0_true s n
      · simp only [decide_eq_false hbig]
        obtain ⟨m, rfl⟩ : ∃ m : Nat, n = m := ⟨n.toNat, by omega⟩
        refine Ev_up ?_
        simp only [burnishlaw13_LexerLimits.j0, Bool.false_eq_true, if_false]
        refine Ev.bind (scan_f s (by omega)) ?_
        obtain ⟨r, hr⟩ : ∃ r, r = scanF (s.size + 1) (L s) 0 [] := ⟨_, rfl⟩
        rw [← hr]
        by_cases h0 : r.2.2 = 0
        · simp only [res34, h0, if_true]
          by_cases h1 : r.1.length = 1
          · have e1 : (((r.1.map to34).length : Int) != 1) = false := by rw [List.length_map, h1]; rfl
            rw [e1]
            obtain ⟨tk, htk⟩ : ∃ tk, r.1 = [tk] := List.length_eq_one_iff.1 h1
            have hfull : scanF (s.size + 1) (L s) 0 [] = ([tk], 0, 0) := by
              have e2 : r.2.1 = 0 := by rw [hr] at h0 ⊢; exact scanF_off _ _ _ _ h0
              rw [← hr]
              obtain ⟨ra, rb, rc⟩ := r
              simp only at htk e2 h0
              rw [htk, e2, h0]
            obtain ⟨c, t, hp, he, hq, hoff⟩ := one_token s.size (L s) tk (by rw [L_length]; exact Nat.le_refl _) hfull
            refine Ev_up ?_
            simp only [burnishlaw13_LexerLimits.j1, Bool.false_eq_true, if_false]
            exact limits_l0 s (by omega) m (by omega) (r.1.map to34) c t hp he hq (by rw [htk]; simp) (by rw [htk]; simp only [List.map_cons, List.map_nil]; show (to34 tk).f1 = _; rw [to34, hoff]) m 0 (by omega) (by omega) (by omega)
          · have e1 : (((r.1.map to34).length : Int) != 1) = true := by rw [List.length_map, bne_iff_ne]; omega
            rw [e1]; exact j1_true s m _
        · simp only [res34, h0, if_false]; exact j1_true s m _
end Go.Proofs.Ytjfpaglnadfppaa.Pure
