/- LexerScans: the tokens of any text, or the error and its offset, are those of the reference; for every string. -/
import Derived.Test.YtjfpaglnadfppaaPx8
import Derived.Test.YtjfpaglnadfppaaLexRef
namespace Go.Proofs.Ytjfpaglnadfppaa.Pure
open Go.RowKit Go.Proofs.Ytjfpaglnadfppaa.P Go.Proofs.YtjfpaglnadfppaaW.PrintWords Go.Proofs.YtjfpaglnadfppaaW.PrintLast Lex

theorem awake_ok : Ev (fun k => burnishlaw13_awake.f k) true := by
  have a1 := scan_f (⟨#[114, 49, 32, 61, 32, 97, 100, 100, 32, 114, 48, 32, 45, 53]⟩ : ByteArray) (by decide)
  have a2 := scan_f (⟨#[97, 32, 48, 49, 50]⟩ : ByteArray) (by decide)
  have a3 := scan_f (⟨#[97, 32, 59]⟩ : ByteArray) (by decide)
  have a4 := scan_f (⟨#[49, 50, 97]⟩ : ByteArray) (by decide)
  have v1 : res34 (scanF ((⟨#[114, 49, 32, 61, 32, 97, 100, 100, 32, 114, 48, 32, 45, 53]⟩ : ByteArray).size + 1) (L ⟨#[114, 49, 32, 61, 32, 97, 100, 100, 32, 114, 48, 32, 45, 53]⟩) 0 []) = ([⟨1, 0, 0, ⟨#[114, 49]⟩⟩, ⟨3, 3, 0, ⟨#[61]⟩⟩, ⟨1, 5, 0, ⟨#[97, 100, 100]⟩⟩, ⟨1, 9, 0, ⟨#[114, 48]⟩⟩, ⟨2, 12, -5, ⟨#[]⟩⟩], 0, 0) := by kernel_rfl
  have v2 : res34 (scanF ((⟨#[97, 32, 48, 49, 50]⟩ : ByteArray).size + 1) (L ⟨#[97, 32, 48, 49, 50]⟩) 0 []) = ([], 2, 3) := by kernel_rfl
  have v3 : res34 (scanF ((⟨#[97, 32, 59]⟩ : ByteArray).size + 1) (L ⟨#[97, 32, 59]⟩) 0 []) = ([], 2, 12) := by kernel_rfl
  have v4 : res34 (scanF ((⟨#[49, 50, 97]⟩ : ByteArray).size + 1) (L ⟨#[49, 50, 97]⟩) 0 []) = ([], 0, 3) := by kernel_rfl
  rw [v1] at a1
  rw [v2] at a2
  rw [v3] at a3
  rw [v4] at a4
  unfold burnishlaw13_awake.f
  refine Ev.bind a1 (Ev.bind a2 (Ev.bind a3 (Ev.bind a4 ?_)))
  refine Ev.congr (f := fun _ => some true) (fun k => ?_) (Ev.now _)
  simp only [L_toList]
  kernel_rfl

theorem same_l0 (acc : List Tk) (n : Nat) (hn : acc.length = n) (hb : n ≤ 20000) : ∀ d i : Nat, n - i = d → i ≤ n →
    Ev (fun k => burnishlaw13_same.l0 k (acc.map to34) (acc.map to36) (n : Int) (i : Int)) true := by
  intro d
  induction d with
  | zero =>
    intro i hd hi
    have g : ((i : Int) < (n : Int)) = False := eq_false (by omega)
    refine Ev_up ?_
    simp only [burnishlaw13_same.l0, g, if_false]; exact Ev.now _
  | succ d ih =>
    intro i hd hi
    have g1 : ((i : Int) < (n : Int)) = True := eq_true (by omega)
    have g2 : (0 ≤ (i : Int)) = True := eq_true (by omega)
    have hw : wrap64 ((i : Int) + 1) = ((i + 1 : Nat) : Int) := by rw [show (i : Int) + 1 = ((i + 1 : Nat) : Int) by omega]; exact wrap_nat _ (by omega)
    have r1 : rd_T34 (acc.map to34) (i : Int) = to34 (acc[i]'(by omega)) := by
      unfold rd_T34; rw [Int.toNat_natCast, List.getD_eq_getElem?_getD, List.getElem?_map, List.getElem?_eq_getElem (by omega)]; rfl
    have r2 : rd_T36 (acc.map to36) (i : Int) = to36 (acc[i]'(by omega)) := by
      unfold rd_T36; rw [Int.toNat_natCast, List.getD_eq_getElem?_getD, List.getElem?_map, List.getElem?_eq_getElem (by omega)]; rfl
    refine Ev_up ?_
    simp only [burnishlaw13_same.l0, g1, g2, if_true, List.length_map, hn, r1, r2, hw, to34, to36]
    exact ih (i + 1) (by omega) (by omega)
theorem scanF_len : ∀ (f : Nat) (l : List UInt8) (o : Nat) (acc : List Tk), acc.length ≤ 20000 → (scanF f l o acc).1.length ≤ 20000 := by
  intro f
  induction f with
  | zero => intro l o acc h; exact h
  | succ f ih =>
    intro l o acc h
    rw [scanF]
    split
    · exact h
    · split
      · exact Nat.zero_le _
      · split
        · exact Nat.zero_le _
        · exact ih _ _ _ (by rw [List.length_append, List.length_singleton]; omega)

theorem LexerScans : burnishlaw13_LexerScans.Pure := by
  intro s hs
  apply Ev.rounds
  unfold burnishlaw13_LexerScans.f
  by_cases h7 : s.size > 70000
  · have g : ((s.size : Int) > 70000) = True := eq_true (by omega)
    simp only [g, if_true]
    exact Ev.bind awake_ok (Ev.now _)
  · have g : ((s.size : Int) > 70000) = False := eq_false (by omega)
    simp only [g, if_false]
    by_cases h6 : s.size > 60000
    · have g6 : ((s.size : Int) > 60000) = True := eq_true (by omega)
      have e1 : ∀ k, lexer_Scan.f k s = some ([], 0, 5) := fun k => by unfold lexer_Scan.f; simp only [g6, if_true]
      have e2 : ∀ k, burnishref13_Scan.f k s = some ([], 0, 5) := fun k => by unfold burnishref13_Scan.f; simp only [g6, if_true]
      simp only [e1, e2, Option.bind_some]
      refine Ev.bind awake_ok ?_
      simp only [if_true]
      refine Ev.bind (a := true) ?_ (Ev.now _)
      unfold burnishlaw13_same.f
      simp only [List.length_nil, if_true]
      exact same_l0 [] 0 rfl (by omega) 0 0 rfl (Nat.le_refl _)
    · refine Ev.bind (scan_f s (by omega)) (Ev.bind (rscan_f s (by omega)) (Ev.bind awake_ok ?_))
      have hl := scanF_len (s.size + 1) (L s) 0 [] (by simp)
      obtain ⟨r, hr⟩ : ∃ r, r = scanF (s.size + 1) (L s) 0 [] := ⟨_, rfl⟩
      rw [← hr] at hl ⊢
      simp only [res34, res36, if_true]
      refine Ev.bind (a := true) ?_ (Ev.now _)
      unfold burnishlaw13_same.f
      simp only [List.length_map, if_true]
      exact same_l0 r.1 _ rfl hl _ 0 rfl (by omega)
end Go.Proofs.Ytjfpaglnadfppaa.Pure
