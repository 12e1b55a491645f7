/- LexerBack: the offsets of the tokens of a text increase, and the joined tokens are scanned as the same tokens, apart from the offsets; for every string. -/
import Derived.Test.YtjfpaglnadfppaaPx12
import Derived.Test.YtjfpaglnadfppaaLexJoinImpl
import Derived.Test.YtjfpaglnadfppaaLexAwake
namespace Go.Proofs.Ytjfpaglnadfppaa.Pure
open Go.RowKit Go.Proofs.Ytjfpaglnadfppaa.P Go.Proofs.YtjfpaglnadfppaaW.PrintWords Go.Proofs.YtjfpaglnadfppaaW.PrintLast Lex

theorem words_src (l : List Tk) (h : ∀ x ∈ l, TokOK x) : wordsOf l = l.map Tk.src := by
  induction l with
  | nil => rfl
  | cons x l ih =>
    have ihl := ih (fun y hy => h y (by simp [hy]))
    obtain ⟨hk, _⟩ := h x (by simp)
    rw [wordsOf, List.map_cons, ihl]
    rcases hk with hk | hk | hk
    · rw [if_pos (.inl hk)]; unfold Tk.src srcL; rw [if_neg (by omega)]
    · rw [if_neg (by omega), if_pos hk]; unfold Tk.src srcL; rw [if_pos hk]
    · rw [if_pos (.inr hk)]; unfold Tk.src srcL; rw [if_neg (by omega)]
theorem range_of (x : Tk) (h : TokOK x) : InRange x := by
  obtain ⟨_, c, t, _, _, ht⟩ := h
  have hv : (tokL c t).val = x.val := by rw [ht]
  unfold InRange
  rw [← hv]
  unfold tokL
  split
  · split <;> simp [bad]
  · split
    · simp
    · split
      · simp [bad]
      · unfold numL
        split
        · simp [bad]
        · split
          · rename_i v hp
            unfold parseL at hp
            split at hp
            · split at hp
              · split at hp
                · rename_i hle
                  obtain rfl := Option.some.inj hp
                  unfold top at hle
                  simp only; omega
                · cases hp
              · split at hp
                · rename_i hle
                  obtain rfl := Option.some.inj hp
                  unfold top at hle
                  simp only; omega
                · cases hp
            · cases hp
          · simp [bad]
theorem rd_at (l : List Tk) (i : Nat) (h : i < l.length) : rd_T34 (l.map to34) (i : Int) = to34 l[i] := by
  unfold rd_T34; rw [Int.toNat_natCast, List.getD_eq_getElem?_getD, List.getElem?_map, List.getElem?_eq_getElem h]; rfl
theorem back_l0 (a b : List Tk) (hl : b.length = a.length) (hn : a.length ≤ 20000) (hp : a.Pairwise (fun x y => x.off < y.off))
    (hs : b.map (fun x => (x.kind, x.val, x.text)) = a.map (fun x => (x.kind, x.val, x.text))) : ∀ d i : Nat, a.length - i = d → i ≤ a.length →
    Ev (fun k => burnishlaw13_LexerBack.l0 k (a.map to34) (b.map to34) (a.length : Int) (i : Int)) true := by
  intro d
  induction d with
  | zero =>
    intro i hd hi
    have g : ((i : Int) < (a.length : Int)) = False := eq_false (by omega)
    refine Ev_up ?_
    simp only [burnishlaw13_LexerBack.l0, g, if_false]
    exact Ev.bind awake_ok (Ev.now _)
  | succ d ih =>
    intro i hd hi
    have hlt : i < a.length := by omega
    have hlb : i < b.length := by omega
    have q1 : a.length - (i + 1) = d := by omega
    have q2 : i + 1 ≤ a.length := by omega
    have hw : wrap64 ((i : Int) + 1) = ((i + 1 : Nat) : Int) := by rw [show (i : Int) + 1 = ((i + 1 : Nat) : Int) by omega]; exact wrap_nat _ (by omega)
    have heq : (b[i].kind, b[i].val, b[i].text) = (a[i].kind, a[i].val, a[i].text) := by
      have h1 := congrArg (fun l => l[i]?) hs
      simp only [List.getElem?_map, List.getElem?_eq_getElem hlt, List.getElem?_eq_getElem hlb, Option.map_some, Option.some.injEq] at h1
      exact h1
    injection heq with e1 e2
    injection e2 with e2 e3
    have g : ((i : Int) < (a.length : Int)) = True := eq_true (by omega)
    have g1 : (0 ≤ (i : Int)) = True := eq_true (by omega)
    have g2 : ((i : Int) < (b.length : Int)) = True := eq_true (by omega)
    have hnext := ih (i + 1) q1 q2
    refine Ev_up ?_
    by_cases h0 : 0 < i
    · have hw2 : wrap64 ((i : Int) - 1) = ((i - 1 : Nat) : Int) := by rw [show (i : Int) - 1 = ((i - 1 : Nat) : Int) by omega]; exact wrap_nat _ (by omega)
      have g3 : ((i : Int) > 0) = True := eq_true (by omega)
      have g4 : (0 ≤ ((i - 1 : Nat) : Int)) = True := eq_true (by omega)
      have g5 : (((i - 1 : Nat) : Int) < (a.length : Int)) = True := eq_true (by omega)
      have hoff : a[i - 1].off < a[i].off := List.pairwise_iff_getElem.1 hp (i - 1) i (by omega) hlt (by omega)
      have g6 : ((a[i].off : Int) ≤ (a[i - 1].off : Int)) = False := eq_false (by omega)
      simp only [burnishlaw13_LexerBack.l0, g, g1, g2, g3, g4, g5, if_true, List.length_map, rd_at a i hlt, rd_at b i hlb, hw2, rd_at a (i - 1) (by omega), to34, g6, if_false, e1, e2, e3, hw]
      exact hnext
    · have g3 : ((i : Int) > 0) = False := eq_false (by omega)
      simp only [burnishlaw13_LexerBack.l0, g, g1, g2, g3, if_true, if_false, List.length_map, rd_at a i hlt, rd_at b i hlb, to34, e1, e2, e3, hw]
      exact hnext
theorem err_nil : ∀ (f : Nat) (l : List UInt8) (o : Nat) (acc : List Tk), (scanF f l o acc).2.2 ≠ 0 → (scanF f l o acc).1 = [] := by
  intro f
  induction f with
  | zero => intro l o acc h; exact absurd rfl h
  | succ f ih =>
    intro l o acc h
    rw [scanF] at h ⊢
    split at h
    · exact absurd rfl h
    · split at h
      · rename_i h2; rw [if_pos h2]
      · rename_i h2
        rw [if_neg h2]
        split at h
        · rename_i h3; rw [if_pos h3]
        · rename_i h3; rw [if_neg h3]; exact ih _ _ _ h
theorem LexerBack : burnishlaw13_LexerBack.Pure := by
  intro s hs
  apply Ev.rounds
  unfold burnishlaw13_LexerBack.f
  by_cases h7 : s.size > 20000
  · have g : ((s.size : Int) > 20000) = True := eq_true (by omega)
    simp only [g, if_true]
    exact Ev.bind awake_ok (Ev.now _)
  · have g : ((s.size : Int) > 20000) = False := eq_false (by omega)
    simp only [g, if_false]
    refine Ev.bind (scan_f s (by omega)) ?_
    have hl := scanF_len (s.size + 1) (L s) 0 [] (by simp)
    have hfacts := scan_facts (s.size + 1) (L s) 0 []
    have herr := err_nil (s.size + 1) (L s) 0 []
    obtain ⟨r, hr⟩ : ∃ r, r = scanF (s.size + 1) (L s) 0 [] := ⟨_, rfl⟩
    rw [← hr] at hl hfacts herr ⊢
    by_cases h0 : r.2.2 = 0
    · obtain ⟨more, hm, hall, htot, hpw⟩ := hfacts h0
      rw [List.nil_append] at hm
      rw [L_length] at htot
      have hok : ∀ x ∈ more, TokOK x := fun x hx => (hall x hx).1
      have hge := tot_ge more hok
      have hjl := joinB_length more
      have hws := words_src more hok
      rw [hm] at hl
      have b1 : (joinB (more.map Tk.src)).length ≤ 40000 := by omega
      simp only [res34, h0, if_true, hm]
      refine Ev.bind (join_f more (fun x hx => range_of x (hok x hx)) (by omega) (by rw [hws]; omega)) ?_
      rw [hws]
      have hS : (⟨(joinB (more.map Tk.src)).toArray⟩ : ByteArray).size = (joinB (more.map Tk.src)).length := by simp [ByteArray.size]
      refine Ev.bind (scan_f _ (by rw [hS]; omega)) ?_
      rw [hS, L_mk]
      have hcnt : more.length ≤ (joinB (more.map Tk.src)).length := by
        have : ∀ l : List Tk, tot l ≤ (joinB (l.map Tk.src)).length := by
          intro l
          induction l with
          | nil => simp [tot]
          | cons x l ih =>
            cases l with
            | nil => simp [tot, joinB]
            | cons y t =>
              have e : joinB ((x :: y :: t).map Tk.src) = x.src ++ 32 :: joinB ((y :: t).map Tk.src) := rfl
              rw [tot_cons, e, List.length_append, List.length_cons]; omega
        exact Nat.le_trans hge (this more)
      obtain ⟨l', h1, h2⟩ := rescan more hok (joinB (more.map Tk.src)).length 0 [] hcnt (by simpa using hl)
      rw [h1, List.nil_append]
      have hlen : l'.length = more.length := by have := congrArg List.length h2; simpa using this
      have e1 : (((l'.map to34).length : Int) != ((more.map to34).length : Int)) = false := by rw [List.length_map, List.length_map, hlen]; simp
      simp only [res34, if_true, e1]
      refine Ev_up ?_
      simp only [burnishlaw13_LexerBack.j0, Bool.false_eq_true, if_false, List.length_map]
      exact back_l0 more l' hlen hl hpw h2 _ 0 rfl (Nat.zero_le _)
    · have hnil := herr h0
      simp only [res34, h0, if_false, hnil]
      refine Ev.bind awake_ok ?_
      exact Ev_now rfl
end Go.Proofs.Ytjfpaglnadfppaa.Pure
