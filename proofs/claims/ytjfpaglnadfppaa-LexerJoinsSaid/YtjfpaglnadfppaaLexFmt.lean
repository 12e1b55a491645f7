/- The plain law of decimal texts and of joined tokens: a canonical integer is the text of its value, and joined tokens are scanned as the same tokens. -/
import Derived.Test.YtjfpaglnadfppaaLexMore
namespace Go.Proofs.Ytjfpaglnadfppaa.Lex

/-- The digits of a number, the last one first. -/
def revDig : Nat → Nat → List UInt8
  | 0, _ => []
  | f + 1, u => UInt8.ofNat (48 + u % 10) :: (if u / 10 = 0 then [] else revDig f (u / 10))
def fmtL (v : Int) : List UInt8 := (if v < 0 then [45] else []) ++ (revDig 20 v.natAbs).reverse

theorem valFrom_snoc (n : Nat) (d : List UInt8) (c : UInt8) : valFrom n (d ++ [c]) = 10 * valFrom n d + (c.toNat - 48) := by
  unfold valFrom; rw [List.foldl_append]; rfl
theorem dig_toNat (c : UInt8) (h : digB c = true) : 48 ≤ c.toNat ∧ c.toNat ≤ 57 := by simpa [digB] using h
theorem plain_pos (c : UInt8) (t : List UInt8) (h : plainB (c :: t) = true) (ht : t ≠ []) : 1 ≤ valFrom 0 (c :: t) := by
  simp only [plainB, List.all_cons, Bool.and_eq_true, List.head?_cons, Option.some.injEq] at h
  have hc := dig_toNat c h.1.1.1
  have h48 : c ≠ 48 := by
    intro e
    have h2 := h.2
    simp [e] at h2
    exact ht h2
  have hc2 : c.toNat ≠ 48 := fun e => h48 (UInt8.toNat_inj.1 e)
  rw [valFrom_cons]
  exact Nat.le_trans (by omega) (valFrom_ge t _)
theorem plain_init (d : List UInt8) (c : UInt8) (h : plainB (d ++ [c]) = true) (hd : d ≠ []) : plainB d = true := by
  cases d with
  | nil => exact absurd rfl hd
  | cons a d =>
    simp only [plainB, List.cons_append, List.all_cons, List.all_append, Bool.and_eq_true, List.head?_cons, Option.some.injEq] at h ⊢
    refine ⟨⟨⟨h.1.1.1, h.1.1.2.1⟩, rfl⟩, ?_⟩
    have h2 := h.2
    by_cases h48 : a = 48
    · simp [h48] at h2
    · simp [h48]
/-- A canonical digit text is what its value is written as. -/
theorem revDig_val : ∀ (n : Nat) (d : List UInt8), d.length = n → plainB d = true → ∀ f, n ≤ f → revDig f (valFrom 0 d) = d.reverse := by
  intro n
  induction n with
  | zero => intro d hd hp f hf; rw [List.eq_nil_of_length_eq_zero hd] at hp; simp [plainB] at hp
  | succ n ih =>
    intro d hd hp f hf
    obtain ⟨f, rfl⟩ : ∃ g, f = g + 1 := ⟨f - 1, by omega⟩
    obtain ⟨e, c, rfl⟩ : ∃ e c, d = e ++ [c] := by
      rcases List.eq_nil_or_concat d with h | ⟨e, c, h⟩
      · rw [h] at hd; simp at hd
      · exact ⟨e, c, by simpa using h⟩
    have hc : digB c = true := by
      simp only [plainB, List.all_append, List.all_cons, Bool.and_eq_true] at hp
      exact hp.1.1.2.1
    have hcn := dig_toNat c hc
    rw [revDig, valFrom_snoc, show (10 * valFrom 0 e + (c.toNat - 48)) % 10 = c.toNat - 48 by omega, show (10 * valFrom 0 e + (c.toNat - 48)) / 10 = valFrom 0 e by omega]
    have hco : UInt8.ofNat (48 + (c.toNat - 48)) = c := by rw [show 48 + (c.toNat - 48) = c.toNat by omega, UInt8.ofNat_toNat]
    rw [hco, List.reverse_append]
    show c :: _ = c :: e.reverse
    congr 1
    cases e with
    | nil => rw [if_pos (show valFrom 0 [] = 0 from rfl)]; rfl
    | cons a e =>
      have hpl := plain_init (a :: e) c hp (by simp)
      by_cases hz : valFrom 0 (a :: e) = 0
      · rw [if_pos hz]
        exfalso
        cases e with
        | nil =>
          -- one digit ahead of another: it is no zero
          have h2 : a ≠ 48 := by
            intro e2
            simp [plainB, e2] at hp
          have h3 : digB a = true := by simp only [plainB, List.all_cons, Bool.and_eq_true] at hpl; exact hpl.1.1.1
          have h4 := dig_toNat a h3
          have h5 : a.toNat ≠ 48 := fun e => h2 (UInt8.toNat_inj.1 e)
          rw [valFrom_cons] at hz
          have h6 : 10 * 0 + (a.toNat - 48) = 0 := hz
          omega
        | cons b e =>
          have := plain_pos a (b :: e) hpl (by simp)
          omega
      · rw [if_neg hz]
        exact ih (a :: e) (by simp at hd ⊢; omega) hpl f (by omega)
theorem parse_fmt (x : List UInt8) (v : Int) (h : parseL x = some v) : fmtL v = x ∧ canonL x = true := by
  unfold parseL at h
  by_cases hc : canonL x = true
  · rw [if_pos hc] at h
    refine ⟨?_, hc⟩
    unfold canonL at hc
    simp only [Bool.and_eq_true, Bool.not_eq_true', decide_eq_false_iff_not] at hc
    have hlen : ∀ V, valFrom 0 (trim x) = V → V ≤ top → (trim x).length ≤ 20 := by
      intro V hV hle
      by_cases hl : (trim x).length ≤ 20
      · exact hl
      · exfalso
        cases ht : trim x with
        | nil => rw [ht] at hl; simp at hl
        | cons a t =>
          rw [ht] at hl hV hc
          cases t with
          | nil => simp at hl
          | cons b t =>
            have h1 := plain_pos a (b :: t) hc.1 (by simp)
            -- the head digit alone is at least 1
            have h48 : a ≠ 48 := by intro e; have := hc.1; simp [plainB, e] at this
            have hda : digB a = true := by have := hc.1; simp only [plainB, List.all_cons, Bool.and_eq_true] at this; exact this.1.1.1
            have h4 := dig_toNat a hda
            have h5 : a.toNat ≠ 48 := fun e => h48 (UInt8.toNat_inj.1 e)
            have h2 := valFrom_pow (b :: t) (10 * 0 + (a.toNat - 48))
            rw [← valFrom_cons, hV] at h2
            have h3 : 10 ^ 20 ≤ 10 ^ (b :: t).length := Nat.pow_le_pow_right (by omega) (by simp at hl ⊢; omega)
            have h6 : 1 * 10 ^ (b :: t).length ≤ (10 * 0 + (a.toNat - 48)) * 10 ^ (b :: t).length := Nat.mul_le_mul_right _ (by omega)
            unfold top at hle
            omega
    cases hm : minusB x with
    | true =>
      rw [hm] at h
      simp only [if_true] at h
      by_cases hle : valFrom 0 (trim x) ≤ top
      · rw [if_pos hle] at h
        obtain rfl := Option.some.inj h
        have hx : x = 45 :: trim x := by
          cases x with
          | nil => simp [minusB] at hm
          | cons c t => simp [minusB] at hm; simp [trim, minusB, hm]
        have hpos : valFrom 0 (trim x) ≠ 0 := by
          intro hz
          cases ht : trim x with
          | nil => rw [ht] at hc; simp [plainB] at hc
          | cons a t =>
            rw [ht] at hz hc hx
            cases t with
            | nil =>
              have hda : digB a = true := by have := hc.1; simp only [plainB, List.all_cons, Bool.and_eq_true] at this; exact this.1.1.1
              have h4 := dig_toNat a hda
              rw [valFrom_cons] at hz
              have hz' : 10 * 0 + (a.toNat - 48) = 0 := hz
              have : a = 48 := UInt8.toNat_inj.1 (show a.toNat = 48 by omega)
              rw [this] at hx
              exact hc.2 hx
            | cons b t => have := plain_pos a (b :: t) hc.1 (by simp); omega
        unfold fmtL
        rw [if_pos (by omega), Int.natAbs_neg, Int.natAbs_natCast, revDig_val _ _ rfl hc.1 20 (hlen _ rfl hle), List.reverse_reverse]
        exact hx.symm
      · rw [if_neg hle] at h; cases h
    | false =>
      rw [hm] at h
      simp only [Bool.false_eq_true, if_false] at h
      by_cases hle : valFrom 0 (trim x) < top
      · rw [if_pos hle] at h
        obtain rfl := Option.some.inj h
        have hx : trim x = x := by unfold trim; rw [hm]; rfl
        unfold fmtL
        rw [if_neg (by omega), Int.natAbs_natCast, revDig_val _ _ rfl hc.1 20 (hlen _ rfl (Nat.le_of_lt hle)), List.reverse_reverse, List.nil_append, hx]
      · rw [if_neg hle] at h; cases h
  · rw [if_neg hc] at h; cases h
/-- The bytes that a token stood for. -/
def srcL (k : Int) (v : Int) (t : List UInt8) : List UInt8 := if k = 2 then fmtL v else t
theorem span_take (p : UInt8 → Bool) (l : List UInt8) : span p (l.take (span p l)) = span p l := by
  have h1 : (l.take (span p l)).all p = true := by rw [take_span]; exact List.all_takeWhile
  have h2 := (span_all p (l.take (span p l))).2 h1
  rw [h2, List.length_take]
  have := span_le p l
  omega
/-- The token, out of its own bytes alone. -/
theorem tokL_src (c : UInt8) (t : List UInt8) (h : (tokL c t).err = 0) :
    (c :: t).take (tokL c t).len = srcL (tokL c t).kind (tokL c t).val (tokL c t).text ∧ ∃ t', (c :: t).take (tokL c t).len = c :: t' ∧ tokL c t' = tokL c t := by
  have hlen := tokL_len c t h
  obtain ⟨n, hn⟩ : ∃ n, n = (tokL c t).len := ⟨_, rfl⟩
  have htk : ∃ t', (c :: t).take n = c :: t' ∧ t' = t.take (n - 1) := ⟨t.take (n - 1), by rw [show n = (n - 1) + 1 by omega, List.take_succ_cons]; rfl, rfl⟩
  obtain ⟨t', ht', _⟩ := htk
  rw [← hn]
  by_cases h1 : letB c = true
  · have e : tokL c t = if 24 < span wordB (c :: t) then bad 6 else ⟨1, 0, (c :: t).take (span wordB (c :: t)), span wordB (c :: t), 0⟩ := by unfold tokL; rw [if_pos h1]
    by_cases h2 : 24 < span wordB (c :: t)
    · rw [e, if_pos h2] at h; simp [bad] at h
    · rw [if_neg h2] at e
      have hns : n = span wordB (c :: t) := by rw [hn, e]
      refine ⟨by rw [e, hns]; rfl, t', ht', ?_⟩
      have hsp := span_take wordB (c :: t)
      rw [← hns, ht'] at hsp
      have e' : tokL c t' = ⟨1, 0, (c :: t').take (span wordB (c :: t')), span wordB (c :: t'), 0⟩ := by unfold tokL; rw [if_pos h1, if_neg (by rw [hsp, hns]; exact h2)]
      rw [e', e, hsp, hns, ← ht', ← hns]
      congr 1
      rw [List.take_take, Nat.min_self]
  · by_cases h2 : punctB c = true
    · have e : ∀ u, tokL c u = ⟨3, 0, [c], 1, 0⟩ := fun u => by unfold tokL; rw [if_neg h1, if_pos h2]
      have hn1 : n = 1 := by rw [hn, e]
      refine ⟨by rw [e, hn1]; rfl, t', ht', by rw [e, e]⟩
    · have e : ∀ u, tokL c u = if span digB ((c :: u).drop (signN c)) = 0 then bad 12 else numL (c :: u) (signN c + span digB ((c :: u).drop (signN c))) := fun u => by unfold tokL; rw [if_neg h1, if_neg h2]
      by_cases h3 : span digB ((c :: t).drop (signN c)) = 0
      · rw [e, if_pos h3] at h; simp [bad] at h
      · have et := e t
        rw [if_neg h3] at et
        obtain ⟨g, hg⟩ : ∃ g, g = signN c + span digB ((c :: t).drop (signN c)) := ⟨_, rfl⟩
        rw [← hg] at et
        have hng : n = g := by rw [hn, et]; rw [et] at h; exact numL_len _ _ h
        have hs1 : signN c ≤ 1 := by unfold signN; split <;> omega
        -- the span in the taken text
        have hsp : span digB ((c :: t').drop (signN c)) = span digB ((c :: t).drop (signN c)) := by
          rw [← ht', List.drop_take, hng, hg, Nat.add_sub_cancel_left, span_take]
        have et' := e t'
        rw [if_neg (by rw [hsp]; exact h3), hsp, ← hg] at et'
        have hnum : numL (c :: t') g = numL (c :: t) g := by
          rw [et] at h
          unfold numL at h ⊢
          rw [← ht', hng, List.take_take, Nat.min_self]
          have hd : ((c :: t).take g).drop g = [] := by rw [List.drop_take, Nat.sub_self, List.take_zero]
          rw [hd]
          by_cases hbad : ((!canonL ((c :: t).take g)) || ((c :: t).drop g).head?.any letB) = true
          · rw [if_pos hbad] at h; simp [bad] at h
          · rw [if_neg hbad]
            have : (!canonL ((c :: t).take g)) = false := by
              rw [Bool.not_eq_true, Bool.or_eq_false_iff] at hbad; exact hbad.1
            rw [this]; rfl
        refine ⟨?_, t', ht', by rw [et', et, hnum]⟩
        rw [et] at h ⊢
        rw [hng]
        unfold numL at h ⊢
        by_cases hbad : ((!canonL ((c :: t).take g)) || ((c :: t).drop g).head?.any letB) = true
        · rw [if_pos hbad] at h; simp [bad] at h
        · rw [if_neg hbad] at h ⊢
          cases hp : parseL ((c :: t).take g) with
          | none => rw [hp] at h; simp [bad] at h
          | some v => simp only [srcL]; rw [(parse_fmt _ v hp).1]; rfl
end Go.Proofs.Ytjfpaglnadfppaa.Lex
