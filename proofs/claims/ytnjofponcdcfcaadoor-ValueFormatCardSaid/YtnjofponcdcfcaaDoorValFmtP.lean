/- Different valid values have different texts. No program in sight but the definitions. -/
import Derived.Test.YtnjofponcdcfcaaDoorValNat6
set_option linter.all false
namespace Go.Proofs.YtnjofponcdcfcaaDoor
open Go Ab
set_option maxRecDepth 100000
def flatT : List (List UInt8) → List UInt8
  | [] => []
  | t :: ts => 32 :: (t ++ flatT ts)
theorem flat_head (ts : List (List UInt8)) : flatT ts = [] ∨ ∃ r, flatT ts = 32 :: r := by
  cases ts with
  | nil => exact .inl rfl
  | cons t ts => exact .inr ⟨_, rfl⟩
theorem flat_inj : ∀ {ts us : List (List UInt8)}, (∀ t ∈ ts, (32 : UInt8) ∉ t) → (∀ t ∈ us, (32 : UInt8) ∉ t) → flatT ts = flatT us → ts = us
  | [], [], _, _, _ => rfl
  | [], u :: us, _, _, h => by cases h
  | t :: ts, [], _, _, h => by cases h
  | t :: ts, u :: us, h1, h2, h => by
    simp only [flatT, List.cons.injEq, true_and] at h
    obtain ⟨e1, e2⟩ := sep_inj (32 : UInt8) (h1 t (List.mem_cons_self ..)) (h2 u (List.mem_cons_self ..)) (flat_head ts) (flat_head us) h
    rw [e1, flat_inj (fun t ht => h1 t (List.mem_cons_of_mem _ ht)) (fun t ht => h2 t (List.mem_cons_of_mem _ ht)) e2]
def poL : List UInt8 := [112, 111, 105, 115, 111, 110]
def unL : List UInt8 := [117, 110, 107, 110, 111, 119, 110]
def tokV (l : Lane) : List UInt8 := if l.p then poL else if l.u then unL else Lib.itoa l.n
def toksV (v : Val) : List (List UInt8) :=
  (if v.t = 5 ∧ v.a.p = false then [Lib.itoa v.o] else []) ++ (tokV v.a :: (if nlV v.t = 1 then [] else if nlV v.t = 2 then [tokV v.b] else [tokV v.b, tokV v.c, tokV v.d]))
def nameV (t : Int) : List UInt8 := (tnV t).data.toList
theorem itoa_sp (n : Int) : (32 : UInt8) ∉ Lib.itoa n := fun h => by
  have h58 : (32 : UInt8).toNat = 32 := rfl
  have := itoa_byte _ _ h
  omega
theorem tok_spV (l : Lane) : (32 : UInt8) ∉ tokV l := by
  unfold tokV
  split
  · decide
  · split
    · decide
    · exact itoa_sp _
theorem toks_sp (v : Val) : ∀ t ∈ toksV v, (32 : UInt8) ∉ t := by
  intro t ht
  unfold toksV at ht
  rcases List.mem_append.1 ht with h | h
  · split at h
    · simp only [List.mem_singleton] at h; subst h; exact itoa_sp _
    · cases h
  · rcases List.mem_cons.1 h with h | h
    · subst h; exact tok_spV _
    · split at h
      · cases h
      · split at h
        · simp only [List.mem_singleton] at h; subst h; exact tok_spV _
        · simp only [List.mem_cons, List.not_mem_nil, or_false] at h
          rcases h with rfl | rfl | rfl <;> exact tok_spV _
theorem lane_text (l : Lane) : (laneB l).data.toList = 32 :: tokV l := by
  unfold laneB tokV
  cases l.p
  · cases l.u
    · show (spB ++ decA l.n).data.toList = 32 :: Lib.itoa l.n
      rw [ByteArray.data_append, Array.toList_append]
      rfl
    · rfl
  · rfl
theorem head_text (v : Val) : (headB v).data.toList = nameV v.t ++ flatT (if v.t = 5 ∧ v.a.p = false then [Lib.itoa v.o] else []) := by
  unfold headB nameV
  by_cases h : v.t = 5
  · rw [sEq_true h, sI4]
    cases hp : v.a.p
    · rw [if_pos ⟨h, rfl⟩]
      show (tnV v.t ++ (spB ++ decA v.o)).data.toList = _
      rw [ByteArray.data_append, Array.toList_append, ByteArray.data_append, Array.toList_append]
      simp [flatT, spB, decA]
    · rw [if_neg (by simp)]
      show (tnV v.t).data.toList = _
      simp [flatT]
  · rw [sEq_false h, sI5, sI5, if_neg (fun e => h e.1)]
    simp [flatT]
theorem flat_append : ∀ (a b : List (List UInt8)), flatT (a ++ b) = flatT a ++ flatT b
  | [], b => rfl
  | t :: a, b => by simp [flatT, flat_append a b]
theorem fmt_text (v : Val) : (fmtV v).data.toList = nameV v.t ++ flatT (toksV v) := by
  have h0 := head_text v
  have ha := lane_text v.a
  have hb := lane_text v.b
  have hc := lane_text v.c
  have hd := lane_text v.d
  have ap : ∀ x y : ByteArray, (x ++ y).data.toList = x.data.toList ++ y.data.toList := fun x y => by rw [ByteArray.data_append, Array.toList_append]
  unfold fmtV toksV
  rw [flat_append]
  by_cases h1 : nlV v.t = 1
  · rw [if_pos h1, if_pos h1, ap, h0, ha]
    simp [flatT]
  · rw [if_neg h1, if_neg h1]
    by_cases h2 : nlV v.t = 2
    · rw [if_pos h2, if_pos h2, ap, ap, h0, ha, hb]
      simp [flatT]
    · rw [if_neg h2, if_neg h2, ap, ap, ap, ap, h0, ha, hb, hc, hd]
      simp [flatT]
theorem names_injV : ∀ i : Nat, i < 8 → ∀ j : Nat, j < 8 → 0 < i → 0 < j → nameV (i : Nat) = nameV (j : Nat) → i = j := by decide
theorem names_spV : ∀ i : Nat, i < 8 → (32 : UInt8) ∉ nameV (i : Nat) := by decide
theorem valid_range {v : Val} (h : validV v = true) : 1 ≤ v.t ∧ v.t ≤ 7 := by
  have := valid_typ h
  by_cases c : v.t < 1 ∨ 7 < v.t
  · exact absurd ⟨c⟩ this
  · omega
theorem valid_zero {v : Val} (h : validV v = true) : (¬ 1 < nlV v.t → v.b = L0) ∧ (¬ 2 < nlV v.t → v.c = L0) ∧ (¬ 3 < nlV v.t → v.d = L0) ∧ (v.t = 5 → v.a.p = true → v.o = 0) := by
  unfold validV validG at h
  have key : ∀ (e a b c d h5 z y : Bool), sIf e false (sIf a false (sIf b false (sIf c false (sIf d false (sIf h5 y z))))) = true → b = false ∧ c = false ∧ d = false ∧ (h5 = false → z = true) := by
    intro e a b c d h5 z y
    cases e <;> cases a <;> cases b <;> cases c <;> cases d <;> cases h5 <;> cases z <;> simp [sIf]
  obtain ⟨k1, k2, k3, k4⟩ := key _ _ _ _ _ _ _ _ h
  have one : ∀ {k : Int} {l : Lane}, lb vlV v.t k l = false → ¬ k < nlV v.t → l = L0 := by
    intro k l e hk
    unfold lb at e
    rw [sLt_false hk, sI5] at e
    obtain ⟨n, p, u⟩ := l
    have : zL ⟨n, p, u⟩ = true := by simpa [sNot] using e
    simpa [zL, sAnd, sEq, sEqB, L0] using this
  refine ⟨one k1, one k2, one k3, fun h5 hp => ?_⟩
  have := k4 (by rw [sEq_true h5, sI4, hp]; rfl)
  simpa [sEq] using this
theorem lane_inj {l m : Lane} {t : Int} (hl : vlV l t = true) (hm : vlV m t = true) (h : tokV l = tokV m) : l = m := by
  obtain ⟨n, p, u⟩ := l
  obtain ⟨n', p', u'⟩ := m
  unfold vlV at hl hm
  unfold tokV at h
  simp only at hl hm h
  have np : ∀ x : Int, poL ≠ Lib.itoa x := fun x e => by
    have h1 : (112 : UInt8) ∈ Lib.itoa x := by rw [← e]; decide
    have h2 := itoa_byte _ _ h1
    have h3 : (112 : UInt8).toNat = 112 := rfl
    omega
  have nu : ∀ x : Int, unL ≠ Lib.itoa x := fun x e => by
    have h1 : (117 : UInt8) ∈ Lib.itoa x := by rw [← e]; decide
    have h2 := itoa_byte _ _ h1
    have h3 : (117 : UInt8).toNat = 117 := rfl
    omega
  have zr : ∀ (x : Int) (p u : Bool), sIf p true u = true → sIf (sIf p true u) (sIf (sAnd (sEq x 0) (sAnd (sEqB p true) (sAnd (sEqB u false) true))) true (sAnd (sEq x 0) (sAnd (sEqB p false) (sAnd (sEqB u true) true)))) (sEq (wV t x) x) = true → x = 0 := by
    intro x p u hp e
    by_cases hx : x = 0
    · exact hx
    · rw [hp, sI4, sEq_false hx] at e
      cases p <;> cases u <;> cases e
  have bad : ∀ {x : Int}, sIf (sIf true true true) (sIf (sAnd (sEq x 0) (sAnd (sEqB true true) (sAnd (sEqB true false) true))) true (sAnd (sEq x 0) (sAnd (sEqB true false) (sAnd (sEqB true true) true)))) (sEq (wV t x) x) = true → False := by
    intro x e
    generalize sEq x 0 = z at e
    cases z <;> cases e
  cases p <;> cases u <;> cases p' <;> cases u'
  case false.false.false.false => rw [itoa_inj (show Lib.itoa n = Lib.itoa n' from h)]
  case false.false.false.true => exact absurd (show unL = Lib.itoa n from h.symm) (nu n)
  case false.false.true.false => exact absurd (show poL = Lib.itoa n from h.symm) (np n)
  case false.false.true.true => exact (bad hm).elim
  case false.true.false.false => exact absurd (show unL = Lib.itoa n' from h) (nu n')
  case false.true.false.true => rw [zr n false true rfl hl, zr n' false true rfl hm]
  case false.true.true.false => exact absurd (show unL = poL from h) (by decide)
  case false.true.true.true => exact (bad hm).elim
  case true.false.false.false => exact absurd (show poL = Lib.itoa n' from h) (np n')
  case true.false.false.true => exact absurd (show poL = unL from h) (by decide)
  case true.false.true.false => rw [zr n true false rfl hl, zr n' true false rfl hm]
  case true.false.true.true => exact (bad hm).elim
  all_goals exact (bad hl).elim
theorem fmt_injV {a b : Val} (ha : validV a = true) (hb : validV b = true) (h : fmtV a = fmtV b) : a = b := by
  have h := congrArg (fun x : ByteArray => x.data.toList) h
  simp only [fmt_text] at h
  obtain ⟨ra1, ra2⟩ := valid_range ha
  obtain ⟨rb1, rb2⟩ := valid_range hb
  have hsa : (32 : UInt8) ∉ nameV a.t := by have := names_spV a.t.toNat (by omega); rwa [Int.toNat_of_nonneg (by omega)] at this
  have hsb : (32 : UInt8) ∉ nameV b.t := by have := names_spV b.t.toNat (by omega); rwa [Int.toNat_of_nonneg (by omega)] at this
  obtain ⟨hn, hf⟩ := sep_inj (32 : UInt8) hsa hsb (flat_head _) (flat_head _) h
  have ht : a.t = b.t := by
    have := names_injV a.t.toNat (by omega) b.t.toNat (by omega) (by omega) (by omega) (by rw [Int.toNat_of_nonneg (by omega), Int.toNat_of_nonneg (by omega)]; exact hn)
    omega
  have hk := flat_inj (toks_sp a) (toks_sp b) hf
  obtain ⟨la0, la1, la2, la3⟩ := valid_lanes ha
  obtain ⟨lb0, lb1, lb2, lb3⟩ := valid_lanes hb
  obtain ⟨za1, za2, za3, zo⟩ := valid_zero ha
  obtain ⟨zb1, zb2, zb3, zp⟩ := valid_zero hb
  have oa5 := valid_o ha
  have ob5 := valid_o hb
  obtain ⟨t, o, a0, a1, a2, a3⟩ := a
  obtain ⟨t', o', b0, b1, b2, b3⟩ := b
  simp only at ht
  subst ht
  simp only at *
  unfold toksV at hk
  simp only at hk
  have tail : ∀ {x y : List UInt8} {r s : List (List UInt8)}, x :: r = y :: s → x = y ∧ r = s := fun e => by simpa using e
  -- the pointer's object
  have hobj : o = o' ∧ tokV a0 = tokV b0 ∧ (if nlV t = 1 then ([] : List (List UInt8)) else if nlV t = 2 then [tokV a1] else [tokV a1, tokV a2, tokV a3]) = (if nlV t = 1 then [] else if nlV t = 2 then [tokV b1] else [tokV b1, tokV b2, tokV b3]) := by
    by_cases h5 : t = 5
    · have hnl : nlV t = 1 := by rw [h5]; decide
      rw [if_pos hnl, if_pos hnl] at hk ⊢
      cases hp : a0.p
      · cases hq : b0.p
        · rw [if_pos ⟨h5, hp⟩, if_pos ⟨h5, hq⟩] at hk
          simp only [List.singleton_append, List.cons.injEq, and_true] at hk
          exact ⟨itoa_inj hk.1, hk.2, rfl⟩
        · rw [if_pos ⟨h5, hp⟩, if_neg (fun e => by rw [hq] at e; cases e.2)] at hk
          simp at hk
      · cases hq : b0.p
        · rw [if_neg (fun e => by rw [hp] at e; cases e.2), if_pos ⟨h5, hq⟩] at hk
          simp at hk
        · rw [if_neg (fun e => by rw [hp] at e; cases e.2), if_neg (fun e => by rw [hq] at e; cases e.2)] at hk
          simp only [List.nil_append, List.cons.injEq, and_true] at hk
          exact ⟨by rw [zo h5 hp, zp h5 hq], hk, rfl⟩
    · rw [if_neg (show ¬ (t = 5 ∧ a0.p = false) from fun e => h5 e.1), if_neg (show ¬ (t = 5 ∧ b0.p = false) from fun e => h5 e.1)] at hk
      simp only [List.nil_append, List.cons.injEq] at hk
      exact ⟨by rw [oa5 h5, ob5 h5], hk⟩
  obtain ⟨ho, h0, hr⟩ := hobj
  have e0 := lane_inj la0 lb0 h0
  have hty : nlV t = 1 ∨ nlV t = 2 ∨ nlV t = 4 := by
    have hc : t = 1 ∨ t = 2 ∨ t = 3 ∨ t = 4 ∨ t = 5 ∨ t = 6 ∨ t = 7 := by omega
    rcases hc with rfl | rfl | rfl | rfl | rfl | rfl | rfl <;> decide
  rcases hty with hn | hn | hn
  · rw [hn] at za1 za2 za3 zb1 zb2 zb3
    rw [ho, e0, za1 (by omega), za2 (by omega), za3 (by omega), zb1 (by omega), zb2 (by omega), zb3 (by omega)]
  · rw [if_neg (by omega), if_pos hn, if_neg (by omega), if_pos hn] at hr
    rw [hn] at za2 za3 zb2 zb3 la1 lb1
    simp only [List.cons.injEq, and_true] at hr
    rw [ho, e0, lane_inj (la1 (by omega)) (lb1 (by omega)) hr, za2 (by omega), za3 (by omega), zb2 (by omega), zb3 (by omega)]
  · rw [if_neg (by omega), if_neg (by omega), if_neg (by omega), if_neg (by omega)] at hr
    rw [hn] at la1 lb1 la2 lb2 la3 lb3
    simp only [List.cons.injEq, and_true] at hr
    rw [ho, e0, lane_inj (la1 (by omega)) (lb1 (by omega)) hr.1, lane_inj (la2 (by omega)) (lb2 (by omega)) hr.2.1, lane_inj (la3 (by omega)) (lb3 (by omega)) hr.2.2]
end Go.Proofs.YtnjofponcdcfcaaDoor
