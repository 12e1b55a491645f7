import Derived.Test.YtlidfaaajjfgfaaDoorAbOps
set_option linter.unusedVariables false
set_option linter.all false
namespace Go.Proofs.YtlidfaaajjfgfaaDoor.Ab
open Go.RowKit

/-- A bound of a slice expression. -/
def bndAV : Option AV → Option (Option Int)
  | none => some none
  | some (.int _ n) => some (some n)
  | _ => none

def bndOk (lo hi : Option Int) (len : Nat) : Bool :=
  let h := hi.getD len
  let l := lo.getD 0
  sAnd (sAnd (sLe 0 l) (sLe l h)) (sLe h len)

def cutL {α : Type} (lo hi : Option Int) (xs : List α) : List α :=
  match lo, hi with
  | none, none => xs
  | some l, none => xs.drop l.toNat
  | none, some h => xs.take h.toNat
  | some l, some h => (xs.take h.toNat).drop l.toNat

def qSlice (P : Program) (rows : Rows) (t : TypeId) (x : AV) (lo hi : Option Int) : Option (Bool × AV) :=
  match P.underlying t with
  | some .string => match x with
    | .str s => some (bndOk lo hi s.size, .str (s.extract (lo.getD 0).toNat (hi.getD s.size).toNat))
    | _ => none
  | some (.slice et) => match x with
    | .dsl e xs => if sizeIs P et e.size then some (bndOk lo hi xs.length, .dsl e (cutL lo hi xs)) else none
    | .osl r g st len => match rows.get r with
      | some (.arr g' s _) => if g = g' ∧ sizeIs P et s.size = true then some (bndOk lo hi len, .osl r g (st + (lo.getD 0).toNat) ((hi.getD len).toNat - (lo.getD 0).toNat)) else none
      | _ => none
    | .own r g => match rows.get r with
      | some (.arr g' s xs) => if g = g' ∧ sizeIs P et s.size = true then some (bndOk lo hi xs.length, .osl r g (lo.getD 0).toNat ((hi.getD xs.length).toNat - (lo.getD 0).toNat)) else none
      | _ => none
    | .nils => if (P.info? et).isSome then some (bndOk lo hi 0, .nils) else none
    | _ => none
  | _ => none

theorem cutL_eq {α : Type} (lo hi : Option Int) (xs : List α) : cutL lo hi xs = (xs.take (hi.getD xs.length).toNat).drop (lo.getD 0).toNat := by
  cases lo <;> cases hi <;> simp [cutL]

/-- A bound's Go value. -/
def BndRel (a : Option AV) (v : Option Value) : Prop := (a = none ∧ v = none) ∨ ∃ k n, a = some (.int k n) ∧ v = some (.int k n)

theorem bounds_run {P : Program} {w : World} {la ha : Option AV} {lv hv : Option Value} {lo hi : Option Int} {isSl : Bool} {len cap : Nat} (hl : BndRel la lv) (hh : BndRel ha hv)
    (h1 : bndAV la = some lo) (h2 : bndAV ha = some hi) (hok : bndOk lo hi len = true) (hcap : len ≤ cap) :
    (Instr.sliceBounds isSl len cap lv hv none).run P w = .ok ((lo.getD 0).toNat, (hi.getD len).toNat, cap) w := by
  simp only [bndOk, Bool.and_eq_true, decide_eq_true_eq] at hok
  rcases hl with ⟨rfl, rfl⟩ | ⟨k, n, rfl, rfl⟩ <;> rcases hh with ⟨rfl, rfl⟩ | ⟨k', m, rfl, rfl⟩ <;> simp only [bndAV, Option.some.injEq] at h1 h2 <;> subst h1 h2 <;> simp only [Option.getD_some, Option.getD_none] at hok ⊢
  · simp [Instr.sliceBounds]
  · simp [Instr.sliceBounds, Instr.sliceBound, asIntOf, show 0 ≤ m by omega, show m ≤ (cap : Int) by omega]
  · simp [Instr.sliceBounds, Instr.sliceBound, asIntOf, show 0 ≤ n by omega, show n ≤ (len : Int) by omega]
  · simp [Instr.sliceBounds, Instr.sliceBound, asIntOf, show 0 ≤ m by omega, show m ≤ (cap : Int) by omega, show 0 ≤ n by omega, show n ≤ max m 0 by omega]

theorem slice_ok {P : Program} {X : Cx} {w : World} {t : TypeId} {a r : AV} {u : Value} {la ha : Option AV} {lv hv : Option Value} {lo hi : Option Int} {ok : Bool}
    (hl : BndRel la lv) (hh : BndRel ha hv) (h1 : bndAV la = some lo) (h2 : bndAV ha = some hi)
    (h : qSlice P X.rows t a lo hi = some (ok, r)) (hok : ok = true) (hr : Rel X a u) : ∃ v, (Instr.sliceAt t u lv hv none).run P w = .ok v w ∧ Rel X r v := by
  have hbd : ∀ len, bndOk lo hi len = true → 0 ≤ lo.getD 0 ∧ lo.getD 0 ≤ hi.getD len ∧ hi.getD (len : Int) ≤ len := by
    intro len h
    simp only [bndOk, Bool.and_eq_true, decide_eq_true_eq] at h
    exact ⟨h.1.1, h.1.2, h.2⟩
  have run : ∀ (et : TypeId) (p : Option Addr) (len cap sz : Nat), P.underlying t = some (.slice et) → bndOk lo hi len = true → len ≤ cap → sizeIs P et sz = true →
      (Instr.sliceAt t (.slice p len cap) lv hv none).run P w =
        .ok (.slice (if cap = (lo.getD 0).toNat then p else p.map (·.add ((lo.getD 0).toNat * sz))) ((hi.getD len).toNat - (lo.getD 0).toNat) (cap - (lo.getD 0).toNat)) w := by
    intro et p len cap sz ht hb hc hs
    simp [Instr.sliceAt, run_underlying ht, Instr.slice, bounds_run hl hh h1 h2 hb hc, run_sizeOf hs]
  unfold qSlice at h
  split at h
  · rename_i ht
    split at h
    · rename_i s
      cases h
      simp only [Rel] at hr
      subst hr
      refine ⟨_, ?_, by simp only [Rel]; rfl⟩
      simp [Instr.sliceAt, run_underlying ht, Instr.slice, bounds_run hl hh h1 h2 hok (Nat.le_refl _)]
    · cases h
  · rename_i et ht
    split at h
    · rename_i e xs
      split at h
      · rename_i hs
        cases h
        obtain ⟨b1, b2, b3⟩ := hbd _ hok
        simp only [Rel] at hr
        obtain ⟨p, cap, hc, hlen, hn, hp⟩ := hr
        obtain rfl : u = _ := List.cons.inj hc |>.1
        refine ⟨_, run et p xs.length cap e.size ht hok hlen hs, ?_⟩
        simp only [Rel]
        have hcl : (cutL lo hi xs).length = (hi.getD xs.length).toNat - (lo.getD 0).toNat := by rw [cutL_eq]; simp; omega
        refine ⟨_, _, by rw [hcl], by rw [hcl]; omega, ?_, ?_⟩
        · intro e0
          have hpn : p = none := by
            split at e0
            · exact e0
            · cases p with
              | none => rfl
              | some p => cases e0
          obtain ⟨h0, h0'⟩ := hn hpn
          subst h0
          exact ⟨by rw [cutL_eq]; simp, by omega⟩
        · intro q hq
          cases p with
          | none => split at hq <;> cases hq
          | some p =>
            obtain ⟨hsp, he⟩ := hp p rfl
            rcases Nat.eq_zero_or_pos xs.length with h0 | h0
            · exact ⟨fun hc => by omega, fun i hi' => by omega⟩
            have hsp := hsp h0
            obtain ⟨b, o, sp⟩ := p
            cases hsp
            split at hq
            · rename_i hcl0
              cases hq
              exact ⟨fun _ => rfl, fun i hi' => by omega⟩
            · cases hq
              simp only [addr_add]
              refine ⟨fun _ => trivial, fun i hi' => ?_⟩
              rw [hcl] at hi'
              have hi2 : (lo.getD 0).toNat + i < xs.length := by omega
              obtain ⟨hF, es, hes, hd⟩ := he _ hi2
              refine ⟨hF, es, ?_, ?_⟩
              · rw [Nat.add_mul] at hes
                simpa [Nat.add_assoc] using hes
              · rw [show (cutL lo hi xs)[i]'(by omega) = xs[(lo.getD 0).toNat + i] by simp [cutL_eq]]
                exact hd
      · cases h
    · rename_i r' g st len
      split at h
      · rename_i g' s xs hrow
        split at h
        · rename_i e
          obtain ⟨e, hs⟩ := e
          subst e
          cases h
          obtain ⟨b1, b2, b3⟩ := hbd _ hok
          simp only [Rel] at hr
          obtain ⟨hle, hc⟩ := hr _ _ hrow
          rcases hc with ⟨hφ, h0, rfl⟩ | ⟨b, o, a, cap, hb, rfl, hcap, hcase⟩
          · have hl0 : len = 0 := by omega
            subst hl0
            refine ⟨_, run et none 0 0 s.size ht hok (Nat.le_refl _) hs, ?_⟩
            simp only [Rel]
            intro s' xs' hrow'
            rw [hrow] at hrow'
            obtain ⟨⟨⟩, hs', hx⟩ := Row.arr.inj (Option.some.inj hrow')
            subst hs'
            cases hx
            refine ⟨by omega, .inl ⟨hφ, h0, ?_⟩⟩
            congr 1
            · split <;> rfl
            · have : (0 : Int).toNat = 0 := rfl
              simp only [Int.natCast_zero] at b3 b2
              simp only [Int.natCast_zero]
              omega
            · omega
          · refine ⟨_, run et (some a) len cap s.size ht hok hcap hs, ?_⟩
            simp only [Rel]
            intro s' xs' hrow'
            rw [hrow] at hrow'
            obtain ⟨⟨⟩, hs', hx⟩ := Row.arr.inj (Option.some.inj hrow')
            subst hs'
            cases hx
            refine ⟨by omega, .inr ?_⟩
            by_cases hcl : cap = (lo.getD 0).toNat
            · exact ⟨b, o, a, _, hb, by rw [if_pos hcl], by omega, .inl ⟨by omega, by rcases hcase with h0 | ⟨rfl, _⟩ <;> first | exact h0.2 | rfl⟩⟩
            · refine ⟨b, o, a.add ((lo.getD 0).toNat * s.size), _, hb, by rw [if_neg hcl]; rfl, by omega, ?_⟩
              rcases hcase with h0 | ⟨rfl, hsz⟩
              · exact absurd h0.1 (by omega)
              · refine .inr ⟨by rw [addr_add, Nat.add_mul, Nat.add_assoc], fun c T fr hc => ?_⟩
                have := hsz c T fr hc
                rw [show st + (lo.getD 0).toNat + (cap - (lo.getD 0).toNat) = st + cap by omega]
                exact this
        · cases h
      · cases h
    · rename_i r' g
      split at h
      · rename_i g' s xs hrow
        split at h
        · rename_i e
          obtain ⟨e, hs⟩ := e
          subst e
          cases h
          obtain ⟨b1, b2, b3⟩ := hbd _ hok
          simp only [Rel] at hr
          rcases hr _ _ hrow with ⟨hφ, h0, rfl⟩ | ⟨b, o, cap, hb, rfl, hcap, hsz⟩
          · have hok' : bndOk lo hi 0 = true := by rw [← h0]; exact hok
            rw [h0] at b3 b2
            refine ⟨_, run et none 0 0 s.size ht hok' (Nat.le_refl _) hs, ?_⟩
            simp only [Rel]
            intro s' xs' hrow'
            rw [hrow] at hrow'
            obtain ⟨⟨⟩, hs', hx⟩ := Row.arr.inj (Option.some.inj hrow')
            subst hs'
            cases hx
            simp only [Int.natCast_zero] at b3 b2
            rw [h0]
            simp only [Int.natCast_zero]
            refine ⟨by omega, .inl ⟨hφ, trivial, ?_⟩⟩
            congr 1
            · split <;> rfl
            · omega
            · omega
          · refine ⟨_, run et _ xs.length cap s.size ht hok hcap hs, ?_⟩
            simp only [Rel]
            intro s' xs' hrow'
            rw [hrow] at hrow'
            obtain ⟨⟨⟩, hs', hx⟩ := Row.arr.inj (Option.some.inj hrow')
            subst hs'
            cases hx
            refine ⟨by omega, .inr ?_⟩
            by_cases hcl : cap = (lo.getD 0).toNat
            · exact ⟨b, o, _, _, hb, by rw [if_pos hcl], by omega, .inl ⟨by omega, rfl⟩⟩
            · refine ⟨b, o, _, _, hb, by rw [if_neg hcl]; rfl, by omega, .inr ⟨by simp only [addr_add], fun c T fr hc => ?_⟩⟩
              have := hsz c T fr hc
              rw [show (lo.getD 0).toNat + (cap - (lo.getD 0).toNat) = cap by omega]
              exact this
        · cases h
      · cases h
    · split at h
      · rename_i hinfo
        cases h
        obtain ⟨b1, b2, b3⟩ := hbd _ hok
        simp only [Rel] at hr
        subst hr
        simp only [Int.natCast_zero] at b3 b2
        obtain ⟨i, hi'⟩ := Option.isSome_iff_exists.1 hinfo
        refine ⟨_, run et none 0 0 i.size ht hok (Nat.le_refl _) (by simp [sizeIs, hi']), ?_⟩
        simp only [Rel]
        congr 1
        · split <;> rfl
        · simp only [Int.natCast_zero]; omega
        · omega
      · cases h
    · cases h
  · cases h
end Go.Proofs.YtlidfaaajjfgfaaDoor.Ab
