import Derived.Test.YtlidfaaajjfgfaaDoorAbStep
set_option linter.unusedVariables false
set_option linter.all false
namespace Go.Proofs.YtlidfaaajjfgfaaDoor.Ab
open Go.RowKit

/-! ### Behind a quiet operation -/
def St.after (S : St) (dst : Option Tmp) (v : AV) (id : Nat) (new : Option Row) : St :=
  (match new with | some row => { S with rows := S.rows.put id row } | none => S).putT dst v

def okNew (rows : Rows) (n : Nat) (new : Option Row) : Bool := match new with | some (.box cs) => AV.allL (fun q _ => rows.okid n q) cs | _ => true

theorem St.after_rows (S : St) (dst : Option Tmp) (v : AV) (id : Nat) (new : Option Row) : (S.after dst v id new).rows = match new with | some row => S.rows.put id row | none => S.rows := by
  unfold St.after
  cases new <;> cases dst <;> first | rfl | (simp only [St.putT]; rw [St.setT_eq])
theorem St.after_tmps (S : St) (dst : Option Tmp) (v : AV) (id : Nat) (new : Option Row) : (S.after dst v id new).tmps = match dst with | some t => S.tmps.set t v | none => S.tmps := by
  unfold St.after
  cases new <;> cases dst <;> first | rfl | (simp only [St.putT]; rw [St.setT_eq])

theorem put_size (a : Act) (dst : Option Tmp) (v : Value) : (a.put dst v).tmps.size = a.tmps.size := by cases dst <;> simp [Act.put]
theorem put_defers (a : Act) (dst : Option Tmp) (v : Value) : (a.put dst v).defers = a.defers := by cases dst <;> rfl

section
variable {E : Env} {base n : Nat} {w0 : Start} {w w' : World} {X X' : Cx} {S : St} {a : Act}

/-- A state whose context has turned stably; one temporary is set. -/
theorem Sim.turn (H : Sim E base w0 n X S a w) (R : RowsOk base w0 n X' w') {S' : St} (hrows : X'.rows = S'.rows) {dst : Option Tmp} {v : AV} {val : Value}
    (hst : Stab X X' (fun q _ => X.rows.okid n q)) (htm : S'.tmps = match dst with | some t => S.tmps.set t v | none => S.tmps)
    (hok : ∀ q, S.rows.okid n q = true → S'.rows.okid n q = true)
    (hv : dst ≠ none → v.all (fun q _ => S'.rows.okid n q) = true ∧ Rel X' v val) : Sim E base w0 n X' S' (a.put dst val) w' where
  rows := hrows
  ok := R
  size := by rw [put_size, H.size, htm]; cases dst <;> simp
  defers := by rw [put_defers]; exact H.defers
  tmp t u hu := by
    have old : ∀ u, S.tmps[t]? = some u → u.all (fun q _ => S'.rows.okid n q) = true ∧ Rel X' u (a.tmps.getD t undef) := by
      intro u hu
      obtain ⟨h1, h2⟩ := H.tmp t u hu
      exact ⟨AV.all_imp (fun q _ h => hok q h) u h1, Rel.mono hst u _ (by rw [H.rows]; exact h1) h2⟩
    rw [htm] at hu
    cases dst with
    | none => exact old u hu
    | some d =>
      simp only at hu
      by_cases e : t = d
      · subst e
        have hlt : t < S.tmps.length := by
          have := TMap.getElem?_lt hu
          simpa using this
        rw [TMap.getElem?_set_self hlt] at hu
        cases hu
        refine ⟨(hv (by simp)).1, ?_⟩
        have : (a.put (some t) val).tmps.getD t undef = val := by
          have hs : t < a.tmps.size := by rw [H.size]; exact hlt
          simp [Act.put, hs]
        rw [this]
        exact (hv (by simp)).2
      · rw [TMap.getElem?_set_ne (by omega)] at hu
        have : (a.put (some d) val).tmps.getD t undef = a.tmps.getD t undef := by
          simp [Act.put, Array.getElem?_setIfInBounds_ne (show d ≠ t from fun h => e h.symm)]
        rw [this]
        exact old u hu
  glob g s x hg := by
    have := H.glob g s x hg
    exact Rel.mono hst (.dptr s x 0) _ rfl this

theorem Sim.after (H : Sim E base w0 n X S a w) {id : Nat} (hid : n ≤ id) (hno : S.rows.get id = none) {dst : Option Tmp} {v : AV} {new : Option Row} {val : Value}
    (hp : QPost X w id v new val w') (hr : okRefs S.rows n id v new = true) (hn : okNew S.rows n new = true) : ∃ X', Sim E base w0 n X' (S.after dst v id new) (a.put dst val) w' := by
  obtain ⟨F', loc, hw, h1, h2, h3, hpost⟩ := hp
  have R1 := RowsOk.grow H.ok hw h1 h2 h3
  have S1 := Stab.grow H.ok hw h1
  cases new with
  | none =>
    refine ⟨_, Sim.turn (S' := S.after dst v id none) H R1 (by rw [St.after_rows]; exact H.rows) ⟨S1.F, S1.heap, fun r g _ => S1.box r g rfl, fun r g _ => S1.arr r g rfl⟩ (St.after_tmps ..) (fun q h => by rw [St.after_rows]; exact h) (fun _ => ⟨?_, hpost⟩)⟩
    rw [St.after_rows]
    exact AV.all_imp (fun q g h => by simpa [okRefs] using h) v hr
  | some row =>
    obtain ⟨p1, p2, p3⟩ := hpost
    have hno' : X.rows.get id = none := by rw [H.rows]; exact hno
    have R2 := RowsOk.claim R1 hid (loc := loc) (x := row) hno' (fun b o e => ⟨Nat.le_trans H.ok.hb (p2 b o e).1, (p2 b o e).2, fun r y b' o' hy hb' => by
      have := H.ok.lt hy hb'
      have := (p2 b o e).1
      omega⟩) p1 (fun cs e => by subst e; rw [show ({ X with F := F', heap := w'.heap } : Cx).rows = S.rows from H.rows]; exact hn)
    have S2 := Stab.claim (X := { X with F := F', heap := w'.heap }) (n := n) (id := id) (x := row) (loc := loc) hid hno'
    have hST : Stab X (Cx.claim { X with F := F', heap := w'.heap } id row loc) (fun q _ => X.rows.okid n q) := by
      refine ⟨fun b h => S1.F b h, fun b h => S1.heap b h, fun r g hp cs' hx => ?_, fun r g hp s xs' hx => ?_⟩
      · obtain ⟨⟨cs, hc⟩, hφ⟩ := S2.box r g hp cs' hx
        exact ⟨⟨cs, hc⟩, hφ⟩
      · obtain ⟨xs, hc, hl, hφ, hs⟩ := S2.arr r g hp s xs' hx
        obtain ⟨ys, hc', hl', hφ', hs'⟩ := S1.arr r g rfl s xs hc
        refine ⟨ys, hc', hl.trans hl', hφ, fun b o hb c' T' fr' hh => ?_⟩
        exact hs' b o hb c' T' fr' hh
    refine ⟨_, Sim.turn (S' := S.after dst v id (some row)) H R2 (by rw [St.after_rows]; simp [Cx.claim, H.rows]) hST (St.after_tmps ..) (fun q h => by rw [St.after_rows]; exact Rows.okid_put h) (fun _ => ⟨?_, p3⟩)⟩
    rw [St.after_rows]
    refine AV.all_imp (fun q g h => ?_) v hr
    simp only [Bool.or_eq_true, Option.isSome_some, Bool.true_and, beq_iff_eq] at h
    rcases h with h | h
    · exact Rows.okid_put h
    · subst h
      unfold Rows.okid
      rw [Rows.get_put]
      simp

theorem Sim.le (H : Sim E base w0 n X S a w) {m : Nat} (h : n ≤ m) : Sim E base w0 m X S a w :=
  { H with ok := H.ok.le h, tmp := fun t v hv => ⟨AV.all_imp (fun q g hq => Rows.okid_le h hq) v (H.tmp t v hv).1, (H.tmp t v hv).2⟩ }
end

/-! ### Calls of functions that only compute -/
mutual
def AV.noData : AV → Bool
  | .unk | .bool _ | .int _ _ | .str _ | .nilp | .nilf | .nili | .nils => true
  | .agg cs => AV.noDataL cs
  | .tup cs => AV.noDataL cs
  | .iface _ v => v.noData
  | _ => false
def AV.noDataL : List AV → Bool
  | [] => true
  | a :: as => a.noData && AV.noDataL as
end

mutual
theorem Rel.noData {X X' : Cx} : ∀ (a : AV) (v : Value), a.noData = true → Rel X a v → Rel X' a v
  | .unk, _, _, _ => by simp [Rel]
  | .bool _, _, _, h | .int _ _, _, _, h | .str _, _, _, h | .nilp, _, _, h | .nilf, _, _, h | .nili, _, _, h | .nils, _, _, h => by simpa [Rel] using h
  | .dsl _ _, _, h, _ | .dptr _ _ _, _, h, _ | .ptr _ _, _, h, _ | .eptr _ _ _ _, _, h, _ | .osl _ _ _ _, _, h, _ | .own _ _, _, h, _ | .clo _ _, _, h, _ | .opt _ _, _, h, _ | .gopt _ _, _, h, _ => by simp [AV.noData] at h
  | .agg cs, v, h, hr => by
    simp only [Rel] at hr ⊢
    obtain ⟨vs, e, hr⟩ := hr
    exact ⟨vs, e, RelL.noData cs _ (by simpa [AV.noData] using h) hr⟩
  | .tup cs, v, h, hr => by
    simp only [Rel] at hr ⊢
    obtain ⟨vs, e, hr⟩ := hr
    exact ⟨vs, e, RelL.noData cs _ (by simpa [AV.noData] using h) hr⟩
  | .iface t a, v, h, hr => by
    simp only [Rel] at hr ⊢
    obtain ⟨u, e, hr⟩ := hr
    exact ⟨u, e, Rel.noData a u (by simpa [AV.noData] using h) hr⟩
theorem RelL.noData {X X' : Cx} : ∀ (as : List AV) (vs : List Value), AV.noDataL as = true → RelL X as vs → RelL X' as vs
  | [], _, _, h => by simpa [RelL] using h
  | a :: as, vs, h, hr => by
    simp only [RelL] at hr ⊢
    simp only [AV.noDataL, Bool.and_eq_true] at h
    obtain ⟨v, r, e, hv, hr⟩ := hr
    exact ⟨v, r, e, Rel.noData a v h.1 hv, RelL.noData as r h.2 hr⟩
end

mutual
/-- An argument, read as plain data for the length of a call. -/
def AV.lend (rows : Rows) : AV → Option AV
  | .own r g => match rows.get r with | some (.arr g' s xs) => if g = g' then some (.dsl s xs) else none | _ => none
  | .osl r g st len => match rows.get r with | some (.arr g' s xs) => if g = g' then some (.dsl s ((xs.drop st).take len)) else none | _ => none
  | .eptr r g i off => match rows.get r with | some (.arr g' s xs) => if g = g' then some (.dptr s (xs.getD i s.dflt) off) else none | _ => none
  | .agg cs => (AV.lendL rows cs).map .agg
  | .tup cs => (AV.lendL rows cs).map .tup
  | .iface t v => (v.lend rows).map (.iface t)
  | .clo f [] => some (.clo f [])
  | .unk => some .unk
  | .bool b => some (.bool b)
  | .int k n => some (.int k n)
  | .str s => some (.str s)
  | .nilp => some .nilp
  | .nilf => some .nilf
  | .nili => some .nili
  | .nils => some .nils
  | .dsl e xs => some (.dsl e xs)
  | .dptr s x off => some (.dptr s x off)
  | _ => none
def AV.lendL (rows : Rows) : List AV → Option (List AV)
  | [] => some []
  | a :: as => (a.lend rows).bind fun b => (AV.lendL rows as).map (b :: ·)
end

/-- The context of a callee: memory of the caller's own is data to it. -/
def Cx.lent (X : Cx) : Cx := { F := fun b => X.F b ∨ ∃ r x o, X.rows.get r = some x ∧ X.φ r = some (b, o), φ := fun _ => none, rows := [], heap := X.heap }

theorem den_lent {X : Cx} (s : Sh) (x : s.den) (cs : List Value) (h : Den X.F X.heap s x cs) : Den X.lent.F X.lent.heap s x cs :=
  Den.mono (fun _ h => .inl h) (fun _ _ => rfl) s x cs h

mutual
theorem lend_ok {base n : Nat} {w0 : Start} {w : World} {X : Cx} (H : RowsOk base w0 n X w) : ∀ (v v' : AV) (u : Value), v.lend X.rows = some v' → Rel X v u → Rel X.lent v' u
  | .own r g, v', u, h, hr => by
    simp only [AV.lend] at h
    split at h
    · rename_i g' s xs hrow
      split at h
      · rename_i e
        subst e
        cases h
        simp only [Rel] at hr ⊢
        rcases hr s xs hrow with ⟨h1, h2, rfl⟩ | ⟨b, o, cap, h1, rfl, h3, h4⟩
        · have : xs = [] := List.eq_nil_of_length_eq_zero h2
          subst this
          exact ⟨none, 0, rfl, Nat.le_refl _, fun _ => ⟨rfl, rfl⟩, fun p hp => by cases hp⟩
        · refine ⟨_, cap, rfl, h3, fun e => (by cases e), fun p hp => ?_⟩
          cases hp
          refine ⟨fun _ => rfl, fun i hi => ?_⟩
          rcases H.row r _ hrow with ⟨h5, _⟩ | ⟨b', o', c, T, h5, h6, h7, h8⟩
          · rw [h5] at h1; cases h1
          · rw [h5] at h1; cases h1
            obtain ⟨es, he, hd⟩ := h8 i hi
            exact ⟨.inr ⟨r, _, o, hrow, h5⟩, es, he, den_lent _ _ _ hd⟩
      · cases h
    · cases h
  | .osl r g st len, v', u, h, hr => by
    simp only [AV.lend] at h
    split at h
    · rename_i g' s xs hrow
      split at h
      · rename_i e
        subst e
        cases h
        simp only [Rel] at hr ⊢
        obtain ⟨hle, hc⟩ := hr s xs hrow
        have hlen : ((xs.drop st).take len).length = len := by simp; omega
        rcases hc with ⟨h1, h2, rfl⟩ | ⟨b, o, ad, cap, h1, rfl, h3, h4⟩
        · have h0 : len = 0 := by omega
          subst h0
          simp only [List.take_zero]
          exact ⟨none, 0, rfl, Nat.le_refl _, fun _ => ⟨rfl, rfl⟩, fun p hp => by cases hp⟩
        · refine ⟨some ad, cap, by rw [hlen], by omega, fun e => (by cases e), fun p hp => ?_⟩
          cases hp
          rcases h4 with h4 | ⟨rfl, h5⟩
          · have h0 : len = 0 := by omega
            subst h0
            exact ⟨fun _ => h4.2, fun i hi => by simp at hi⟩
          · refine ⟨fun _ => rfl, fun i hi => ?_⟩
            rw [hlen] at hi
            rcases H.row r _ hrow with ⟨h6, _⟩ | ⟨b', o', c, T, h6, h7, h8, h9⟩
            · rw [h6] at h1; cases h1
            · rw [h6] at h1; cases h1
              obtain ⟨es, he, hd⟩ := h9 (st + i) (by omega)
              refine ⟨.inr ⟨r, _, o, hrow, h6⟩, es, ?_, ?_⟩
              · rw [Nat.add_mul, ← Nat.add_assoc] at he
                exact he
              · rw [show ((xs.drop st).take len)[i]'(by omega) = xs[st + i]'(by omega) by simp]
                exact den_lent _ _ _ hd
      · cases h
    · cases h
  | .eptr r g i off, v', u, h, hr => by
    simp only [AV.lend] at h
    split at h
    · rename_i g' s xs hrow
      split at h
      · rename_i e
        subst e
        cases h
        simp only [Rel] at hr ⊢
        obtain ⟨hi, b, o, h1, rfl⟩ := hr s xs hrow
        rcases H.row r _ hrow with ⟨h5, _⟩ | ⟨b', o', c, T, h5, h6, h7, h8⟩
        · rw [h5] at h1; cases h1
        · rw [h5] at h1; cases h1
          obtain ⟨es, he, hd⟩ := h8 i hi
          refine ⟨b, o + i * s.size, es, rfl, .inr ⟨r, _, o, hrow, h5⟩, he, ?_⟩
          rw [show xs.getD i s.dflt = xs[i] by simp [List.getD, List.getElem?_eq_getElem hi]]
          exact den_lent _ _ _ hd
      · cases h
    · cases h
  | .agg cs, v', u, h, hr => by
    simp only [AV.lend, Option.map_eq_some_iff] at h
    obtain ⟨cs', h, rfl⟩ := h
    simp only [Rel] at hr ⊢
    obtain ⟨vs, e, hr⟩ := hr
    exact ⟨vs, e, lendL_ok H cs cs' _ h hr⟩
  | .tup cs, v', u, h, hr => by
    simp only [AV.lend, Option.map_eq_some_iff] at h
    obtain ⟨cs', h, rfl⟩ := h
    simp only [Rel] at hr ⊢
    obtain ⟨vs, e, hr⟩ := hr
    exact ⟨vs, e, lendL_ok H cs cs' _ h hr⟩
  | .iface t a, v', u, h, hr => by
    simp only [AV.lend, Option.map_eq_some_iff] at h
    obtain ⟨a', h, rfl⟩ := h
    simp only [Rel] at hr ⊢
    obtain ⟨x, e, hr⟩ := hr
    exact ⟨x, e, lend_ok H a a' _ h hr⟩
  | .clo f cs, v', u, h, hr => by
    cases cs with
    | nil => simp only [AV.lend, Option.some.injEq] at h; subst h; simpa [Rel, RelL] using hr
    | cons _ _ => simp only [AV.lend, reduceCtorEq] at h
  | .unk, v', u, h, hr | .bool _, v', u, h, hr | .int _ _, v', u, h, hr | .str _, v', u, h, hr | .nilp, v', u, h, hr | .nilf, v', u, h, hr | .nili, v', u, h, hr | .nils, v', u, h, hr => by
    simp only [AV.lend, Option.some.injEq] at h; subst h; simpa [Rel] using hr
  | .dsl e xs, v', u, h, hr => by
    simp only [AV.lend, Option.some.injEq] at h; subst h
    simp only [Rel] at hr ⊢
    exact den_lent (.sl e) xs _ hr
  | .dptr s x off, v', u, h, hr => by
    simp only [AV.lend, Option.some.injEq] at h; subst h
    simp only [Rel] at hr ⊢
    obtain ⟨b, o, cs, e, hF, hc, hd⟩ := hr
    exact ⟨b, o, cs, e, .inl hF, hc, den_lent _ _ _ hd⟩
  | .ptr _ _, v', u, h, hr | .opt _ _, v', u, h, hr | .gopt _ _, v', u, h, hr => by simp only [AV.lend, reduceCtorEq] at h
theorem lendL_ok {base n : Nat} {w0 : Start} {w : World} {X : Cx} (H : RowsOk base w0 n X w) : ∀ (as bs : List AV) (us : List Value), AV.lendL X.rows as = some bs → RelL X as us → RelL X.lent bs us
  | [], bs, us, h, hr => by
    simp only [AV.lendL, Option.some.injEq] at h; subst h; simpa [RelL] using hr
  | a :: as, bs, us, h, hr => by
    simp only [AV.lendL, Option.bind_eq_some_iff, Option.map_eq_some_iff] at h
    obtain ⟨b, h1, bs', h2, rfl⟩ := h
    simp only [RelL] at hr ⊢
    obtain ⟨v, r, e, hv, hr⟩ := hr
    exact ⟨v, r, e, lend_ok H a b v h1 hv, lendL_ok H as bs' r h2 hr⟩
end
end Go.Proofs.YtlidfaaajjfgfaaDoor.Ab
