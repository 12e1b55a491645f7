import Derived.Test.YtlidfaaajjfgfaaDoorAbLoud
set_option linter.unusedVariables false
set_option linter.all false
namespace Go.Proofs.YtlidfaaajjfgfaaDoor.Ab
open Go.RowKit

theorem allD_one {α : Type} {D : α → List Value → Prop} (hD : ∀ x cs, D x cs → ∀ c ∈ cs, c.oneCell' = true) : ∀ (xs : List α) (cs : List Value), AllD D xs cs → ∀ c ∈ cs, c.oneCell' = true
  | [], cs, h, c, hc => by rw [show cs = [] from h] at hc; cases hc
  | x :: xs, cs, ⟨c1, c2, e, h1, h2⟩, c, hc => by
    subst e
    rcases List.mem_append.1 hc with hc | hc
    · exact hD x c1 h1 c hc
    · exact allD_one hD xs c2 h2 c hc

theorem Den.one {F : Nat → Prop} {h : Array Obj} : ∀ (s : Sh) (x : s.den) (cs : List Value), Den F h s x cs → ∀ c ∈ cs, c.oneCell' = true
  | .unit, _, cs, e, c, hc => by rw [show cs = [] from e] at hc; cases hc
  | .bool, _, cs, e, c, hc => by rw [show cs = [_] from e] at hc; simp only [List.mem_singleton] at hc; subst hc; rfl
  | .int _, _, cs, e, c, hc => by rw [show cs = [_] from e] at hc; simp only [List.mem_singleton] at hc; subst hc; rfl
  | .str, _, cs, e, c, hc => by rw [show cs = [_] from e] at hc; simp only [List.mem_singleton] at hc; subst hc; rfl
  | .sl e, _, cs, ⟨_, _, ec, _⟩, c, hc => by rw [ec] at hc; simp only [List.mem_singleton] at hc; subst hc; rfl
  | .arr n e, xs, cs, ⟨_, h⟩, c, hc => allD_one (fun x cs => Den.one e x cs) xs cs h c hc
  | .prod a b, x, cs, ⟨c1, c2, e, h1, h2⟩, c, hc => by
    subst e
    rcases List.mem_append.1 hc with hc | hc
    · exact Den.one a _ _ h1 c hc
    · exact Den.one b _ _ h2 c hc

/-- The cells of a slice, one behind the other. -/
theorem gather {α : Type} {D : α → List Value → Prop} {n b : Nat} {h : Array Obj} (hD : ∀ x cs, D x cs → cs.length = n) : ∀ (ys : List α) (o : Nat),
    (∀ i, (hi : i < ys.length) → ∃ es, cellsAt h b (o + i * n) es ∧ D ys[i] es) → ∃ us, AllD D ys us ∧ ∀ j v, us[j]? = some v → ∃ c T fr, h[b]? = some (.cells c T fr) ∧ c[o + j]? = some v
  | [], o, _ => ⟨[], rfl, fun j v hv => by simp at hv⟩
  | y :: ys, o, H => by
    obtain ⟨e0, he0, hd0⟩ := H 0 (by simp)
    obtain ⟨us, hu, hc⟩ := gather hD ys (o + n) (fun i hi => by
      obtain ⟨es, he, hd⟩ := H (i + 1) (by simpa using hi)
      refine ⟨es, ?_, by simpa using hd⟩
      rw [show o + n + i * n = o + (i + 1) * n by rw [Nat.add_mul]; omega]
      exact he)
    refine ⟨e0 ++ us, ⟨e0, us, rfl, by simpa using hd0, hu⟩, fun j v hv => ?_⟩
    have hl := hD _ _ hd0
    by_cases hj : j < e0.length
    · rw [List.getElem?_append_left hj] at hv
      obtain ⟨c, T, fr, h1, h2⟩ := he0
      refine ⟨c, T, fr, h1, ?_⟩
      have := h2 j hj
      simp only [Nat.zero_mul, Nat.add_zero] at this
      rw [this, hv]
    · rw [List.getElem?_append_right (by omega)] at hv
      obtain ⟨c, T, fr, h1, h2⟩ := hc _ v hv
      exact ⟨c, T, fr, h1, by rw [show o + j = o + n + (j - e0.length) by omega]; exact h2⟩

/-- The data of a slice that is appended. -/
def srcOf (rows : Rows) (s : Sh) : AV → Option (List s.den)
  | .nils => some []
  | .dsl e ys => if h : e = s then some (h ▸ ys) else none
  | .own r g => match rows.get r with | some (.arr g' e ys) => if h : e = s then (if g = g' then some (h ▸ ys) else none) else none | _ => none
  | .osl r g st len => match rows.get r with | some (.arr g' e ys) => if h : e = s then (if g = g' then some (((h ▸ ys : List s.den).drop st).take len) else none) else none | _ => none
  | _ => none

theorem srcOf_ok {base n : Nat} {w0 : Start} {w : World} {X : Cx} (H : RowsOk base w0 n X w) {s : Sh} {a : AV} {ys : List s.den} {u : Value} (h : srcOf X.rows s a = some ys) (hr : Rel X a u) :
    ∃ p cap, u = .slice p ys.length cap ∧ ((p = none ∧ ys = []) ∨ ∃ q us, p = some q ∧ AllD (Den X.F X.heap s) ys us ∧ ∀ j v, us[j]? = some v → w.cell? (q.add j) = some v) := by
  have cell : ∀ {b o : Nat} {us : List Value}, (∀ j v, us[j]? = some v → ∃ c T fr, X.heap[b]? = some (.cells c T fr) ∧ c[o + j]? = some v) → ∀ j v, us[j]? = some v → w.cell? ((⟨b, o, none⟩ : Addr).add j) = some v := by
    intro b o us hu j v hv
    obtain ⟨c, T, fr, h1, h2⟩ := hu j v hv
    rw [addr_add, World.cell?]
    rw [H.heap] at h1
    simp [h1, h2]
  cases a <;> simp only [srcOf, Option.some.injEq, reduceCtorEq] at h
  case nils =>
    subst h
    simp only [Rel] at hr
    exact ⟨none, 0, hr, .inl ⟨rfl, rfl⟩⟩
  case dsl e zs =>
    split at h
    · rename_i e
      subst e
      cases h
      simp only [Rel] at hr
      obtain ⟨p, cap, hc, hl, hn, hp⟩ := hr
      obtain rfl : u = _ := List.cons.inj hc |>.1
      refine ⟨p, cap, rfl, ?_⟩
      cases p with
      | none => exact .inl ⟨rfl, (hn rfl).1⟩
      | some q =>
        obtain ⟨hsp, he⟩ := hp q rfl
        rcases Nat.eq_zero_or_pos zs.length with h0 | h0
        · obtain rfl := List.eq_nil_of_length_eq_zero h0
          exact .inr ⟨_, [], rfl, rfl, fun j v hj => by simp at hj⟩
        have hsp := hsp h0
        obtain ⟨b, o, sp⟩ := q
        cases hsp
        obtain ⟨us, hu, hcell⟩ := gather (b := b) (h := X.heap) (fun x cs => Den.length _ x cs) zs o (fun i hi => (he i hi).2)
        exact .inr ⟨_, us, rfl, hu, cell hcell⟩
    · cases h
  case own r g =>
    split at h
    · rename_i g' e zs hrow
      split at h
      · rename_i e
        subst e
        split at h
        · rename_i e
          subst e
          cases h
          simp only [Rel] at hr
          rcases hr _ _ hrow with ⟨h1, h2, rfl⟩ | ⟨b, o, cap, h1, rfl, h3, h4⟩
          · exact ⟨none, 0, by rw [h2], .inl ⟨rfl, List.eq_nil_of_length_eq_zero h2⟩⟩
          · refine ⟨_, cap, rfl, .inr ?_⟩
            rcases H.row r _ hrow with ⟨h5, _⟩ | ⟨b', o', c, T, h5, h6, h7, h8⟩
            · rw [h5] at h1; cases h1
            · rw [h5] at h1; cases h1
              obtain ⟨us, hu, hcell⟩ := gather (b := b) (h := X.heap) (fun x cs => Den.length _ x cs) zs o h8
              exact ⟨_, us, rfl, hu, cell hcell⟩
        · cases h
      · cases h
    · cases h
  case osl r g st len =>
    split at h
    · rename_i g' e zs hrow
      split at h
      · rename_i e
        subst e
        split at h
        · rename_i e
          subst e
          cases h
          simp only [Rel] at hr
          obtain ⟨hle, hc⟩ := hr _ _ hrow
          have hlen : ((zs.drop st).take len).length = len := by simp; omega
          rcases hc with ⟨h1, h2, rfl⟩ | ⟨b, o, ad, cap, h1, rfl, h3, h4⟩
          · have h0 : len = 0 := by omega
            subst h0
            exact ⟨none, 0, by simp, .inl ⟨rfl, by simp⟩⟩
          · refine ⟨some ad, cap, by rw [hlen], ?_⟩
            rcases h4 with h4 | ⟨rfl, h5⟩
            · have h0 : len = 0 := by omega
              subst h0
              exact .inr ⟨ad, [], rfl, by simp [AllD], fun j v hv => by simp at hv⟩
            · rcases H.row r _ hrow with ⟨h6, _⟩ | ⟨b', o', c, T, h6, h7, h8, h9⟩
              · rw [h6] at h1; cases h1
              · rw [h6] at h1; cases h1
                obtain ⟨us, hu, hcell⟩ := gather (b := b) (h := X.heap) (D := Den X.F X.heap _) (fun x cs => Den.length _ x cs) ((zs.drop st).take len) (o + st * (Sh.size _)) (fun i hi => by
                  rw [hlen] at hi
                  obtain ⟨es, he, hd⟩ := h9 (st + i) (by omega)
                  refine ⟨es, ?_, ?_⟩
                  · rw [Nat.add_mul, ← Nat.add_assoc] at he
                    exact he
                  · rw [show ((zs.drop st).take len)[i]'(by omega) = zs[st + i]'(by omega) by simp]
                    exact hd)
                exact .inr ⟨_, us, rfl, hu, cell hcell⟩
        · cases h
      · cases h
    · cases h

/-- A row of the call's own is laid anew: in its block, or in a new one. -/
theorem RowsOk.reset {base n : Nat} {w0 : Start} {w w' : World} {X : Cx} (H : RowsOk base w0 n X w) {r : Nat} {x x' : Row} {loc : Option (Nat × Nat)} (hr : X.rows.get r = some x)
    (hos : w'.os = w.os) (htape : w'.tape = w.tape) (hout : w'.output = w.output) (hsize : w.heap.size ≤ w'.heap.size)
    (hblk : ∀ k, k < w.heap.size → (∀ o, X.φ r ≠ some (k, o)) → w'.heap[k]? = w.heap[k]?)
    (hloc : ∀ b o, loc = some (b, o) → w.heap.size ≤ b ∨ ∃ o', X.φ r = some (b, o'))
    {g' : Nat} {s' : Sh} {ys : List s'.den} (hx' : x' = .arr g' s' ys) (hbox : ∀ q cs, X.rows.get q = some (.box cs) → AV.allL (fun q h => !(q == r && h == g')) cs = true)
    (hrow : RowOk { X with rows := X.rows.set r (some x'), heap := w'.heap, φ := fun q => if q = r then loc else X.φ q } r x') :
    RowsOk base w0 n { X with rows := X.rows.set r (some x'), heap := w'.heap, φ := fun q => if q = r then loc else X.φ q } w' ∧
      Stab X { X with rows := X.rows.set r (some x'), heap := w'.heap, φ := fun q => if q = r then loc else X.φ q } (fun q h => !(q == r && h == g')) := by
  have hlt := rows_get_lt hr
  have hget : ∀ q, Rows.get (X.rows.set r (some x')) q = if q = r then some x' else X.rows.get q := by
    intro q
    unfold Rows.get
    by_cases e : q = r
    · subst e; rw [List.getElem?_set_self hlt]; simp
    · rw [List.getElem?_set_ne (by omega), if_neg e]
  have hFb : ∀ k, X.F k → w'.heap[k]? = X.heap[k]? := fun k hk => by
    rw [H.heap]
    exact hblk k (H.fresh k hk) fun o ho => (H.own r x k o hr ho).2 hk
  have hother : ∀ q y k o, q ≠ r → X.rows.get q = some y → X.φ q = some (k, o) → w'.heap[k]? = X.heap[k]? := fun q y k o hq hy hk => by
    rw [H.heap]
    exact hblk k (H.lt hy hk) fun o' ho' => hq (H.apart q r y x k o k o' hy hr hk ho' rfl)
  -- for boxes all references serve
  have stab : ∀ p : Nat → Nat → Bool, (∀ g s xs, X.rows.get r = some (.arr g s xs) → p r g' = true → False) → (∀ q g, p q g = true → q = r → g ≠ g') →
      Stab X { X with rows := X.rows.set r (some x'), heap := w'.heap, φ := fun q => if q = r then loc else X.φ q } p := by
    intro p hp1 hp2
    refine ⟨fun _ h => h, hFb, fun q g hp cs' hq => ?_, fun q g hp s xs' hq => ?_⟩
    · simp only [hget] at hq
      split at hq
      · rw [hx'] at hq; cases hq
      · rename_i e
        exact ⟨⟨cs', hq⟩, by simp [e]⟩
    · simp only [hget] at hq
      split at hq
      · rename_i e
        rw [hx'] at hq
        cases hq
        exact absurd rfl (hp2 q _ hp e)
      · rename_i e
        refine ⟨xs', hq, rfl, by simp [e], fun k o hk c T fr hc => ?_⟩
        rw [hother q _ k o e hq hk] at hc
        exact ⟨c, T, fr, hc, rfl⟩
  have stab1 : Stab X { X with rows := X.rows.set r (some x'), heap := w'.heap, φ := fun q => if q = r then loc else X.φ q } (fun q h => !(q == r && h == g')) :=
    stab _ (fun g s xs _ hp => by simp at hp) (fun q g hp e => by subst e; simpa using hp)
  refine ⟨⟨rfl, H.keeps.trans ⟨hos, htape, hout, hsize, fun k hk => hblk k (by have := H.hb; omega) fun o ho => by have := (H.own r x k o hr ho).1; omega⟩, H.sub, Nat.le_trans H.hb hsize,
    fun k hk => Nat.lt_of_lt_of_le (H.fresh k hk) hsize, ?_, ?_, ?_, ?_⟩, stab1⟩
  · intro q y hq
    simp only [hget] at hq
    split at hq
    · rename_i e
      subst e
      cases hq
      exact hrow
    · rename_i e
      refine RowOk.mono stab1 (by simp [e]) (fun k o hk => hother q y k o e hq hk) y (fun cs ec => ?_) (H.row q y hq)
      subst ec
      exact hbox q cs hq
  · intro q y k o hq hk
    simp only [hget] at hq
    split at hq
    · rename_i e
      simp only [if_pos e] at hk
      rcases hloc k o hk with h | ⟨o', h⟩
      · exact ⟨Nat.le_trans H.hb h, fun hF => by have := H.fresh k hF; omega⟩
      · exact H.own r x k o' hr h
    · rename_i e
      simp only [if_neg e] at hk
      exact H.own q y k o hq hk
  · intro q q' y y' k o k' o' hq hq' hk hk' ek
    simp only [hget] at hq hq'
    by_cases e : q = r <;> by_cases e' : q' = r
    · rw [e, e']
    · rw [if_neg e'] at hq'
      simp only [if_pos e] at hk
      simp only [if_neg e'] at hk'
      rcases hloc k o hk with h | ⟨o2, h⟩
      · have := H.lt hq' hk'; omega
      · exact absurd (H.apart q' r y' x k' o' k o2 hq' hr hk' h ek.symm) e'
    · rw [if_neg e] at hq
      simp only [if_neg e] at hk
      simp only [if_pos e'] at hk'
      rcases hloc k' o' hk' with h | ⟨o2, h⟩
      · have := H.lt hq hk; omega
      · exact absurd (H.apart q r y x k o k' o2 hq hr hk h ek) e
    · rw [if_neg e] at hq
      rw [if_neg e'] at hq'
      simp only [if_neg e] at hk
      simp only [if_neg e'] at hk'
      exact H.apart q q' y y' k o k' o' hq hq' hk hk' ek
  · intro q cs hq
    simp only [hget] at hq
    split at hq
    · rw [hx'] at hq; cases hq
    · refine AV.allL_imp (fun p _ hp => ?_) cs (H.refs q cs hq)
      unfold Rows.okid at hp ⊢
      rw [hget]
      split
      · simp
      · exact hp

section
variable {P : Program} {w : World}
theorem run_append_at {t e ty : TypeId} {i : TypeInfo} (ht : P.underlying t = some (.slice e)) (hi : P.info? e = some i) {b o sLen sCap : Nat} {cur : Array Value} {T : TypeId} (hg : w.heap[b]? = some (.cells cur T (0, 0)))
    {p : Option Addr} {m c : Nat} {news : List Value} (hf : (Builtin.firstCells i.size m (.slice p m c)).run P w = .ok news.toArray w) (h1 : ∀ u ∈ news, u.oneCell' = true)
    (hroom : sLen + m ≤ sCap) (hfit : o + sLen * i.size + news.length ≤ cur.size) :
    (Builtin.append_ #[t, t] ty #[.slice (some ⟨b, o, none⟩) sLen sCap, .slice p m c]).run P w =
      .ok (.slice (some ⟨b, o, none⟩) (sLen + m) sCap) (w.setRow b (splice cur.toList (o + sLen * i.size) news).toArray) := by
  have hst := run_storeCells_at P b (o + sLen * i.size) T news 0 cur w hg (by simpa using hfit) h1
  simp only [Nat.add_zero] at hst
  simp [Builtin.append_, run_underlying ht, sizeOf, typeInfo, hi, Builtin.lenOf, hroom, hf, addr_add, hst, splice]

theorem run_append_none {t e ty : TypeId} {i : TypeInfo} (ht : P.underlying t = some (.slice e)) (hi : P.info? e = some i) {p : Option Addr} {c : Nat} :
    (Builtin.append_ #[t, t] ty #[.slice none 0 0, .slice p 0 c]).run P w = .ok (.slice none 0 0) w := by
  cases p <;> simp [Builtin.append_, run_underlying ht, sizeOf, typeInfo, hi, Builtin.lenOf, Builtin.firstCells, loadCells, loadCellsFrom]
end

/-- What the source of an append holds, in cells. -/
theorem src_cells {P : Program} {w : World} {X : Cx} {s : Sh} {ys : List s.den} {p : Option Addr} {cap : Nat}
    (h : (p = none ∧ ys = []) ∨ ∃ q us, p = some q ∧ AllD (Den X.F X.heap s) ys us ∧ ∀ j v, us[j]? = some v → w.cell? (q.add j) = some v) :
    ∃ us, AllD (Den X.F X.heap s) ys us ∧ (Builtin.firstCells s.size ys.length (.slice p ys.length cap)).run P w = .ok us.toArray w ∧ (ys ≠ [] → ∃ q, p = some q ∧ ∀ j v, us[j]? = some v → w.cell? (q.add j) = some v) := by
  rcases h with ⟨rfl, rfl⟩ | ⟨q, us, rfl, hu, hc⟩
  · exact ⟨[], rfl, by simp [Builtin.firstCells], fun h => absurd rfl h⟩
  · have hl := AllD.length (fun x cs => Den.length s x cs) ys us hu
    exact ⟨us, hu, run_firstCells_some (P := P) w s.size ys.length q ys.length cap us hl hc, fun _ => ⟨q, rfl, hc⟩⟩

structure AppTy (P : Program) (t : TypeId) (s : Sh) (bytes : Nat) : Prop where
  ex : ∃ e i z, P.underlying t = some (.slice e) ∧ P.info? e = some i ∧ i.zero = some z ∧ i.size = s.size ∧ i.bytes = bytes ∧ z.cells.size = s.size
  size : 0 < s.size
  bytes : 0 < bytes

/-- A slice type that may be appended to: its element's shape, and bytes. -/
def appTy (P : Program) (t : TypeId) : Option (Sh × Nat) :=
  match P.underlying t with
  | some (.slice e) => match shOf P 20 e, P.info? e with
    | some s, some i => match i.zero with
      | some z => if i.size = s.size ∧ z.cells.size = s.size ∧ 0 < s.size ∧ 0 < i.bytes then some (s, i.bytes) else none
      | none => none
    | _, _ => none
  | _ => none

theorem appTy_ok {P : Program} {t : TypeId} {s : Sh} {bytes : Nat} (h : appTy P t = some (s, bytes)) : AppTy P t s bytes := by
  unfold appTy at h
  split at h
  · rename_i e ht
    split at h
    · rename_i s' i hs hi
      split at h
      · rename_i z hz
        split at h
        · rename_i hc
          cases h
          exact ⟨⟨e, i, z, ht, hi, hz, hc.1, rfl, hc.2.1⟩, hc.2.2.1, hc.2.2.2⟩
        · cases h
      · cases h
    · cases h
  · cases h

/-- A row that has just been grown into a new block. -/
theorem grown_row {X' : Cx} {r : Nat} {w w' : World} {s : Sh} {g : Nat} {zs : List s.den} {F : Nat → Prop} {h0 : Array Obj} {us : List Value} {more : Array Value} {e : TypeId} (hw : w' = w.drew.alloc (.cells (us.toArray ++ more) e))
    (hX : X'.heap = w'.heap) (hF : X'.F = F) (hmono : ∀ b, F b → w'.heap[b]? = h0[b]?) (hD : AllD (Den F h0 s) zs us) (hφ : X'.φ r = some (w.heap.size, 0)) : RowOk X' r (.arr g s zs) := by
  have hl := AllD.length (fun x cs => Den.length s x cs) zs us hD
  have hcell : w'.heap[w.heap.size]? = some (.cells (us.toArray ++ more) e (0, 0)) := by rw [hw]; exact heap_alloc_new w.drew _
  refine .inr ⟨w.heap.size, 0, us.toArray ++ more, e, hφ, by rw [hX]; exact hcell, by simp; omega, fun i hi => ?_⟩
  obtain ⟨es, he, hd⟩ := allD_at (h := w'.heap) (b := w.heap.size) (fun x cs => Den.length s x cs) zs us 0 i hi hD ⟨_, e, (0, 0), hcell, fun j hj => by
    rw [Nat.zero_add, ← Array.getElem?_toList, Array.toList_append, List.getElem?_append_left (by simpa using hj)]⟩
  refine ⟨es, by rw [hX]; exact he, ?_⟩
  rw [hX, hF]
  exact Den.mono (fun _ h => h) hmono s _ es hd

theorem AllD.append {α : Type} {D : α → List Value → Prop} : ∀ {xs ys : List α} {us vs : List Value}, AllD D xs us → AllD D ys vs → AllD D (xs ++ ys) (us ++ vs)
  | [], ys, us, vs, h, h' => by rw [show us = [] from h]; exact h'
  | x :: xs, ys, us, vs, ⟨c1, c2, e, h1, h2⟩, h' => by
    subst e
    exact ⟨c1, c2 ++ vs, by simp, h1, AllD.append h2 h'⟩

theorem append_own {P : Program} {base n : Nat} {w0 : Start} {w : World} {X : Cx} (H : RowsOk base w0 n X w) {t ty : TypeId} {s : Sh} {bytes : Nat} (hT : AppTy P t s bytes) {r g : Nat} {xs ys : List s.den}
    (hrow : X.rows.get r = some (.arr g s xs)) {u x : Value} (hu : Rel X (.own r g) u) {p : Option Addr} {cap : Nat} (hx : x = .slice p ys.length cap)
    (hsrc : (p = none ∧ ys = []) ∨ ∃ q us, p = some q ∧ AllD (Den X.F X.heap s) ys us ∧ ∀ j v, us[j]? = some v → w.cell? (q.add j) = some v)
    (hbytes : (xs.length + ys.length) * bytes ≤ 140737488355328) (hbox : ∀ q cs, X.rows.get q = some (.box cs) → AV.allL (fun q h => !(q == r && h == g + 1)) cs = true) :
    ∃ v w' X', (Builtin.append_ #[t, t] ty #[u, x]).run P w = .ok v w' ∧ RowsOk base w0 n X' w' ∧ X'.rows = X.rows.set r (some (.arr (g + 1) s (xs ++ ys))) ∧ Stab X X' (fun q h => !(q == r && h == g + 1)) ∧ Rel X' (.own r (g + 1)) v := by
  subst hx
  obtain ⟨e, i, z, ht, hi, hz, hsz, hby, hzs⟩ := hT.ex
  have hspos := hT.size
  have hbpos := hT.bytes
  have hrl := rows_get_lt hrow
  obtain ⟨us, hus, hfc, hne⟩ := src_cells (P := P) (w := w) (cap := cap) hsrc
  have hul := AllD.length (fun x cs => Den.length s x cs) ys us hus
  have hnum : xs.length + ys.length ≤ 140737488355328 := Nat.le_trans (Nat.le_mul_of_pos_right _ hbpos) hbytes
  have hgetr : ∀ (x' : Row), Rows.get (X.rows.set r (some x')) r = some x' := fun x' => by unfold Rows.get; rw [List.getElem?_set_self hrl]; simp
  have hrel : ∀ (X' : Cx) (loc : Option (Nat × Nat)) (v : Value), X'.rows = X.rows.set r (some (.arr (g + 1) s (xs ++ ys))) → X'.φ r = loc →
      ((loc = none ∧ (xs ++ ys).length = 0 ∧ v = .slice none 0 0) ∨ ∃ b o cap, loc = some (b, o) ∧ v = .slice (some ⟨b, o, none⟩) (xs ++ ys).length cap ∧ (xs ++ ys).length ≤ cap ∧ ∀ c T fr, X'.heap[b]? = some (.cells c T fr) → o + cap * s.size ≤ c.size) →
      Rel X' (.own r (g + 1)) v := by
    intro X' loc v hr hφ h
    simp only [Rel]
    intro s' zs hz
    rw [hr, hgetr] at hz
    obtain ⟨_, hs', hz'⟩ := Row.arr.inj (Option.some.inj hz)
    subst hs'
    cases hz'
    rw [hφ]
    exact h
  -- growth into a new block
  have grow : ∀ (olds : List Value) (old : Nat), AllD (Den X.F X.heap s) xs olds → old < xs.length + ys.length →
      ∀ ty', (Builtin.append_ #[t, t] ty' #[u, .slice p ys.length cap]).run P w = .ok (.slice (some ⟨w.heap.size, 0, none⟩) (xs.length + ys.length) (grownCap w (xs.length + ys.length) old e))
        (w.drew.alloc (.cells (olds.toArray ++ us.toArray ++ Builtin.zeroCells z.cells (grownCap w (xs.length + ys.length) old e - (xs.length + ys.length))) e)) →
      ∃ v w' X', (Builtin.append_ #[t, t] ty' #[u, .slice p ys.length cap]).run P w = .ok v w' ∧ RowsOk base w0 n X' w' ∧ X'.rows = X.rows.set r (some (.arr (g + 1) s (xs ++ ys))) ∧ Stab X X' (fun q h => !(q == r && h == g + 1)) ∧ Rel X' (.own r (g + 1)) v := by
    intro olds old hold hlt ty' hrun
    have hge := grownCap_ge w (xs.length + ys.length) old e
    have holdl := AllD.length (fun x cs => Den.length s x cs) xs olds hold
    generalize hwd : w.drew.alloc (.cells (olds.toArray ++ us.toArray ++ Builtin.zeroCells z.cells (grownCap w (xs.length + ys.length) old e - (xs.length + ys.length))) e) = w' at hrun
    have hold' : ∀ k, k < w.heap.size → w'.heap[k]? = w.heap[k]? := fun k hk => by rw [← hwd]; exact heap_alloc_old w.drew _ (show k < w.drew.heap.size from hk)
    obtain ⟨R, S⟩ := RowsOk.reset (w' := w') (x' := .arr (g + 1) s (xs ++ ys)) (loc := some (w.heap.size, 0)) H hrow (by rw [← hwd]; rfl) (by rw [← hwd]; rfl) (by rw [← hwd]; rfl) (by rw [← hwd]; simp)
      (fun k hk _ => hold' k hk) (fun b o e => by cases e; exact .inl (Nat.le_refl _)) rfl hbox (by
        refine grown_row (w := w) (w' := w') (F := X.F) (h0 := X.heap) (us := olds ++ us) (more := Builtin.zeroCells z.cells (grownCap w (xs.length + ys.length) old e - (xs.length + ys.length))) (e := e) ?_ rfl rfl (fun b hb => ?_) (AllD.append hold hus) (by simp)
        · rw [← hwd]; simp
        · rw [H.heap]; exact hold' b (H.fresh b hb))
    refine ⟨_, w', _, hrun, R, rfl, S, hrel _ (some (w.heap.size, 0)) _ rfl (by simp) (.inr ⟨w.heap.size, 0, _, rfl, by rw [List.length_append], by rw [List.length_append]; exact hge, fun c T fr hc => ?_⟩)⟩
    simp only at hc
    rw [← hwd] at hc
    have hnew := heap_alloc_new w.drew (.cells (olds.toArray ++ us.toArray ++ Builtin.zeroCells z.cells (grownCap w (xs.length + ys.length) old e - (xs.length + ys.length))) e)
    rw [show (w.drew).heap.size = w.heap.size from rfl] at hnew
    rw [hnew] at hc
    cases hc
    have hlen : olds.length + us.length = (xs.length + ys.length) * s.size := by rw [holdl, hul, Nat.add_mul]
    simp only [Array.size_append, List.size_toArray, size_zeroCells, hzs]
    rw [hlen, ← Nat.add_mul, Nat.zero_add]
    exact Nat.mul_le_mul_right _ (by omega)
  simp only [Rel] at hu
  rcases hu s xs hrow with ⟨hφ, h0, rfl⟩ | ⟨b, o, cp, hφ, rfl, hle, hsize⟩
  · have hxs : xs = [] := List.eq_nil_of_length_eq_zero h0
    subst hxs
    by_cases hy : ys = []
    · subst hy
      obtain ⟨R, S⟩ := RowsOk.reset (w' := w) (x' := .arr (g + 1) s ([] ++ [])) (loc := none) H hrow rfl rfl rfl (Nat.le_refl _) (fun _ _ _ => rfl) (fun b o e => by cases e) rfl hbox (.inl ⟨by simp, rfl⟩)
      exact ⟨_, w, _, run_append_none ht hi, R, rfl, S, hrel _ none _ rfl (by simp) (.inl ⟨rfl, rfl, rfl⟩)⟩
    · obtain ⟨q, rfl, hq⟩ := hne hy
      have hylen : 0 < ys.length := List.length_pos_iff.2 hy
      refine grow [] 0 rfl (by simpa using hylen) ty ?_
      have hb2 : ys.length * i.bytes ≤ 281474976710656 := by rw [hby]; simp only [List.length_nil, Nat.zero_add] at hbytes; omega
      have := run_append_nil (P := P) w t ty e i z ht hi hz q ys.length cap us (by rw [hul, hsz]) hq hylen (by simp at hnum; omega) hb2
      simpa using this
  · rcases H.row r _ hrow with ⟨h5, _⟩ | ⟨b', o', c, T, h5, hcb, h7, h8⟩
    · rw [h5] at hφ; cases hφ
    · rw [h5] at hφ; cases hφ
      obtain ⟨olds, hold, hoc⟩ := gather (b := b) (h := X.heap) (D := Den X.F X.heap s) (fun x cs => Den.length s x cs) xs o h8
      have holdl := AllD.length (fun x cs => Den.length s x cs) xs olds hold
      have hcb' : w.heap[b]? = some (.cells c T (0, 0)) := by rw [← H.heap]; exact hcb
      have hsz' := hsize c T (0, 0) hcb
      by_cases hroom : xs.length + ys.length ≤ cp
      · have hfit : o + xs.length * i.size + us.length ≤ c.size := by
          rw [hul, hsz, Nat.add_assoc, ← Nat.add_mul]
          have := Nat.mul_le_mul_right s.size hroom
          omega
        have hrun := run_append_at (ty := ty) ht hi hcb' (p := p) (m := ys.length) (c := cap) (news := us) (by rw [hsz]; exact hfc) (allD_one (fun x cs => Den.one s x cs) ys us hus) hroom hfit
        generalize hcc : (splice c.toList (o + xs.length * i.size) us).toArray = c' at hrun
        have hc' := setRow_heap w b c c' T (0, 0) hcb'
        have hcs : c'.size = c.size := by
          rw [← hcc]
          simp only [List.size_toArray]
          rw [splice_length _ _ _ (by simp; omega)]; simp
        have hblk : ∀ k, k ≠ b → (w.setRow b c').heap[k]? = w.heap[k]? := fun k hk => setRow_other w b k c' hk
        have hFh : ∀ k, X.F k → (w.setRow b c').heap[k]? = X.heap[k]? := fun k hk => by
          rw [H.heap]; exact hblk k fun e => (H.own r _ b o hrow h5).2 (e ▸ hk)
        have hget : ∀ k, c'[k]? = if o + xs.length * s.size ≤ k ∧ k < o + xs.length * s.size + us.length then us[k - (o + xs.length * s.size)]? else c[k]? := fun k => by
          have hk0 : c.toList[k]? = c[k]? := by simp
          rw [← hcc, List.getElem?_toArray, splice_get _ _ _ (by simp; omega), hsz, hk0]
        obtain ⟨R, S⟩ := RowsOk.reset (w' := w.setRow b c') (x' := .arr (g + 1) s (xs ++ ys)) (loc := some (b, o)) H hrow rfl rfl rfl (by simp)
          (fun k hk hno => hblk k fun e => hno o (by rw [e]; exact h5)) (fun b1 o1 e => by cases e; exact .inr ⟨o, h5⟩) rfl hbox (by
            refine .inr ⟨b, o, c', T, by simp, hc', ?_, fun j hj => ?_⟩
            · rw [hcs, List.length_append]
              have := Nat.mul_le_mul_right s.size hroom
              omega
            · have hD := AllD.append hold hus
              have hDl := AllD.length (fun x cs => Den.length s x cs) (xs ++ ys) (olds ++ us) hD
              obtain ⟨es, he, hd⟩ := allD_at (h := (w.setRow b c').heap) (b := b) (fun x cs => Den.length s x cs) (xs ++ ys) (olds ++ us) o j hj hD ⟨c', T, (0, 0), hc', fun k hk => by
                rw [hget]
                by_cases hk1 : k < olds.length
                · rw [if_neg (by omega), List.getElem?_append_left hk1]
                  obtain ⟨c1, T1, fr1, e1, e2⟩ := hoc k olds[k] (by simp [hk1])
                  rw [hcb] at e1
                  cases e1
                  rw [e2]; simp [hk1]
                · rw [List.length_append] at hk
                  rw [if_pos (by omega), List.getElem?_append_right (by omega)]
                  congr 1; omega⟩
              exact ⟨es, he, Den.mono (fun _ h => h) hFh s _ es hd⟩)
        refine ⟨_, _, _, hrun, R, rfl, S, hrel _ (some (b, o)) _ rfl (by simp) (.inr ⟨b, o, cp, rfl, by rw [List.length_append], by rw [List.length_append]; exact hroom, fun c2 T2 fr2 h2 => ?_⟩)⟩
        simp only at h2
        rw [hc'] at h2
        cases h2
        omega
      · have hyne : ys ≠ [] := fun e => by subst e; simp at hroom; omega
        obtain ⟨q, rfl, hq⟩ := hne hyne
        refine grow olds cp hold (by omega) ty ?_
        exact run_append_grow (P := P) w t ty e i z ht hi hz ⟨b, o, none⟩ xs.length cp olds (by rw [holdl, hsz]) (fun j v hv => by
          obtain ⟨c1, T1, fr1, e1, e2⟩ := hoc j v hv
          rw [hcb] at e1
          cases e1
          rw [addr_add, World.cell?]
          simp [hcb', e2]) q ys.length cap us (by rw [hul, hsz]) hq (by omega) (by omega) (growslice_fits (by omega) (by rw [hby]; exact hbytes))
end Go.Proofs.YtlidfaaajjfgfaaDoor.Ab
