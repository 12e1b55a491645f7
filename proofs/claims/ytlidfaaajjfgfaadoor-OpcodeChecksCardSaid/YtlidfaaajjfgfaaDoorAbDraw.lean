import Derived.Test.YtlidfaaajjfgfaaDoorAbRegion
set_option linter.unusedVariables false
set_option linter.all false
namespace Go.Proofs.YtlidfaaajjfgfaaDoor.Ab
open Go.RowKit

/-! ### A region whose order is drawn: what comes first only makes values, in whatever order; what follows stands behind all -/
def writerOf (l : List Oper) (t : Nat) : Option Nat := l.findIdx? fun o => o.dst == some t

def bit (b : Array Nat) (i j : Nat) : Bool := (b.getD i 0).testBit j

/-- The temporaries that operation i may look at: those of what comes before it in every order. -/
def maskT (b : Array Nat) (l : List Oper) (vs : List AV) (i : Nat) (tmps : TMap) : TMap :=
  TMap.mapIdx (m := tmps) fun t v => match writerOf l t with
    | none => v
    | some j => if j = i then v else if j < i then (if bit b i j then vs.getD j .unk else .unk) else if bit b j i then v else .unk

def maskR (b : Array Nat) (i : Nat) (news : List (Nat × Row)) : Rows := news.map fun p => if bit b i p.1 then some p.2 else none

def maskSt (b : Array Nat) (l : List Oper) (S : St) (i : Nat) (vs : List AV) (news : List (Nat × Row)) : St :=
  { tmps := maskT b l vs i S.tmps, rows := S.rows ++ maskR b i news, dt := .nil, dr := .nil }

def refsOkB (n : Nat) (S : St) : Bool :=
  S.tmps.all (fun v => v.all fun q _ => S.rows.okid n q) && S.rows.all fun x => match x with | some (.box cs) => AV.allL (fun q _ => S.rows.okid n q) cs | _ => true

def dstOk (l : List Oper) (i : Nat) (o : Oper) : Bool := match o.dst with | some t => writerOf l t == some i | none => true
def addNew (news : List (Nat × Row)) (i : Nat) (new : Option Row) : List (Nat × Row) := match new with | some row => news ++ [(i, row)] | none => news

def drawGo (E : Env) (ops : Array Oper) (b : Array Nat) (S : St) : Nat → List Oper → List AV → List (Nat × Row) → Option (Bool × List AV × List (Nat × Row) × List Oper)
  | _, [], vs, news => some (true, vs, news, [])
  | i, o :: rest, vs, news =>
    let Si := maskSt b ops.toList S i vs news
    let n := S.rows.length
    match qstep E ops Si n (n + news.length) o with
    | some (ok, v, new) =>
      if dstOk ops.toList i o && refsOkB n Si then
        (drawGo E ops b S (i + 1) rest (vs ++ [v]) (addNew news i new)).map fun (ok', r) => (sAnd ok ok', r)
      else none
    | none => some (true, vs, news, o :: rest)

/-- All bits below i. -/
def behindAll (b : Array Nat) : Nat → List Oper → Bool
  | _, [] => true
  | i, _ :: rest => (List.range i).all (fun j => bit b i j) && behindAll b (i + 1) rest

/-- The state behind the operations that only make values. -/
def drawn (ops : Array Oper) (S : St) (vs : List AV) (news : List (Nat × Row)) : St :=
  { tmps := TMap.mapIdx (m := S.tmps) fun t v => match writerOf ops.toList t with
      | some j => if j < vs.length then vs.getD j .unk else v
      | none => v,
    rows := S.rows ++ news.map fun p => some p.2,
    dt := (ops.toList.take vs.length).foldl (fun l o => match o.dst with | some t => forceN l fun l => addN t l | none => l) S.dt,
    dr := S.dr }

/-- The table of what comes before is closed, and edges point back. -/
def beforeOkAt (b : Array Nat) (n i : Nat) (o : Oper) : Bool :=
  (o.after.toList.all fun e => !Region.binds .any e || decide (e.on < i)) && decide (b.getD i 0 < 2 ^ n) &&
  (List.range n).all fun j => !bit b i j || o.after.toList.any fun e => Region.binds .any e && (e.on == j || bit b e.on j)
def beforeGo (b : Array Nat) (n : Nat) : Nat → List Oper → Bool
  | _, [] => true
  | i, o :: rest => beforeOkAt b n i o && beforeGo b n (i + 1) rest
def beforeOk (b : Array Nat) (l : List Oper) : Bool := beforeGo b l.length 0 l

def exDraw (E : Env) (ops : Array Oper) (S : St) : Option (Bool × St) :=
  let b := Region.before ops
  (drawGo E ops b S 0 ops.toList [] []).bind fun (ok, vs, news, tail) =>
    if behindAll b vs.length tail && beforeOk b ops.toList then
      (exOps E ops tail (drawn ops S vs news)).map fun (ok', S') => (sAnd ok ok', S')
    else none

/-- The state when the operations of D have been carried out. -/
structure InD (ops : Array Oper) (S : St) (VS : List AV) (NEWS : List (Nat × Row)) (D : Nat → Bool) (S' : St) : Prop where
  tmp : ∀ t, S'.tmps[t]? = (S.tmps[t]?).map fun v => match writerOf ops.toList t with | some j => if j < VS.length ∧ D j = true then VS.getD j .unk else v | none => v
  row : ∀ r, S'.rows.get r = (S.rows ++ NEWS.map fun p => if D p.1 then some p.2 else none : Rows).get r
  len : S'.tmps.length = S.tmps.length

/-- What is new of operation i stands first among the later. -/
def newOk (new : Option Row) (i : Nat) (more : List (Nat × Row)) : Prop :=
  match new with
  | some row => ∃ more', more = (i, row) :: more' ∧ ∀ p ∈ more', i < p.1
  | none => ∀ p ∈ more, i < p.1

theorem drawGo_spec {E : Env} {ops : Array Oper} {b : Array Nat} {S : St} : ∀ (rest : List Oper) (i : Nat) (vs : List AV) (news : List (Nat × Row)) (ok : Bool) (VS : List AV) (NEWS : List (Nat × Row)) (tail : List Oper),
    drawGo E ops b S i rest vs news = some (ok, VS, NEWS, tail) → vs.length = i → (∀ k, rest[k]? = ops.toList[i + k]?) → (∀ p ∈ news, p.1 < i) →
    i ≤ VS.length ∧ VS.take i = vs ∧ (∃ more, NEWS = news ++ more ∧ ∀ p ∈ more, i ≤ p.1) ∧ (∀ p ∈ NEWS, p.1 < VS.length) ∧ (∀ k, tail[k]? = ops.toList[VS.length + k]?) ∧
      (ok = true → ∀ k, i ≤ k → k < VS.length → ∃ o nk more new, ops.toList[k]? = some o ∧ NEWS = nk ++ more ∧ (∀ p ∈ nk, p.1 < k) ∧
        qstep E ops (maskSt b ops.toList S k (VS.take k) nk) S.rows.length (S.rows.length + nk.length) o = some (true, VS.getD k .unk, new) ∧
        dstOk ops.toList k o = true ∧ refsOkB S.rows.length (maskSt b ops.toList S k (VS.take k) nk) = true ∧
        newOk new k more)
  | [], i, vs, news, ok, VS, NEWS, tail, h, hi, hr, hn => by
    simp only [drawGo, Option.some.injEq, Prod.mk.injEq] at h
    obtain ⟨rfl, rfl, rfl, rfl⟩ := h
    refine ⟨by omega, by rw [← hi]; simp, ⟨[], by simp, fun p hp => (by cases hp)⟩, fun p hp => (by have := hn p hp; omega), fun k => by rw [hi]; simpa using hr k, fun _ k h1 h2 => by omega⟩
  | o :: rest, i, vs, news, ok, VS, NEWS, tail, h, hi, hr, hn => by
    simp only [drawGo] at h
    split at h
    · rename_i ok1 v new hq
      split at h
      · rename_i hc
        simp only [Bool.and_eq_true] at hc
        simp only [Option.map_eq_some_iff, Prod.exists, Prod.mk.injEq] at h
        obtain ⟨ok2, VS', NEWS', tail', h, hok, rfl, rfl, rfl⟩ := h
        have hn' : ∀ p ∈ addNew news i new, p.1 < i + 1 := by
          intro p hp
          unfold addNew at hp
          cases new with
          | none => have := hn p hp; omega
          | some row =>
            rcases List.mem_append.1 hp with hp | hp
            · have := hn p hp; omega
            · simp only [List.mem_singleton] at hp; subst hp; simp
        obtain ⟨e1, e2, ⟨more, e3, e3'⟩, e6, e4, e5⟩ := drawGo_spec rest (i + 1) _ _ ok2 _ _ _ h (by simp [hi]) (fun k => by
          have := hr (k + 1)
          simp only [List.getElem?_cons_succ] at this
          rw [this]; congr 1; omega) hn'
        have e2' : VS'.take i = vs := by
          have h0 : (VS'.take (i + 1)).take i = VS'.take i := by rw [List.take_take]; congr 1; omega
          rw [← h0, e2, List.take_append_of_le_length (by omega), List.take_of_length_le (by omega)]
        have hvi : VS'.getD i .unk = v := by
          have := congrArg (fun l => l[i]?) e2
          simp only [List.getElem?_take, if_pos (Nat.lt_succ_self i)] at this
          rw [List.getElem?_append_right (by omega)] at this
          simp only [hi, Nat.sub_self, List.getElem?_cons_zero] at this
          simp [List.getD, this]
        have hoi : ops.toList[i]? = some o := by simpa using (hr 0).symm
        unfold addNew at e3
        refine ⟨by omega, e2', ?_, e6, e4, fun hk k hk1 hk2 => ?_⟩
        · cases new with
          | none => exact ⟨more, e3, fun p hp => by have := e3' p hp; omega⟩
          | some row =>
            refine ⟨(i, row) :: more, by simpa using e3, fun p hp => ?_⟩
            rcases List.mem_cons.1 hp with rfl | hp
            · exact Nat.le_refl _
            · have := e3' p hp; omega
        · rw [← hok, Bool.and_eq_true] at hk
          by_cases he : k = i
          · subst he
            cases new with
            | none =>
              refine ⟨o, news, more, none, hoi, e3, hn, ?_, ?_, ?_, fun p hp => by have := e3' p hp; omega⟩
              · rw [e2', hvi, ← hk.1]; exact hq
              · exact hc.1
              · rw [e2']; exact hc.2
            | some row =>
              refine ⟨o, news, (k, row) :: more, some row, hoi, by simpa using e3, hn, ?_, ?_, ?_, more, rfl, fun p hp => by have := e3' p hp; omega⟩
              · rw [e2', hvi, ← hk.1]; exact hq
              · exact hc.1
              · rw [e2']; exact hc.2
          · exact e5 hk.2 k (by omega) hk2
      · cases h
    · simp only [Option.some.injEq, Prod.mk.injEq] at h
      obtain ⟨rfl, rfl, rfl, rfl⟩ := h
      exact ⟨by omega, by rw [← hi]; simp, ⟨[], by simp, fun p hp => (by cases hp)⟩, fun p hp => (by have := hn p hp; omega), fun k => by rw [hi]; exact hr k, fun _ k h1 h2 => by omega⟩

/-! #### In whatever order -/
theorem writer_lt {l : List Oper} {t j : Nat} (h : writerOf l t = some j) : j < l.length ∧ ∃ o, l[j]? = some o ∧ o.dst = some t := by
  unfold writerOf at h
  rw [List.findIdx?_eq_some_iff_getElem] at h
  obtain ⟨h1, h2, _⟩ := h
  exact ⟨h1, l[j], by simp [h1], by simpa using h2⟩

/-- Sight of less: some temporaries unknown, some rows unseen. -/
theorem Sim.weaken {E : Env} {base n : Nat} {w0 : Start} {X : Cx} {S S' : St} {a : Act} {w : World} (H : Sim E base w0 n X S a w) (hl : S'.tmps.length = S.tmps.length)
    (ht : ∀ (t : Nat) (v : AV), S'.tmps[t]? = some v → S.tmps[t]? = some v ∨ v = .unk) (hr : ∀ (r : Nat) (x : Row), S'.rows.get r = some x → S.rows.get r = some x) (hok : refsOkB n S' = true) :
    Sim E base w0 n { X with rows := S'.rows } S' a w := by
  have hst : Stab X { X with rows := S'.rows } (fun _ _ => true) := by
    refine ⟨fun _ h => h, fun _ _ => rfl, fun r g _ cs' h => ⟨⟨cs', ?_⟩, rfl⟩, fun r g _ s xs' h => ⟨xs', ?_, rfl, rfl, fun b o _ c' T' fr' hc => ⟨c', T', fr', hc, rfl⟩⟩⟩
    · rw [H.rows]; exact hr r _ h
    · rw [H.rows]; exact hr r _ h
  have hrow : ∀ r x, S'.rows.get r = some x → X.rows.get r = some x := fun r x h => by rw [H.rows]; exact hr r x h
  simp only [refsOkB, Bool.and_eq_true, List.all_eq_true] at hok
  have hbox : ∀ r cs, S'.rows.get r = some (.box cs) → AV.allL (fun q _ => S'.rows.okid n q) cs = true := by
    intro r cs h
    unfold Rows.get at h
    cases hq : S'.rows[r]? with
    | none => rw [hq] at h; cases h
    | some x =>
      rw [hq] at h
      simp only [Option.join_some] at h
      subst h
      exact hok.2 _ (List.mem_of_getElem? hq)
  refine ⟨rfl, ⟨H.ok.heap, H.ok.keeps, H.ok.sub, H.ok.hb, H.ok.fresh, fun r x h => ?_, fun r x b o h hb => H.ok.own r x b o (hrow r x h) hb,
    fun r r' x x' b o b' o' h h' => H.ok.apart r r' x x' b o b' o' (hrow r x h) (hrow r' x' h'), hbox⟩, by rw [H.size, hl], H.defers, fun t v hv => ?_, fun g s x hg => ?_⟩
  · exact RowOk.mono hst rfl (fun _ _ _ => rfl) x (fun cs e => by subst e; exact AV.allL_imp (fun _ _ _ => rfl) cs (hbox r cs h)) (H.ok.row r x (hrow r x h))
  · refine ⟨TMap.all_at (by simp [AV.all]) hok.1 hv, ?_⟩
    rcases ht t v hv with h | h
    · exact Rel.mono hst v _ (AV.all_imp (fun _ _ _ => rfl) v (H.tmp t v h).1) (H.tmp t v h).2
    · subst h; simp [Rel]
  · exact Rel.mono hst (.dptr s x 0) _ rfl (H.glob g s x hg)

/-- What an operation leaves that saw less, it leaves to all. -/
theorem QPost.widen {X : Cx} {rows : Rows} {w w' : World} {id n : Nat} {v : AV} {new : Option Row} {val : Value} (h : QPost { X with rows := rows } w id v new val w') (hid : n ≤ id)
    (hsub : ∀ q, rows.okid n q = true → X.rows.get q = rows.get q) (hno : rows.get id = none)
    (hrefs : okRefs rows n id v new = true) (hnew : okNew rows n new = true) : QPost X w id v new val w' := by
  obtain ⟨F', loc, h1, h2, h3, h4, h5⟩ := h
  refine ⟨F', loc, h1, h2, h3, h4, ?_⟩
  cases new with
  | none =>
    simp only at h5 ⊢
    have hst : Stab { X with rows := rows, F := F', heap := w'.heap } { X with F := F', heap := w'.heap } (fun q _ => rows.okid n q) := by
      refine ⟨fun _ h => h, fun _ _ => rfl, fun r g hp cs' hq => ⟨⟨cs', ?_⟩, rfl⟩, fun r g hp s xs' hq => ⟨xs', ?_, rfl, rfl, fun b o _ c' T' fr' hc => ⟨c', T', fr', hc, rfl⟩⟩⟩
      · simp only at hq ⊢; rw [← hsub r hp]; exact hq
      · simp only at hq ⊢; rw [← hsub r hp]; exact hq
    exact Rel.mono hst v val (AV.all_imp (fun q g hq => by simpa [okRefs] using hq) v hrefs) h5
  | some row =>
    obtain ⟨p1, p2, p3⟩ := h5
    have hidn : ∀ q, rows.okid n q = true → q ≠ id := by
      intro q hq e
      subst e
      unfold Rows.okid at hq
      rw [hno] at hq
      simp at hq; omega
    have hst : Stab (Cx.claim { X with rows := rows, F := F', heap := w'.heap } id row loc) (Cx.claim { X with F := F', heap := w'.heap } id row loc) (fun q _ => rows.okid n q || q == id) := by
      refine ⟨fun _ h => h, fun _ _ => rfl, fun r g hp cs' hq => ⟨⟨cs', ?_⟩, rfl⟩, fun r g hp s xs' hq => ⟨xs', ?_, rfl, rfl, fun b o _ c' T' fr' hc => ⟨c', T', fr', hc, rfl⟩⟩⟩
      · simp only [Cx.claim, Rows.get_put] at hq ⊢
        simp only [Bool.or_eq_true, beq_iff_eq] at hp
        split at hq
        · rename_i e; rw [if_pos e]; exact hq
        · rename_i e; rw [if_neg e, ← hsub r (hp.resolve_right e)]; exact hq
      · simp only [Cx.claim, Rows.get_put] at hq ⊢
        simp only [Bool.or_eq_true, beq_iff_eq] at hp
        split at hq
        · rename_i e; rw [if_pos e]; exact hq
        · rename_i e; rw [if_neg e, ← hsub r (hp.resolve_right e)]; exact hq
    refine ⟨?_, p2, Rel.mono hst v val (AV.all_imp (fun q g hq => by simpa [okRefs] using hq) v hrefs) p3⟩
    exact RowOk.mono hst rfl (fun _ _ _ => rfl) row (fun cs e => by
      subst e
      exact AV.allL_imp (fun q g hq => by simp only [Bool.or_eq_true]; exact .inl hq) cs hnew) p1

theorem Sim.congr {E : Env} {base n : Nat} {w0 : Start} {X : Cx} {S S' : St} {a : Act} {w : World} (H : Sim E base w0 n X S a w) (ht : ∀ t : Nat, S'.tmps[t]? = S.tmps[t]?) (hl : S'.tmps.length = S.tmps.length)
    (hr : ∀ r : Nat, S'.rows.get r = S.rows.get r) : ∃ X', Sim E base w0 n X' S' a w := by
  have hst : Stab X { X with rows := S'.rows } (fun _ _ => true) := by
    refine ⟨fun _ h => h, fun _ _ => rfl, fun r g _ cs' h => ⟨⟨cs', ?_⟩, rfl⟩, fun r g _ s xs' h => ⟨xs', ?_, rfl, rfl, fun b o _ c' T' fr' hc => ⟨c', T', fr', hc, rfl⟩⟩⟩
    · rw [H.rows, ← hr]; exact h
    · rw [H.rows, ← hr]; exact h
  have hrow : ∀ r x, S'.rows.get r = some x → X.rows.get r = some x := fun r x h => by rw [H.rows, ← hr]; exact h
  have hokid : ∀ q, S.rows.okid n q = true → S'.rows.okid n q = true := fun q h => by unfold Rows.okid at h ⊢; rw [hr]; exact h
  have hokX : ∀ q, X.rows.okid n q = true → S'.rows.okid n q = true := fun q h => hokid q (by rw [← H.rows]; exact h)
  refine ⟨{ X with rows := S'.rows }, rfl, ⟨H.ok.heap, H.ok.keeps, H.ok.sub, H.ok.hb, H.ok.fresh, fun r x h => ?_, fun r x b o h hb => H.ok.own r x b o (hrow r x h) hb,
    fun r r' x x' b o b' o' h h' => H.ok.apart r r' x x' b o b' o' (hrow r x h) (hrow r' x' h'), fun r cs h => AV.allL_imp (fun q _ hq => hokX q hq) cs (H.ok.refs r cs (hrow r _ h))⟩, by rw [H.size, hl], H.defers, fun t v hv => ?_, fun g s x hg => ?_⟩
  · exact RowOk.mono hst rfl (fun _ _ _ => rfl) x (fun cs e => by subst e; exact AV.allL_imp (fun _ _ _ => rfl) cs (H.ok.refs r cs (hrow r _ h))) (H.ok.row r x (hrow r x h))
  · rw [ht] at hv
    exact ⟨AV.all_imp (fun q _ hq => hokid q hq) v (H.tmp t v hv).1, Rel.mono hst v _ (AV.all_imp (fun _ _ _ => rfl) v (H.tmp t v hv).1) (H.tmp t v hv).2⟩
  · exact Rel.mono hst (.dptr s x 0) _ rfl (H.glob g s x hg)

theorem beforeGo_at {b : Array Nat} {n : Nat} : ∀ {l : List Oper} {i : Nat}, beforeGo b n i l = true → ∀ (k : Nat) (o : Oper), l[k]? = some o → beforeOkAt b n (i + k) o = true
  | [], i, _, k, o, h => by simp at h
  | x :: l, i, h, k, o, ho => by
    simp only [beforeGo, Bool.and_eq_true] at h
    cases k with
    | zero => simp at ho; subst ho; exact h.1
    | succ k =>
      have := beforeGo_at h.2 k o (by simpa using ho)
      rw [show i + 1 + k = i + (k + 1) by omega] at this
      exact this

theorem behindAll_at {b : Array Nat} : ∀ {l : List Oper} {i : Nat}, behindAll b i l = true → ∀ (k : Nat), k < l.length → ∀ j, j < i + k → bit b (i + k) j = true
  | [], i, _, k, h => by simp at h
  | x :: l, i, h, k, hk => by
    simp only [behindAll, Bool.and_eq_true, List.all_eq_true, List.mem_range] at h
    cases k with
    | zero => intro j hj; exact h.1 j hj
    | succ k =>
      intro j hj
      have := behindAll_at h.2 k (by simpa using hk) j (by omega)
      rw [show i + 1 + k = i + (k + 1) by omega] at this
      exact this

theorem Sim.drew {E : Env} {base n : Nat} {w0 : Start} {X : Cx} {S : St} {a : Act} {w : World} (H : Sim E base w0 n X S a w) : Sim E base w0 n X S a { w with drawn := w.drawn + 1 } :=
  { H with ok := { H.ok with heap := H.ok.heap, keeps := H.ok.keeps.drew, hb := H.ok.hb, fresh := H.ok.fresh } }

theorem get_append_left {l m : Rows} {r : Nat} (h : r < l.length) : Rows.get (l ++ m) r = l.get r := by
  unfold Rows.get; rw [List.getElem?_append_left h]
theorem get_append_right {l m : Rows} {r : Nat} (h : l.length ≤ r) : Rows.get (l ++ m) r = Rows.get m (r - l.length) := by
  unfold Rows.get; rw [List.getElem?_append_right h]
theorem get_news {news : List (Nat × Row)} {f : Nat → Bool} {r : Nat} : Rows.get (news.map fun p => if f p.1 then some p.2 else none) r = (news[r]?).bind fun p => if f p.1 then some p.2 else none := by
  unfold Rows.get
  rw [List.getElem?_map]
  cases news[r]? <;> rfl

section
variable {E : Env} {base : Nat} {w0 : Start} {ops : Array Oper} {S : St} {VS : List AV} {NEWS : List (Nat × Row)}

def Closed (b : Array Nat) (D : Nat → Bool) : Prop := ∀ i, D i = true → ∀ j, bit b i j = true → D j = true

/-- One operation of those that only make values. -/
theorem drawn_step (hK : ∀ f c, E.K f = some c → KOk E f c) {b : Array Nat} {D : Nat → Bool} {S' : St} {X : Cx} {a : Act} {w : World} {i : Nat} {o : Oper} {nk more : List (Nat × Row)} {new : Option Row}
    (hD : InD ops S VS NEWS D S') (H : Sim E base w0 S.rows.length X S' a w) (hcl : Closed b D) (hDi : D i = false) (hbits : ∀ j, bit b i j = true → D j = true) (him : i < VS.length)
    (ho : ops.toList[i]? = some o) (hN : NEWS = nk ++ more) (hnk : ∀ p ∈ nk, p.1 < i)
    (hq : qstep E ops (maskSt b ops.toList S i (VS.take i) nk) S.rows.length (S.rows.length + nk.length) o = some (true, VS.getD i .unk, new))
    (hdst : dstOk ops.toList i o = true) (hrefs : refsOkB S.rows.length (maskSt b ops.toList S i (VS.take i) nk) = true)
    (hnew : newOk new i more)
    {K : Act → World → Prop} {Q : Exit → Act → World → Prop} (hk : ∀ a' w' S'' X', InD ops S VS NEWS (fun j => D j || j == i) S'' → Sim E base w0 S.rows.length X' S'' a' w' → K a' w') :
    if Region.wanted o (yielded ops a.tmps) then o.wp E.P a w K Q else K (a.put o.dst undef) w := by
  have hrsub : ∀ r x, (maskSt b ops.toList S i (VS.take i) nk).rows.get r = some x → S'.rows.get r = some x := by
    intro r x h
    rw [hD.row]
    simp only [maskSt, maskR] at h
    by_cases hr : r < S.rows.length
    · rw [get_append_left hr] at h ⊢; exact h
    · rw [get_append_right (by omega), get_news] at h ⊢
      simp only [Option.bind_eq_some_iff] at h ⊢
      obtain ⟨p, hp, h⟩ := h
      split at h
      · rename_i hb
        cases h
        refine ⟨p, ?_, by rw [if_pos (hbits _ hb)]⟩
        rw [hN, List.getElem?_append_left (List.getElem?_eq_some_iff.1 hp).1]
        exact hp
      · cases h
  have hW := Sim.weaken H (S' := maskSt b ops.toList S i (VS.take i) nk) (by simp [maskSt, maskT, hD.len]) (fun t v hv => by
    simp only [maskSt, maskT, TMap.getElem?_mapIdx, Option.map_eq_some_iff] at hv
    obtain ⟨v0, hv0, hv⟩ := hv
    rw [hD.tmp, hv0]
    simp only [Option.map_some, Option.some.injEq]
    cases hw : writerOf ops.toList t with
    | none => rw [hw] at hv; exact .inl hv
    | some j =>
      rw [hw] at hv
      simp only at hv ⊢
      by_cases e : j = i
      · rw [if_pos e] at hv
        rw [if_neg (by rw [e, hDi]; simp)]
        exact .inl hv
      · rw [if_neg e] at hv
        by_cases hlt : j < i
        · rw [if_pos hlt] at hv
          by_cases hb : bit b i j = true
          · rw [if_pos hb] at hv
            refine .inl ?_
            rw [if_pos ⟨by omega, hbits j hb⟩, ← hv]
            simp only [List.getD, List.getElem?_take, if_pos hlt]
          · rw [if_neg hb] at hv; exact .inr hv.symm
        · rw [if_neg hlt] at hv
          by_cases hb : bit b j i = true
          · rw [if_pos hb] at hv
            refine .inl ?_
            rw [if_neg ?_]
            · exact hv
            · rintro ⟨_, hdj⟩
              rw [hcl j hdj i hb] at hDi; cases hDi
          · rw [if_neg hb] at hv; exact .inr hv.symm) hrsub hrefs
  have hlenm : (maskSt b ops.toList S i (VS.take i) nk).rows.length = S.rows.length + nk.length := by simp [maskSt, maskR]
  have hno : (maskSt b ops.toList S i (VS.take i) nk).rows.get (S.rows.length + nk.length) = none := by rw [← hlenm]; exact get_end _
  have hchk := (qstep_wp (K := fun _ _ => True) (Q := Q) hK hW (Nat.le_add_right _ _) hno hq rfl (fun _ _ _ => trivial)).2
  refine (qstep_wp hK hW (Nat.le_add_right _ _) hno hq rfl (fun val w' hp => ?_)).1
  have hsub : ∀ q, (maskSt b ops.toList S i (VS.take i) nk).rows.okid S.rows.length q = true → X.rows.get q = (maskSt b ops.toList S i (VS.take i) nk).rows.get q := by
    intro q hq
    rw [H.rows]
    unfold Rows.okid at hq
    simp only [Bool.or_eq_true, decide_eq_true_eq] at hq
    by_cases hlt : q < S.rows.length
    · rw [hD.row, get_append_left hlt]
      simp only [maskSt]
      rw [get_append_left hlt]
    · have hs := hq.resolve_left hlt
      obtain ⟨x, hx⟩ := Option.isSome_iff_exists.1 hs
      rw [hx]
      exact hrsub q x hx
  have hwide := QPost.widen (X := X) (rows := (maskSt b ops.toList S i (VS.take i) nk).rows) hp (Nat.le_add_right _ _) hsub hno hchk.1 hchk.2
  have hokid : ∀ q, (maskSt b ops.toList S i (VS.take i) nk).rows.okid S.rows.length q = true → S'.rows.okid S.rows.length q = true := by
    intro q hq
    have := hsub q hq
    rw [H.rows] at this
    unfold Rows.okid at hq ⊢
    rw [this]; exact hq
  -- the temporaries of the new state
  have htm : ∀ (S2 : St), S2.tmps = (match o.dst with | some t => S'.tmps.set t (VS.getD i .unk) | none => S'.tmps) → ∀ t, S2.tmps[t]? = (S.tmps[t]?).map fun v => match writerOf ops.toList t with | some j => if j < VS.length ∧ (D j || j == i) = true then VS.getD j .unk else v | none => v := by
    intro S2 h2 t
    have old : (¬ ∃ d, o.dst = some d ∧ d = t) → (S'.tmps[t]? = (S.tmps[t]?).map fun v => match writerOf ops.toList t with | some j => if j < VS.length ∧ (D j || j == i) = true then VS.getD j .unk else v | none => v) := by
      intro hne
      rw [hD.tmp]
      cases S.tmps[t]? with
      | none => rfl
      | some v =>
        simp only [Option.map_some, Option.some.injEq]
        cases hw : writerOf ops.toList t with
        | none => rfl
        | some j =>
          simp only
          have hji : (j == i) = false := by
            rw [beq_eq_false_iff_ne]
            intro e
            subst e
            obtain ⟨_, o', ho', hd'⟩ := writer_lt hw
            rw [ho] at ho'
            cases ho'
            exact hne ⟨t, hd', rfl⟩
          rw [hji, Bool.or_false]
    cases hd : o.dst with
    | none => rw [hd] at h2; rw [h2]; exact old (fun ⟨d, h, _⟩ => by rw [hd] at h; cases h)
    | some d =>
      rw [hd] at h2
      rw [h2]
      by_cases e : d = t
      · subst e
        simp only [dstOk, hd, beq_iff_eq] at hdst
        have hl := hD.tmp d
        by_cases hlt : d < S.tmps.length
        · rw [TMap.getElem?_set_self (by rw [hD.len]; exact hlt)]
          rw [TMap.getElem?_some hlt]
          simp only [Option.map_some, hdst, Option.some.injEq]
          rw [if_pos ⟨him, by simp⟩]
        · have hge := Nat.le_of_not_lt hlt
          rw [TMap.getElem?_none (by simpa [hD.len] using hge), TMap.getElem?_none hge]; rfl
      · rw [TMap.getElem?_set_ne e]
        exact old (fun ⟨d', h, e'⟩ => by rw [hd] at h; cases h; exact e e')
  cases new with
  | none =>
    obtain ⟨X', H'⟩ := Sim.after (id := S.rows.length + S'.rows.length) H (Nat.le_add_right _ _) (by unfold Rows.get; rw [List.getElem?_eq_none (by omega)]; rfl) (dst := o.dst) (new := none) hwide
      (AV.all_imp (fun q g h => by
        simp only [Option.isSome_none, Bool.false_and, Bool.or_false] at h ⊢
        exact hokid q h) _ hchk.1) rfl
    refine hk _ _ _ X' ⟨htm _ (St.after_tmps ..), fun r => ?_, by rw [St.after_tmps]; cases o.dst <;> simp [hD.len]⟩ H'
    rw [St.after_rows]
    simp only
    rw [hD.row]
    by_cases hr : r < S.rows.length
    · rw [get_append_left hr, get_append_left hr]
    · rw [get_append_right (by omega), get_append_right (by omega), get_news, get_news (f := fun j => D j || j == i)]
      cases hp' : NEWS[r - S.rows.length]? with
      | none => rfl
      | some p =>
        simp only [Option.bind_some]
        have hne : (p.1 == i) = false := by
          rw [beq_eq_false_iff_ne]
          have hmem := List.mem_of_getElem? hp'
          rw [hN] at hmem
          rcases List.mem_append.1 hmem with h | h
          · have := hnk p h; omega
          · have := hnew p h; omega
        rw [hne, Bool.or_false]
  | some row =>
    obtain ⟨more', hm, hm'⟩ := hnew
    have hat : NEWS[nk.length]? = some (i, row) := by rw [hN, hm]; simp
    have hnoS : S'.rows.get (S.rows.length + nk.length) = none := by
      rw [hD.row, get_append_right (by omega), get_news]
      rw [show S.rows.length + nk.length - S.rows.length = nk.length by omega, hat]
      simp [hDi]
    obtain ⟨X', H'⟩ := Sim.after (id := S.rows.length + nk.length) H (Nat.le_add_right _ _) hnoS (dst := o.dst) (new := some row) hwide
      (AV.all_imp (fun q g h => by
        simp only [Bool.or_eq_true] at h ⊢
        rcases h with h | h
        · exact .inl (hokid q h)
        · exact .inr h) _ hchk.1) (by
        have h2 := hchk.2
        unfold okNew at h2 ⊢
        split
        · rename_i cs e
          cases e
          exact AV.allL_imp (fun q g h => hokid q h) cs h2
        · rfl)
    refine hk _ _ _ X' ⟨htm _ (St.after_tmps ..), fun r => ?_, by rw [St.after_tmps]; cases o.dst <;> simp [hD.len]⟩ H'
    rw [St.after_rows]
    simp only
    rw [Rows.get_put]
    by_cases hid : r = S.rows.length + nk.length
    · rw [if_pos hid, hid, get_append_right (by omega), get_news (f := fun j => D j || j == i), show S.rows.length + nk.length - S.rows.length = nk.length by omega, hat]
      simp
    · rw [if_neg hid, hD.row]
      by_cases hr : r < S.rows.length
      · rw [get_append_left hr, get_append_left hr]
      · rw [get_append_right (by omega), get_append_right (by omega), get_news, get_news (f := fun j => D j || j == i)]
        cases hp' : NEWS[r - S.rows.length]? with
        | none => rfl
        | some p =>
          simp only [Option.bind_some]
          have hne : (p.1 == i) = false := by
            rw [beq_eq_false_iff_ne]
            rw [hN] at hp'
            by_cases hl : r - S.rows.length < nk.length
            · rw [List.getElem?_append_left hl] at hp'
              have := hnk p (List.mem_of_getElem? hp'); omega
            · rw [List.getElem?_append_right (by omega), hm] at hp'
              have : ∃ q, r - S.rows.length - nk.length = q + 1 := ⟨r - S.rows.length - nk.length - 1, by omega⟩
              obtain ⟨q, hq⟩ := this
              rw [hq, List.getElem?_cons_succ] at hp'
              have := hm' p (List.mem_of_getElem? hp'); omega
          rw [hne, Bool.or_false]
end

/-- How many are not listed. -/
def unlisted (n : Nat) (L : Array Bool) : List Nat := (List.range n).filter fun i => !L.getD i true

theorem filter_lt {p q : Nat → Bool} : ∀ {l : List Nat}, (∀ x ∈ l, q x = true → p x = true) → (∃ x ∈ l, p x = true ∧ q x = false) → (l.filter q).length < (l.filter p).length
  | [], _, ⟨x, h, _⟩ => by cases h
  | y :: l, h1, ⟨x, hx, hp, hq⟩ => by
    have hle : ∀ {l : List Nat}, (∀ x ∈ l, q x = true → p x = true) → (l.filter q).length ≤ (l.filter p).length := by
      intro l
      induction l with
      | nil => intro _; simp
      | cons z l ih =>
        intro h
        have := ih fun x hx => h x (List.mem_cons_of_mem _ hx)
        simp only [List.filter_cons]
        by_cases hq' : q z = true
        · rw [if_pos hq', if_pos (h z (by simp) hq')]; simp; omega
        · rw [if_neg hq']; split <;> simp <;> omega
    simp only [List.filter_cons]
    rcases List.mem_cons.1 hx with rfl | hx
    · rw [hq, hp]
      have := hle (l := l) fun z hz => h1 z (List.mem_cons_of_mem _ hz)
      simp; omega
    · have := filter_lt (l := l) (fun z hz => h1 z (List.mem_cons_of_mem _ hz)) ⟨x, hx, hp, hq⟩
      by_cases hq' : q y = true
      · rw [if_pos hq', if_pos (h1 y (by simp) hq')]; simp; omega
      · rw [if_neg hq']; split <;> simp <;> omega

section
variable {E : Env} {base : Nat} {w0 : Start} {ops : Array Oper} {S : St} {VS : List AV} {NEWS : List (Nat × Row)}

theorem exDraw_wp (hK : ∀ f c, E.K f = some c → KOk E f c) (hm : E.P.follows .mixedOrders = true) {S' : St} {a : Act} {w : World} {id : Nat} {ok : Bool} (H : SimE E base w0 S a w)
    (h : exDraw E ops S = some (ok, S')) (hok : ok = true) {Q : Exit → Act → World → Prop} (hk : ∀ a' w', SimE E base w0 S' a' w' → Q .normal a' w') : (Code.region id ops true).wp E.P Q a w := by
  simp only [exDraw, Option.bind_eq_some_iff, Prod.exists] at h
  obtain ⟨ok1, VS, NEWS, tail, hgo, h⟩ := h
  split at h
  · rename_i hc
    simp only [Bool.and_eq_true] at hc
    obtain ⟨hbeh, hbef⟩ := hc
    simp only [Option.map_eq_some_iff, Prod.exists, Prod.mk.injEq] at h
    obtain ⟨ok2, Sf, htail, hoks, rfl⟩ := h
    rw [← hoks, Bool.and_eq_true] at hok
    obtain ⟨rfl, rfl⟩ := hok
    obtain ⟨_, _, ⟨more0, hmore0, _⟩, hnlt, htl, hspec⟩ := drawGo_spec ops.toList 0 [] [] true VS NEWS tail hgo rfl (fun k => by simp) (fun p hp => by cases hp)
    have hspec := hspec rfl
    have hsz : ops.toList.length = ops.size := Array.length_toList
    have hVS : VS.length ≤ ops.size := by
      rcases Nat.eq_zero_or_pos VS.length with h0 | h0
      · omega
      · obtain ⟨o, _, _, _, ho, _⟩ := hspec (VS.length - 1) (Nat.zero_le _) (by omega)
        have := (List.getElem?_eq_some_iff.1 ho).1
        omega
    have hbef' : ∀ i o, ops[i]? = some o → beforeOkAt (Region.before ops) ops.size i o = true := fun i o ho => by
      have := beforeGo_at hbef i o (by rw [Array.getElem?_toList]; exact ho)
      simpa [hsz] using this
    have hbn : ∀ i o, ops[i]? = some o → ∀ j, bit (Region.before ops) i j = true → j < ops.size := fun i o ho j hb => by
      have h2 := hbef' i o ho
      simp only [beforeOkAt, Bool.and_eq_true, decide_eq_true_eq] at h2
      rcases Nat.lt_or_ge j ops.size with h | h
      · exact h
      · have : ((Region.before ops).getD i 0).testBit j = false := Nat.testBit_lt_two_pow (Nat.lt_of_lt_of_le h2.1.2 (Nat.pow_le_pow_right (by omega) h))
        unfold bit at hb
        rw [this] at hb; cases hb
    have hedge : ∀ i o, ops[i]? = some o → ∀ e ∈ o.after, Region.binds .any e = true → e.on < i := fun i o ho e he hb => by
      have h2 := hbef' i o ho
      simp only [beforeOkAt, Bool.and_eq_true, List.all_eq_true, Bool.or_eq_true, Bool.not_eq_true', decide_eq_true_eq] at h2
      rcases h2.1.1 e (by simpa using he) with h3 | h3
      · rw [h3] at hb; cases hb
      · exact h3
    have hbits : ∀ (L : Array Bool) (i : Nat) (o : Oper), ops[i]? = some o → (∀ e ∈ o.after, Region.binds .any e = true → L.getD e.on false = true) → Closed (Region.before ops) (fun j => L.getD j false) →
        ∀ j, bit (Region.before ops) i j = true → L.getD j false = true := by
      intro L i o ho hr hcl j hb
      have h2 := hbef' i o ho
      simp only [beforeOkAt, Bool.and_eq_true, List.all_eq_true, List.mem_range, Bool.or_eq_true, Bool.not_eq_true'] at h2
      rcases h2.2 j (hbn i o ho j hb) with h3 | h3
      · rw [h3] at hb; cases hb
      · simp only [List.any_eq_true, Bool.and_eq_true, Bool.or_eq_true, beq_iff_eq] at h3
        obtain ⟨e, he, hbd, hon⟩ := h3
        have hl := hr e (by simpa using he) hbd
        rcases hon with hon | hon
        · rw [← hon]; exact hl
        · exact hcl e.on hl j hon
    have htail' : tail = ops.toList.drop VS.length := List.ext_getElem? fun k => by rw [htl, List.getElem?_drop]
    -- what holds between two operations
    let Ph : Array Bool → Act → World → Prop := fun L a w => L.size = ops.size ∧ Closed (Region.before ops) (fun j => L.getD j false) ∧
      (((∀ i, VS.length ≤ i → L.getD i false = false) ∧ (∃ S1 X, InD ops S VS NEWS (fun j => L.getD j false) S1 ∧ Sim E base w0 S.rows.length X S1 a w)) ∨
       (∃ k S1, VS.length < k ∧ (∀ i, L.getD i false = true ↔ i < k) ∧ k ≤ ops.size ∧ SimE E base w0 S1 a w ∧ exOps E ops (ops.toList.drop k) S1 = some (true, Sf)))
    have full : ∀ (L : Array Bool) (S1 : St) (X : Cx) (a : Act) (w : World), (∀ j, j < VS.length → L.getD j false = true) → InD ops S VS NEWS (fun j => L.getD j false) S1 → Sim E base w0 S.rows.length X S1 a w →
        SimE E base w0 (Go.Proofs.YtlidfaaajjfgfaaDoor.Ab.drawn ops S VS NEWS) a w := by
      intro L S1 X a w hall hD hS
      have hn := hnlt
      obtain ⟨X', H'⟩ := Sim.congr (S' := Go.Proofs.YtlidfaaajjfgfaaDoor.Ab.drawn ops S VS NEWS) hS (fun t => by
          simp only [Go.Proofs.YtlidfaaajjfgfaaDoor.Ab.drawn, TMap.getElem?_mapIdx]
          rw [hD.tmp]
          cases S.tmps[t]? with
          | none => rfl
          | some v =>
            simp only [Option.map_some, Option.some.injEq]
            cases writerOf ops.toList t with
            | none => rfl
            | some j =>
              simp only
              by_cases hj : j < VS.length
              · rw [if_pos hj, if_pos ⟨hj, hall j hj⟩]
              · rw [if_neg hj, if_neg (fun h => hj h.1)]) (by simp [Go.Proofs.YtlidfaaajjfgfaaDoor.Ab.drawn, hD.len]) (fun r => by
          rw [hD.row]
          simp only [Go.Proofs.YtlidfaaajjfgfaaDoor.Ab.drawn]
          by_cases hr : r < S.rows.length
          · rw [get_append_left hr, get_append_left hr]
          · rw [get_append_right (by omega), get_append_right (by omega), get_news (f := fun j => L.getD j false)]
            unfold Rows.get
            rw [List.getElem?_map]
            cases hq : NEWS[r - S.rows.length]? with
            | none => rfl
            | some p =>
              simp only [Option.map_some, Option.join_some, Option.bind_some]
              rw [if_pos (hall _ (hn p (List.mem_of_getElem? hq)))])
      exact ⟨X', H'.le (by simp [Go.Proofs.YtlidfaaajjfgfaaDoor.Ab.drawn])⟩
    have set_getD : ∀ (L : Array Bool) (i : Nat), i < L.size → ∀ j, (L.setIfInBounds i true).getD j false = (L.getD j false || j == i) := by
      intro L i hi j
      by_cases e : j = i
      · subst e
        simp [Array.getD_eq_getD_getElem?, Array.getElem?_setIfInBounds, hi]
      · have : (j == i) = false := by simpa using e
        rw [this, Bool.or_false]
        simp [Array.getD_eq_getD_getElem?, Array.getElem?_setIfInBounds_ne (show i ≠ j from fun h => e h.symm)]
    have closed' : ∀ (L : Array Bool) (i : Nat) (o : Oper), i < L.size → ops[i]? = some o → (∀ e ∈ o.after, Region.binds .any e = true → L.getD e.on false = true) → Closed (Region.before ops) (fun j => L.getD j false) →
        Closed (Region.before ops) (fun j => (L.setIfInBounds i true).getD j false) := by
      intro L i o hi ho hr hcl q hq j hb
      simp only [set_getD L i hi, Bool.or_eq_true, beq_iff_eq] at hq ⊢
      rcases hq with hq | hq
      · exact .inl (hcl q hq j hb)
      · subst hq
        exact .inl (hbits L q o ho hr hcl j hb)
    -- a step of what stands behind all
    have tailstep : ∀ (k : Nat) (S1 : St) (L : Array Bool) (o : Oper) (a : Act) (w : World) (K : Act → World → Prop), VS.length ≤ k → L.size = ops.size → (∀ i, L.getD i false = true ↔ i < k) → ops[k]? = some o → SimE E base w0 S1 a w →
        exOps E ops (ops.toList.drop k) S1 = some (true, Sf) → Closed (Region.before ops) (fun j => (L.setIfInBounds k true).getD j false) → (∀ a' w', Ph (L.setIfInBounds k true) a' w' → K a' w') →
        if Region.wanted o (yielded ops a.tmps) then o.wp E.P a w K Q else K (a.put o.dst undef) w := by
      intro k S1 L o a w K hk1 hLs hL ho hS hex hcl hK'
      have hkn : k < ops.size := (Array.getElem?_eq_some_iff.1 ho).1
      rw [List.drop_eq_getElem_cons (by simpa using hkn)] at hex
      have hoe : ops.toList[k]'(by simpa using hkn) = o := by
        have := (Array.getElem?_eq_some_iff.1 ho).2
        simpa using this
      rw [hoe] at hex
      simp only [exOps, Option.bind_eq_some_iff, Option.map_eq_some_iff, Prod.exists, Prod.mk.injEq] at hex
      obtain ⟨ok1, S2, h1, ok2, S3, h2, h3, rfl⟩ := hex
      rw [Bool.and_eq_true] at h3
      obtain ⟨rfl, rfl⟩ := h3
      refine exOp_wp hK hS h1 rfl (fun a' w' hS2 => hK' a' w' ⟨by simp [hLs], hcl, .inr ⟨k + 1, S2, by omega, fun i => ?_, by omega, hS2, h2⟩⟩)
      rw [set_getD L k (by omega)]
      simp only [Bool.or_eq_true, beq_iff_eq, hL]
      omega
    have main : ∀ (fuel : Nat) (L : Array Bool) (a : Act) (w : World), (unlisted ops.size L).length ≤ fuel → Ph L a w → wpAny E.P .any ops Q fuel L a w := by
      have allOf : ∀ (L : Array Bool), L.size = ops.size → Region.ready .any ops L = [] → ∀ i, i < ops.size → L.getD i false = true := by
        intro L hLs hr i
        induction i using Nat.strongRecOn with
        | _ i ih =>
          intro hi
          cases hv : L.getD i false with
          | true => rfl
          | false =>
            exfalso
            have hmem : i ∈ Region.ready .any ops L := by
              rw [mem_ready]
              refine ⟨?_, ops[i], by simp [hi], fun e he hb => ?_⟩
              · have hiL : i < L.size := by omega
                simp only [Array.getD_eq_getD_getElem?, Array.getElem?_eq_getElem hiL, Option.getD_some] at hv ⊢
                exact hv
              · have := hedge i ops[i] (by simp [hi]) e he hb
                exact ih e.on this (by omega)
            rw [hr] at hmem; cases hmem
      have fin : ∀ (L : Array Bool) (a : Act) (w : World), Ph L a w → Region.ready .any ops L = [] → Q .normal a w := by
        intro L a w hP hr
        obtain ⟨hLs, hcl, hP⟩ := hP
        have hall := allOf L hLs hr
        rcases hP with ⟨h1, S1, X, hD, hS⟩ | ⟨k, S1, h1, h2, h3, hS, hex⟩
        · have hVn : VS.length = ops.size := by
            rcases Nat.lt_or_ge VS.length ops.size with h | h
            · have e1 := h1 VS.length (Nat.le_refl _)
              rw [hall _ h] at e1; cases e1
            · omega
          have ht : tail = [] := by rw [htail', hVn, ← hsz]; simp
          rw [ht] at htail
          simp only [exOps, Option.some.injEq, Prod.mk.injEq] at htail
          rw [← htail.2] at hk
          exact hk a w (full L S1 X a w (fun j hj => hall j (by omega)) hD hS)
        · have hkn : k = ops.size := by
            rcases Nat.lt_or_ge k ops.size with h | h
            · have := (h2 k).1 (hall k h); omega
            · omega
          rw [hkn, ← hsz] at hex
          simp only [List.drop_length, exOps, Option.some.injEq, Prod.mk.injEq] at hex
          rw [← hex.2] at hk
          exact hk a w hS
      intro fuel
      induction fuel with
      | zero =>
        intro L a w hu hP
        have hready : Region.ready .any ops L = [] := by
          rw [List.eq_nil_iff_forall_not_mem]
          intro i hi
          rw [mem_ready] at hi
          obtain ⟨h1, o, ho, _⟩ := hi
          have hmem : i ∈ unlisted ops.size L := by
            unfold unlisted
            rw [List.mem_filter, List.mem_range]
            exact ⟨(Array.getElem?_eq_some_iff.1 ho).1, by rw [h1]; rfl⟩
          have := List.length_pos_of_mem hmem
          omega
        exact ⟨hready, fin L a w hP hready⟩
      | succ fuel ih =>
        intro L a w hu hP
        refine ⟨fin L a w hP, fun i hi => ?_⟩
        rw [mem_ready] at hi
        obtain ⟨h1, o, ho, hr⟩ := hi
        have hin : i < ops.size := (Array.getElem?_eq_some_iff.1 ho).1
        have hP' := hP
        obtain ⟨hLs, hcl, hP⟩ := hP
        have hiL : i < L.size := by omega
        have hLi : L.getD i false = false := by
          simp only [Array.getD_eq_getD_getElem?, Array.getElem?_eq_getElem hiL, Option.getD_some] at h1 ⊢
          exact h1
        have hless : (unlisted ops.size (L.setIfInBounds i true)).length ≤ fuel := by
          have : (unlisted ops.size (L.setIfInBounds i true)).length < (unlisted ops.size L).length := by
            refine filter_lt (fun x _ hx => ?_) ⟨i, List.mem_range.2 hin, by rw [h1]; rfl, ?_⟩
            · by_cases e : i = x
              · subst e
                simp [Array.getD_eq_getD_getElem?, Array.getElem?_setIfInBounds, hiL] at hx
              · rw [getD_set_ne true e] at hx; exact hx
            · simp [Array.getD_eq_getD_getElem?, Array.getElem?_setIfInBounds, hiL]
          omega
        have hcl' := closed' L i o hiL ho hr hcl
        have hb := hbits L i o ho hr hcl
        have step : (if Region.wanted o (yielded ops a.tmps) then o.wp E.P a w (wpAny E.P .any ops Q fuel (L.setIfInBounds i true)) Q else wpAny E.P .any ops Q fuel (L.setIfInBounds i true) (a.put o.dst undef) w) := by
          rcases hP with ⟨hA, S1, X, hD, hS⟩ | ⟨k, S1, hk1, hk2, hk3, hS, hex⟩
          · by_cases hlt : i < VS.length
            · obtain ⟨o', nk, more, new, ho', hN, hnk, hq, hdst, hrefs, hnew⟩ := hspec i (Nat.zero_le _) hlt
              have : o' = o := by
                rw [Array.getElem?_toList, ho] at ho'
                exact (Option.some.inj ho').symm
              subst this
              refine drawn_step hK hD hS hcl hLi hb hlt (by rw [Array.getElem?_toList]; exact ho) hN hnk hq hdst hrefs hnew (fun a' w' S2 X2 hD2 hS2 => ih _ a' w' hless ⟨by simp [hLs], hcl', .inl ⟨fun q hq => ?_, S2, X2, ?_, hS2⟩⟩)
              · rw [set_getD L i hiL, hA q hq]
                have : (q == i) = false := by rw [beq_eq_false_iff_ne]; omega
                rw [this]; rfl
              · have e : (fun j => (L.setIfInBounds i true).getD j false) = fun j => L.getD j false || j == i := funext (set_getD L i hiL)
                rw [e]; exact hD2
            · have hall : ∀ j, j < i → L.getD j false = true := by
                intro j hj
                refine hb j ?_
                have htl2 : i - VS.length < tail.length := by
                  rw [htail', List.length_drop, hsz]; omega
                have := behindAll_at hbeh (i - VS.length) htl2 j (by omega)
                rw [show VS.length + (i - VS.length) = i by omega] at this
                exact this
              have hi : i = VS.length := by
                rcases Nat.lt_or_ge VS.length i with h | h
                · have e1 := hall VS.length h
                  rw [hA _ (Nat.le_refl _)] at e1; cases e1
                · omega
              rw [htail'] at htail
              refine tailstep i (Go.Proofs.YtlidfaaajjfgfaaDoor.Ab.drawn ops S VS NEWS) L o a w _ (by omega) hLs (fun q => ⟨fun hq => ?_, fun hq => hall q hq⟩) ho (full L S1 X a w (fun j hj => hall j (by omega)) hD hS) (by rw [hi]; exact htail) hcl' (fun a' w' hp => ih _ a' w' hless hp)
              rcases Nat.lt_or_ge q VS.length with h | h
              · omega
              · rw [hA q h] at hq; cases hq
          · have hik : i = k := by
              have h3 : ¬ i < k := fun h => by rw [(hk2 i).2 h] at hLi; cases hLi
              rcases Nat.lt_or_ge k i with h | h
              · have htl2 : i - VS.length < tail.length := by
                  rw [htail', List.length_drop, hsz]; omega
                have := behindAll_at hbeh (i - VS.length) htl2 k (by omega)
                rw [show VS.length + (i - VS.length) = i by omega] at this
                have := (hk2 k).1 (hb k this)
                omega
              · omega
            subst hik
            exact tailstep i S1 L o a w _ (by omega) hLs hk2 ho hS hex hcl' (fun a' w' hp => ih _ a' w' hless hp)
        unfold wpOp
        rw [ho]
        simp only
        split
        · rename_i hw; rw [if_pos hw] at step; exact .inl step
        · rename_i hw; rw [if_neg hw] at step; exact step
    refine wp_region_any hm (main _ _ _ _ (by
      have := List.length_filter_le (fun i => !(Array.replicate ops.size false).getD i true) (List.range ops.size)
      simpa [unlisted] using this) ?_)
    have hrep : ∀ i, (Array.replicate ops.size false).getD i false = false := fun i => by
      by_cases h : i < ops.size <;> simp [Array.getD_eq_getD_getElem?, h]
    refine ⟨by simp, fun i hi => ?_, .inl ⟨fun i _ => hrep i, S, ?_⟩⟩
    · simp only [hrep] at hi; cases hi
    · obtain ⟨X, HX⟩ := H
      refine ⟨X, ⟨fun t => ?_, fun r => ?_, rfl⟩, HX.drew⟩
      · cases S.tmps[t]? with
        | none => rfl
        | some v =>
          simp only [Option.map_some, Option.some.injEq, hrep]
          cases writerOf ops.toList t <;> simp
      · by_cases hr : r < S.rows.length
        · rw [get_append_left hr]
        · rw [get_append_right (by omega), get_news (f := fun j => (Array.replicate ops.size false).getD j false)]
          unfold Rows.get
          rw [List.getElem?_eq_none (by omega)]
          cases NEWS[r - S.rows.length]? with
          | none => rfl
          | some p => simp only [Option.bind_some, hrep]; rfl
  · cases h
end

theorem drawn_agree {ops : Array Oper} {S : St} {VS : List AV} {NEWS : List (Nat × Row)} : Agree S (drawn ops S VS NEWS) where
  len := by simp [drawn]
  tmp t ht := by
    simp only [drawn, TMap.getElem?_mapIdx]
    cases hv : S.tmps[t]? with
    | none => rfl
    | some v =>
      simp only [Option.map_some, Option.some.injEq]
      cases hw : writerOf ops.toList t with
      | none => rfl
      | some j =>
        simp only
        split
        · rename_i hj
          exfalso
          apply ht
          obtain ⟨h1, o, ho, hd⟩ := writer_lt hw
          have hmem : o ∈ ops.toList.take VS.length := List.mem_of_getElem? (i := j) (by rw [List.getElem?_take, if_pos hj]; exact ho)
          simp only [drawn]
          have key : ∀ (l : List Oper) (d : NSet), (t ∈ d ∨ o ∈ l) → t ∈ l.foldl (fun l o => match o.dst with | some t => forceN l fun l => addN t l | none => l) d := by
            intro l
            induction l with
            | nil => intro d h; simpa using h
            | cons x l ih =>
              intro d h
              refine ih _ ?_
              simp only
              rcases h with h | h
              · left
                split
                · rw [forceN_eq]; exact mem_addN.2 (.inr h)
                · exact h
              · rcases List.mem_cons.1 h with rfl | h
                · left
                  rw [hd]
                  simp only [forceN_eq]
                  exact mem_addN.2 (.inl rfl)
                · exact .inr h
          exact key _ _ (.inr hmem)
        · rfl
  rlen := by simp [drawn]
  row r hr _ := by simp only [drawn]; exact get_append_left hr
  dt t ht := by
    simp only [drawn]
    have key : ∀ (l : List Oper) (d : NSet), t ∈ d → t ∈ l.foldl (fun l o => match o.dst with | some t => forceN l fun l => addN t l | none => l) d := by
      intro l
      induction l with
      | nil => intro d h; exact h
      | cons x l ih =>
        intro d h
        refine ih _ ?_
        simp only
        split
        · rw [forceN_eq]; exact mem_addN.2 (.inr h)
        · exact h
    exact key _ _ ht
  dr _ h := h

theorem exDraw_agree {E : Env} {ops : Array Oper} {S S' : St} {ok : Bool} (h : exDraw E ops S = some (ok, S')) : Agree S S' := by
  simp only [exDraw, Option.bind_eq_some_iff, Prod.exists] at h
  obtain ⟨ok1, VS, NEWS, tail, _, h⟩ := h
  split at h
  · simp only [Option.map_eq_some_iff, Prod.exists, Prod.mk.injEq] at h
    obtain ⟨ok2, Sf, htail, _, rfl⟩ := h
    exact drawn_agree.trans (exOps_agree htail)
  · cases h
end Go.Proofs.YtlidfaaajjfgfaaDoor.Ab
