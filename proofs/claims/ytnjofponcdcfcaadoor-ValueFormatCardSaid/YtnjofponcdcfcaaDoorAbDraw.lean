/- Two rows change their numbers: so that branches that made a row each may meet. -/
import Derived.Test.YtnjofponcdcfcaaDoorAbPlace
set_option linter.unusedVariables false
set_option linter.all false
namespace Go.Proofs.YtnjofponcdcfcaaDoor.Ab
open Go.RowKit

/-! ### A region whose order is drawn: each operation sees what comes before it in every order; rows have a history -/
def writerOf (l : List Oper) (t : Nat) : Option Nat := l.findIdx? fun o => o.dst == some t

def bit (b : Array Nat) (i j : Nat) : Bool := (b.getD i 0).testBit j
/-- Whichever comes first, it does so in every order. -/
def ord (b : Array Nat) (i j : Nat) : Bool := bit b i j || (bit b j i || i == j)

/-- The temporaries that operation i may look at: those of what comes before it in every order. -/
def maskT (b : Array Nat) (l : List Oper) (vs : List AV) (i : Nat) (tmps : TMap) : TMap :=
  TMap.mapIdx (m := tmps) fun t v => match writerOf l t with
    | none => v
    | some j => if j = i then v else if j < i then (if bit b i j then vs.getD j .unk else .unk) else if bit b j i then v else .unk

/-- What operations make of rows: the operation, the row, what it holds then. -/
abbrev Hist := List (Nat × Nat × Row)
def lastAt (p : Nat → Bool) (r : Nat) : Hist → Option Row
  | [] => none
  | (j, q, x) :: h => match lastAt p r h with | some y => some y | none => if p j && q == r then some x else none
def histRows (p : Nat → Bool) : Hist → Rows → Rows
  | [], rows => rows
  | (j, q, x) :: h, rows => histRows p h (if p j then rows.set q (some x) else rows)
/-- Rows that turn at some time before or after operation i, as it is drawn, are not seen by it. -/
def hideR (b : Array Nat) (i : Nat) : List (Nat × Nat) → Rows → Rows
  | [], rows => rows
  | (j, q) :: w, rows => hideR b i w (if ord b i j then rows else rows.set q none)

def maskSt (b : Array Nat) (l : List Oper) (W : List (Nat × Nat)) (S : St) (i : Nat) (vs : List AV) (H : Hist) : St :=
  { tmps := maskT b l vs i S.tmps, rows := hideR b i W (histRows (bit b i) H (S.rows ++ List.replicate l.length none)), dt := .nil, dr := .nil }

/-- What an operation makes speaks of no row that is hidden from it. -/
def visB (b : Array Nat) (i : Nat) (W : List (Nat × Nat)) (q : Nat) : Bool := W.all fun p => p.2 != q || ord b i p.1
def visOk (b : Array Nat) (i : Nat) (W : List (Nat × Nat)) (v : AV) (new : Option Row) : Bool :=
  v.all (fun q _ => visB b i W q) && (match new with | some (.box cs) => AV.allL (fun q _ => visB b i W q) cs | _ => true)

def refsOkB (n : Nat) (S : St) : Bool :=
  S.tmps.all (fun v => v.all fun q _ => S.rows.okid n q) && S.rows.all fun x => match x with | some (.box cs) => AV.allL (fun q _ => S.rows.okid n q) cs | _ => true

def dstOk (l : List Oper) (i : Nat) (o : Oper) : Bool := match o.dst with | some t => writerOf l t == some i | none => true
def addH (H : Hist) (i id : Nat) (new : Option Row) : Hist := match new with | some row => H ++ [(i, id, row)] | none => H

/-- The loud operations: the number, its new row's place, the row that turns, the growths that are new. -/
abbrev Louds := List (Nat × Nat × Nat × List Nat)

def drawGo (E : Env) (ops : Array Oper) (b : Array Nat) (W : List (Nat × Nat)) (S : St) : Nat → List Oper → List AV → Hist → Louds → Option (Bool × List AV × Hist × Louds × List Oper)
  | _, [], vs, H, L => some (true, vs, H, L, [])
  | i, o :: rest, vs, H, L =>
    let Si := maskSt b ops.toList W S i vs H
    let n := S.rows.length
    let id := n + H.length
    match qstep E ops Si n id o with
    | some (ok, v, new) =>
      if dstOk ops.toList i o && refsOkB n Si && H.all (fun e => e.2.1 != id) && visOk b i W v new then
        (drawGo E ops b W S (i + 1) rest (vs ++ [v]) (addH H i id new) L).map fun (ok', r) => (sAnd ok ok', r)
      else none
    | none => match o.guard, loud0 E Si n id o.op with
      | none, some (ok, v, rows, r) => match rows.get r with
        | some x => if dstOk ops.toList i o && refsOkB n Si && v.all (fun q _ => rows.okid n q) then
            (drawGo E ops b W S (i + 1) rest (vs ++ [v]) (H ++ [(i, r, x)]) (L ++ [(i, id, r, loudNew E Si o.op)])).map fun (ok', r) => (sAnd ok ok', r)
          else none
        | none => none
      | _, _ => some (true, vs, H, L, o :: rest)

/-- All bits below i. -/
def behindAll (b : Array Nat) : Nat → List Oper → Bool
  | _, [] => true
  | i, _ :: rest => (List.range i).all (fun j => bit b i j) && behindAll b (i + 1) rest

/-- The state behind the operations whose order is drawn. -/
def drawn (ops : Array Oper) (S : St) (vs : List AV) (H : Hist) : St :=
  { tmps := TMap.mapIdx (m := S.tmps) fun t v => match writerOf ops.toList t with
      | some j => if j < vs.length then vs.getD j .unk else v
      | none => v,
    rows := histRows (fun _ => true) H (S.rows ++ List.replicate H.length none),
    dt := (ops.toList.take vs.length).foldl (fun l o => match o.dst with | some t => forceN l fun l => addN t l | none => l) S.dt,
    dr := H.foldl (fun l e => forceN e.2.1 fun x => forceN l fun l => addN x l) S.dr, gho := S.gho }

/-- The table of what comes before is closed, and edges point back. -/
def beforeOkAt (b : Array Nat) (n i : Nat) (o : Oper) : Bool :=
  (o.after.toList.all fun e => !Region.binds .any e || decide (e.on < i)) && decide (b.getD i 0 < 2 ^ n) &&
  (List.range n).all fun j => !bit b i j || o.after.toList.any fun e => Region.binds .any e && (e.on == j || bit b e.on j)
def beforeGo (b : Array Nat) (n : Nat) : Nat → List Oper → Bool
  | _, [] => true
  | i, o :: rest => beforeOkAt b n i o && beforeGo b n (i + 1) rest
def beforeOk (b : Array Nat) (l : List Oper) : Bool := beforeGo b l.length 0 l

/-- The history is one: what turns one row is ordered, and seen by those that look. -/
def histOk (b : Array Nat) (n m : Nat) (W : List (Nat × Nat)) (H : Hist) : Bool :=
  decide (H.length ≤ m) && (H.all (fun e => decide (e.2.1 < n + H.length)) &&
  (H.all (fun e => H.all fun e' => e.1 == e'.1 || (e.2.1 != e'.2.1 || ord b e.1 e'.1)) &&
  H.all (fun e => W.any (fun p => p.1 == e.1 && p.2 == e.2.1) || (decide (n ≤ e.2.1) && H.all fun e' => e'.1 == e.1 || e'.2.1 != e.2.1))))

/-- Before operation i nothing speaks of the growth g of row r. -/
def noRefAt (b : Array Nat) (S : St) (VS : List AV) (H : Hist) (i r g : Nat) : Bool :=
  noRefB S r g && ((List.range VS.length).all (fun j => j == i || (bit b j i || (VS.getD j .unk).all fun q h => !(q == r && h == g))) &&
  H.all fun e => e.1 == i || (bit b e.1 i || (match e.2.2 with | .box cs => AV.allL (fun q h => !(q == r && h == g)) cs | _ => true)))

def loudsOk (b : Array Nat) (S : St) (VS : List AV) (H : Hist) (L : Louds) : Bool :=
  L.all fun x => H.all (fun e => e.2.1 != x.2.1 || (e.1 == x.1 || bit b e.1 x.1)) && x.2.2.2.all fun g => noRefAt b S VS H x.1 x.2.2.1 g

def isLoudOp (o : Oper) : Bool :=
  match o.op with
  | .store _ _ _ => true
  | .call c => match c.callee with | .builtin .append => true | _ => false
  | _ => false

/-- The order of the text. -/
def textB (n : Nat) : Array Nat := ((List.range n).map fun i => 2 ^ i - 1).toArray

/-- Which operation turns which row, as the text has it. -/
def turns (E : Env) (ops : Array Oper) (S : St) : List (Nat × Nat) :=
  if ops.toList.any isLoudOp then match drawGo E ops (textB ops.toList.length) [] S 0 ops.toList [] [] [] with
    | some (_, _, H, _, _) => H.map fun e => (e.1, e.2.1)
    | none => []
  else []

def exDraw (E : Env) (ops : Array Oper) (S : St) : Option (Bool × St) :=
  let b := Region.before ops
  let W := turns E ops S
  (drawGo E ops b W S 0 ops.toList [] [] []).bind fun (ok, vs, H, L, tail) =>
    if behindAll b vs.length tail && (beforeOk b ops.toList && (histOk b S.rows.length ops.toList.length W H && loudsOk b S vs H L)) then
      (exOps E ops tail (drawn ops S vs H)).map fun (ok', S') => (sAnd ok ok', S')
    else none

/-! #### Histories -/
theorem lastAt_congr {p p' : Nat → Bool} {r : Nat} : ∀ {h : Hist}, (∀ e ∈ h, e.2.1 = r → p e.1 = p' e.1) → lastAt p r h = lastAt p' r h
  | [], _ => rfl
  | (j, q, x) :: h, hp => by
    simp only [lastAt]
    rw [lastAt_congr (h := h) fun e he => hp e (List.mem_cons_of_mem _ he)]
    by_cases e : q = r
    · rw [hp (j, q, x) (by simp) e]
    · have : (q == r) = false := by simpa using e
      rw [this, Bool.and_false, Bool.and_false]

theorem lastAt_none {p : Nat → Bool} {r : Nat} : ∀ {h : Hist}, (∀ e ∈ h, e.2.1 = r → p e.1 = false) → lastAt p r h = none
  | [], _ => rfl
  | (j, q, x) :: h, hp => by
    simp only [lastAt]
    rw [lastAt_none (h := h) fun e he => hp e (List.mem_cons_of_mem _ he)]
    simp only
    rw [if_neg]
    intro e
    simp only [Bool.and_eq_true, beq_iff_eq] at e
    rw [hp (j, q, x) (by simp) e.2] at e
    cases e.1

theorem lastAt_append {p : Nat → Bool} {r : Nat} {h' : Hist} : ∀ {h : Hist}, lastAt p r (h ++ h') = match lastAt p r h' with | some y => some y | none => lastAt p r h
  | [] => by simp only [List.nil_append, lastAt]; cases lastAt p r h' <;> rfl
  | (j, q, x) :: h => by
    simp only [List.cons_append, lastAt]
    rw [lastAt_append (h := h)]
    cases lastAt p r h' <;> rfl

theorem lastAt_mem {p : Nat → Bool} {r : Nat} {x : Row} : ∀ {h : Hist}, lastAt p r h = some x → ∃ j, (j, r, x) ∈ h ∧ p j = true
  | [], e => by cases e
  | (j, q, y) :: h, e => by
    simp only [lastAt] at e
    split at e
    · rename_i z hz
      cases e
      obtain ⟨k, h1, h2⟩ := lastAt_mem hz
      exact ⟨k, List.mem_cons_of_mem _ h1, h2⟩
    · split at e
      · rename_i hc
        cases e
        simp only [Bool.and_eq_true, beq_iff_eq] at hc
        obtain ⟨h1, rfl⟩ := hc
        exact ⟨j, by simp, h1⟩
      · cases e

theorem histRows_length {p : Nat → Bool} : ∀ (h : Hist) (rows : Rows), (histRows p h rows).length = rows.length
  | [], _ => rfl
  | (j, q, x) :: h, rows => by simp only [histRows]; rw [histRows_length]; split <;> simp

theorem get_histRows {p : Nat → Bool} {r : Nat} : ∀ {h : Hist} {rows : Rows}, (∀ e ∈ h, e.2.1 < rows.length) → (histRows p h rows).get r = match lastAt p r h with | some y => some y | none => rows.get r
  | [], rows, _ => rfl
  | (j, q, x) :: h, rows, hb => by
    have hq : q < rows.length := hb (j, q, x) (by simp)
    simp only [histRows, lastAt]
    rw [get_histRows (h := h) (fun e he => by
      have := hb e (List.mem_cons_of_mem _ he)
      split
      · simpa using this
      · exact this)]
    cases hl : lastAt p r h with
    | some y => rfl
    | none =>
      simp only
      by_cases e : p j = true
      · rw [if_pos e, e, Bool.true_and]
        by_cases e2 : q = r
        · subst e2
          rw [get_set_self hq]; simp
        · rw [get_set_ne (fun h => e2 h.symm)]
          have : (q == r) = false := by simpa using e2
          rw [this]; simp
      · have : p j = false := by simpa using e
        rw [if_neg e, this]; simp

theorem hideR_length {b : Array Nat} {i : Nat} : ∀ (w : List (Nat × Nat)) (rows : Rows), (hideR b i w rows).length = rows.length
  | [], _ => rfl
  | (j, q) :: w, rows => by simp only [hideR]; rw [hideR_length]; split <;> simp

theorem get_hideR {b : Array Nat} {i r : Nat} {x : Row} : ∀ {w : List (Nat × Nat)} {rows : Rows}, (hideR b i w rows).get r = some x → rows.get r = some x ∧ ∀ j, (j, r) ∈ w → ord b i j = true
  | [], rows, h => ⟨h, fun j hj => by cases hj⟩
  | (j, q) :: w, rows, h => by
    simp only [hideR] at h
    obtain ⟨h1, h2⟩ := get_hideR h
    by_cases e : ord b i j = true
    · rw [if_pos e] at h1
      refine ⟨h1, fun k hk => ?_⟩
      rcases List.mem_cons.1 hk with hk | hk
      · cases hk; exact e
      · exact h2 k hk
    · rw [if_neg e] at h1
      have hqr : q ≠ r := by
        intro e2
        subst e2
        unfold Rows.get at h1
        by_cases hlt : q < rows.length
        · rw [List.getElem?_set_self hlt] at h1; cases h1
        · rw [List.getElem?_eq_none (by simpa using hlt)] at h1; cases h1
      rw [get_set_ne (fun h => hqr h.symm)] at h1
      refine ⟨h1, fun k hk => ?_⟩
      rcases List.mem_cons.1 hk with hk | hk
      · cases hk; exact absurd rfl hqr
      · exact h2 k hk

/-- The checks of a history, as propositions. -/
structure HOk (b : Array Nat) (n m : Nat) (W : List (Nat × Nat)) (H : Hist) : Prop where
  len : H.length ≤ m
  bound : ∀ e ∈ H, e.2.1 < n + H.length
  chain : ∀ e ∈ H, ∀ e' ∈ H, e.1 ≠ e'.1 → e.2.1 = e'.2.1 → ord b e.1 e'.1 = true
  cover : ∀ e ∈ H, (e.1, e.2.1) ∈ W ∨ (n ≤ e.2.1 ∧ ∀ e' ∈ H, e'.2.1 = e.2.1 → e'.1 = e.1)

theorem histOk_ok {b : Array Nat} {n m : Nat} {W : List (Nat × Nat)} {H : Hist} (h : histOk b n m W H = true) : HOk b n m W H := by
  simp only [histOk, Bool.and_eq_true, List.all_eq_true, decide_eq_true_eq, Bool.or_eq_true, bne_iff_ne, ne_eq, beq_iff_eq, List.any_eq_true] at h
  obtain ⟨h1, h2, h3, h4⟩ := h
  refine ⟨h1, h2, fun e he e' he' hn hr => ?_, fun e he => ?_⟩
  · rcases h3 e he e' he' with h | h | h
    · exact absurd h hn
    · exact absurd hr h
    · exact h
  · rcases h4 e he with ⟨p, hp, h5, h6⟩ | ⟨h5, h6⟩
    · left
      rw [← h5, ← h6]
      exact hp
    · refine .inr ⟨h5, fun e' he' hr => ?_⟩
      rcases h6 e' he' with h | h
      · exact h
      · exact absurd hr h

/-- The state when the operations of D have been carried out. -/
structure InD (ops : Array Oper) (S : St) (VS : List AV) (H : Hist) (D : Nat → Bool) (S' : St) : Prop where
  tmp : ∀ t, S'.tmps[t]? = (S.tmps[t]?).map fun v => match writerOf ops.toList t with | some j => if j < VS.length ∧ D j = true then VS.getD j .unk else v | none => v
  row : ∀ r, S'.rows.get r = match lastAt D r H with | some x => some x | none => S.rows.get r
  len : S'.tmps.length = S.tmps.length
  gho : S'.gho = S.gho

/-- What is new of operation i stands first among the later. -/
def newOk (new : Option Row) (i id : Nat) (H2 : Hist) : Prop :=
  match new with
  | some row => ∃ H3, H2 = (i, id, row) :: H3 ∧ ∀ e ∈ H3, i < e.1
  | none => ∀ e ∈ H2, i < e.1

/-- What an operation does, told of the state that it sees. -/
def StepOk (E : Env) (ops : Array Oper) (b : Array Nat) (W : List (Nat × Nat)) (n id i : Nat) (Si : St) (o : Oper) (v : AV) (H1 H2 : Hist) (L : Louds) : Prop :=
  (∃ new, qstep E ops Si n id o = some (true, v, new) ∧ newOk new i id H2 ∧ (∀ e ∈ H1, e.2.1 ≠ id) ∧ visOk b i W v new = true) ∨
  (∃ rows r x H3, o.guard = none ∧ loud0 E Si n id o.op = some (true, v, rows, r) ∧ rows.get r = some x ∧ v.all (fun q _ => rows.okid n q) = true ∧ H2 = (i, r, x) :: H3 ∧ (∀ e ∈ H3, i < e.1) ∧ (i, id, r, loudNew E Si o.op) ∈ L)

theorem drawGo_spec {E : Env} {ops : Array Oper} {b : Array Nat} {W : List (Nat × Nat)} {S : St} : ∀ (rest : List Oper) (i : Nat) (vs : List AV) (H : Hist) (L : Louds) (ok : Bool) (VS : List AV) (HS : Hist) (LS : Louds) (tail : List Oper),
    drawGo E ops b W S i rest vs H L = some (ok, VS, HS, LS, tail) → vs.length = i → (∀ k, rest[k]? = ops.toList[i + k]?) → (∀ e ∈ H, e.1 < i) →
    i ≤ VS.length ∧ VS.take i = vs ∧ (∃ more, HS = H ++ more ∧ ∀ e ∈ more, i ≤ e.1) ∧ (∃ more, LS = L ++ more) ∧ (∀ e ∈ HS, e.1 < VS.length) ∧ (∀ k, tail[k]? = ops.toList[VS.length + k]?) ∧
      (ok = true → ∀ k, i ≤ k → k < VS.length → ∃ o H1 H2, ops.toList[k]? = some o ∧ HS = H1 ++ H2 ∧ (∀ e ∈ H1, e.1 < k) ∧
        dstOk ops.toList k o = true ∧ refsOkB S.rows.length (maskSt b ops.toList W S k (VS.take k) H1) = true ∧
        StepOk E ops b W S.rows.length (S.rows.length + H1.length) k (maskSt b ops.toList W S k (VS.take k) H1) o (VS.getD k .unk) H1 H2 LS)
  | [], i, vs, H, L, ok, VS, HS, LS, tail, h, hi, hr, hn => by
    simp only [drawGo, Option.some.injEq, Prod.mk.injEq] at h
    obtain ⟨rfl, rfl, rfl, rfl, rfl⟩ := h
    refine ⟨by omega, by rw [← hi]; simp, ⟨[], by simp, fun p hp => (by cases hp)⟩, ⟨[], by simp⟩, fun p hp => (by have := hn p hp; omega), fun k => by rw [hi]; simpa using hr k, fun _ k h1 h2 => by omega⟩
  | o :: rest, i, vs, H, L, ok, VS, HS, LS, tail, h, hi, hr, hn => by
    have hr' : ∀ k, rest[k]? = ops.toList[i + 1 + k]? := fun k => by
      have := hr (k + 1)
      simp only [List.getElem?_cons_succ] at this
      rw [this]; congr 1; omega
    have hoi : ops.toList[i]? = some o := by simpa using (hr 0).symm
    have htk : ∀ (VS' : List AV) (v : AV), VS'.take (i + 1) = vs ++ [v] → VS'.take i = vs ∧ VS'.getD i .unk = v := by
      intro VS' v e2
      constructor
      · have h0 : (VS'.take (i + 1)).take i = VS'.take i := by rw [List.take_take]; congr 1; omega
        rw [← h0, e2, List.take_append_of_le_length (by omega), List.take_of_length_le (by omega)]
      · have := congrArg (fun l => l[i]?) e2
        simp only [List.getElem?_take, if_pos (Nat.lt_succ_self i)] at this
        rw [List.getElem?_append_right (by omega)] at this
        simp only [hi, Nat.sub_self, List.getElem?_cons_zero] at this
        simp [List.getD, this]
    simp only [drawGo] at h
    split at h
    · rename_i ok1 v new hq
      split at h
      · rename_i hc
        simp only [Bool.and_eq_true, List.all_eq_true, bne_iff_ne, ne_eq] at hc
        simp only [Option.map_eq_some_iff, Prod.exists, Prod.mk.injEq] at h
        obtain ⟨ok2, VS', HS', LS', tail', h, hok, rfl, rfl, rfl, rfl⟩ := h
        have hn' : ∀ e ∈ addH H i (S.rows.length + H.length) new, e.1 < i + 1 := by
          intro p hp
          unfold addH at hp
          cases new with
          | none => have := hn p hp; omega
          | some row =>
            rcases List.mem_append.1 hp with hp | hp
            · have := hn p hp; omega
            · simp only [List.mem_singleton] at hp; subst hp; simp
        obtain ⟨e1, e2, ⟨more, e3, e3'⟩, ⟨moreL, e7⟩, e6, e4, e5⟩ := drawGo_spec rest (i + 1) _ _ _ ok2 _ _ _ _ h (by simp [hi]) hr' hn'
        obtain ⟨e2', hvi⟩ := htk _ _ e2
        unfold addH at e3
        refine ⟨by omega, e2', ?_, ⟨moreL, e7⟩, e6, e4, fun hk k hk1 hk2 => ?_⟩
        · cases new with
          | none => exact ⟨more, e3, fun p hp => by have := e3' p hp; omega⟩
          | some row =>
            refine ⟨(i, S.rows.length + H.length, row) :: more, by simpa using e3, fun p hp => ?_⟩
            rcases List.mem_cons.1 hp with rfl | hp
            · exact Nat.le_refl _
            · have := e3' p hp; omega
        · rw [← hok, Bool.and_eq_true] at hk
          by_cases he : k = i
          · subst he
            cases new with
            | none =>
              refine ⟨o, H, more, hoi, e3, hn, hc.1.1.1, by rw [e2']; exact hc.1.1.2, .inl ⟨none, ?_, fun p hp => by have := e3' p hp; omega, hc.1.2, by rw [hvi]; exact hc.2⟩⟩
              rw [e2', hvi, ← hk.1]; exact hq
            | some row =>
              refine ⟨o, H, (k, S.rows.length + H.length, row) :: more, hoi, by simpa using e3, hn, hc.1.1.1, by rw [e2']; exact hc.1.1.2, .inl ⟨some row, ?_, ⟨more, rfl, fun p hp => by have := e3' p hp; omega⟩, hc.1.2, by rw [hvi]; exact hc.2⟩⟩
              rw [e2', hvi, ← hk.1]; exact hq
          · exact e5 hk.2 k (by omega) hk2
      · cases h
    · split at h
      · rename_i ok1 v rows r hg hl
        split at h
        · rename_i x hx
          split at h
          · rename_i hc
            simp only [Bool.and_eq_true] at hc
            simp only [Option.map_eq_some_iff, Prod.exists, Prod.mk.injEq] at h
            obtain ⟨ok2, VS', HS', LS', tail', h, hok, rfl, rfl, rfl, rfl⟩ := h
            have hn' : ∀ e ∈ H ++ [(i, r, x)], e.1 < i + 1 := by
              intro p hp
              rcases List.mem_append.1 hp with hp | hp
              · have := hn p hp; omega
              · simp only [List.mem_singleton] at hp; subst hp; simp
            obtain ⟨e1, e2, ⟨more, e3, e3'⟩, ⟨moreL, e7⟩, e6, e4, e5⟩ := drawGo_spec rest (i + 1) _ _ _ ok2 _ _ _ _ h (by simp [hi]) hr' hn'
            obtain ⟨e2', hvi⟩ := htk _ _ e2
            refine ⟨by omega, e2', ⟨(i, r, x) :: more, by simpa using e3, fun p hp => ?_⟩, ⟨_, by rw [e7, List.append_assoc]⟩, e6, e4, fun hk k hk1 hk2 => ?_⟩
            · rcases List.mem_cons.1 hp with rfl | hp
              · exact Nat.le_refl _
              · have := e3' p hp; omega
            · rw [← hok, Bool.and_eq_true] at hk
              by_cases he : k = i
              · subst he
                have hmem : (k, S.rows.length + H.length, r, loudNew E (maskSt b ops.toList W S k vs H) o.op) ∈ LS' := by rw [e7]; simp
                refine ⟨o, H, (k, r, x) :: more, hoi, by simpa using e3, hn, hc.1.1, by rw [e2']; exact hc.1.2, .inr ⟨rows, r, x, more, hg, ?_, hx, by rw [hvi]; exact hc.2, rfl, fun p hp => by have := e3' p hp; omega, ?_⟩⟩
                · rw [e2', hvi, ← hk.1]; exact hl
                · rw [e2']; exact hmem
              · exact e5 hk.2 k (by omega) hk2
          · cases h
        · cases h
      · simp only [Option.some.injEq, Prod.mk.injEq] at h
        obtain ⟨rfl, rfl, rfl, rfl, rfl⟩ := h
        exact ⟨by omega, by rw [← hi]; simp, ⟨[], by simp, fun p hp => (by cases hp)⟩, ⟨[], by simp⟩, fun p hp => (by have := hn p hp; omega), fun k => by rw [hi]; exact hr k, fun _ k h1 h2 => by omega⟩

/-! #### In whatever order -/
theorem writer_lt {l : List Oper} {t j : Nat} (h : writerOf l t = some j) : j < l.length ∧ ∃ o, l[j]? = some o ∧ o.dst = some t := by
  unfold writerOf at h
  rw [List.findIdx?_eq_some_iff_getElem] at h
  obtain ⟨h1, h2, _⟩ := h
  exact ⟨h1, l[j], by simp [h1], by simpa using h2⟩

/-- Sight of less: some temporaries unknown, some rows unseen. -/
theorem Sim.weaken {E : Env} {base n : Nat} {w0 : Start} {X : Cx} {S S' : St} {a : Act} {w : World} (H : Sim E base w0 n X S a w) (hl : S'.tmps.length = S.tmps.length)
    (ht : ∀ (t : Nat) (v : AV), S'.tmps[t]? = some v → S.tmps[t]? = some v ∨ v = .unk) (hr : ∀ (r : Nat) (x : Row), S'.rows.get r = some x → S.rows.get r = some x) (hok : refsOkB n S' = true) (hgh : S'.gho = []) :
    Sim E base { w0 with gv := [] } n { X with rows := S'.rows } S' a w := by
  have hst : Stab X { X with rows := S'.rows } (fun _ _ => true) := by
    refine ⟨fun _ h => h, fun _ _ => rfl, fun r g _ cs' h => ⟨⟨cs', ?_⟩, rfl⟩, fun r g _ s xs' h => ⟨xs', ?_, rfl, rfl, fun b o _ c' T' fr' hc => ⟨c', T', fr', hc, rfl⟩⟩⟩
    · rw [H.rows]; exact hr r _ h
    · rw [H.rows]; exact hr r _ h
  have hrow : ∀ r x, S'.rows.get r = some x → X.rows.get r = some x := fun r x h => by rw [H.rows]; exact hr r x h
  simp only [refsOkB, Bool.and_eq_true, List.all_eq_true] at hok
  have hbox : ∀ r cs, S'.rows.get r = some (.box cs) → AV.allL (fun q _ => S'.rows.okid n q) cs = true := by
    intro r cs h
    unfold Rows.get at h
    cases hq : S'.rows[r]? with
    | none => rw [hq] at h; cases h
    | some x =>
      rw [hq] at h
      simp only [Option.join_some] at h
      subst h
      exact hok.2 _ (List.mem_of_getElem? hq)
  refine ⟨rfl, ⟨H.ok.heap, H.ok.keeps, H.ok.sub, H.ok.hb, H.ok.fresh, fun r x h => ?_, fun r x b o h hb => H.ok.own r x b o (hrow r x h) hb,
    fun r r' x x' b o b' o' h h' => H.ok.apart r r' x x' b o b' o' (hrow r x h) (hrow r' x' h'), hbox⟩, by rw [H.size, hl], H.defers, fun t v hv => ?_, fun g s x hg => ?_, by rw [hgh]; exact ⟨rfl, rfl⟩⟩
  · exact RowOk.mono hst rfl (fun _ _ _ => rfl) x (fun cs e => by subst e; exact AV.allL_imp (fun _ _ _ => rfl) cs (hbox r cs h)) (H.ok.row r x (hrow r x h))
  · refine ⟨TMap.all_at (by simp [AV.all]) hok.1 hv, ?_⟩
    rcases ht t v hv with h | h
    · exact Rel.mono hst v _ (AV.all_imp (fun _ _ _ => rfl) v (H.tmp t v h).1) (H.tmp t v h).2
    · subst h; simp [Rel]
  · exact GRel.mono hst (H.glob g s x hg)

/-- What an operation leaves that saw less, it leaves to all. -/
theorem QPost.widen {X : Cx} {rows : Rows} {w w' : World} {id n : Nat} {v : AV} {new : Option Row} {val : Value} (h : QPost { X with rows := rows } w id v new val w') (hid : n ≤ id) (pv : Nat → Bool)
    (hsub : ∀ q, rows.okid n q = true → pv q = true → X.rows.get q = rows.get q) (hno : rows.get id = none)
    (hrefs : okRefs rows n id v new = true) (hnew : okNew rows n new = true) (hpv : v.all (fun q _ => pv q) = true) (hpn : ∀ cs, new = some (.box cs) → AV.allL (fun q _ => pv q) cs = true) : QPost X w id v new val w' := by
  obtain ⟨F', loc, h1, h2, h3, h4, h5⟩ := h
  refine ⟨F', loc, h1, h2, h3, h4, ?_⟩
  cases new with
  | none =>
    simp only at h5 ⊢
    have hst : Stab { X with rows := rows, F := F', heap := w'.heap } { X with F := F', heap := w'.heap } (fun q _ => rows.okid n q && pv q) := by
      refine ⟨fun _ h => h, fun _ _ => rfl, fun r g hp cs' hq => ⟨⟨cs', ?_⟩, rfl⟩, fun r g hp s xs' hq => ⟨xs', ?_, rfl, rfl, fun b o _ c' T' fr' hc => ⟨c', T', fr', hc, rfl⟩⟩⟩
      · simp only [Bool.and_eq_true] at hq hp ⊢; rw [← hsub r hp.1 hp.2]; exact hq
      · simp only [Bool.and_eq_true] at hq hp ⊢; rw [← hsub r hp.1 hp.2]; exact hq
    exact Rel.mono hst v val (AV.all_and (AV.all_imp (fun q g hq => by simpa [okRefs] using hq) v hrefs) hpv) h5
  | some row =>
    obtain ⟨p1, p2, p3⟩ := h5
    have hidn : ∀ q, rows.okid n q = true → q ≠ id := by
      intro q hq e
      subst e
      unfold Rows.okid at hq
      rw [hno] at hq
      simp at hq; omega
    have hst : Stab (Cx.claim { X with rows := rows, F := F', heap := w'.heap } id row loc) (Cx.claim { X with F := F', heap := w'.heap } id row loc) (fun q _ => (rows.okid n q || q == id) && (pv q || q == id)) := by
      refine ⟨fun _ h => h, fun _ _ => rfl, fun r g hp cs' hq => ⟨⟨cs', ?_⟩, rfl⟩, fun r g hp s xs' hq => ⟨xs', ?_, rfl, rfl, fun b o _ c' T' fr' hc => ⟨c', T', fr', hc, rfl⟩⟩⟩
      · simp only [Cx.claim, Rows.get_put] at hq ⊢
        simp only [Bool.and_eq_true, Bool.or_eq_true, beq_iff_eq] at hp
        split at hq
        · rename_i e; rw [if_pos e]; exact hq
        · rename_i e; rw [if_neg e, ← hsub r (hp.1.resolve_right e) (hp.2.resolve_right e)]; exact hq
      · simp only [Cx.claim, Rows.get_put] at hq ⊢
        simp only [Bool.and_eq_true, Bool.or_eq_true, beq_iff_eq] at hp
        split at hq
        · rename_i e; rw [if_pos e]; exact hq
        · rename_i e; rw [if_neg e, ← hsub r (hp.1.resolve_right e) (hp.2.resolve_right e)]; exact hq
    refine ⟨?_, p2, Rel.mono hst v val (AV.all_and (AV.all_imp (fun q g hq => by simpa [okRefs] using hq) v hrefs) (AV.all_imp (fun q g hq => by simp only [Bool.or_eq_true]; exact .inl hq) v hpv)) p3⟩
    exact RowOk.mono hst rfl (fun _ _ _ => rfl) row (fun cs e => by
      subst e
      exact AV.allL_and (AV.allL_imp (fun q g hq => by simp only [Bool.or_eq_true]; exact .inl hq) cs hnew) (AV.allL_imp (fun q g hq => by simp only [Bool.or_eq_true]; exact .inl hq) cs (hpn cs rfl))) p1

theorem Sim.congr {E : Env} {base n : Nat} {w0 : Start} {X : Cx} {S S' : St} {a : Act} {w : World} (H : Sim E base w0 n X S a w) (ht : ∀ t : Nat, S'.tmps[t]? = S.tmps[t]?) (hl : S'.tmps.length = S.tmps.length)
    (hr : ∀ r : Nat, S'.rows.get r = S.rows.get r) (hgh : S'.gho = S.gho) : ∃ X', Sim E base w0 n X' S' a w := by
  have hst : Stab X { X with rows := S'.rows } (fun _ _ => true) := by
    refine ⟨fun _ h => h, fun _ _ => rfl, fun r g _ cs' h => ⟨⟨cs', ?_⟩, rfl⟩, fun r g _ s xs' h => ⟨xs', ?_, rfl, rfl, fun b o _ c' T' fr' hc => ⟨c', T', fr', hc, rfl⟩⟩⟩
    · rw [H.rows, ← hr]; exact h
    · rw [H.rows, ← hr]; exact h
  have hrow : ∀ r x, S'.rows.get r = some x → X.rows.get r = some x := fun r x h => by rw [H.rows, ← hr]; exact h
  have hokid : ∀ q, S.rows.okid n q = true → S'.rows.okid n q = true := fun q h => by unfold Rows.okid at h ⊢; rw [hr]; exact h
  have hokX : ∀ q, X.rows.okid n q = true → S'.rows.okid n q = true := fun q h => hokid q (by rw [← H.rows]; exact h)
  refine ⟨{ X with rows := S'.rows }, rfl, ⟨H.ok.heap, H.ok.keeps, H.ok.sub, H.ok.hb, H.ok.fresh, fun r x h => ?_, fun r x b o h hb => H.ok.own r x b o (hrow r x h) hb,
    fun r r' x x' b o b' o' h h' => H.ok.apart r r' x x' b o b' o' (hrow r x h) (hrow r' x' h'), fun r cs h => AV.allL_imp (fun q _ hq => hokX q hq) cs (H.ok.refs r cs (hrow r _ h))⟩, by rw [H.size, hl], H.defers, fun t v hv => ?_, fun g s x hg => ?_, by
      rw [hgh]; exact ⟨AV.allL_imp (fun q _ hq => hokid q hq) _ H.gho.1, RelL.mono hst _ _ (AV.allL_imp (fun _ _ _ => rfl) _ H.gho.1) H.gho.2⟩⟩
  · exact RowOk.mono hst rfl (fun _ _ _ => rfl) x (fun cs e => by subst e; exact AV.allL_imp (fun _ _ _ => rfl) cs (H.ok.refs r cs (hrow r _ h))) (H.ok.row r x (hrow r x h))
  · rw [ht] at hv
    exact ⟨AV.all_imp (fun q _ hq => hokid q hq) v (H.tmp t v hv).1, Rel.mono hst v _ (AV.all_imp (fun _ _ _ => rfl) v (H.tmp t v hv).1) (H.tmp t v hv).2⟩
  · exact GRel.mono hst (H.glob g s x hg)

theorem beforeGo_at {b : Array Nat} {n : Nat} : ∀ {l : List Oper} {i : Nat}, beforeGo b n i l = true → ∀ (k : Nat) (o : Oper), l[k]? = some o → beforeOkAt b n (i + k) o = true
  | [], i, _, k, o, h => by simp at h
  | x :: l, i, h, k, o, ho => by
    simp only [beforeGo, Bool.and_eq_true] at h
    cases k with
    | zero => simp at ho; subst ho; exact h.1
    | succ k =>
      have := beforeGo_at h.2 k o (by simpa using ho)
      rw [show i + 1 + k = i + (k + 1) by omega] at this
      exact this

theorem behindAll_at {b : Array Nat} : ∀ {l : List Oper} {i : Nat}, behindAll b i l = true → ∀ (k : Nat), k < l.length → ∀ j, j < i + k → bit b (i + k) j = true
  | [], i, _, k, h => by simp at h
  | x :: l, i, h, k, hk => by
    simp only [behindAll, Bool.and_eq_true, List.all_eq_true, List.mem_range] at h
    cases k with
    | zero => intro j hj; exact h.1 j hj
    | succ k =>
      intro j hj
      have := behindAll_at h.2 k (by simpa using hk) j (by omega)
      rw [show i + 1 + k = i + (k + 1) by omega] at this
      exact this

theorem Sim.drew {E : Env} {base n : Nat} {w0 : Start} {X : Cx} {S : St} {a : Act} {w : World} (H : Sim E base w0 n X S a w) : Sim E base w0 n X S a { w with drawn := w.drawn + 1 } :=
  { H with ok := { H.ok with heap := H.ok.heap, keeps := H.ok.keeps.drew, hb := H.ok.hb, fresh := H.ok.fresh } }

theorem get_append_left {l m : Rows} {r : Nat} (h : r < l.length) : Rows.get (l ++ m) r = l.get r := by
  unfold Rows.get; rw [List.getElem?_append_left h]
theorem get_append_right {l m : Rows} {r : Nat} (h : l.length ≤ r) : Rows.get (l ++ m) r = Rows.get m (r - l.length) := by
  unfold Rows.get; rw [List.getElem?_append_right h]

section
variable {E : Env} {base : Nat} {w0 : Start} {ops : Array Oper} {S : St} {VS : List AV} {HS : Hist}

def Closed (b : Array Nat) (D : Nat → Bool) : Prop := ∀ i, D i = true → ∀ j, bit b i j = true → D j = true
theorem bound_of {W : List (Nat × Nat)} {b : Array Nat} (hHO : HOk b S.rows.length ops.toList.length W HS) {H1 H2 : Hist} (hN : HS = H1 ++ H2) : ∀ e ∈ H1, e.2.1 < (S.rows ++ List.replicate ops.toList.length (none : Option Row)).length := by
  intro e he
  have h1 := hHO.bound e (by rw [hN]; exact List.mem_append_left _ he)
  have h2 := hHO.len
  simp only [List.length_append, List.length_replicate]
  omega

theorem get_pad {rows : Rows} {k r : Nat} : Rows.get (rows ++ List.replicate k (none : Option Row)) r = rows.get r := by
  unfold Rows.get
  by_cases h : r < rows.length
  · rw [List.getElem?_append_left h]
  · rw [List.getElem?_append_right (by omega), List.getElem?_eq_none (by omega : rows.length ≤ r)]
    rw [List.getElem?_replicate]
    split <;> rfl

/-- What operation i sees of the rows is there. -/
theorem view_sub {b : Array Nat} {W : List (Nat × Nat)} {D : Nat → Bool} {S' : St} {i : Nat} {H1 H2 : Hist} (hD : InD ops S VS HS D S') (hcl : Closed b D) (hDi : D i = false) (hbits : ∀ j, bit b i j = true → D j = true) (hlt : ∀ j, bit b i j = true → j < i)
    (hN : HS = H1 ++ H2) (hH1 : ∀ e ∈ H1, e.1 < i) (hH2 : ∀ e ∈ H2, i ≤ e.1) (hHO : HOk b S.rows.length ops.toList.length W HS) {vs : List AV} : SubR (maskSt b ops.toList W S i vs H1).rows S'.rows := by
  intro r x h
  simp only [maskSt] at h
  obtain ⟨h1, hW⟩ := get_hideR h
  rw [get_histRows (bound_of hHO hN), get_pad] at h1
  rw [hD.row]
  have sole : ∀ e ∈ HS, e.2.1 = r → (e.1, r) ∉ W → ∃ j, (j, r, x) ∈ H1 ∧ bit b i j = true ∧ j = e.1 := by
    intro e he hr hw
    rcases hHO.cover e he with hc | ⟨hn, hall⟩
    · rw [hr] at hc; exact absurd hc hw
    · split at h1
      · rename_i y hy
        cases h1
        obtain ⟨j, hj, hp⟩ := lastAt_mem hy
        exact ⟨j, hj, hp, hall (j, r, x) (by rw [hN]; exact List.mem_append_left _ hj) hr.symm⟩
      · rw [hr] at hn
        unfold Rows.get at h1
        rw [List.getElem?_eq_none hn] at h1
        cases h1
  have c1 : lastAt D r H2 = none := by
    refine lastAt_none fun e he hr => ?_
    have heS : e ∈ HS := by rw [hN]; exact List.mem_append_right _ he
    have hge := hH2 e he
    cases hd : D e.1 with
    | false => rfl
    | true =>
      exfalso
      by_cases hw : (e.1, r) ∈ W
      · have := hW e.1 hw
        simp only [ord, Bool.or_eq_true, beq_iff_eq] at this
        rcases this with h | h | h
        · have := hlt _ h; omega
        · have := hcl e.1 hd i h; rw [hDi] at this; cases this
        · rw [← h, hDi] at hd; cases hd
      · obtain ⟨j, hj, _, hje⟩ := sole e heS hr hw
        have := hH1 _ hj
        simp only at this
        omega
  have c2 : lastAt D r H1 = lastAt (bit b i) r H1 := by
    refine lastAt_congr fun e he hr => ?_
    have heS : e ∈ HS := by rw [hN]; exact List.mem_append_left _ he
    have hl := hH1 e he
    by_cases hw : (e.1, r) ∈ W
    · have := hW e.1 hw
      simp only [ord, Bool.or_eq_true, beq_iff_eq] at this
      rcases this with h | h | h
      · rw [h, hbits _ h]
      · cases hb : bit b i e.1 with
        | true => exact hbits _ hb
        | false =>
          cases hd : D e.1 with
          | false => rfl
          | true => have := hcl e.1 hd i h; rw [hDi] at this; cases this
      · omega
    · obtain ⟨j, _, hb, hje⟩ := sole e heS hr hw
      rw [← hje, hb, hbits _ hb]
  rw [hN, lastAt_append, c1, c2]
  exact h1

/-- A row that is not hidden from operation i is there as it sees it. -/
theorem view_eq {b : Array Nat} {W : List (Nat × Nat)} {D : Nat → Bool} {S' : St} {i : Nat} {H1 H2 : Hist} (hD : InD ops S VS HS D S') (hcl : Closed b D) (hDi : D i = false) (hbits : ∀ j, bit b i j = true → D j = true) (hlt : ∀ j, bit b i j = true → j < i)
    (hN : HS = H1 ++ H2) (hH1 : ∀ e ∈ H1, e.1 < i) (hH2 : ∀ e ∈ H2, i ≤ e.1) (hHO : HOk b S.rows.length ops.toList.length W HS) {vs : List AV} {q : Nat} (hq : q < S.rows.length) (hv : visB b i W q = true) :
    S'.rows.get q = (maskSt b ops.toList W S i vs H1).rows.get q := by
  cases hm : (maskSt b ops.toList W S i vs H1).rows.get q with
  | some x => exact view_sub hD hcl hDi hbits hlt hN hH1 hH2 hHO q x hm
  | none =>
    have hord : ∀ e ∈ HS, e.2.1 = q → ord b i e.1 = true := by
      intro e he hr
      rcases hHO.cover e he with hc | ⟨hn, _⟩
      · simp only [visB, List.all_eq_true, Bool.or_eq_true, bne_iff_ne, ne_eq] at hv
        rcases hv _ hc with h | h
        · exact absurd hr h
        · exact h
      · omega
    have keep : ∀ (w : List (Nat × Nat)) (rows : Rows), (∀ p ∈ w, p.2 = q → ord b i p.1 = true) → (hideR b i w rows).get q = rows.get q := by
      intro w
      induction w with
      | nil => intro rows _; rfl
      | cons p w ih =>
        intro rows hw
        obtain ⟨j, q'⟩ := p
        simp only [hideR]
        rw [ih _ fun p hp => hw p (List.mem_cons_of_mem _ hp)]
        by_cases e : q' = q
        · rw [if_pos (hw (j, q') (by simp) e)]
        · split
          · rfl
          · rw [get_set_ne (fun h => e h.symm)]
    have hw : ∀ p ∈ W, p.2 = q → ord b i p.1 = true := by
      intro p hp he
      simp only [visB, List.all_eq_true, Bool.or_eq_true, bne_iff_ne, ne_eq] at hv
      rcases hv p hp with h | h
      · exact absurd he h
      · exact h
    simp only [maskSt] at hm
    rw [keep _ _ hw, get_histRows (bound_of hHO hN), get_pad] at hm
    rw [hD.row, hN, lastAt_append]
    have c1 : lastAt D q H2 = none := by
      refine lastAt_none fun e he hr => ?_
      have hge := hH2 e he
      cases hd : D e.1 with
      | false => rfl
      | true =>
        exfalso
        have := hord e (by rw [hN]; exact List.mem_append_right _ he) hr
        simp only [ord, Bool.or_eq_true, beq_iff_eq] at this
        rcases this with h | h | h
        · have := hlt _ h; omega
        · have := hcl e.1 hd i h; rw [hDi] at this; cases this
        · rw [← h, hDi] at hd; cases hd
    have c2 : lastAt D q H1 = lastAt (bit b i) q H1 := by
      refine lastAt_congr fun e he hr => ?_
      have hl := hH1 e he
      have := hord e (by rw [hN]; exact List.mem_append_left _ he) hr
      simp only [ord, Bool.or_eq_true, beq_iff_eq] at this
      rcases this with h | h | h
      · rw [h, hbits _ h]
      · cases hb : bit b i e.1 with
        | true => exact hbits _ hb
        | false =>
          cases hd : D e.1 with
          | false => rfl
          | true => have := hcl e.1 hd i h; rw [hDi] at this; cases this
      · omega
    rw [c1, c2]
    exact hm

/-- The history with one more operation carried out. -/
theorem lastAt_step {D : Nat → Bool} {b : Array Nat} {W : List (Nat × Nat)} {i r : Nat} {x : Row} {H1 H3 : Hist} (hcl : Closed b D) (hDi : D i = false) (hlt : ∀ j, bit b i j = true → j < i)
    (hN : HS = H1 ++ (i, r, x) :: H3) (hH1 : ∀ e ∈ H1, e.1 < i) (hH3 : ∀ e ∈ H3, i < e.1) (hHO : HOk b S.rows.length ops.toList.length W HS) (q : Nat) :
    lastAt (fun j => D j || j == i) q HS = if q = r then some x else lastAt D q HS := by
  have ne : ∀ e ∈ H1, (D e.1 || e.1 == i) = D e.1 := fun e he => by
    have := hH1 e he
    have : (e.1 == i) = false := by rw [beq_eq_false_iff_ne]; omega
    rw [this, Bool.or_false]
  have ne3 : ∀ e ∈ H3, (D e.1 || e.1 == i) = D e.1 := fun e he => by
    have := hH3 e he
    have : (e.1 == i) = false := by rw [beq_eq_false_iff_ne]; omega
    rw [this, Bool.or_false]
  rw [hN, lastAt_append, lastAt_append]
  have h1 := lastAt_congr (h := H1) (r := q) (p := fun j => D j || j == i) (p' := D) fun e he _ => ne e he
  have h3 := lastAt_congr (h := H3) (r := q) (p := fun j => D j || j == i) (p' := D) fun e he _ => ne3 e he
  simp only [lastAt, h1, h3, hDi, beq_self_eq_true, Bool.or_true, Bool.true_and, Bool.false_and]
  by_cases e : q = r
  · subst e
    rw [if_pos rfl]
    have : lastAt D q H3 = none := by
      refine lastAt_none fun e he hr => ?_
      have hl := hH3 e he
      cases hd : D e.1 with
      | false => rfl
      | true =>
        exfalso
        have := hHO.chain (i, q, x) (by rw [hN]; simp) e (by rw [hN]; simp [he]) (by simp only; omega) hr.symm
        simp only [ord, Bool.or_eq_true, beq_iff_eq] at this
        rcases this with h | h | h
        · have := hlt _ h; omega
        · have := hcl e.1 hd i h; rw [hDi] at this; cases this
        · omega
    rw [this]
    simp
  · rw [if_neg e]
    have : (r == q) = false := by rw [beq_eq_false_iff_ne]; exact fun h => e h.symm
    rw [this]

theorem lastAt_stay {D : Nat → Bool} {i : Nat} {H1 H2 : Hist} (hN : HS = H1 ++ H2) (hH1 : ∀ e ∈ H1, e.1 < i) (hH2 : ∀ e ∈ H2, i < e.1) (q : Nat) : lastAt (fun j => D j || j == i) q HS = lastAt D q HS := by
  refine lastAt_congr fun e he _ => ?_
  have : e.1 ≠ i := by
    rw [hN] at he
    rcases List.mem_append.1 he with h | h
    · have := hH1 e h; omega
    · have := hH2 e h; omega
  have : (e.1 == i) = false := by rw [beq_eq_false_iff_ne]; exact this
  rw [this, Bool.or_false]

/-- One operation of those whose order is drawn. -/
theorem drawn_step (hK : EnvOk E) {b : Array Nat} {W : List (Nat × Nat)} {D : Nat → Bool} {S' : St} {X : Cx} {a : Act} {w : World} {i : Nat} {o : Oper} {H1 H2 : Hist} {L : Louds}
    (hD : InD ops S VS HS D S') (H : Sim E base w0 S.rows.length X S' a w) (hcl : Closed b D) (hDi : D i = false) (hbits : ∀ j, bit b i j = true → D j = true) (hlt : ∀ j, bit b i j = true → j < i) (him : i < VS.length)
    (ho : ops.toList[i]? = some o) (hN : HS = H1 ++ H2) (hH1 : ∀ e ∈ H1, e.1 < i) (hHO : HOk b S.rows.length ops.toList.length W HS) (hLO : loudsOk b S VS HS L = true)
    (hdst : dstOk ops.toList i o = true) (hrefs : refsOkB S.rows.length (maskSt b ops.toList W S i (VS.take i) H1) = true)
    (hstep : StepOk E ops b W S.rows.length (S.rows.length + H1.length) i (maskSt b ops.toList W S i (VS.take i) H1) o (VS.getD i .unk) H1 H2 L)
    {K : Act → World → Prop} {Q : Exit → Act → World → Prop} (hk : ∀ a' w' S'' X', InD ops S VS HS (fun j => D j || j == i) S'' → Sim E base w0 S.rows.length X' S'' a' w' → K a' w') :
    if Region.wanted o (yielded ops a.tmps) then o.wp E.P a w K Q else K (a.put o.dst undef) w := by
  have hH2 : ∀ e ∈ H2, i ≤ e.1 := by
    intro e he
    rcases hstep with ⟨new, _, hn, _, _⟩ | ⟨rows, r, x, H3, _, _, _, _, h2, h3, _⟩
    · cases new with
      | none => exact Nat.le_of_lt (hn e he)
      | some row =>
        obtain ⟨H3, h2, h3⟩ := hn
        rw [h2] at he
        rcases List.mem_cons.1 he with rfl | he
        · exact Nat.le_refl _
        · exact Nat.le_of_lt (h3 e he)
    · rw [h2] at he
      rcases List.mem_cons.1 he with rfl | he
      · exact Nat.le_refl _
      · exact Nat.le_of_lt (h3 e he)
  have hrsub : SubR (maskSt b ops.toList W S i (VS.take i) H1).rows S'.rows := view_sub hD hcl hDi hbits hlt hN hH1 hH2 hHO
  have htsub : ∀ (t : Nat) (v : AV), (maskSt b ops.toList W S i (VS.take i) H1).tmps[t]? = some v → S'.tmps[t]? = some v ∨ v = .unk := by
    intro t v hv
    simp only [maskSt, maskT, TMap.getElem?_mapIdx, Option.map_eq_some_iff] at hv
    obtain ⟨v0, hv0, hv⟩ := hv
    rw [hD.tmp, hv0]
    simp only [Option.map_some, Option.some.injEq]
    cases hw : writerOf ops.toList t with
    | none => rw [hw] at hv; exact .inl hv
    | some j =>
      rw [hw] at hv
      simp only at hv ⊢
      by_cases e : j = i
      · rw [if_pos e] at hv
        rw [if_neg (by rw [e, hDi]; simp)]
        exact .inl hv
      · rw [if_neg e] at hv
        by_cases hlt : j < i
        · rw [if_pos hlt] at hv
          by_cases hb : bit b i j = true
          · rw [if_pos hb] at hv
            refine .inl ?_
            rw [if_pos ⟨by omega, hbits j hb⟩, ← hv]
            simp only [List.getD, List.getElem?_take, if_pos hlt]
          · rw [if_neg hb] at hv; exact .inr hv.symm
        · rw [if_neg hlt] at hv
          by_cases hb : bit b j i = true
          · rw [if_pos hb] at hv
            refine .inl ?_
            rw [if_neg ?_]
            · exact hv
            · rintro ⟨_, hdj⟩
              rw [hcl j hdj i hb] at hDi; cases hDi
          · rw [if_neg hb] at hv; exact .inr hv.symm
  have hW := Sim.weaken H (S' := maskSt b ops.toList W S i (VS.take i) H1) (by simp [maskSt, maskT, hD.len]) htsub hrsub hrefs rfl
  have hHO2 := hHO.len
  have hbd1 := bound_of (ops := ops) (S := S) hHO hN
  -- a place where no row is
  have freeS : (∀ e ∈ HS, e.2.1 = S.rows.length + H1.length → D e.1 = false) → S'.rows.get (S.rows.length + H1.length) = none := by
    intro hf
    rw [hD.row, lastAt_none hf]
    simp only
    unfold Rows.get
    rw [List.getElem?_eq_none (by omega)]; rfl
  -- the temporaries of the new state
  have htm : ∀ (S2 : St), S2.tmps = (match o.dst with | some t => S'.tmps.set t (VS.getD i .unk) | none => S'.tmps) → ∀ t, S2.tmps[t]? = (S.tmps[t]?).map fun v => match writerOf ops.toList t with | some j => if j < VS.length ∧ (D j || j == i) = true then VS.getD j .unk else v | none => v := by
    intro S2 h2 t
    have old : (¬ ∃ d, o.dst = some d ∧ d = t) → (S'.tmps[t]? = (S.tmps[t]?).map fun v => match writerOf ops.toList t with | some j => if j < VS.length ∧ (D j || j == i) = true then VS.getD j .unk else v | none => v) := by
      intro hne
      rw [hD.tmp]
      cases S.tmps[t]? with
      | none => rfl
      | some v =>
        simp only [Option.map_some, Option.some.injEq]
        cases hw : writerOf ops.toList t with
        | none => rfl
        | some j =>
          simp only
          have hji : (j == i) = false := by
            rw [beq_eq_false_iff_ne]
            intro e
            subst e
            obtain ⟨_, o', ho', hd'⟩ := writer_lt hw
            rw [ho] at ho'
            cases ho'
            exact hne ⟨t, hd', rfl⟩
          rw [hji, Bool.or_false]
    cases hd : o.dst with
    | none => rw [hd] at h2; rw [h2]; exact old (fun ⟨d, h, _⟩ => by rw [hd] at h; cases h)
    | some d =>
      rw [hd] at h2
      rw [h2]
      by_cases e : d = t
      · subst e
        simp only [dstOk, hd, beq_iff_eq] at hdst
        have hl := hD.tmp d
        by_cases hlt : d < S.tmps.length
        · rw [TMap.getElem?_set_self (by rw [hD.len]; exact hlt)]
          rw [TMap.getElem?_some hlt]
          simp only [Option.map_some, hdst, Option.some.injEq]
          rw [if_pos ⟨him, by simp⟩]
        · have hge := Nat.le_of_not_lt hlt
          rw [TMap.getElem?_none (by simpa [hD.len] using hge), TMap.getElem?_none hge]; rfl
      · rw [TMap.getElem?_set_ne e]
        exact old (fun ⟨d', h, e'⟩ => by rw [hd] at h; cases h; exact e e')
  rcases hstep with ⟨new, hq, hnew, hfree, hvis⟩ | ⟨rows, r, x, H3, hg, hl, hx, hva, hH2e, hH3, hmem⟩
  · have hno : (maskSt b ops.toList W S i (VS.take i) H1).rows.get (S.rows.length + H1.length) = none := by
      cases hc : (maskSt b ops.toList W S i (VS.take i) H1).rows.get (S.rows.length + H1.length) with
      | none => rfl
      | some y =>
        exfalso
        simp only [maskSt] at hc
        obtain ⟨h1, _⟩ := get_hideR hc
        rw [get_histRows hbd1, get_pad, lastAt_none (fun e he hr => absurd hr (hfree e he))] at h1
        simp only at h1
        unfold Rows.get at h1
        rw [List.getElem?_eq_none (by omega)] at h1
        cases h1
    have hchk := (qstep_wp (K := fun _ _ => True) (Q := Q) hK hW (Nat.le_add_right _ _) hno hq rfl (fun _ _ _ => trivial)).2
    refine (qstep_wp hK hW (Nat.le_add_right _ _) hno hq rfl (fun val w' hp => ?_)).1
    have hokid : ∀ q, (maskSt b ops.toList W S i (VS.take i) H1).rows.okid S.rows.length q = true → S'.rows.okid S.rows.length q = true := fun q h => okid_sub hrsub h
    simp only [visOk, Bool.and_eq_true] at hvis
    have hwide := QPost.widen (X := X) (rows := (maskSt b ops.toList W S i (VS.take i) H1).rows) hp (Nat.le_add_right _ _) (visB b i W) (fun q hq hv => by
      rw [H.rows]
      unfold Rows.okid at hq
      simp only [Bool.or_eq_true, decide_eq_true_eq] at hq
      rcases hq with hq | hq
      · exact view_eq hD hcl hDi hbits hlt hN hH1 hH2 hHO hq hv
      · obtain ⟨x, hx⟩ := Option.isSome_iff_exists.1 hq
        rw [hx]
        exact hrsub q x hx) hno hchk.1 hchk.2 hvis.1 (fun cs e => by subst e; exact hvis.2)
    cases new with
    | none =>
      obtain ⟨X', H'⟩ := Sim.after (id := S.rows.length + S'.rows.length) H (Nat.le_add_right _ _) (by unfold Rows.get; rw [List.getElem?_eq_none (by omega)]; rfl) (dst := o.dst) (new := none) hwide
        (AV.all_imp (fun q g h => by
          simp only [Option.isSome_none, Bool.false_and, Bool.or_false] at h ⊢
          exact hokid q h) _ hchk.1) rfl
      refine hk _ _ _ X' ⟨htm _ (St.after_tmps ..), fun r => ?_, by rw [St.after_tmps]; cases o.dst <;> simp [hD.len], (St.after_gho ..).trans hD.gho⟩ H'
      rw [St.after_rows]
      simp only
      rw [hD.row, lastAt_stay hN hH1 hnew]
    | some row =>
      obtain ⟨H3, hm, hm'⟩ := hnew
      subst hm
      have hnoS : S'.rows.get (S.rows.length + H1.length) = none := by
        refine freeS fun e he hr => ?_
        rw [hN] at he
        rcases List.mem_append.1 he with he | he
        · exact absurd hr (hfree e he)
        · rcases List.mem_cons.1 he with rfl | he
          · exact hDi
          · have hl := hm' e he
            cases hd : D e.1 with
            | false => rfl
            | true =>
              exfalso
              have := hHO.chain (i, S.rows.length + H1.length, row) (by rw [hN]; simp) e (by rw [hN]; simp [he]) (by simp only; omega) hr.symm
              simp only [ord, Bool.or_eq_true, beq_iff_eq] at this
              rcases this with h | h | h
              · have := hlt _ h; omega
              · have := hcl e.1 hd i h; rw [hDi] at this; cases this
              · omega
      obtain ⟨X', H'⟩ := Sim.after (id := S.rows.length + H1.length) H (Nat.le_add_right _ _) hnoS (dst := o.dst) (new := some row) hwide
        (AV.all_imp (fun q g h => by
          simp only [Bool.or_eq_true] at h ⊢
          rcases h with h | h
          · exact .inl (hokid q h)
          · exact .inr h) _ hchk.1) (by
          have h2 := hchk.2
          unfold okNew at h2 ⊢
          split
          · rename_i cs e
            cases e
            exact AV.allL_imp (fun q g h => hokid q h) cs h2
          · rfl)
      refine hk _ _ _ X' ⟨htm _ (St.after_tmps ..), fun r => ?_, by rw [St.after_tmps]; cases o.dst <;> simp [hD.len], (St.after_gho ..).trans hD.gho⟩ H'
      rw [St.after_rows]
      simp only
      rw [Rows.get_put, lastAt_step hcl hDi hlt hN hH1 hm' hHO]
      by_cases hid : r = S.rows.length + H1.length
      · rw [if_pos hid, if_pos hid]
      · rw [if_neg hid, if_neg hid, hD.row]
  · -- a loud one
    have hSub : SubS (maskSt b ops.toList W S i (VS.take i) H1) S' := ⟨htsub, hrsub⟩
    obtain ⟨rows', x', hl', hx', hx2, hoth, hnw, _⟩ := loud0_sub hSub hl
    obtain ⟨rows1, x1, hl1, hx1, hx12, hoth1, _, _⟩ := loud0_sub (S' := maskSt b ops.toList W S i (VS.take i) H1) ⟨fun t v h => .inl h, fun q y h => h⟩ hl
    rw [hl] at hl1
    obtain rfl : rows = rows1 := by simpa using hl1
    rw [hx] at hx'
    cases hx'
    simp only [loudsOk, List.all_eq_true] at hLO
    have hLi := hLO _ hmem
    simp only [Bool.and_eq_true, List.all_eq_true, Bool.or_eq_true, bne_iff_ne, ne_eq, beq_iff_eq] at hLi
    obtain ⟨hLf, hLg⟩ := hLi
    have hnoS : S'.rows.get (S.rows.length + H1.length) = none := by
      refine freeS fun e he hr => ?_
      rcases hLf e he with h | h | h
      · exact absurd hr h
      · rw [h]; exact hDi
      · cases hd : D e.1 with
        | false => rfl
        | true => have := hcl e.1 hd i h; rw [hDi] at this; cases this
    have notD : ∀ j, D j = true → ¬ (j = i ∨ bit b j i = true) := by
      intro j hd h
      rcases h with h | h
      · rw [h, hDi] at hd; cases hd
      · have := hcl j hd i h; rw [hDi] at this; cases this
    have hno : ∀ g ∈ loudNew E S' o.op, NoRef S' r g := by
      intro g hg'
      rw [hnw] at hg'
      have hc := hLg g hg'
      simp only [noRefAt, Bool.and_eq_true, List.all_eq_true, List.mem_range, Bool.or_eq_true, beq_iff_eq] at hc
      obtain ⟨hc1, hc2, hc3⟩ := hc
      have n1 := NoRef.of hc1
      refine ⟨fun t v hv => ?_, fun q cs hq => ?_, by rw [hD.gho]; exact n1.gho⟩
      · rw [hD.tmp] at hv
        cases ht : S.tmps[t]? with
        | none => rw [ht] at hv; cases hv
        | some v0 =>
          rw [ht] at hv
          simp only [Option.map_some, Option.some.injEq] at hv
          have h0 := n1.tmp t v0 ht
          split at hv
          · split at hv
            · rename_i j hw hj
              subst hv
              rcases hc2 j hj.1 with h | h | h
              · exact absurd (.inl h) (notD j hj.2)
              · exact absurd (.inr h) (notD j hj.2)
              · exact h
            · subst hv; exact h0
          · subst hv; exact h0
      · rw [hD.row] at hq
        split at hq
        · rename_i y hy
          cases hq
          obtain ⟨j, hj, hd⟩ := lastAt_mem hy
          rcases hc3 _ hj with h | h | h
          · exact absurd (.inl h) (notD j hd)
          · exact absurd (.inr h) (notD j hd)
          · exact h
        · exact n1.box q cs hq
    have hokr : ∀ q, rows.okid S.rows.length q = true → Rows.okid rows' S.rows.length q = true := by
      intro q hq
      unfold Rows.okid at hq ⊢
      simp only [Bool.or_eq_true] at hq ⊢
      rcases hq with hq | hq
      · exact .inl hq
      · right
        by_cases e : q = r
        · subst e; rw [hx2]; rfl
        · rw [hoth q e]
          rw [hoth1 q e] at hq
          obtain ⟨y, hy⟩ := Option.isSome_iff_exists.1 hq
          rw [hrsub q y hy]; rfl
    rw [if_pos (by simp [Region.wanted, hg])]
    obtain ⟨dst, op, ty, pos, after, guard⟩ := o
    refine loud0_wp H (Nat.le_add_right _ _) hnoS hl' hno rfl (AV.all_imp (fun q _ h => hokr q h) _ hva) (fun val w' X' H' => hk _ _ _ X' ⟨htm _ (loudly_tmps ..), fun q => ?_, by rw [loudly_tmps]; cases dst <;> simp [hD.len], (loudly_gho ..).trans hD.gho⟩ H')
    rw [loudly_rows, lastAt_step hcl hDi hlt (hN.trans (by rw [hH2e])) hH1 hH3 hHO]
    by_cases e : q = r
    · subst e; rw [if_pos rfl, hx2]
    · rw [if_neg e, hoth q e, hD.row]
end

def unlisted (n : Nat) (L : Array Bool) : List Nat := (List.range n).filter fun i => !L.getD i true

theorem filter_lt {p q : Nat → Bool} : ∀ {l : List Nat}, (∀ x ∈ l, q x = true → p x = true) → (∃ x ∈ l, p x = true ∧ q x = false) → (l.filter q).length < (l.filter p).length
  | [], _, ⟨x, h, _⟩ => by cases h
  | y :: l, h1, ⟨x, hx, hp, hq⟩ => by
    have hle : ∀ {l : List Nat}, (∀ x ∈ l, q x = true → p x = true) → (l.filter q).length ≤ (l.filter p).length := by
      intro l
      induction l with
      | nil => intro _; simp
      | cons z l ih =>
        intro h
        have := ih fun x hx => h x (List.mem_cons_of_mem _ hx)
        simp only [List.filter_cons]
        by_cases hq' : q z = true
        · rw [if_pos hq', if_pos (h z (by simp) hq')]; simp; omega
        · rw [if_neg hq']; split <;> simp <;> omega
    simp only [List.filter_cons]
    rcases List.mem_cons.1 hx with rfl | hx
    · rw [hq, hp]
      have := hle (l := l) fun z hz => h1 z (List.mem_cons_of_mem _ hz)
      simp; omega
    · have := filter_lt (l := l) (fun z hz => h1 z (List.mem_cons_of_mem _ hz)) ⟨x, hx, hp, hq⟩
      by_cases hq' : q y = true
      · rw [if_pos hq', if_pos (h1 y (by simp) hq')]; simp; omega
      · rw [if_neg hq']; split <;> simp <;> omega

section
variable {E : Env} {base : Nat} {w0 : Start} {ops : Array Oper} {S : St}

theorem exDraw_wp (hK : EnvOk E) (hm : E.P.follows .mixedOrders = true) {S' : St} {a : Act} {w : World} {id : Nat} {ok : Bool} (H : SimE E base w0 S a w)
    (h : exDraw E ops S = some (ok, S')) (hok : ok = true) {Q : Exit → Act → World → Prop} (hk : ∀ a' w', SimE E base w0 S' a' w' → Q .normal a' w') : (Code.region id ops true).wp E.P Q a w := by
  simp only [exDraw, Option.bind_eq_some_iff, Prod.exists] at h
  obtain ⟨ok1, VS, HS, LS, tail, hgo, h⟩ := h
  generalize turns E ops S = W at hgo h
  split at h
  · rename_i hc
    simp only [Bool.and_eq_true] at hc
    obtain ⟨hbeh, hbef, hhist, hLO⟩ := hc
    have hHO := histOk_ok hhist
    simp only [Option.map_eq_some_iff, Prod.exists, Prod.mk.injEq] at h
    obtain ⟨ok2, Sf, htail, hoks, rfl⟩ := h
    rw [← hoks, Bool.and_eq_true] at hok
    obtain ⟨rfl, rfl⟩ := hok
    obtain ⟨_, _, _, _, hnlt, htl, hspec⟩ := drawGo_spec ops.toList 0 [] [] [] true VS HS LS tail hgo rfl (fun k => by simp) (fun p hp => by cases hp)
    have hspec := hspec rfl
    have hsz : ops.toList.length = ops.size := Array.length_toList
    have hVS : VS.length ≤ ops.size := by
      rcases Nat.eq_zero_or_pos VS.length with h0 | h0
      · omega
      · obtain ⟨o, _, _, ho, _⟩ := hspec (VS.length - 1) (Nat.zero_le _) (by omega)
        have := (List.getElem?_eq_some_iff.1 ho).1
        omega
    have hbef' : ∀ i o, ops[i]? = some o → beforeOkAt (Region.before ops) ops.size i o = true := fun i o ho => by
      have := beforeGo_at hbef i o (by rw [Array.getElem?_toList]; exact ho)
      simpa [hsz] using this
    have hbn : ∀ i o, ops[i]? = some o → ∀ j, bit (Region.before ops) i j = true → j < ops.size := fun i o ho j hb => by
      have h2 := hbef' i o ho
      simp only [beforeOkAt, Bool.and_eq_true, decide_eq_true_eq] at h2
      rcases Nat.lt_or_ge j ops.size with h | h
      · exact h
      · have : ((Region.before ops).getD i 0).testBit j = false := Nat.testBit_lt_two_pow (Nat.lt_of_lt_of_le h2.1.2 (Nat.pow_le_pow_right (by omega) h))
        unfold bit at hb
        rw [this] at hb; cases hb
    have hedge : ∀ i o, ops[i]? = some o → ∀ e ∈ o.after, Region.binds .any e = true → e.on < i := fun i o ho e he hb => by
      have h2 := hbef' i o ho
      simp only [beforeOkAt, Bool.and_eq_true, List.all_eq_true, Bool.or_eq_true, Bool.not_eq_true', decide_eq_true_eq] at h2
      rcases h2.1.1 e (by simpa using he) with h3 | h3
      · rw [h3] at hb; cases hb
      · exact h3
    have hbits : ∀ (L : Array Bool) (i : Nat) (o : Oper), ops[i]? = some o → (∀ e ∈ o.after, Region.binds .any e = true → L.getD e.on false = true) → Closed (Region.before ops) (fun j => L.getD j false) →
        ∀ j, bit (Region.before ops) i j = true → L.getD j false = true := by
      intro L i o ho hr hcl j hb
      have h2 := hbef' i o ho
      simp only [beforeOkAt, Bool.and_eq_true, List.all_eq_true, List.mem_range, Bool.or_eq_true, Bool.not_eq_true'] at h2
      rcases h2.2 j (hbn i o ho j hb) with h3 | h3
      · rw [h3] at hb; cases hb
      · simp only [List.any_eq_true, Bool.and_eq_true, Bool.or_eq_true, beq_iff_eq] at h3
        obtain ⟨e, he, hbd, hon⟩ := h3
        have hl := hr e (by simpa using he) hbd
        rcases hon with hon | hon
        · rw [← hon]; exact hl
        · exact hcl e.on hl j hon
    have hblt : ∀ i o, ops[i]? = some o → ∀ j, bit (Region.before ops) i j = true → j < i := by
      intro i
      induction i using Nat.strongRecOn with
      | _ i ih =>
        intro o ho j hb
        have h2 := hbef' i o ho
        simp only [beforeOkAt, Bool.and_eq_true, List.all_eq_true, List.mem_range, Bool.or_eq_true, Bool.not_eq_true'] at h2
        rcases h2.2 j (hbn i o ho j hb) with h3 | h3
        · rw [h3] at hb; cases hb
        · simp only [List.any_eq_true, Bool.and_eq_true, Bool.or_eq_true, beq_iff_eq] at h3
          obtain ⟨e, he, hbd, hon⟩ := h3
          have hlt := hedge i o ho e (by simpa using he) hbd
          rcases hon with hon | hon
          · omega
          · have hin : i < ops.size := (Array.getElem?_eq_some_iff.1 ho).1
            have := ih e.on hlt ops[e.on] (by simp [show e.on < ops.size by omega]) j hon
            omega
    have htail' : tail = ops.toList.drop VS.length := List.ext_getElem? fun k => by rw [htl, List.getElem?_drop]
    -- what holds between two operations
    let Ph : Array Bool → Act → World → Prop := fun L a w => L.size = ops.size ∧ Closed (Region.before ops) (fun j => L.getD j false) ∧
      (((∀ i, VS.length ≤ i → L.getD i false = false) ∧ (∃ S1 X, InD ops S VS HS (fun j => L.getD j false) S1 ∧ Sim E base w0 S.rows.length X S1 a w)) ∨
       (∃ k S1, VS.length < k ∧ (∀ i, L.getD i false = true ↔ i < k) ∧ k ≤ ops.size ∧ SimE E base w0 S1 a w ∧ exOps E ops (ops.toList.drop k) S1 = some (true, Sf)))
    have full : ∀ (L : Array Bool) (S1 : St) (X : Cx) (a : Act) (w : World), (∀ j, j < VS.length → L.getD j false = true) → InD ops S VS HS (fun j => L.getD j false) S1 → Sim E base w0 S.rows.length X S1 a w →
        SimE E base w0 (Go.Proofs.YtnjofponcdcfcaaDoor.Ab.drawn ops S VS HS) a w := by
      intro L S1 X a w hall hD hS
      have hn := hnlt
      obtain ⟨X', H'⟩ := Sim.congr (S' := Go.Proofs.YtnjofponcdcfcaaDoor.Ab.drawn ops S VS HS) hS (fun t => by
          simp only [Go.Proofs.YtnjofponcdcfcaaDoor.Ab.drawn, TMap.getElem?_mapIdx]
          rw [hD.tmp]
          cases S.tmps[t]? with
          | none => rfl
          | some v =>
            simp only [Option.map_some, Option.some.injEq]
            cases writerOf ops.toList t with
            | none => rfl
            | some j =>
              simp only
              by_cases hj : j < VS.length
              · rw [if_pos hj, if_pos ⟨hj, hall j hj⟩]
              · rw [if_neg hj, if_neg (fun h => hj h.1)]) (by simp [Go.Proofs.YtnjofponcdcfcaaDoor.Ab.drawn, hD.len]) (fun r => by
          rw [hD.row]
          simp only [Go.Proofs.YtnjofponcdcfcaaDoor.Ab.drawn]
          rw [get_histRows (fun e he => by
            have := hHO.bound e he
            simpa using this), get_pad]
          have : lastAt (fun _ => true) r HS = lastAt (fun j => L.getD j false) r HS := lastAt_congr fun e he _ => (hall e.1 (hn e he)).symm
          rw [this]) hD.gho.symm
      exact ⟨X', H'.le (by simp [Go.Proofs.YtnjofponcdcfcaaDoor.Ab.drawn, histRows_length])⟩
    have set_getD : ∀ (L : Array Bool) (i : Nat), i < L.size → ∀ j, (L.setIfInBounds i true).getD j false = (L.getD j false || j == i) := by
      intro L i hi j
      by_cases e : j = i
      · subst e
        simp [Array.getD_eq_getD_getElem?, Array.getElem?_setIfInBounds, hi]
      · have : (j == i) = false := by simpa using e
        rw [this, Bool.or_false]
        simp [Array.getD_eq_getD_getElem?, Array.getElem?_setIfInBounds_ne (show i ≠ j from fun h => e h.symm)]
    have closed' : ∀ (L : Array Bool) (i : Nat) (o : Oper), i < L.size → ops[i]? = some o → (∀ e ∈ o.after, Region.binds .any e = true → L.getD e.on false = true) → Closed (Region.before ops) (fun j => L.getD j false) →
        Closed (Region.before ops) (fun j => (L.setIfInBounds i true).getD j false) := by
      intro L i o hi ho hr hcl q hq j hb
      simp only [set_getD L i hi, Bool.or_eq_true, beq_iff_eq] at hq ⊢
      rcases hq with hq | hq
      · exact .inl (hcl q hq j hb)
      · subst hq
        exact .inl (hbits L q o ho hr hcl j hb)
    -- a step of what stands behind all
    have tailstep : ∀ (k : Nat) (S1 : St) (L : Array Bool) (o : Oper) (a : Act) (w : World) (K : Act → World → Prop), VS.length ≤ k → L.size = ops.size → (∀ i, L.getD i false = true ↔ i < k) → ops[k]? = some o → SimE E base w0 S1 a w →
        exOps E ops (ops.toList.drop k) S1 = some (true, Sf) → Closed (Region.before ops) (fun j => (L.setIfInBounds k true).getD j false) → (∀ a' w', Ph (L.setIfInBounds k true) a' w' → K a' w') →
        if Region.wanted o (yielded ops a.tmps) then o.wp E.P a w K Q else K (a.put o.dst undef) w := by
      intro k S1 L o a w K hk1 hLs hL ho hS hex hcl hK'
      have hkn : k < ops.size := (Array.getElem?_eq_some_iff.1 ho).1
      rw [List.drop_eq_getElem_cons (by simpa using hkn)] at hex
      have hoe : ops.toList[k]'(by simpa using hkn) = o := by
        have := (Array.getElem?_eq_some_iff.1 ho).2
        simpa using this
      rw [hoe] at hex
      simp only [exOps, Option.bind_eq_some_iff, Option.map_eq_some_iff, Prod.exists, Prod.mk.injEq] at hex
      obtain ⟨ok1, S2, h1, ok2, S3, h2, h3, rfl⟩ := hex
      rw [Bool.and_eq_true] at h3
      obtain ⟨rfl, rfl⟩ := h3
      refine exOp_wp hK hS h1 rfl (fun a' w' hS2 => hK' a' w' ⟨by simp [hLs], hcl, .inr ⟨k + 1, S2, by omega, fun i => ?_, by omega, hS2, h2⟩⟩)
      rw [set_getD L k (by omega)]
      simp only [Bool.or_eq_true, beq_iff_eq, hL]
      omega
    have main : ∀ (fuel : Nat) (L : Array Bool) (a : Act) (w : World), (unlisted ops.size L).length ≤ fuel → Ph L a w → wpAny E.P .any ops Q fuel L a w := by
      have allOf : ∀ (L : Array Bool), L.size = ops.size → Region.ready .any ops L = [] → ∀ i, i < ops.size → L.getD i false = true := by
        intro L hLs hr i
        induction i using Nat.strongRecOn with
        | _ i ih =>
          intro hi
          cases hv : L.getD i false with
          | true => rfl
          | false =>
            exfalso
            have hmem : i ∈ Region.ready .any ops L := by
              rw [mem_ready]
              refine ⟨?_, ops[i], by simp [hi], fun e he hb => ?_⟩
              · have hiL : i < L.size := by omega
                simp only [Array.getD_eq_getD_getElem?, Array.getElem?_eq_getElem hiL, Option.getD_some] at hv ⊢
                exact hv
              · have := hedge i ops[i] (by simp [hi]) e he hb
                exact ih e.on this (by omega)
            rw [hr] at hmem; cases hmem
      have fin : ∀ (L : Array Bool) (a : Act) (w : World), Ph L a w → Region.ready .any ops L = [] → Q .normal a w := by
        intro L a w hP hr
        obtain ⟨hLs, hcl, hP⟩ := hP
        have hall := allOf L hLs hr
        rcases hP with ⟨h1, S1, X, hD, hS⟩ | ⟨k, S1, h1, h2, h3, hS, hex⟩
        · have hVn : VS.length = ops.size := by
            rcases Nat.lt_or_ge VS.length ops.size with h | h
            · have e1 := h1 VS.length (Nat.le_refl _)
              rw [hall _ h] at e1; cases e1
            · omega
          have ht : tail = [] := by rw [htail', hVn, ← hsz]; simp
          rw [ht] at htail
          simp only [exOps, Option.some.injEq, Prod.mk.injEq] at htail
          rw [← htail.2] at hk
          exact hk a w (full L S1 X a w (fun j hj => hall j (by omega)) hD hS)
        · have hkn : k = ops.size := by
            rcases Nat.lt_or_ge k ops.size with h | h
            · have := (h2 k).1 (hall k h); omega
            · omega
          rw [hkn, ← hsz] at hex
          simp only [List.drop_length, exOps, Option.some.injEq, Prod.mk.injEq] at hex
          rw [← hex.2] at hk
          exact hk a w hS
      intro fuel
      induction fuel with
      | zero =>
        intro L a w hu hP
        have hready : Region.ready .any ops L = [] := by
          rw [List.eq_nil_iff_forall_not_mem]
          intro i hi
          rw [mem_ready] at hi
          obtain ⟨h1, o, ho, _⟩ := hi
          have hmem : i ∈ unlisted ops.size L := by
            unfold unlisted
            rw [List.mem_filter, List.mem_range]
            exact ⟨(Array.getElem?_eq_some_iff.1 ho).1, by rw [h1]; rfl⟩
          have := List.length_pos_of_mem hmem
          omega
        exact ⟨hready, fin L a w hP hready⟩
      | succ fuel ih =>
        intro L a w hu hP
        refine ⟨fin L a w hP, fun i hi => ?_⟩
        rw [mem_ready] at hi
        obtain ⟨h1, o, ho, hr⟩ := hi
        have hin : i < ops.size := (Array.getElem?_eq_some_iff.1 ho).1
        have hP' := hP
        obtain ⟨hLs, hcl, hP⟩ := hP
        have hiL : i < L.size := by omega
        have hLi : L.getD i false = false := by
          simp only [Array.getD_eq_getD_getElem?, Array.getElem?_eq_getElem hiL, Option.getD_some] at h1 ⊢
          exact h1
        have hless : (unlisted ops.size (L.setIfInBounds i true)).length ≤ fuel := by
          have : (unlisted ops.size (L.setIfInBounds i true)).length < (unlisted ops.size L).length := by
            refine filter_lt (fun x _ hx => ?_) ⟨i, List.mem_range.2 hin, by rw [h1]; rfl, ?_⟩
            · by_cases e : i = x
              · subst e
                simp [Array.getD_eq_getD_getElem?, Array.getElem?_setIfInBounds, hiL] at hx
              · rw [getD_set_ne true e] at hx; exact hx
            · simp [Array.getD_eq_getD_getElem?, Array.getElem?_setIfInBounds, hiL]
          omega
        have hcl' := closed' L i o hiL ho hr hcl
        have hb := hbits L i o ho hr hcl
        have step : (if Region.wanted o (yielded ops a.tmps) then o.wp E.P a w (wpAny E.P .any ops Q fuel (L.setIfInBounds i true)) Q else wpAny E.P .any ops Q fuel (L.setIfInBounds i true) (a.put o.dst undef) w) := by
          rcases hP with ⟨hA, S1, X, hD, hS⟩ | ⟨k, S1, hk1, hk2, hk3, hS, hex⟩
          · by_cases hlt : i < VS.length
            · obtain ⟨o', H1, H2, ho', hN, hH1, hdst, hrefs, hstep⟩ := hspec i (Nat.zero_le _) hlt
              have : o' = o := by
                rw [Array.getElem?_toList, ho] at ho'
                exact (Option.some.inj ho').symm
              subst this
              refine drawn_step hK hD hS hcl hLi hb (hblt i o' ho) hlt (by rw [Array.getElem?_toList]; exact ho) hN hH1 hHO hLO hdst hrefs hstep (fun a' w' S2 X2 hD2 hS2 => ih _ a' w' hless ⟨by simp [hLs], hcl', .inl ⟨fun q hq => ?_, S2, X2, ?_, hS2⟩⟩)
              · rw [set_getD L i hiL, hA q hq]
                have : (q == i) = false := by rw [beq_eq_false_iff_ne]; omega
                rw [this]; rfl
              · have e : (fun j => (L.setIfInBounds i true).getD j false) = fun j => L.getD j false || j == i := funext (set_getD L i hiL)
                rw [e]; exact hD2
            · have hall : ∀ j, j < i → L.getD j false = true := by
                intro j hj
                refine hb j ?_
                have htl2 : i - VS.length < tail.length := by
                  rw [htail', List.length_drop, hsz]; omega
                have := behindAll_at hbeh (i - VS.length) htl2 j (by omega)
                rw [show VS.length + (i - VS.length) = i by omega] at this
                exact this
              have hi : i = VS.length := by
                rcases Nat.lt_or_ge VS.length i with h | h
                · have e1 := hall VS.length h
                  rw [hA _ (Nat.le_refl _)] at e1; cases e1
                · omega
              rw [htail'] at htail
              refine tailstep i (Go.Proofs.YtnjofponcdcfcaaDoor.Ab.drawn ops S VS HS) L o a w _ (by omega) hLs (fun q => ⟨fun hq => ?_, fun hq => hall q hq⟩) ho (full L S1 X a w (fun j hj => hall j (by omega)) hD hS) (by rw [hi]; exact htail) hcl' (fun a' w' hp => ih _ a' w' hless hp)
              rcases Nat.lt_or_ge q VS.length with h | h
              · omega
              · rw [hA q h] at hq; cases hq
          · have hik : i = k := by
              have h3 : ¬ i < k := fun h => by rw [(hk2 i).2 h] at hLi; cases hLi
              rcases Nat.lt_or_ge k i with h | h
              · have htl2 : i - VS.length < tail.length := by
                  rw [htail', List.length_drop, hsz]; omega
                have := behindAll_at hbeh (i - VS.length) htl2 k (by omega)
                rw [show VS.length + (i - VS.length) = i by omega] at this
                have := (hk2 k).1 (hb k this)
                omega
              · omega
            subst hik
            exact tailstep i S1 L o a w _ (by omega) hLs hk2 ho hS hex hcl' (fun a' w' hp => ih _ a' w' hless hp)
        unfold wpOp
        rw [ho]
        simp only
        split
        · rename_i hw; rw [if_pos hw] at step; exact .inl step
        · rename_i hw; rw [if_neg hw] at step; exact step
    refine wp_region_any hm (main _ _ _ _ (by
      have := List.length_filter_le (fun i => !(Array.replicate ops.size false).getD i true) (List.range ops.size)
      simpa [unlisted] using this) ?_)
    have hrep : ∀ i, (Array.replicate ops.size false).getD i false = false := fun i => by
      by_cases h : i < ops.size <;> simp [Array.getD_eq_getD_getElem?, h]
    refine ⟨by simp, fun i hi => ?_, .inl ⟨fun i _ => hrep i, S, ?_⟩⟩
    · simp only [hrep] at hi; cases hi
    · obtain ⟨X, HX⟩ := H
      refine ⟨X, ⟨fun t => ?_, fun r => ?_, rfl, rfl⟩, HX.drew⟩
      · cases S.tmps[t]? with
        | none => rfl
        | some v =>
          simp only [Option.map_some, Option.some.injEq, hrep]
          cases writerOf ops.toList t <;> simp
      · rw [lastAt_none fun e _ _ => hrep _]
  · cases h
end

theorem drawn_agree {ops : Array Oper} {S : St} {VS : List AV} {HS : Hist} (hb : ∀ e ∈ HS, e.2.1 < S.rows.length + HS.length) : Agree S (drawn ops S VS HS) where
  len := by simp [drawn]
  tmp t ht := by
    simp only [drawn, TMap.getElem?_mapIdx]
    cases hv : S.tmps[t]? with
    | none => rfl
    | some v =>
      simp only [Option.map_some, Option.some.injEq]
      cases hw : writerOf ops.toList t with
      | none => rfl
      | some j =>
        simp only
        split
        · rename_i hj
          exfalso
          apply ht
          obtain ⟨h1, o, ho, hd⟩ := writer_lt hw
          have hmem : o ∈ ops.toList.take VS.length := List.mem_of_getElem? (i := j) (by rw [List.getElem?_take, if_pos hj]; exact ho)
          simp only [drawn]
          have key : ∀ (l : List Oper) (d : NSet), (t ∈ d ∨ o ∈ l) → t ∈ l.foldl (fun l o => match o.dst with | some t => forceN l fun l => addN t l | none => l) d := by
            intro l
            induction l with
            | nil => intro d h; simpa using h
            | cons x l ih =>
              intro d h
              refine ih _ ?_
              simp only
              rcases h with h | h
              · left
                split
                · rw [forceN_eq]; exact mem_addN.2 (.inr h)
                · exact h
              · rcases List.mem_cons.1 h with rfl | h
                · left
                  rw [hd]
                  simp only [forceN_eq]
                  exact mem_addN.2 (.inl rfl)
                · exact .inr h
          exact key _ _ (.inr hmem)
        · rfl
  rlen := by simp [drawn, histRows_length]
  row r hr ht := by
    simp only [drawn]
    rw [get_histRows (fun e he => by simpa using hb e he), get_pad]
    have : lastAt (fun _ => true) r HS = none := by
      refine lastAt_none fun e he hre => ?_
      exfalso
      apply ht
      simp only [drawn]
      have key : ∀ (l : Hist) (d : NSet), (r ∈ d ∨ e ∈ l) → r ∈ l.foldl (fun l e => forceN e.2.1 fun x => forceN l fun l => addN x l) d := by
        intro l
        induction l with
        | nil => intro d h; simpa using h
        | cons p l ih =>
          intro d h
          refine ih _ ?_
          simp only [forceN_eq]
          rcases h with h | h
          · exact .inl (mem_addN.2 (.inr h))
          · rcases List.mem_cons.1 h with rfl | h
            · exact .inl (mem_addN.2 (.inl hre.symm))
            · exact .inr h
      exact key _ _ (.inr he)
    rw [this]
  dt t ht := by
    simp only [drawn]
    have key : ∀ (l : List Oper) (d : NSet), t ∈ d → t ∈ l.foldl (fun l o => match o.dst with | some t => forceN l fun l => addN t l | none => l) d := by
      intro l
      induction l with
      | nil => intro d h; exact h
      | cons x l ih =>
        intro d h
        refine ih _ ?_
        simp only
        split
        · rw [forceN_eq]; exact mem_addN.2 (.inr h)
        · exact h
    exact key _ _ ht
  dr r hr := by
    simp only [drawn]
    have key : ∀ (l : Hist) (d : NSet), r ∈ d → r ∈ l.foldl (fun l e => forceN e.2.1 fun x => forceN l fun l => addN x l) d := by
      intro l
      induction l with
      | nil => intro d h; exact h
      | cons p l ih => intro d h; exact ih _ (by simp only [forceN_eq]; exact mem_addN.2 (.inr h))
    exact key _ _ hr
  gho := rfl

theorem exDraw_agree {E : Env} (hK : EnvOk E) {ops : Array Oper} {S S' : St} {ok : Bool} (h : exDraw E ops S = some (ok, S')) : Agree S S' := by
  simp only [exDraw, Option.bind_eq_some_iff, Prod.exists] at h
  obtain ⟨ok1, VS, HS, LS, tail, _, h⟩ := h
  split at h
  · rename_i hc
    simp only [Bool.and_eq_true] at hc
    have hHO := histOk_ok hc.2.2.1
    simp only [Option.map_eq_some_iff, Prod.exists, Prod.mk.injEq] at h
    obtain ⟨ok2, Sf, htail, _, rfl⟩ := h
    exact (drawn_agree hHO.bound).trans (exOps_agree hK htail)
  · cases h
end Go.Proofs.YtnjofponcdcfcaaDoor.Ab
set_option linter.unusedVariables false
set_option linter.all false
namespace Go.Proofs.YtnjofponcdcfcaaDoor.Ab
open Go.RowKit

def swapN (p q r : Nat) : Nat := bif Nat.beq r p then q else bif Nat.beq r q then p else r

theorem swapN_eq (p q r : Nat) : swapN p q r = if r = p then q else if r = q then p else r := by
  unfold swapN
  by_cases h1 : r = p
  · subst h1; simp
  · rw [if_neg h1, show Nat.beq r p = false from by rw [Bool.eq_false_iff]; intro h; exact h1 (Nat.eq_of_beq_eq_true h)]
    by_cases h2 : r = q
    · subst h2; simp
    · rw [if_neg h2, show Nat.beq r q = false from by rw [Bool.eq_false_iff]; intro h; exact h2 (Nat.eq_of_beq_eq_true h)]
      rfl
theorem swapN_inv (p q r : Nat) : swapN p q (swapN p q r) = r := by
  simp only [swapN_eq]
  split
  · rename_i h1
    split
    · rename_i h2; rw [h1, h2]
    · simp [h1]
  · rename_i h1
    split
    · rename_i h2; simp [h2]
    · rename_i h2; simp [h1, h2]
theorem swapN_other {p q r : Nat} (h1 : r ≠ p) (h2 : r ≠ q) : swapN p q r = r := by rw [swapN_eq, if_neg h1, if_neg h2]
theorem swapN_lt {p q r n : Nat} (hp : p < n) (hq : q < n) (hr : r < n) : swapN p q r < n := by rw [swapN_eq]; split <;> (try split) <;> omega

mutual
def AV.sw (p q : Nat) : AV → AV
  | .ptr r o => .ptr (swapN p q r) o
  | .bsl r o l c => .bsl (swapN p q r) o l c
  | .eptr r g i o => .eptr (swapN p q r) g i o
  | .osl r g st len => .osl (swapN p q r) g st len
  | .own r g => .own (swapN p q r) g
  | .agg cs => .agg (AV.swL p q cs)
  | .tup cs => .tup (AV.swL p q cs)
  | .iface t v => .iface t (v.sw p q)
  | .clo f cs => .clo f (AV.swL p q cs)
  | .opt c v => .opt c (v.sw p q)
  | .gopt c v => .gopt c (v.sw p q)
  | .unk => .unk
  | .bool b => .bool b
  | .int k n => .int k n
  | .str s => .str s
  | .nilp => .nilp
  | .nilf => .nilf
  | .nili => .nili
  | .nils => .nils
  | .dsl e xs => .dsl e xs
  | .dptr s x off => .dptr s x off
def AV.swL (p q : Nat) : List AV → List AV
  | [] => []
  | a :: as => a.sw p q :: AV.swL p q as
end
def Row.sw (p q : Nat) : Row → Row
  | .box cs => .box (AV.swL p q cs)
  | .arr g s xs => .arr g s xs
def Rows.sw (p q : Nat) (rows : Rows) : Rows := ((rows.map (Option.map (Row.sw p q))).set p ((rows.get q).map (Row.sw p q))).set q ((rows.get p).map (Row.sw p q))

theorem Rows.sw_length (p q : Nat) (rows : Rows) : (rows.sw p q).length = rows.length := by simp [Rows.sw]
theorem Rows.get_sw {p q r : Nat} {rows : Rows} (hp : p < rows.length) (hq : q < rows.length) : (rows.sw p q).get r = (rows.get (swapN p q r)).map (Row.sw p q) := by
  have hmap : ∀ r, Rows.get (rows.map (Option.map (Row.sw p q))) r = (rows.get r).map (Row.sw p q) := by
    intro r
    unfold Rows.get
    rw [List.getElem?_map]
    cases rows[r]? with
    | none => rfl
    | some x => cases x <;> rfl
  unfold Rows.sw
  rw [swapN_eq]
  by_cases h2 : r = q
  · subst h2
    have e1 : Rows.get (((rows.map (Option.map (Row.sw p r))).set p ((rows.get r).map (Row.sw p r))).set r ((rows.get p).map (Row.sw p r))) r = (rows.get p).map (Row.sw p r) := by
      unfold Rows.get
      rw [List.getElem?_set_self (by simpa using hq)]; rfl
    rw [e1]
    by_cases h1 : r = p
    · subst h1; simp
    · rw [if_neg h1, if_pos rfl]
  · rw [get_set_ne h2]
    by_cases h1 : r = p
    · subst h1
      rw [if_pos rfl]
      unfold Rows.get
      rw [List.getElem?_set_self (by simpa using hp)]; rfl
    · rw [get_set_ne h1, if_neg h1, if_neg h2]
      exact hmap r

mutual
theorem AV.sw_id {p q : Nat} : ∀ v : AV, v.all (fun r _ => !(r == p) && !(r == q)) = true → v.sw p q = v
  | .ptr r o, h | .bsl r o _ _, h | .eptr r _ _ _, h | .osl r _ _ _, h | .own r _, h => by
    simp only [AV.all, Bool.and_eq_true, Bool.not_eq_true', beq_eq_false_iff_ne] at h
    simp only [AV.sw, swapN_other h.1 h.2]
  | .agg cs, h | .tup cs, h | .clo _ cs, h => by
    simp only [AV.all] at h
    simp only [AV.sw, AV.swL_id cs h]
  | .iface _ v, h | .opt _ v, h | .gopt _ v, h => by
    simp only [AV.all] at h
    simp only [AV.sw, AV.sw_id v h]
  | .unk, _ | .bool _, _ | .int _ _, _ | .str _, _ | .nilp, _ | .nilf, _ | .nili, _ | .nils, _ | .dsl _ _, _ | .dptr _ _ _, _ => rfl
theorem AV.swL_id {p q : Nat} : ∀ vs : List AV, AV.allL (fun r _ => !(r == p) && !(r == q)) vs = true → AV.swL p q vs = vs
  | [], _ => rfl
  | a :: as, h => by
    simp only [AV.allL, Bool.and_eq_true] at h
    simp only [AV.swL, AV.sw_id a h.1, AV.swL_id as h.2]
end

mutual
theorem AV.sw_all {p q n : Nat} (hp : p < n) (hq : q < n) : ∀ v : AV, v.all (fun r _ => decide (r < n)) = true → (v.sw p q).all (fun r _ => decide (r < n)) = true
  | .ptr r o, h | .bsl r o _ _, h | .eptr r _ _ _, h | .osl r _ _ _, h | .own r _, h => by
    simp only [AV.all, AV.sw, decide_eq_true_eq] at h ⊢
    exact swapN_lt hp hq h
  | .agg cs, h | .tup cs, h | .clo _ cs, h => by
    simp only [AV.all, AV.sw] at h ⊢
    exact AV.swL_all hp hq cs h
  | .iface _ v, h | .opt _ v, h | .gopt _ v, h => by
    simp only [AV.all, AV.sw] at h ⊢
    exact AV.sw_all hp hq v h
  | .unk, _ | .bool _, _ | .int _ _, _ | .str _, _ | .nilp, _ | .nilf, _ | .nili, _ | .nils, _ | .dsl _ _, _ | .dptr _ _ _, _ => rfl
theorem AV.swL_all {p q n : Nat} (hp : p < n) (hq : q < n) : ∀ vs : List AV, AV.allL (fun r _ => decide (r < n)) vs = true → AV.allL (fun r _ => decide (r < n)) (AV.swL p q vs) = true
  | [], _ => rfl
  | a :: as, h => by
    simp only [AV.allL, AV.swL, Bool.and_eq_true] at h ⊢
    exact ⟨AV.sw_all hp hq a h.1, AV.swL_all hp hq as h.2⟩
end

/-- The context with two rows' numbers changed. -/
def Cx.sw (p q : Nat) (X : Cx) : Cx := { X with rows := X.rows.sw p q, φ := fun r => X.φ (swapN p q r) }

mutual
theorem Rel.sw {X : Cx} {p q : Nat} (hp : p < X.rows.length) (hq : q < X.rows.length) : ∀ (a : AV) (v : Value), Rel X a v → Rel (X.sw p q) (a.sw p q) v
  | .unk, _, h => by simp [AV.sw, Rel]
  | .bool _, _, h => by simpa [AV.sw, Rel] using h
  | .int _ _, _, h => by simpa [AV.sw, Rel] using h
  | .str _, _, h => by simpa [AV.sw, Rel] using h
  | .nilp, _, h => by simpa [AV.sw, Rel] using h
  | .nilf, _, h => by simpa [AV.sw, Rel] using h
  | .nili, _, h => by simpa [AV.sw, Rel] using h
  | .nils, _, h => by simpa [AV.sw, Rel] using h
  | .dsl e xs, v, h => by
    simp only [AV.sw, Rel] at h ⊢
    exact h
  | .dptr s x off, v, h => by
    simp only [AV.sw, Rel] at h ⊢
    exact h
  | .ptr r off, v, h => by
    simp only [AV.sw, Rel] at h ⊢
    intro cs hc
    simp only [Cx.sw] at hc ⊢
    rw [Rows.get_sw hp hq, swapN_inv] at hc
    rw [swapN_inv]
    cases hr : X.rows.get r with
    | none => rw [hr] at hc; cases hc
    | some x =>
      rw [hr] at hc
      cases x with
      | box ds => exact h ds hr
      | arr g s xs => simp [Row.sw] at hc
  | .bsl r off _ _, v, h => by
    simp only [AV.sw, Rel] at h ⊢
    intro cs hc
    simp only [Cx.sw] at hc ⊢
    rw [Rows.get_sw hp hq, swapN_inv] at hc
    rw [swapN_inv]
    cases hr : X.rows.get r with
    | none => rw [hr] at hc; cases hc
    | some x =>
      rw [hr] at hc
      cases x with
      | box ds => exact h ds hr
      | arr g s xs => simp [Row.sw] at hc
  | .eptr r g i off, v, h => by
    simp only [AV.sw, Rel] at h ⊢
    intro s xs hc
    simp only [Cx.sw] at hc ⊢
    rw [Rows.get_sw hp hq, swapN_inv] at hc
    rw [swapN_inv]
    cases hr : X.rows.get r with
    | none => rw [hr] at hc; cases hc
    | some x =>
      rw [hr] at hc
      cases x with
      | box ds => simp [Row.sw] at hc
      | arr g' s' xs' =>
        simp only [Row.sw, Option.map_some, Option.some.injEq] at hc
        exact h s xs (by rw [hr, hc])
  | .osl r g st len, v, h => by
    simp only [AV.sw, Rel] at h ⊢
    intro s xs hc
    simp only [Cx.sw] at hc ⊢
    rw [Rows.get_sw hp hq, swapN_inv] at hc
    rw [swapN_inv]
    cases hr : X.rows.get r with
    | none => rw [hr] at hc; cases hc
    | some x =>
      rw [hr] at hc
      cases x with
      | box ds => simp [Row.sw] at hc
      | arr g' s' xs' =>
        simp only [Row.sw, Option.map_some, Option.some.injEq] at hc
        exact h s xs (by rw [hr, hc])
  | .own r g, v, h => by
    simp only [AV.sw, Rel] at h ⊢
    intro s xs hc
    simp only [Cx.sw] at hc ⊢
    rw [Rows.get_sw hp hq, swapN_inv] at hc
    rw [swapN_inv]
    cases hr : X.rows.get r with
    | none => rw [hr] at hc; cases hc
    | some x =>
      rw [hr] at hc
      cases x with
      | box ds => simp [Row.sw] at hc
      | arr g' s' xs' =>
        simp only [Row.sw, Option.map_some, Option.some.injEq] at hc
        exact h s xs (by rw [hr, hc])
  | .agg cs, v, h => by
    simp only [AV.sw, Rel] at h ⊢
    obtain ⟨vs, e, hr⟩ := h
    exact ⟨vs, e, RelL.sw hp hq cs vs.toList hr⟩
  | .tup cs, v, h => by
    simp only [AV.sw, Rel] at h ⊢
    obtain ⟨vs, e, hr⟩ := h
    exact ⟨vs, e, RelL.sw hp hq cs vs.toList hr⟩
  | .iface t a, v, h => by
    simp only [AV.sw, Rel] at h ⊢
    obtain ⟨u, e, hr⟩ := h
    exact ⟨u, e, Rel.sw hp hq a u hr⟩
  | .clo f cs, v, h => by
    simp only [AV.sw, Rel] at h ⊢
    obtain ⟨vs, e, hr⟩ := h
    exact ⟨vs, e, RelL.sw hp hq cs vs.toList hr⟩
  | .opt c a, v, h => by
    simp only [AV.sw, Rel] at h ⊢
    exact fun e => Rel.sw hp hq a v (h e)
  | .gopt c a, v, h => by
    simp only [AV.sw, Rel] at h ⊢
    exact ⟨fun e => Rel.sw hp hq a v (h.1 e), h.2⟩
theorem RelL.sw {X : Cx} {p q : Nat} (hp : p < X.rows.length) (hq : q < X.rows.length) : ∀ (as : List AV) (vs : List Value), RelL X as vs → RelL (X.sw p q) (AV.swL p q as) vs
  | [], _, h => by simpa [AV.swL, RelL] using h
  | a :: as, vs, h => by
    simp only [AV.swL, RelL] at h ⊢
    obtain ⟨v, r, e, hv, hr⟩ := h
    exact ⟨v, r, e, Rel.sw hp hq a v hv, RelL.sw hp hq as r hr⟩
end

theorem okid_len {rows : Rows} {r : Nat} : rows.okid rows.length r = true ↔ r < rows.length := by
  unfold Rows.okid
  simp only [Bool.or_eq_true, decide_eq_true_eq]
  constructor
  · rintro (h | h)
    · exact h
    · obtain ⟨x, hx⟩ := Option.isSome_iff_exists.1 h
      exact rows_get_lt hx
  · exact fun h => .inl h

theorem RowsOk.sw {base : Nat} {w0 : Start} {w : World} {X : Cx} (H : RowsOk base w0 X.rows.length X w) {p q : Nat} (hp : p < X.rows.length) (hq : q < X.rows.length) : RowsOk base w0 (X.sw p q).rows.length (X.sw p q) w := by
  have hget : ∀ r x, (X.sw p q).rows.get r = some x → ∃ y, X.rows.get (swapN p q r) = some y ∧ x = y.sw p q := by
    intro r x h
    simp only [Cx.sw] at h
    rw [Rows.get_sw hp hq] at h
    simp only [Option.map_eq_some_iff] at h
    obtain ⟨y, h1, h2⟩ := h
    exact ⟨y, h1, h2.symm⟩
  refine ⟨H.heap, H.keeps, H.sub, H.hb, H.fresh, fun r x h => ?_, fun r x b o h hb => ?_, fun r r' x x' b o b' o' h h' hb hb' e => ?_, fun r cs h => ?_⟩
  · obtain ⟨y, hy, rfl⟩ := hget r x h
    have := H.row _ y hy
    cases y with
    | box cs =>
      intro b o hbo
      obtain ⟨h1, c, T, h2, h3⟩ := this b o hbo
      exact ⟨h1, c, T, h2, RelL.sw hp hq cs _ h3⟩
    | arr g s xs => exact this
  · obtain ⟨y, hy, rfl⟩ := hget r x h
    exact H.own _ y b o hy hb
  · obtain ⟨y, hy, rfl⟩ := hget r x h
    obtain ⟨y', hy', rfl⟩ := hget r' x' h'
    have := H.apart _ _ y y' b o b' o' hy hy' hb hb' e
    have := congrArg (swapN p q) this
    rwa [swapN_inv, swapN_inv] at this
  · obtain ⟨y, hy, e⟩ := hget r _ h
    cases y with
    | arr _ _ _ => cases e
    | box ds =>
      simp only [Row.sw, Row.box.injEq] at e
      subst e
      have h1 := H.refs _ ds hy
      have h2 : AV.allL (fun r _ => decide (r < X.rows.length)) ds = true := AV.allL_imp (fun r _ h => decide_eq_true (okid_len.1 h)) ds h1
      have hl : (X.sw p q).rows.length = X.rows.length := Rows.sw_length p q X.rows
      refine AV.allL_imp (fun r _ h => ?_) _ (AV.swL_all hp hq ds h2)
      rw [okid_len, hl]
      exact of_decide_eq_true h

/-- The state with two rows' numbers changed. -/
def St.sw (p q : Nat) (S : St) : St := { S with tmps := TMap.mapIdx (m := S.tmps) fun _ v => v.sw p q, rows := S.rows.sw p q }
/-- Empty numbers behind the rows. -/
def St.pad (n : Nat) (S : St) : St := { S with rows := S.rows ++ List.replicate (n - S.rows.length) none }

theorem SimE.pad {E : Env} {base : Nat} {w0 : Start} {S : St} {a : Act} {w : World} (H : SimE E base w0 S a w) (n : Nat) : SimE E base w0 (S.pad n) a w := by
  obtain ⟨X, H⟩ := H
  obtain ⟨X', H'⟩ := Sim.congr (S' := S.pad n) H (fun _ => rfl) rfl (fun r => get_pad) rfl
  exact ⟨X', H'.le (by simp [St.pad])⟩

def noRow (p q : Nat) : Nat → Nat → Bool := fun r _ => !(r == p) && !(r == q)

theorem SimE.sw {E : Env} {base : Nat} {w0 : Start} {S : St} {a : Act} {w : World} (H : SimE E base w0 S a w) {p q : Nat} (hp : p < S.rows.length) (hq : q < S.rows.length) (hg : AV.allL (noRow p q) S.gho = true) : SimE E base w0 (S.sw p q) a w := by
  obtain ⟨X, H⟩ := H
  have hr := H.rows
  have hp' : p < X.rows.length := by rw [hr]; exact hp
  have hq' : q < X.rows.length := by rw [hr]; exact hq
  have hl : (S.sw p q).rows.length = S.rows.length := Rows.sw_length p q S.rows
  have hok : ∀ r, S.rows.okid S.rows.length r = true → (S.sw p q).rows.okid (S.sw p q).rows.length r = true := by
    intro r h
    rw [okid_len] at h ⊢
    rw [hl]; exact h
  refine ⟨X.sw p q, by simp [Cx.sw, St.sw, hr], ?_, by simp [St.sw, H.size], H.defers, fun t v hv => ?_, fun g s x hgl => ?_, ?_⟩
  · have := RowsOk.sw (by rw [hr]; exact H.ok) hp' hq'
    rwa [show (X.sw p q).rows.length = (S.sw p q).rows.length by simp [Cx.sw, St.sw, hr]] at this
  · simp only [St.sw, TMap.getElem?_mapIdx, Option.map_eq_some_iff] at hv
    obtain ⟨u, hu, rfl⟩ := hv
    obtain ⟨h1, h2⟩ := H.tmp t u hu
    refine ⟨?_, Rel.sw hp' hq' u _ h2⟩
    have h3 : u.all (fun r _ => decide (r < S.rows.length)) = true := AV.all_imp (fun r _ h => decide_eq_true (okid_len.1 h)) u h1
    refine AV.all_imp (fun r _ h => ?_) _ (AV.sw_all hp hq u h3)
    rw [okid_len, hl]
    exact of_decide_eq_true h
  · have := Rel.sw hp' hq' _ _ (H.glob g s x hgl).1
    exact ⟨by simpa [AV.sw] using this, (H.glob g s x hgl).2⟩
  · refine ⟨AV.allL_imp (fun r _ h => hok r h) _ H.gho.1, ?_⟩
    have := RelL.sw hp' hq' _ _ H.gho.2
    rwa [AV.swL_id S.gho hg] at this

/-- Nothing of old speaks of the two rows. -/
def swapOk (S0 : St) (p q : Nat) (S : St) : Bool :=
  AV.allL (noRow p q) S.gho && (compatT (noRow p q) S.dt S.tmps && compatR (noRow p q) S.dr 0 (S.rows.take S0.rows.length))

def St.swap (S S0 : St) (p q : Nat) : St :=
  if swapOk S0 p q S then forceN S.dr fun d => forceN p fun p => forceN q fun q => { (S.pad (max p q + 1)).sw p q with dr := addN p (addN q d) } else S

theorem St.swap_eq (S S0 : St) (p q : Nat) : S.swap S0 p q = if swapOk S0 p q S then { (S.pad (max p q + 1)).sw p q with dr := addN p (addN q S.dr) } else S := by
  unfold St.swap
  simp only [forceN_eq]

theorem SimE.swap {E : Env} {base : Nat} {w0 : Start} {S0 S : St} {a : Act} {w : World} (H : SimE E base w0 S a w) (p q : Nat) : SimE E base w0 (S.swap S0 p q) a w := by
  rw [St.swap_eq]
  split
  · rename_i h
    simp only [swapOk, Bool.and_eq_true] at h
    have hl : max p q < (S.pad (max p q + 1)).rows.length := by simp [St.pad]; omega
    obtain ⟨X, H'⟩ := (H.pad (max p q + 1)).sw (p := p) (q := q) (by omega) (by omega) h.1
    exact ⟨X, H'.rows, H'.ok, H'.size, H'.defers, H'.tmp, H'.glob, H'.gho⟩
  · exact H

theorem Agree.swap {S0 S : St} (hA : Agree S0 S) (p q : Nat) : Agree S0 (S.swap S0 p q) := by
  rw [St.swap_eq]
  split
  · rename_i h
    simp only [swapOk, Bool.and_eq_true] at h
    obtain ⟨h3, h4, h5⟩ := h
    have hl : max p q < (S.pad (max p q + 1)).rows.length := by simp [St.pad]; omega
    refine ⟨by simp [St.sw, St.pad, hA.len], fun t ht => ?_, by simp only [St.sw, Rows.sw_length]; simp only [St.pad, List.length_append]; have := hA.rlen; omega, fun r hr hd => ?_, hA.dt, fun r hr => by rw [mem_addN, mem_addN]; exact .inr (.inr (hA.dr r hr)), hA.gho⟩
    · have e := hA.tmp t ht
      simp only [St.sw, St.pad, TMap.getElem?_mapIdx]
      rw [← e]
      cases hv : S.tmps[t]? with
      | none => rfl
      | some v =>
        simp only [Option.map_some, Option.some.injEq]
        exact AV.sw_id v (compatT_at h4 t v hv ht)
    · simp only [mem_addN, not_or] at hd
      obtain ⟨n1, n2, hd⟩ := hd
      have e := hA.row r hr hd
      have hg : (S.pad (max p q + 1)).rows.get r = S.rows.get r := get_pad
      simp only [St.sw]
      rw [Rows.get_sw (by omega) (by omega), swapN_other n1 n2, hg, ← e]
      cases hv : S.rows.get r with
      | none => rfl
      | some x =>
        cases x with
        | arr _ _ _ => rfl
        | box cs =>
          simp only [Option.map_some, Row.sw, Option.some.injEq, Row.box.injEq]
          refine AV.swL_id cs (compatR_at h5 r cs ?_ (by rw [Nat.zero_add]; exact hd))
          unfold Rows.get at hv ⊢
          rw [List.getElem?_take, if_pos hr]
          exact hv
  · exact hA

/-- Places that two states tell apart: temporaries, cells of boxes. -/
def locsOf (S0 A B : St) : List (Nat × Nat ⊕ Nat) :=
  (((forceN A.dt fun x => forceN B.dt fun y => unionN x y).elems S0.tmps.length).map fun t => Sum.inr t) ++
  ((forceN A.dr fun x => forceN B.dr fun y => unionN x y).elems S0.rows.length).flatMap fun q => match A.rows.get q, B.rows.get q with
    | some (.box cs), some (.box _) => (List.range cs.length).map fun j => Sum.inl (q, j)
    | _, _ => []
def atLoc (S : St) : (Nat × Nat ⊕ Nat) → AV
  | .inr t => S.tmps.getD t .unk
  | .inl (q, j) => match S.rows.get q with | some (.box cs) => cs.getD j .unk | _ => .unk

/-- Rows that were made on one side or on both get one number. -/
def alignGo (S0 : St) : List (Nat × Nat ⊕ Nat) → Nat → St → St → St × St
  | [], _, A, B => (A, B)
  | l :: ls, f, A, B => match atLoc A l, atLoc B l with
    | .own ra _, .own rb _ => if ra = rb then alignGo S0 ls f A B else if S0.rows.length ≤ rb then alignGo S0 ls f A (B.swap S0 ra rb) else if S0.rows.length ≤ ra then alignGo S0 ls f (A.swap S0 ra rb) B else alignGo S0 ls f A B
    | .own ra _, .nils => if ra < S0.rows.length ∨ (B.rows.get ra).isNone = true then alignGo S0 ls f A B else alignGo S0 ls (f + 1) A (B.swap S0 ra f)
    | .nils, .own rb _ => if rb < S0.rows.length ∨ (A.rows.get rb).isNone = true then alignGo S0 ls f A B else alignGo S0 ls (f + 1) (A.swap S0 rb f) B
    | _, _ => alignGo S0 ls f A B

theorem alignGo_ok {P Q : St → Prop} {S0 : St} (hP : ∀ S p q, P S → P (S.swap S0 p q)) (hQ : ∀ S p q, Q S → Q (S.swap S0 p q)) : ∀ (ls : List (Nat × Nat ⊕ Nat)) (f : Nat) (A B : St), (P A → P (alignGo S0 ls f A B).1) ∧ (Q B → Q (alignGo S0 ls f A B).2)
  | [], f, A, B => ⟨id, id⟩
  | l :: ls, f, A, B => by
    unfold alignGo
    split
    · split
      · exact alignGo_ok hP hQ ls f A B
      · split
        · exact ⟨(alignGo_ok hP hQ ls f A _).1, fun h => (alignGo_ok hP hQ ls f A _).2 (hQ _ _ _ h)⟩
        · split
          · exact ⟨fun h => (alignGo_ok hP hQ ls f _ B).1 (hP _ _ _ h), (alignGo_ok hP hQ ls f _ B).2⟩
          · exact alignGo_ok hP hQ ls f A B
    · split
      · exact alignGo_ok hP hQ ls f A B
      · exact ⟨(alignGo_ok hP hQ ls (f + 1) A _).1, fun h => (alignGo_ok hP hQ ls (f + 1) A _).2 (hQ _ _ _ h)⟩
    · split
      · exact alignGo_ok hP hQ ls f A B
      · exact ⟨fun h => (alignGo_ok hP hQ ls (f + 1) _ B).1 (hP _ _ _ h), (alignGo_ok hP hQ ls (f + 1) _ B).2⟩
    · exact alignGo_ok hP hQ ls f A B

def align (S0 A B : St) : St × St := if A.rows.length = S0.rows.length ∧ B.rows.length = S0.rows.length then (A, B) else alignGo S0 (locsOf S0 A B) (max A.rows.length B.rows.length) A B

theorem align_ok {P Q : St → Prop} {S0 : St} (hP : ∀ S p q, P S → P (S.swap S0 p q)) (hQ : ∀ S p q, Q S → Q (S.swap S0 p q)) (A B : St) : (P A → P (align S0 A B).1) ∧ (Q B → Q (align S0 A B).2) := by
  unfold align
  split
  · exact ⟨id, id⟩
  · exact alignGo_ok hP hQ _ _ A B
/-- The rows of a round's end get the numbers that the head gives them. -/
def alignBGo (S0 A : St) : List (Nat × Nat ⊕ Nat) → Nat → St → St
  | [], _, B => B
  | l :: ls, f, B => match atLoc A l, atLoc B l with
    | .own ra _, .own rb _ => if ra = rb ∨ rb < S0.rows.length then alignBGo S0 A ls f B else alignBGo S0 A ls f (B.swap S0 ra rb)
    | .own ra _, .nils => if ra < S0.rows.length ∨ (B.rows.get ra).isNone = true then alignBGo S0 A ls f B else alignBGo S0 A ls (f + 1) (B.swap S0 ra f)
    | _, _ => alignBGo S0 A ls f B
def alignB (S0 A B : St) : St := if B.rows.length = S0.rows.length then B else alignBGo S0 A (locsOf S0 A B) (max A.rows.length B.rows.length) B
theorem alignBGo_ok {Q : St → Prop} {S0 A : St} (hQ : ∀ S p q, Q S → Q (S.swap S0 p q)) : ∀ (ls : List (Nat × Nat ⊕ Nat)) (f : Nat) (B : St), Q B → Q (alignBGo S0 A ls f B)
  | [], f, B, h => h
  | l :: ls, f, B, h => by
    unfold alignBGo
    split
    · split
      · exact alignBGo_ok hQ ls f B h
      · exact alignBGo_ok hQ ls f _ (hQ _ _ _ h)
    · split
      · exact alignBGo_ok hQ ls f B h
      · exact alignBGo_ok hQ ls (f + 1) _ (hQ _ _ _ h)
    · exact alignBGo_ok hQ ls f B h
theorem alignB_ok {Q : St → Prop} {S0 A B : St} (hQ : ∀ S p q, Q S → Q (S.swap S0 p q)) (h : Q B) : Q (alignB S0 A B) := by
  unfold alignB
  split
  · exact h
  · exact alignBGo_ok hQ _ _ _ h
end Go.Proofs.YtnjofponcdcfcaaDoor.Ab
