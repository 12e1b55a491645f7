import Derived.Test.YtlidfaaajjfgfaaDoorAbDraw
import Derived.LoopN
set_option linter.unusedVariables false
set_option linter.all false
namespace Go.Proofs.YtlidfaaajjfgfaaDoor.Ab
open Go.RowKit

/-! ### Code -/
/-- How a piece of code ends: in order, at an exit, with return. -/
inductive Tg where
  | n | x (id : Nat) | r
  deriving DecidableEq, Inhabited

def Tg.isN : Tg → Bool | .n => true | _ => false
def Tg.thenN (t : Tg) (u : Tg) : Tg := match t with | .n => u | t => t
def Tg.mix (c : Bool) (t u : Tg) : Tg := sIf c t u
def Tg.block (id : Nat) : Tg → Tg | .x i => if i = id then .n else .x i | t => t

structure Out where
  ok : Bool
  tag : Tg
  nrm : Option St
  exs : List (Nat × St)
  ret : Option (List AV)
  deriving Inhabited

/-- Numbers of growths on both sides, the greater. -/
def joinRow (x y : Option Row) : Option Row :=
  match x, y with
  | some (.box cs), some (.box ds) => if cs.length = ds.length then some (.box (AV.joinL (fun _ => none) cs ds)) else none
  | some (.arr g s xs), some (.arr g' s' _) => if s = s' then some (.arr (max g g') s xs) else none
  | some (.arr g s xs), none => some (.arr g s xs)
  | none, some (.arr g s xs) => some (.arr g s xs)
  | _, _ => none

def rangeFrom (a b : Nat) : List Nat := (List.range (b - a)).map (a + ·)

/-- A template for two states that come of one; rows up to len. -/
def tmplOf (S0 A B : St) (len : Nat) : Tmpl :=
  let rs0 := (forceN A.dr fun x => forceN B.dr fun y => unionN x y).elems S0.rows.length
  let new := rangeFrom S0.rows.length len
  let rows : List (Nat × Option Row) := (rs0 ++ new).map fun r => (r, joinRow (A.rows.get r) (B.rows.get r))
  let rows := rows.filter fun p => decide (p.1 < S0.rows.length) || p.2.isSome
  let gT := fun r => match rows.lookup r with
    | some (some (.arr g _ _)) => some g
    | some _ => none
    | none => (genS S0.rows r).map (·.1)
  let rows := rows.map fun p => match p.2, A.rows.get p.1, B.rows.get p.1 with
    | some (.box _), some (.box cs), some (.box ds) => (p.1, some (.box (AV.joinL gT cs ds)))
    | _, _, _ => p
  let ts := ((forceN A.dt fun x => forceN B.dt fun y => unionN x y).elems S0.tmps.length).map fun t => (t, ((A.tmps.getD t .unk).join gT (B.tmps.getD t .unk)))
  { ts := ts, rs := rows, len := len }

/-- Two states that come of S0 meet: the one if c, else the other. -/
def joinSt (c : Bool) (S0 A B : St) : Option St :=
  let T := tmplOf S0 A B (max A.rows.length B.rows.length)
  (T.coe S0 A).bind fun xs => (T.coe S0 B).bind fun ys => if xs.length = ys.length then some (T.mk' S0 (mixL c xs ys)) else none

def joinO (c : Bool) (S0 : St) : Option St → Option St → Option (Option St)
  | some A, some B => (joinSt c S0 A B).map some
  | some A, none => some (some A)
  | none, some B => some (some B)
  | none, none => some none

def joinX (c : Bool) (S0 : St) : List (Nat × St) → List (Nat × St) → Option (List (Nat × St))
  | [], ys => some ys
  | (i, A) :: xs, ys => (joinO c S0 (some A) (ys.lookup i)).bind fun r => (joinX c S0 xs (ys.filter fun p => p.1 != i)).map fun rest => match r with | some S => (i, S) :: rest | none => rest

def joinL2 (c : Bool) (vs us : List AV) : Option (List AV) :=
  let t := AV.joinL (fun _ => none) vs us
  (AV.coeL (fun _ => none) (fun _ => none) t vs).bind fun xs => (AV.coeL (fun _ => none) (fun _ => none) t us).bind fun ys => if xs.length = ys.length ∧ AV.allL (fun _ _ => false) (AV.fillL t (mixL c xs ys)).1 = true then some (AV.fillL t (mixL c xs ys)).1 else none

def joinR (c : Bool) : Option (List AV) → Option (List AV) → Option (Option (List AV))
  | some A, some B => (joinL2 c A B).map some
  | some A, none => some (some A)
  | none, some B => some (some B)
  | none, none => some none

def St.fresh (S : St) : St := { S with dt := .nil, dr := .nil }
def St.under (S S' : St) : St := forceN S.dt fun d => forceN S'.dt fun d' => forceN S.dr fun r => forceN S'.dr fun r' => { S' with dt := unionN d d', dr := unionN r r' }
theorem St.under_eq (S S' : St) : S.under S' = { S' with dt := unionN S.dt S'.dt, dr := unionN S.dr S'.dr } := by
  unfold St.under
  rw [forceN_eq, forceN_eq, forceN_eq, forceN_eq]
def Out.under (S : St) (o : Out) : Out := { o with nrm := o.nrm.map (S.under ·), exs := o.exs.map fun p => (p.1, S.under p.2) }

/-- Two branches. -/
def Out.cond (c : Bool) (S0 : St) (o1 o2 : Out) : Option Out :=
  (joinO c S0 o1.nrm o2.nrm).bind fun n => (joinX c S0 o1.exs o2.exs).bind fun e => (joinR c o1.ret o2.ret).map fun r =>
    { ok := sIf c o1.ok o2.ok, tag := Tg.mix c o1.tag o2.tag, nrm := n, exs := e, ret := r }

/-- One behind the other: o2 begins at o1's state. -/
def Out.seq (S0 : St) (o1 o2 : Out) : Option Out :=
  (joinX o1.tag.isN S0 o2.exs o1.exs).bind fun e => (joinR o1.tag.isN o2.ret o1.ret).map fun r =>
    { ok := sAnd o1.ok (sIf o1.tag.isN o2.ok true), tag := o1.tag.thenN o2.tag, nrm := o2.nrm, exs := e, ret := r }

def Out.block (id : Nat) (S0 : St) (o : Out) : Option Out :=
  (joinO o.tag.isN S0 o.nrm (o.exs.lookup id)).map fun n =>
    { o with tag := o.tag.block id, nrm := n, exs := o.exs.filter fun p => p.1 != id }

/-- One round after another. -/
def whileN (f : List Sc → Bool × Bool × List Sc) : Nat → List Sc → Option (List Sc)
  | 0, _ => none
  | k + 1, x => match f x with
    | (true, true, y) => whileN f k y
    | (true, false, _) => some x
    | (false, _, _) => none

/-- What the reading of a function's code needs besides. -/
structure Fx extends Env where
  res : List ResultVar
  W : (List Sc → Bool × Bool × List Sc) → List Sc → Option (List Sc)
  rounds : Nat

def retAV (E : Env) (S : St) : List ResultVar → Option (Bool × List AV)
  | [] => some (true, [])
  | .tmp t :: rs => (S.opd E (.tmp t)).bind fun (ok, v) => (v.lend S.rows).bind fun u => if u.all (fun _ _ => false) then (retAV E S rs).map fun (ok', us) => (sAnd ok ok', u :: us) else none
  | .cell _ _ :: _ => none

/-- The next try: A, the head as it was tried; B, what a round made of it. -/
def nextTmpl (S0 A B : St) : Tmpl :=
  -- rows of the round that go on: those that a temporary of the head needs
  let live := (rangeFrom S0.rows.length B.rows.length).filter fun r => match B.rows.get r with
    | some (.arr _ _ _) => ((forceN A.dt fun x => forceN B.dt fun y => unionN x y).elems S0.tmps.length).any fun t => match A.tmps.getD t .unk, B.tmps.getD t .unk with
      | .nils, .own r' _ => r' == r
      | .own r'' _, .own r' _ => r' == r && r'' == r
      | _, _ => false
    | _ => false
  let len := live.foldl (fun m r => max m (r + 1)) A.rows.length
  let T' := tmplOf S0 A B len
  { T' with rs := T'.rs.filter (fun p => decide (p.1 < A.rows.length) || live.contains p.1),
            ts := T'.ts.map fun p => if p.2.all (fun r _ => decide (r < A.rows.length) || live.contains r) then p else (p.1, .unk) }

def loopTmpl (body : St → Option Out) (S0 : St) : Nat → Tmpl → Option Tmpl
  | 0, _ => none
  | k + 1, T => (T.coe S0 S0).bind fun xs =>
    let A := T.mk' S0 xs
    (body A).bind fun o => match o.nrm with
      | none => some T
      | some B => match T.coe S0 B with
        | some _ => some T
        | none => loopTmpl body S0 k (nextTmpl S0 A B)

def exLoop (W : (List Sc → Bool × Bool × List Sc) → List Sc → Option (List Sc)) (rounds : Nat) (body : St → Option Out) (S : St) : Option Out :=
  let S0 := S.fresh
  (loopTmpl body S0 rounds { ts := [], rs := [], len := S0.rows.length }).bind fun T => (T.coe S0 S0).bind fun x0 =>
    if S0.rows.length ≤ T.len then
      let step := fun xs => match body (T.mk' S0 xs) with
        | some o => match o.nrm with
          | some B => match T.coe S0 B with
            | some ys => (o.ok, o.tag.isN, ys)
            | none => (false, false, [])
          | none => (o.ok, false, [])
        | none => (false, false, [])
      let y := W step x0
      (body (T.mk' S0 (y.getD x0))).map fun o => ({ o with ok := sAnd (sSome y) o.ok, nrm := none } : Out).under S
    else none

def ex (Γ : Fx) : Code → St → Option Out
  | .skip, S => some { ok := true, tag := .n, nrm := some S, exs := [], ret := none }
  | .label _, S => some { ok := true, tag := .n, nrm := some S, exs := [], ret := none }
  | .region _ ops draw, S => (if draw then exDraw Γ.toEnv ops S else exOps Γ.toEnv ops ops.toList S).map fun (ok, S') => { ok := ok, tag := .n, nrm := some S', exs := [], ret := none }
  | .seq a b, S => (ex Γ a S).bind fun o1 => match o1.nrm with
    | none => some o1
    | some S1 => (ex Γ b S1).bind fun o2 => Out.seq S o1 o2
  | .cond c x y, S => match S.opd Γ.toEnv c with
    | some (ok, .bool b) => (ex Γ x S.fresh).bind fun o1 => (ex Γ y S.fresh).bind fun o2 => (Out.cond b S.fresh o1 o2).map fun o => { o.under S with ok := sAnd ok o.ok }
    | _ => none
  | .block id c, S => (ex Γ c S.fresh).bind fun o => (Out.block id S.fresh o).map fun o => o.under S
  | .loop c, S => exLoop Γ.W Γ.rounds (ex Γ c) S
  | .exit id, S => some { ok := true, tag := .x id, nrm := none, exs := [(id, S)], ret := none }
  | .ret, S => (retAV Γ.toEnv S Γ.res).map fun (ok, vs) => { ok := ok, tag := .r, nrm := none, exs := [], ret := some vs }
  | _, _ => none

/-! ### That the reading is right -/
theorem SimE.rows_eq {E : Env} {base : Nat} {w0 : Start} {S S' : St} {a : Act} {w : World} (h : SimE E base w0 S a w) (ht : S'.tmps = S.tmps) (hr : S'.rows = S.rows) : SimE E base w0 S' a w := by
  obtain ⟨X, H⟩ := h
  refine ⟨X, ?_⟩
  rw [hr]
  exact ⟨by rw [hr]; exact H.rows, H.ok, by rw [ht]; exact H.size, H.defers, by rw [ht, hr]; exact H.tmp, H.glob⟩

theorem SimE.under {E : Env} {base : Nat} {w0 : Start} {S S' : St} {a : Act} {w : World} (h : SimE E base w0 S' a w) : SimE E base w0 (S.under S') a w := h.rows_eq (by rw [St.under_eq]) (by rw [St.under_eq])
theorem SimE.fresh {E : Env} {base : Nat} {w0 : Start} {S : St} {a : Act} {w : World} (h : SimE E base w0 S a w) : SimE E base w0 S.fresh a w := h.rows_eq rfl rfl

theorem Agree.under {S S' : St} (h : Agree S.fresh S') : Agree S (S.under S') := by
  rw [St.under_eq]
  exact {
    len := h.len
    tmp := fun t ht => h.tmp t fun h' => ht (mem_unionN.2 (.inr h'))
    rlen := h.rlen
    row := fun r hr ht => h.row r hr fun h' => ht (mem_unionN.2 (.inr h'))
    dt := fun t ht => mem_unionN.2 (.inl ht)
    dr := fun r hr => mem_unionN.2 (.inl hr) }

theorem joinSt_agree {c : Bool} {S0 A B S : St} (h : joinSt c S0 A B = some S) (hA : Agree S0 A) : Agree S0 S := by
  simp only [joinSt, Option.bind_eq_some_iff] at h
  obtain ⟨xs, _, ys, _, h⟩ := h
  split at h
  · cases h
    exact mk'_agree (T := tmplOf S0 A B (max A.rows.length B.rows.length)) (Nat.le_trans hA.rlen (Nat.le_max_left _ _))
  · cases h

theorem joinSt_ok {E : Env} {base : Nat} {w0 : Start} {a : Act} {w : World} {c : Bool} {S0 A B S : St} (h : joinSt c S0 A B = some S) (hA : Agree S0 A) (hB : Agree S0 B)
    (h1 : c = true → SimE E base w0 A a w) (h2 : c = false → SimE E base w0 B a w) : SimE E base w0 S a w := by
  simp only [joinSt, Option.bind_eq_some_iff] at h
  obtain ⟨xs, hx, ys, hy, h⟩ := h
  split at h
  · rename_i hl
    cases h
    cases c with
    | true =>
      rw [mixL_true hl]
      obtain ⟨X, H⟩ := h1 rfl
      obtain ⟨X', H', hlen⟩ := Tmpl.coe_sim H hA hx
      exact ⟨X', by rw [hlen]; exact H'⟩
    | false =>
      rw [mixL_false hl]
      obtain ⟨X, H⟩ := h2 rfl
      obtain ⟨X', H', hlen⟩ := Tmpl.coe_sim H hB hy
      exact ⟨X', by rw [hlen]; exact H'⟩
  · cases h

theorem joinO_agree {c : Bool} {S0 : St} {A B r : Option St} (h : joinO c S0 A B = some r) (hA : ∀ S, A = some S → Agree S0 S) (hB : ∀ S, B = some S → Agree S0 S) : ∀ S, r = some S → Agree S0 S := by
  intro S hr
  subst hr
  cases A <;> cases B <;> simp only [joinO, Option.map_eq_some_iff, Option.some.injEq, reduceCtorEq, exists_eq_right] at h
  · exact hB _ (by rw [h])
  · exact hA _ (by rw [h])
  · exact joinSt_agree h (hA _ rfl)

theorem joinO_ok {E : Env} {base : Nat} {w0 : Start} {a : Act} {w : World} {c : Bool} {S0 : St} {A B r : Option St} (h : joinO c S0 A B = some r) (hA : ∀ S, A = some S → Agree S0 S) (hB : ∀ S, B = some S → Agree S0 S)
    (h1 : c = true → ∃ S, A = some S ∧ SimE E base w0 S a w) (h2 : c = false → ∃ S, B = some S ∧ SimE E base w0 S a w) : ∃ S, r = some S ∧ SimE E base w0 S a w := by
  cases A with
  | none =>
    cases c with
    | true => obtain ⟨S, e, _⟩ := h1 rfl; cases e
    | false =>
      obtain ⟨S, rfl, hs⟩ := h2 rfl
      simp only [joinO, Option.some.injEq] at h
      exact ⟨S, h.symm, hs⟩
  | some A =>
    cases B with
    | none =>
      cases c with
      | false => obtain ⟨S, e, _⟩ := h2 rfl; cases e
      | true =>
        obtain ⟨S, e, hs⟩ := h1 rfl
        cases e
        simp only [joinO, Option.some.injEq] at h
        exact ⟨A, h.symm, hs⟩
    | some B =>
      simp only [joinO, Option.map_eq_some_iff] at h
      obtain ⟨S, hj, rfl⟩ := h
      refine ⟨S, rfl, joinSt_ok hj (hA A rfl) (hB B rfl) (fun e => ?_) (fun e => ?_)⟩
      · obtain ⟨S', e', hs⟩ := h1 e; cases e'; exact hs
      · obtain ⟨S', e', hs⟩ := h2 e; cases e'; exact hs

theorem lookup_mem {α : Type} : ∀ {l : List (Nat × α)} {i : Nat} {x : α}, l.lookup i = some x → (i, x) ∈ l
  | (j, y) :: l, i, x, h => by
    simp only [List.lookup_cons] at h
    split at h
    · rename_i e
      cases h
      have : i = j := by simpa using e
      subst this
      simp
    · exact List.mem_cons_of_mem _ (lookup_mem h)

theorem lookup_filter {α : Type} {i j : Nat} (h : i ≠ j) : ∀ (l : List (Nat × α)), (l.filter fun p => p.1 != j).lookup i = l.lookup i
  | [] => rfl
  | (k, y) :: l => by
    simp only [List.filter_cons]
    split
    · simp only [List.lookup_cons, lookup_filter h l]
    · rename_i hk
      have : k = j := by simpa using hk
      subst this
      rw [lookup_filter h l, List.lookup_cons]
      have : (i == k) = false := by simpa using h
      rw [this]

theorem joinX_agree {c : Bool} {S0 : St} : ∀ {xs ys r : List (Nat × St)}, joinX c S0 xs ys = some r → (∀ p ∈ xs, Agree S0 p.2) → (∀ p ∈ ys, Agree S0 p.2) → ∀ p ∈ r, Agree S0 p.2
  | [], ys, r, h, _, hy => by simp only [joinX, Option.some.injEq] at h; subst h; exact hy
  | (i, A) :: xs, ys, r, h, hx, hy => by
    simp only [joinX, Option.bind_eq_some_iff, Option.map_eq_some_iff] at h
    obtain ⟨s, hs, rest, hrest, rfl⟩ := h
    have ih := joinX_agree hrest (fun p hp => hx p (List.mem_cons_of_mem _ hp)) (fun p hp => hy p ((List.mem_filter.1 hp).1))
    have hso := joinO_agree hs (fun S e => by cases e; exact hx (i, A) (by simp)) (fun S e => hy (i, S) (lookup_mem e))
    cases s with
    | none => exact ih
    | some S =>
      intro p hp
      rcases List.mem_cons.1 hp with rfl | hp
      · exact hso S rfl
      · exact ih p hp

theorem joinX_ok {E : Env} {base : Nat} {w0 : Start} {a : Act} {w : World} {c : Bool} {S0 : St} {i : Nat} : ∀ {xs ys r : List (Nat × St)}, joinX c S0 xs ys = some r → (∀ p ∈ xs, Agree S0 p.2) → (∀ p ∈ ys, Agree S0 p.2) →
    (c = true → ∃ S, xs.lookup i = some S ∧ SimE E base w0 S a w) → (c = false → ∃ S, ys.lookup i = some S ∧ SimE E base w0 S a w) → ∃ S, r.lookup i = some S ∧ SimE E base w0 S a w
  | [], ys, r, h, _, hy, h1, h2 => by
    simp only [joinX, Option.some.injEq] at h
    subst h
    cases c with
    | true => obtain ⟨S, e, _⟩ := h1 rfl; cases e
    | false => exact h2 rfl
  | (j, A) :: xs, ys, r, h, hx, hy, h1, h2 => by
    simp only [joinX, Option.bind_eq_some_iff, Option.map_eq_some_iff] at h
    obtain ⟨s, hs, rest, hrest, rfl⟩ := h
    have hA := hx (j, A) (by simp)
    by_cases e : i = j
    · subst e
      have hself : ∀ (A : St) (xs : List (Nat × St)), ((i, A) :: xs).lookup i = some A := fun A xs => by simp [List.lookup_cons]
      obtain ⟨S, rfl, hsim⟩ := joinO_ok (E := E) (base := base) (w0 := w0) (a := a) (w := w) hs (fun S e => by cases e; exact hA) (fun S e => hy (i, S) (lookup_mem e))
        (fun ec => by
          obtain ⟨S, e1, e2⟩ := h1 ec
          rw [hself] at e1
          cases e1
          exact ⟨A, rfl, e2⟩) (fun ec => h2 ec)
      exact ⟨S, hself S rest, hsim⟩
    · have hne : (i == j) = false := by simpa using e
      have ih := joinX_ok (E := E) (base := base) (w0 := w0) (a := a) (w := w) (i := i) hrest (fun p hp => hx p (List.mem_cons_of_mem _ hp)) (fun p hp => hy p ((List.mem_filter.1 hp).1))
        (fun ec => by
          obtain ⟨S, e1, e2⟩ := h1 ec
          rw [List.lookup_cons, hne] at e1
          exact ⟨S, e1, e2⟩)
        (fun ec => by
          obtain ⟨S, e1, e2⟩ := h2 ec
          exact ⟨S, by rw [lookup_filter e]; exact e1, e2⟩)
      cases s with
      | none => exact ih
      | some S =>
        obtain ⟨S', e1, e2⟩ := ih
        exact ⟨S', by rw [List.lookup_cons, hne]; exact e1, e2⟩

/-- The values of results. -/
def resVals (res : List ResultVar) (a : Act) : List Value := res.map fun | .tmp t => a.tmps.getD t undef | .cell _ _ => undef

/-- What a return leaves: data. -/
def RetE (base : Nat) (w0 : Start) (res : List ResultVar) (vs : List AV) (a : Act) (w : World) : Prop :=
  a.defers = [] ∧ ∃ X, X.rows = [] ∧ X.φ = (fun _ => none) ∧ RowsOk base w0 0 X w ∧ RelL X vs (resVals res a) ∧ AV.allL (fun _ _ => false) vs = true

theorem Turn.nil (X : Cx) (h : X.rows = []) : Turn X X (fun _ => none) (fun _ => none) := by
  refine ⟨rfl, rfl, fun r cs' hc => ?_, fun r g s xs' hc => ?_⟩ <;> rw [h] at hc <;> simp [Rows.get] at hc

theorem joinR_ok {base : Nat} {w0 : Start} {res : List ResultVar} {a : Act} {w : World} {c : Bool} {A B r : Option (List AV)} (h : joinR c A B = some r)
    (h1 : c = true → ∃ vs, A = some vs ∧ RetE base w0 res vs a w) (h2 : c = false → ∃ vs, B = some vs ∧ RetE base w0 res vs a w) : ∃ vs, r = some vs ∧ RetE base w0 res vs a w := by
  cases A with
  | none =>
    cases c with
    | true => obtain ⟨S, e, _⟩ := h1 rfl; cases e
    | false =>
      obtain ⟨S, rfl, hs⟩ := h2 rfl
      simp only [joinR, Option.some.injEq] at h
      exact ⟨S, h.symm, hs⟩
  | some A =>
    cases B with
    | none =>
      cases c with
      | false => obtain ⟨S, e, _⟩ := h2 rfl; cases e
      | true =>
        obtain ⟨S, e, hs⟩ := h1 rfl
        cases e
        simp only [joinR, Option.some.injEq] at h
        exact ⟨A, h.symm, hs⟩
    | some B =>
      simp only [joinR, Option.map_eq_some_iff] at h
      obtain ⟨vs, hj, rfl⟩ := h
      simp only [joinL2, Option.bind_eq_some_iff] at hj
      obtain ⟨xs, hx, ys, hy, hj⟩ := hj
      split at hj
      · rename_i hc
        cases hj
        refine ⟨_, rfl, ?_⟩
        cases c with
        | true =>
          obtain ⟨S, e, hd, X, hX, hφ, R, hrel, hall⟩ := h1 rfl
          cases e
          rw [mixL_true hc.1] at hc ⊢
          exact ⟨hd, X, hX, hφ, R, by simpa using (AV.coeL_ok (Turn.nil X hX) _ A xs [] _ hx hrel).2, hc.2⟩
        | false =>
          obtain ⟨S, e, hd, X, hX, hφ, R, hrel, hall⟩ := h2 rfl
          cases e
          rw [mixL_false hc.1] at hc ⊢
          exact ⟨hd, X, hX, hφ, R, by simpa using (AV.coeL_ok (Turn.nil X hX) _ B ys [] _ hy hrel).2, hc.2⟩
      · cases hj

def Out.ag (S : St) (o : Out) : Prop := (∀ S', o.nrm = some S' → Agree S S') ∧ ∀ p ∈ o.exs, Agree S p.2

def OutOk (E : Env) (base : Nat) (w0 : Start) (res : List ResultVar) (o : Out) : Exit → Act → World → Prop
  | .normal, a, w => o.tag = .n ∧ ∃ S, o.nrm = some S ∧ SimE E base w0 S a w
  | .exit id, a, w => o.tag = .x id ∧ ∃ S, o.exs.lookup id = some S ∧ SimE E base w0 S a w
  | .ret, a, w => o.tag = .r ∧ ∃ vs, o.ret = some vs ∧ RetE base w0 res vs a w
  | _, _, _ => False

theorem Out.ag.under {S : St} {o : Out} (h : o.ag S.fresh) : (o.under S).ag S := by
  refine ⟨fun S' e => ?_, fun p hp => ?_⟩
  · simp only [Out.under, Option.map_eq_some_iff] at e
    obtain ⟨S1, e1, rfl⟩ := e
    exact (h.1 S1 e1).under
  · simp only [Out.under, List.mem_map] at hp
    obtain ⟨q, hq, rfl⟩ := hp
    exact (h.2 q hq).under

theorem lookup_map {α β : Type} (f : α → β) : ∀ (l : List (Nat × α)) (i : Nat), (l.map fun p => (p.1, f p.2)).lookup i = (l.lookup i).map f
  | [], _ => rfl
  | (j, y) :: l, i => by
    simp only [List.map_cons, List.lookup_cons]
    split
    · rfl
    · exact lookup_map f l i

theorem OutOk.under {E : Env} {base : Nat} {w0 : Start} {res : List ResultVar} {S : St} {o : Out} {e : Exit} {a : Act} {w : World} (h : OutOk E base w0 res o e a w) : OutOk E base w0 res (o.under S) e a w := by
  cases e with
  | normal =>
    obtain ⟨h1, S', h2, h3⟩ := h
    exact ⟨h1, S.under S', by simp [Out.under, h2], h3.under⟩
  | exit id =>
    obtain ⟨h1, S', h2, h3⟩ := h
    refine ⟨h1, S.under S', ?_, h3.under⟩
    show ((o.exs.map fun p => (p.1, S.under p.2)).lookup id) = _
    rw [lookup_map, h2]; rfl
  | ret => exact h
  | goto l => exact h
  | panic ch => exact h
  | outgrown => exact h

theorem exLoop_agree {W : (List Sc → Bool × Bool × List Sc) → List Sc → Option (List Sc)} {rounds : Nat} {body : St → Option Out} (hb : ∀ S o, body S = some o → o.ag S) {S : St} {o : Out} (h : exLoop W rounds body S = some o) : o.ag S := by
  simp only [exLoop, Option.bind_eq_some_iff] at h
  obtain ⟨T, _, x0, _, h⟩ := h
  split at h
  · rename_i hlen
    simp only [Option.map_eq_some_iff] at h
    obtain ⟨o', ho, rfl⟩ := h
    have h1 := hb _ _ ho
    have h2 := fun xs => mk'_agree (T := T) (S0 := S.fresh) (xs := xs) hlen
    refine Out.ag.under ?_
    exact ⟨fun S' e => (by cases e), fun p hp => (h2 _).trans (h1.2 p hp)⟩
  · cases h

theorem ex_agree (Γ : Fx) : ∀ (c : Code) (S : St) (o : Out), ex Γ c S = some o → o.ag S
  | .skip, S, o, h => by
    simp only [ex, Option.some.injEq] at h
    subst h
    exact ⟨fun S' e => by cases e; exact Agree.refl S, fun p hp => by cases hp⟩
  | .label _, S, o, h => by
    simp only [ex, Option.some.injEq] at h
    subst h
    exact ⟨fun S' e => by cases e; exact Agree.refl S, fun p hp => by cases hp⟩
  | .region id ops draw, S, o, h => by
    simp only [ex, Option.map_eq_some_iff, Prod.exists] at h
    obtain ⟨ok, S1, h1, rfl⟩ := h
    split at h1
    · exact ⟨fun S' e => (by cases e; exact exDraw_agree h1), fun p hp => by cases hp⟩
    · exact ⟨fun S' e => (by cases e; exact exOps_agree h1), fun p hp => by cases hp⟩
  | .seq a b, S, o, h => by
    simp only [ex, Option.bind_eq_some_iff] at h
    obtain ⟨o1, h1, h⟩ := h
    have a1 := ex_agree Γ a S o1 h1
    split at h
    · cases h; exact a1
    · rename_i S1 hS1
      simp only [Option.bind_eq_some_iff] at h
      obtain ⟨o2, h2, h⟩ := h
      have a2 := ex_agree Γ b S1 o2 h2
      have aS := a1.1 S1 hS1
      simp only [Out.seq, Option.bind_eq_some_iff, Option.map_eq_some_iff] at h
      obtain ⟨e, he, r, hr, rfl⟩ := h
      exact ⟨fun S' e' => aS.trans (a2.1 S' e'), joinX_agree he (fun p hp => aS.trans (a2.2 p hp)) a1.2⟩
  | .cond c x y, S, o, h => by
    simp only [ex] at h
    split at h
    · simp only [Option.bind_eq_some_iff, Option.map_eq_some_iff] at h
      obtain ⟨o1, h1, o2, h2, o3, h3, rfl⟩ := h
      have a1 := ex_agree Γ x S.fresh o1 h1
      have a2 := ex_agree Γ y S.fresh o2 h2
      have a3 : o3.ag S.fresh := by
        simp only [Out.cond, Option.bind_eq_some_iff, Option.map_eq_some_iff] at h3
        obtain ⟨n, hn, e, he, r, hr, rfl⟩ := h3
        exact ⟨joinO_agree hn a1.1 a2.1, joinX_agree he a1.2 a2.2⟩
      exact ⟨a3.under.1, a3.under.2⟩
    · cases h
  | .block id c, S, o, h => by
    simp only [ex, Option.bind_eq_some_iff, Option.map_eq_some_iff] at h
    obtain ⟨o1, h1, o2, h2, rfl⟩ := h
    have a1 := ex_agree Γ c S.fresh o1 h1
    simp only [Out.block, Option.map_eq_some_iff] at h2
    obtain ⟨n, hn, rfl⟩ := h2
    refine Out.ag.under ⟨joinO_agree hn a1.1 (fun S' e => a1.2 (id, S') (lookup_mem e)), fun p hp => a1.2 p (List.mem_filter.1 hp).1⟩
  | .loop c, S, o, h => exLoop_agree (fun S o h => ex_agree Γ c S o h) (by simpa only [ex] using h)
  | .exit id, S, o, h => by
    simp only [ex, Option.some.injEq] at h
    subst h
    refine ⟨fun S' e => (by cases e), fun p hp => ?_⟩
    simp only [List.mem_singleton] at hp
    subst hp
    exact Agree.refl S
  | .ret, S, o, h => by
    simp only [ex, Option.map_eq_some_iff] at h
    obtain ⟨⟨ok, vs⟩, h1, rfl⟩ := h
    exact ⟨fun S' e => (by cases e), fun p hp => by cases hp⟩
  | .rangeFunc _ _ _ _, S, o, h => by simp only [ex, reduceCtorEq] at h
  | .scope _, S, o, h => by simp only [ex, reduceCtorEq] at h
  | .goto _, S, o, h => by simp only [ex, reduceCtorEq] at h
  | .refuse _, S, o, h => by simp only [ex, reduceCtorEq] at h

theorem whileN_inv {P : Program} {c : Code} {Q : Exit → Act → World → Prop} {f : List Sc → Bool × Bool × List Sc} {I : List Sc → Act → World → Prop} {y : List Sc}
    (hlast : ∀ z a w, f y = (true, false, z) → I y a w → c.wp P (Exit.then (fun _ _ => False) Q) a w)
    (hstep : ∀ x z a w, f x = (true, true, z) → I x a w → c.wp P (Exit.then (I z) Q) a w) :
    ∀ (k : Nat) (x : List Sc) (a : Act) (w : World), whileN f k x = some y → I x a w → Code.rounds P c Q k a w
  | 0, x, a, w, h, _ => by cases h
  | k + 1, x, a, w, h, hI => by
    simp only [whileN] at h
    rw [rounds_succ]
    split at h
    · rename_i z hf
      refine Code.wp_mono (fun e a w hq => ?_) (hstep x z a w hf hI)
      cases e with
      | normal => exact whileN_inv hlast hstep k z a w h hq
      | _ => exact hq
    · rename_i z hf
      cases h
      refine Code.wp_mono (fun e a w hq => ?_) (hlast z a w hf hI)
      cases e with
      | normal => exact hq.elim
      | _ => exact hq
    · cases h

/-- A way to find where a loop ends is right if it only finds what rounds find. -/
def WOk (W : (List Sc → Bool × Bool × List Sc) → List Sc → Option (List Sc)) : Prop := ∀ f x y, W f x = some y → ∃ k, whileN f k x = some y

theorem retAV_ok {E : Env} {base n : Nat} {w0 : Start} {w : World} {X : Cx} {S : St} {a : Act} (H : Sim E base w0 n X S a w) : ∀ {res : List ResultVar} {ok : Bool} {vs : List AV}, retAV E S res = some (ok, vs) → ok = true →
    RelL X.lent vs (resVals res a) ∧ AV.allL (fun _ _ => false) vs = true
  | [], ok, vs, h, hok => by cases h; simp [resVals, RelL, AV.allL]
  | .cell _ _ :: _, ok, vs, h, hok => by cases h
  | .tmp t :: rs, ok, vs, h, hok => by
    simp only [retAV, Option.bind_eq_some_iff, Prod.exists] at h
    obtain ⟨ok1, v, h1, u, h2, h3⟩ := h
    split at h3
    · rename_i hu
      simp only [Option.map_eq_some_iff, Prod.exists, Prod.mk.injEq] at h3
      obtain ⟨ok2, us, h4, rfl, rfl⟩ := h3
      simp only [Bool.and_eq_true] at hok
      obtain ⟨hr, _⟩ := opd_ok H h1 hok.1
      obtain ⟨ih1, ih2⟩ := retAV_ok H h4 hok.2
      have hl := lend_ok H.ok v u _ (by rw [H.rows]; exact h2) hr
      simp only [resVals, List.map_cons, RelL, AV.allL, Bool.and_eq_true]
      exact ⟨⟨_, _, rfl, hl, ih1⟩, hu, ih2⟩
    · cases h3

theorem lent_ok {base n : Nat} {w0 : Start} {w : World} {X : Cx} (H : RowsOk base w0 n X w) : RowsOk base w0 0 X.lent w where
  heap := H.heap
  keeps := H.keeps
  sub b hb := by
    rcases hb with hb | ⟨r, x, o, hx, hφ⟩
    · exact H.sub b hb
    · exact .inr (H.own r x b o hx hφ).1
  hb := H.hb
  fresh b hb := by
    rcases hb with hb | ⟨r, x, o, hx, hφ⟩
    · exact H.fresh b hb
    · exact H.lt hx hφ
  row r x hx := by simp [Cx.lent, Rows.get] at hx
  own r x b o hx := by simp [Cx.lent, Rows.get] at hx
  apart r r' x x' b o b' o' hx := by simp [Cx.lent, Rows.get] at hx
  refs r cs hx := by simp [Cx.lent, Rows.get] at hx

theorem ex_ok (Γ : Fx) (hK : ∀ f c, Γ.K f = some c → KOk Γ.toEnv f c) (hW : WOk Γ.W) (hm : Γ.P.follows .mixedOrders = true) {base : Nat} {w0 : Start} : ∀ (c : Code) (S : St) (o : Out) (a : Act) (w : World), ex Γ c S = some o → o.ok = true → SimE Γ.toEnv base w0 S a w →
    c.wp Γ.P (OutOk Γ.toEnv base w0 Γ.res o) a w
  | .skip, S, o, a, w, h, hok, H => by
    simp only [ex, Option.some.injEq] at h
    subst h
    exact wp_skip ⟨rfl, S, rfl, H⟩
  | .label _, S, o, a, w, h, hok, H => by
    simp only [ex, Option.some.injEq] at h
    subst h
    exact wp_label ⟨rfl, S, rfl, H⟩
  | .region id ops draw, S, o, a, w, h, hok, H => by
    simp only [ex, Option.map_eq_some_iff, Prod.exists] at h
    obtain ⟨ok, S1, h1, rfl⟩ := h
    split at h1
    · rename_i hd
      subst hd
      exact exDraw_wp hK hm H h1 hok (fun a' w' H' => ⟨rfl, S1, rfl, H'⟩)
    · rename_i hd
      have : draw = false := by simpa using hd
      subst this
      exact wp_region_list (exOps_wp hK H h1 hok (fun a' w' H' => ⟨rfl, S1, rfl, H'⟩))
  | .seq x y, S, o, a, w, h, hok, H => by
    simp only [ex, Option.bind_eq_some_iff] at h
    obtain ⟨o1, h1, h⟩ := h
    have a1 := ex_agree Γ x S o1 h1
    split at h
    · rename_i hn
      cases h
      refine wp_seq (Code.wp_mono (fun e a w hq => ?_) (ex_ok Γ hK hW hm x S o a w h1 hok H))
      cases e with
      | normal => obtain ⟨_, S', e, _⟩ := hq; rw [hn] at e; cases e
      | _ => exact hq
    · rename_i S1 hS1
      simp only [Option.bind_eq_some_iff] at h
      obtain ⟨o2, h2, h⟩ := h
      have a2 := ex_agree Γ y S1 o2 h2
      have aS := a1.1 S1 hS1
      simp only [Out.seq, Option.bind_eq_some_iff, Option.map_eq_some_iff] at h
      obtain ⟨e, he, r, hr, rfl⟩ := h
      simp only [Bool.and_eq_true] at hok
      have ag2 : ∀ p ∈ o2.exs, Agree S p.2 := fun p hp => aS.trans (a2.2 p hp)
      refine wp_seq (Code.wp_mono (fun ex' a w hq => ?_) (ex_ok Γ hK hW hm x S o1 a w h1 hok.1 H))
      cases ex' with
      | normal =>
        obtain ⟨ht, S', e', H'⟩ := hq
        rw [hS1] at e'
        cases e'
        have hN : o1.tag.isN = true := by rw [ht]; rfl
        have hok2 : o2.ok = true := by have := hok.2; rw [hN] at this; simpa using this
        refine Code.wp_mono (fun e2 a w hq2 => ?_) (ex_ok Γ hK hW hm y S1 o2 a w h2 hok2 H')
        have hT : o1.tag.thenN o2.tag = o2.tag := by rw [ht]; rfl
        cases e2 with
        | normal => obtain ⟨t2, S2, e2, H2⟩ := hq2; exact ⟨hT.trans t2, S2, e2, H2⟩
        | exit id =>
          obtain ⟨t2, S2, e2, H2⟩ := hq2
          exact ⟨hT.trans t2, joinX_ok he ag2 a1.2 (fun _ => ⟨S2, e2, H2⟩) (fun hf => by rw [hN] at hf; cases hf)⟩
        | ret =>
          obtain ⟨t2, vs, e2, H2⟩ := hq2
          exact ⟨hT.trans t2, joinR_ok hr (fun _ => ⟨vs, e2, H2⟩) (fun hf => by rw [hN] at hf; cases hf)⟩
        | goto l => exact hq2
        | panic ch => exact hq2
        | outgrown => exact hq2
      | exit id =>
        obtain ⟨ht, S', e', H'⟩ := hq
        have hN : o1.tag.isN = false := by rw [ht]; rfl
        exact ⟨by show o1.tag.thenN o2.tag = _; rw [ht]; rfl, joinX_ok he ag2 a1.2 (fun hf => by rw [hN] at hf; cases hf) (fun _ => ⟨S', e', H'⟩)⟩
      | ret =>
        obtain ⟨ht, vs, e', H'⟩ := hq
        have hN : o1.tag.isN = false := by rw [ht]; rfl
        exact ⟨by show o1.tag.thenN o2.tag = _; rw [ht]; rfl, joinR_ok hr (fun hf => by rw [hN] at hf; cases hf) (fun _ => ⟨vs, e', H'⟩)⟩
      | goto l => exact hq
      | panic ch => exact hq
      | outgrown => exact hq
  | .cond c x y, S, o, a, w, h, hok, H => by
    simp only [ex] at h
    split at h
    · rename_i okc b hc
      simp only [Option.bind_eq_some_iff, Option.map_eq_some_iff] at h
      obtain ⟨o1, h1, o2, h2, o3, h3, rfl⟩ := h
      have a1 := ex_agree Γ x S.fresh o1 h1
      have a2 := ex_agree Γ y S.fresh o2 h2
      simp only [Bool.and_eq_true] at hok
      obtain ⟨X, HX⟩ := H
      have hcv := (opd_ok HX hc hok.1).1
      simp only [Rel] at hcv
      have H : SimE Γ.toEnv base w0 S a w := ⟨X, HX⟩
      simp only [Out.cond, Option.bind_eq_some_iff, Option.map_eq_some_iff] at h3
      obtain ⟨n, hn, e, he, r, hr, rfl⟩ := h3
      refine wp_cond_split hcv (fun hb => ?_) (fun hb => ?_)
      · subst hb
        refine Code.wp_mono (fun ex' a w hq => ?_) (ex_ok Γ hK hW hm x S.fresh o1 a w h1 (by simpa using hok.2) H.fresh)
        have : OutOk Γ.toEnv base w0 Γ.res { ok := bif true then o1.ok else o2.ok, tag := Tg.mix true o1.tag o2.tag, nrm := n, exs := e, ret := r } ex' a w := by
          cases ex' with
          | normal => exact ⟨hq.1, joinO_ok hn a1.1 a2.1 (fun _ => hq.2) (fun hf => by cases hf)⟩
          | exit id => exact ⟨hq.1, joinX_ok he a1.2 a2.2 (fun _ => hq.2) (fun hf => by cases hf)⟩
          | ret => exact ⟨hq.1, joinR_ok hr (fun _ => hq.2) (fun hf => by cases hf)⟩
          | goto l => exact hq
          | panic ch => exact hq
          | outgrown => exact hq
        have h2 := OutOk.under (S := S) this
        cases ex' <;> exact h2
      · subst hb
        refine Code.wp_mono (fun ex' a w hq => ?_) (ex_ok Γ hK hW hm y S.fresh o2 a w h2 (by simpa using hok.2) H.fresh)
        have : OutOk Γ.toEnv base w0 Γ.res { ok := bif false then o1.ok else o2.ok, tag := Tg.mix false o1.tag o2.tag, nrm := n, exs := e, ret := r } ex' a w := by
          cases ex' with
          | normal => exact ⟨hq.1, joinO_ok hn a1.1 a2.1 (fun hf => by cases hf) (fun _ => hq.2)⟩
          | exit id => exact ⟨hq.1, joinX_ok he a1.2 a2.2 (fun hf => by cases hf) (fun _ => hq.2)⟩
          | ret => exact ⟨hq.1, joinR_ok hr (fun hf => by cases hf) (fun _ => hq.2)⟩
          | goto l => exact hq
          | panic ch => exact hq
          | outgrown => exact hq
        have h2 := OutOk.under (S := S) this
        cases ex' <;> exact h2
    · cases h
  | .block id c, S, o, a, w, h, hok, H => by
    simp only [ex, Option.bind_eq_some_iff, Option.map_eq_some_iff] at h
    obtain ⟨o1, h1, o2, h2, rfl⟩ := h
    have a1 := ex_agree Γ c S.fresh o1 h1
    simp only [Out.block, Option.map_eq_some_iff] at h2
    obtain ⟨n, hn, rfl⟩ := h2
    have hag : ∀ S', o1.exs.lookup id = some S' → Agree S.fresh S' := fun S' e => a1.2 (id, S') (lookup_mem e)
    refine wp_block (Code.wp_mono (fun ex' a w hq => ?_) (ex_ok Γ hK hW hm c S.fresh o1 a w h1 hok H.fresh))
    cases ex' with
    | normal =>
      obtain ⟨ht, hs⟩ := hq
      have hN : o1.tag.isN = true := by rw [ht]; rfl
      exact OutOk.under (E := Γ.toEnv) (res := Γ.res) (e := .normal) ⟨by show o1.tag.block id = _; rw [ht]; rfl, joinO_ok hn a1.1 hag (fun _ => hs) (fun hf => by rw [hN] at hf; cases hf)⟩
    | exit id' =>
      obtain ⟨ht, hs⟩ := hq
      have hN : o1.tag.isN = false := by rw [ht]; rfl
      simp only [Exit.inBlock]
      split
      · rename_i e
        subst e
        exact OutOk.under (E := Γ.toEnv) (res := Γ.res) (e := .normal) ⟨by show o1.tag.block id' = _; rw [ht]; simp [Tg.block], joinO_ok hn a1.1 hag (fun hf => by rw [hN] at hf; cases hf) (fun _ => hs)⟩
      · rename_i e
        refine OutOk.under (E := Γ.toEnv) (res := Γ.res) (e := .exit id') ⟨by show o1.tag.block id = _; rw [ht]; simp [Tg.block, e], ?_⟩
        obtain ⟨S', e1, e2⟩ := hs
        exact ⟨S', by rw [lookup_filter e]; exact e1, e2⟩
    | ret =>
      obtain ⟨ht, hs⟩ := hq
      exact OutOk.under (E := Γ.toEnv) (res := Γ.res) (e := .ret) ⟨by show o1.tag.block id = _; rw [ht]; rfl, hs⟩
    | goto l => exact hq
    | panic ch => exact hq
    | outgrown => exact hq
  | .loop c, S, o, a, w, h, hok, H => by
    simp only [ex, exLoop, Option.bind_eq_some_iff] at h
    obtain ⟨T, hT, x0, hx0, h⟩ := h
    split at h
    · rename_i hlen
      simp only [Option.map_eq_some_iff] at h
      obtain ⟨o', ho, rfl⟩ := h
      generalize hf : (fun xs => match ex Γ c (T.mk' S.fresh xs) with
        | some o => match o.nrm with
          | some B => match T.coe S.fresh B with
            | some ys => (o.ok, o.tag.isN, ys)
            | none => (false, false, [])
          | none => (o.ok, false, [])
        | none => (false, false, [])) = f at ho hok
      simp only [Out.under, Bool.and_eq_true] at hok
      obtain ⟨hy, hok'⟩ := hok
      obtain ⟨y, hy⟩ := Option.isSome_iff_exists.1 hy
      rw [hy] at ho
      simp only [Option.getD_some] at ho
      obtain ⟨k, hk⟩ := hW _ _ _ hy
      have start : SimE Γ.toEnv base w0 (T.mk' S.fresh x0) a w := by
        obtain ⟨X, HX⟩ := H.fresh
        obtain ⟨X', H', hl⟩ := Tmpl.coe_sim HX (Agree.refl _) hx0
        exact ⟨X', by rw [hl]; exact H'⟩
      have back : ∀ (x : List Sc) (ob : Out) (B : St) (ys : List Sc) (a : Act) (w : World), ex Γ c (T.mk' S.fresh x) = some ob → ob.nrm = some B → T.coe S.fresh B = some ys → SimE Γ.toEnv base w0 B a w →
          SimE Γ.toEnv base w0 (T.mk' S.fresh ys) a w := by
        intro x ob B ys a w hb hB hc hs
        have ag : Agree S.fresh B := (mk'_agree hlen).trans ((ex_agree Γ c _ ob hb).1 B hB)
        obtain ⟨X, HX⟩ := hs
        obtain ⟨X', H', hl⟩ := Tmpl.coe_sim HX ag hc
        exact ⟨X', by rw [hl]; exact H'⟩
      refine wp_loop_rounds k (whileN_inv (f := f) (I := fun x a w => SimE Γ.toEnv base w0 (T.mk' S.fresh x) a w) (y := y) ?_ ?_ k x0 a w hk start)
      · intro z a w hfz hI
        refine Code.wp_mono (fun e a w hq => ?_) (ex_ok Γ hK hW hm c _ o' a w ho hok' hI)
        cases e with
        | normal =>
          obtain ⟨ht, B, hB, _⟩ := hq
          rw [← hf] at hfz
          simp only [ho, hB] at hfz
          split at hfz
          · simp only [Prod.mk.injEq] at hfz
            rw [ht] at hfz
            exact absurd hfz.2.1 (by simp [Tg.isN])
          · simp at hfz
        | exit id => exact OutOk.under (E := Γ.toEnv) (res := Γ.res) (e := .exit id) (o := { o' with ok := _, nrm := none }) hq
        | ret => exact OutOk.under (E := Γ.toEnv) (res := Γ.res) (e := .ret) (o := { o' with ok := _, nrm := none }) hq
        | goto l => exact hq
        | panic ch => exact hq
        | outgrown => exact hq
      · intro x z a w hfx hI
        rw [← hf] at hfx
        simp only at hfx
        split at hfx
        · rename_i ob hob
          split at hfx
          · rename_i B hB
            split at hfx
            · rename_i ys hys
              simp only [Prod.mk.injEq] at hfx
              obtain ⟨h1, h2, rfl⟩ := hfx
              have hN : ob.tag = .n := by
                revert h2
                cases ob.tag <;> simp [Tg.isN]
              refine Code.wp_mono (fun e a w hq => ?_) (ex_ok Γ hK hW hm c _ ob a w hob h1 hI)
              cases e with
              | normal =>
                obtain ⟨_, B', hB', hs⟩ := hq
                rw [hB] at hB'
                cases hB'
                exact back x ob B ys a w hob hB hys hs
              | exit id => obtain ⟨ht, _⟩ := hq; rw [hN] at ht; cases ht
              | ret => obtain ⟨ht, _⟩ := hq; rw [hN] at ht; cases ht
              | goto l => exact hq
              | panic ch => exact hq
              | outgrown => exact hq
            · simp at hfx
          · simp at hfx
        · simp at hfx
    · cases h
  | .exit id, S, o, a, w, h, hok, H => by
    simp only [ex, Option.some.injEq] at h
    subst h
    exact wp_exit ⟨rfl, S, by simp [List.lookup_cons], H⟩
  | .ret, S, o, a, w, h, hok, H => by
    simp only [ex, Option.map_eq_some_iff, Prod.exists] at h
    obtain ⟨ok, vs, h1, rfl⟩ := h
    obtain ⟨X, HX⟩ := H
    obtain ⟨h2, h3⟩ := retAV_ok HX h1 hok
    exact wp_ret ⟨rfl, vs, rfl, HX.defers, X.lent, rfl, rfl, lent_ok HX.ok, h2, h3⟩
  | .rangeFunc _ _ _ _, S, o, a, w, h, hok, H => by simp only [ex, reduceCtorEq] at h
  | .scope _, S, o, a, w, h, hok, H => by simp only [ex, reduceCtorEq] at h
  | .goto _, S, o, a, w, h, hok, H => by simp only [ex, reduceCtorEq] at h
  | .refuse _, S, o, a, w, h, hok, H => by simp only [ex, reduceCtorEq] at h
end Go.Proofs.YtlidfaaajjfgfaaDoor.Ab
