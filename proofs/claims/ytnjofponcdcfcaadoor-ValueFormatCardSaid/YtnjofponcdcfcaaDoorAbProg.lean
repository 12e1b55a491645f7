/- What a function makes of its caller's rows. -/
import Derived.Test.YtnjofponcdcfcaaDoorAbDraw
import Derived.LoopN
set_option linter.unusedVariables false
set_option linter.all false
namespace Go.Proofs.YtnjofponcdcfcaaDoor.Ab
open Go.RowKit

/-! ### Code -/
/-- How a piece of code ends: in order, at an exit, with return. -/
inductive Tg where
  | n | x (id : Nat) | r
  deriving DecidableEq, Inhabited

def Tg.isN : Tg → Bool | .n => true | _ => false
def Tg.thenN (t : Tg) (u : Tg) : Tg := match t with | .n => u | t => t
def Tg.mix (c : Bool) (t u : Tg) : Tg := sIf c t u
def Tg.block (id : Nat) : Tg → Tg | .x i => if i = id then .n else .x i | t => t

structure Out where
  ok : Bool
  tag : Tg
  nrm : Option St
  exs : List (Nat × St)
  ret : Option (List AV)
  deriving Inhabited

/-- Numbers of growths on both sides, the greater. -/
def joinRow (x y : Option Row) : Option Row :=
  match x, y with
  | some (.box cs), some (.box ds) => if cs.length = ds.length then some (.box (AV.joinL (fun _ => none) cs ds)) else none
  | some (.arr g s xs), some (.arr g' s' _) => if s = s' then some (.arr (max g g') s xs) else none
  | some (.arr g s xs), none => some (.arr g s xs)
  | none, some (.arr g s xs) => some (.arr g s xs)
  | _, _ => none

def rangeFrom (a b : Nat) : List Nat := (List.range (b - a)).map (a + ·)

/-- What two values of two states have in common; nothing, where a reference is of old. -/
def meet (gA gB : Nat → Option (Nat × Nat)) (gT : Nat → Option Nat) (va vb : AV) : AV :=
  let a := va.join gT vb
  if a.all (fun _ _ => false) || ((a.coe gA gT va).isSome && (a.coe gB gT vb).isSome) then a else .unk
def meetL (gA gB : Nat → Option (Nat × Nat)) (gT : Nat → Option Nat) : List AV → List AV → List AV
  | a :: cs, b :: ds => meet gA gB gT a b :: meetL gA gB gT cs ds
  | _, _ => []

/-- A template for two states that come of one; rows up to len. -/
def tmplOf (S0 A B : St) (len : Nat) : Tmpl :=
  let rs0 := (forceN A.dr fun x => forceN B.dr fun y => unionN x y).elems S0.rows.length
  let new := rangeFrom S0.rows.length len
  let rows : List (Nat × Option Row) := (rs0 ++ new).map fun r => (r, joinRow (A.rows.get r) (B.rows.get r))
  let rows := rows.filter fun p => decide (p.1 < S0.rows.length) || p.2.isSome
  let gT := fun r => match rows.lookup r with
    | some (some (.arr g _ _)) => some g
    | some _ => none
    | none => (genS S0.rows r).map (·.1)
  let rows := rows.map fun p => match p.2, A.rows.get p.1, B.rows.get p.1 with
    | some (.box _), some (.box cs), some (.box ds) => (p.1, some (.box (meetL (genS A.rows) (genS B.rows) gT cs ds)))
    | _, _, _ => p
  let ts := ((forceN A.dt fun x => forceN B.dt fun y => unionN x y).elems S0.tmps.length).map fun t => (t, meet (genS A.rows) (genS B.rows) gT (A.tmps.getD t .unk) (B.tmps.getD t .unk))
  { ts := ts, rs := rows, len := len }

/-- Two states that come of S0 meet: the one if c, else the other. -/
def joinSt1 (c : Bool) (S0 A B : St) : Option St :=
  let T := tmplOf S0 A B (max A.rows.length B.rows.length)
  (T.coe S0 A).bind fun xs => (T.coe S0 B).bind fun ys => if xs.length = ys.length then some (T.mk' S0 (mixL c xs ys)) else none
def joinSt (c : Bool) (S0 A B : St) : Option St := match align S0 A B with
  | (A', B') => joinSt1 c S0 A' B'

def joinO (c : Bool) (S0 : St) : Option St → Option St → Option (Option St)
  | some A, some B => (joinSt c S0 A B).map some
  | some A, none => some (some A)
  | none, some B => some (some B)
  | none, none => some none

def joinX (c : Bool) (S0 : St) : List (Nat × St) → List (Nat × St) → Option (List (Nat × St))
  | [], ys => some ys
  | (i, A) :: xs, ys => (joinO c S0 (some A) (ys.lookup i)).bind fun r => (joinX c S0 xs (ys.filter fun p => p.1 != i)).map fun rest => match r with | some S => (i, S) :: rest | none => rest

def joinL2 (c : Bool) (vs us : List AV) : Option (List AV) :=
  let t := AV.joinL (fun _ => none) vs us
  (AV.coeL (fun _ => none) (fun _ => none) t vs).bind fun xs => (AV.coeL (fun _ => none) (fun _ => none) t us).bind fun ys => if xs.length = ys.length ∧ AV.allL (fun _ _ => false) (AV.fillL t (mixL c xs ys)).1 = true then some (AV.fillL t (mixL c xs ys)).1 else none

def joinR (c : Bool) : Option (List AV) → Option (List AV) → Option (Option (List AV))
  | some A, some B => (joinL2 c A B).map some
  | some A, none => some (some A)
  | none, some B => some (some B)
  | none, none => some none

def St.fresh (S : St) : St := { S with dt := .nil, dr := .nil }
def St.under (S S' : St) : St := forceN S.dt fun d => forceN S'.dt fun d' => forceN S.dr fun r => forceN S'.dr fun r' => { S' with dt := unionN d d', dr := unionN r r' }
theorem St.under_eq (S S' : St) : S.under S' = { S' with dt := unionN S.dt S'.dt, dr := unionN S.dr S'.dr } := by
  unfold St.under
  rw [forceN_eq, forceN_eq, forceN_eq, forceN_eq]
def Out.under (S : St) (o : Out) : Out := { o with nrm := o.nrm.map (S.under ·), exs := o.exs.map fun p => (p.1, S.under p.2) }

/-- Two branches. -/
def Out.cond (c : Bool) (S0 : St) (o1 o2 : Out) : Option Out :=
  (joinO c S0 o1.nrm o2.nrm).bind fun n => (joinX c S0 o1.exs o2.exs).bind fun e => (joinR c o1.ret o2.ret).map fun r =>
    { ok := sIf c o1.ok o2.ok, tag := Tg.mix c o1.tag o2.tag, nrm := n, exs := e, ret := r }

/-- One behind the other: o2 begins at o1's state. -/
def Out.seq (S0 : St) (o1 o2 : Out) : Option Out :=
  (joinX o1.tag.isN S0 o2.exs o1.exs).bind fun e => (joinR o1.tag.isN o2.ret o1.ret).map fun r =>
    { ok := sAnd o1.ok (sIf o1.tag.isN o2.ok true), tag := o1.tag.thenN o2.tag, nrm := o2.nrm, exs := e, ret := r }

def Out.block (id : Nat) (S0 : St) (o : Out) : Option Out :=
  (joinO o.tag.isN S0 o.nrm (o.exs.lookup (id + 1))).map fun n =>
    { o with tag := o.tag.block id, nrm := n, exs := o.exs.filter fun p => p.1 != id + 1 }

/-- One round after another. -/
def whileN (f : List Sc → Bool × Bool × List Sc) : Nat → List Sc → Option (List Sc)
  | 0, _ => none
  | k + 1, x => match f x with
    | (true, true, y) => whileN f k y
    | (true, false, _) => some x
    | (false, _, _) => none

/-- What the reading of a function's code needs besides. -/
structure Fx extends Env where
  res : List ResultVar
  W : (List Sc → Bool × Bool × List Sc) → List Sc → Option (List Sc)
  rounds : Nat
  /-- Whether the function is read in place: its returns keep the rows. -/
  inp : Bool := false
  /-- Of a closed run: which way a test goes that is not told apart; the run's condition says so. -/
  orc : List (Nat × Bool) := []
  /-- Tests that can be reckoned: only the branch that is taken is read. -/
  lits : List Nat := []
  /-- Loops are read round by round, so many at most (0: by their states). -/
  unroll : Nat := 0

def orcOf (Γ : Fx) : Operand → Option Bool
  | .tmp t => Γ.orc.lookup t
  | _ => none

def litOf (Γ : Fx) : Operand → Bool
  | .tmp t => Γ.lits.contains t
  | _ => false


def retAV (E : Env) (S : St) : List ResultVar → Option (Bool × List AV)
  | [] => some (true, [])
  | .tmp t :: rs => (S.opd E (.tmp t)).bind fun (ok, v) => (v.lend S.rows).bind fun u => if u.all (fun _ _ => false) then (retAV E S rs).map fun (ok', us) => (sAnd ok ok', u :: us) else none
  | .cell _ _ :: _ => none

/-- The next try: A, the head as it was tried; B, what a round made of it. -/
def nextTmpl (S0 A B : St) : Tmpl :=
  -- rows of the round that go on: those that a temporary of the head needs
  let pairOk : Nat → AV → AV → Bool := fun r a b => match a, b with
      | .nils, .own r' _ => r' == r
      | .own r'' _, .own r' _ => r' == r && r'' == r
      | _, _ => false
  let live := (rangeFrom S0.rows.length B.rows.length).filter fun r => match B.rows.get r with
    | some (.arr _ _ _) => (((forceN A.dt fun x => forceN B.dt fun y => unionN x y).elems S0.tmps.length).any fun t => pairOk r (A.tmps.getD t .unk) (B.tmps.getD t .unk)) ||
        (((forceN A.dr fun x => forceN B.dr fun y => unionN x y).elems S0.rows.length).any fun q => match A.rows.get q, B.rows.get q with
          | some (.box cs), some (.box ds) => (cs.zip ds).any fun p => pairOk r p.1 p.2
          | _, _ => false)
    | _ => false
  let okRef : AV → Bool := fun v => v.all (fun r _ => decide (r < A.rows.length) || live.contains r)
  let len := live.foldl (fun m r => max m (r + 1)) A.rows.length
  let T' := tmplOf S0 A B len
  { T' with rs := (T'.rs.filter (fun p => decide (p.1 < A.rows.length) || live.contains p.1)).map (fun p => match p.2 with
              | some (.box cs) => (p.1, some (.box (cs.map fun v => if okRef v then v else .unk)))
              | _ => p),
            ts := T'.ts.map fun p => if okRef p.2 then p else (p.1, .unk) }

def loopTmpl (body : St → Option Out) (S0 : St) : Nat → Tmpl → Option Tmpl
  | 0, _ => none
  | k + 1, T => (T.coe S0 S0).bind fun xs =>
    let A := T.mk' S0 xs
    (body A).bind fun o => match o.nrm with
      | none => some T
      | some B => match T.coe S0 (alignB S0 A B) with
        | some _ => some T
        | none => loopTmpl body S0 k (nextTmpl S0 A (alignB S0 A B))

def exLoop (W : (List Sc → Bool × Bool × List Sc) → List Sc → Option (List Sc)) (rounds : Nat) (body : St → Option Out) (S : St) : Option Out :=
  let S0 := S.fresh
  (loopTmpl body S0 rounds { ts := [], rs := [], len := S0.rows.length }).bind fun T => (T.coe S0 S0).bind fun x0 =>
    if S0.rows.length ≤ T.len then
      let step := fun xs => match body (T.mk' S0 xs) with
        | some o => match o.nrm with
          | some B => match T.coe S0 (alignB S0 (T.mk' S0 xs) B) with
            | some ys => (o.ok, o.tag.isN, ys)
            | none => (false, false, [])
          | none => (o.ok, false, [])
        | none => (false, false, [])
      let y := W step x0
      (body (T.mk' S0 (y.getD x0))).map fun o => ({ o with ok := sAnd (sSome y) o.ok, nrm := none } : Out).under S
    else none

/-- One operation of a closed run: whether a guarded one is wanted may be said beforehand. -/
def exOpO (Γ : Fx) (ops : Array Oper) (S : St) (o : Oper) : Option (Bool × St) :=
  match o.guard with
  | none => exOp Γ.toEnv ops S o
  | some (j, want) => match ((ops[j]?).bind (·.dst)).bind fun t => Γ.orc.lookup t with
    | none => exOp Γ.toEnv ops S o
    | some d => (guardB ops S j want).bind fun c => if d = want then (exOp Γ.toEnv ops S { o with guard := none }).map fun (ok, S') => (sAnd c ok, S') else some (sNot c, S.after o.dst .unk S.rows.length none)
def exOpsO (Γ : Fx) (ops : Array Oper) : List Oper → St → Option (Bool × St)
  | [], S => some (true, S)
  | o :: rest, S => (exOpO Γ ops S o).bind fun (ok, S1) => (exOpsO Γ ops rest S1).map fun (ok', S2) => (sAnd ok ok', S2)

theorem exOpO_agree {Γ : Fx} (hK : EnvOk Γ.toEnv) {ops : Array Oper} {S S' : St} {o : Oper} {ok : Bool} (h : exOpO Γ ops S o = some (ok, S')) : Agree S S' := by
  unfold exOpO at h
  split at h
  · exact exOp_agree hK h
  · split at h
    · exact exOp_agree hK h
    · simp only [Option.bind_eq_some_iff] at h
      obtain ⟨c, _, h⟩ := h
      split at h
      · simp only [Option.map_eq_some_iff, Prod.exists, Prod.mk.injEq] at h
        obtain ⟨ok1, S1, h1, _, rfl⟩ := h
        exact exOp_agree hK h1
      · cases h
        exact Agree.putT S _ _
theorem exOpsO_agree {Γ : Fx} (hK : EnvOk Γ.toEnv) {ops : Array Oper} : ∀ {l : List Oper} {S S' : St} {ok : Bool}, exOpsO Γ ops l S = some (ok, S') → Agree S S'
  | [], S, S', ok, h => by cases h; exact Agree.refl S
  | o :: rest, S, S', ok, h => by
    simp only [exOpsO, Option.bind_eq_some_iff, Option.map_eq_some_iff, Prod.exists, Prod.mk.injEq] at h
    obtain ⟨ok1, S1, h1, ok2, S2, h2, _, rfl⟩ := h
    exact (exOpO_agree hK h1).trans (exOpsO_agree hK h2)
theorem wp_guard {P : Program} {o : Oper} {a : Act} {w : World} {K : Act → World → Prop} {Q : Exit → Act → World → Prop} (h : Oper.wp P { o with guard := none } a w K Q) : Oper.wp P o a w K Q := by
  obtain ⟨dst, op, ty, pos, after, guard⟩ := o
  exact h
theorem exOpO_wp {Γ : Fx} {base : Nat} {w0 : Start} {w : World} {S S' : St} {a : Act} (hK : EnvOk Γ.toEnv) (H : SimE Γ.toEnv base w0 S a w) {ops : Array Oper} {o : Oper} {ok : Bool} (h : exOpO Γ ops S o = some (ok, S')) (hok : ok = true)
    {K : Act → World → Prop} {Q : Exit → Act → World → Prop} (hk : ∀ a' w', SimE Γ.toEnv base w0 S' a' w' → K a' w') :
    if Region.wanted o (yielded ops a.tmps) then o.wp Γ.P a w K Q else K (a.put o.dst undef) w := by
  unfold exOpO at h
  split at h
  · exact exOp_wp hK H h hok hk
  · rename_i j want hg
    split at h
    · exact exOp_wp hK H h hok hk
    · rename_i d hd
      simp only [Option.bind_eq_some_iff] at h
      obtain ⟨c, hc, h⟩ := h
      have hw : Region.wanted o (yielded ops a.tmps) = c := by
        obtain ⟨X, HX⟩ := H
        exact guardB_ok HX hg hc
      rw [hw]
      split at h
      · simp only [Option.map_eq_some_iff, Prod.exists, Prod.mk.injEq] at h
        obtain ⟨ok1, S1, h1, rfl, rfl⟩ := h
        simp only [Bool.and_eq_true] at hok
        obtain ⟨rfl, hok⟩ := hok
        rw [if_pos rfl]
        have := exOp_wp (Q := Q) hK H h1 hok hk
        rw [if_pos (by simp [Region.wanted])] at this
        exact wp_guard this
      · simp only [Option.some.injEq, Prod.mk.injEq] at h
        obtain ⟨rfl, rfl⟩ := h
        simp only [Bool.not_eq_true'] at hok
        subst hok
        rw [if_neg (by simp)]
        obtain ⟨X, HX⟩ := H
        have hp : QPost X w S.rows.length .unk none undef w := ⟨X.F, none, Below.refl _ _, fun _ h => h, fun _ h => .inl h, HX.ok.fresh, by simp only [Rel]⟩
        obtain ⟨X', H'⟩ := Sim.after HX (Nat.le_refl _) (get_end _) (dst := o.dst) hp (by simp [okRefs, AV.all]) (by simp [okNew])
        exact hk _ _ ⟨X', H'.le (after_length ..)⟩
theorem exOpsO_wp {Γ : Fx} {base : Nat} {w0 : Start} (hK : EnvOk Γ.toEnv) {ops : Array Oper} {Q : Exit → Act → World → Prop} : ∀ {l : List Oper} {S S' : St} {a : Act} {w : World} {ok : Bool},
    SimE Γ.toEnv base w0 S a w → exOpsO Γ ops l S = some (ok, S') → ok = true → (∀ a' w', SimE Γ.toEnv base w0 S' a' w' → Q .normal a' w') → wpList Γ.P ops Q l a w
  | [], S, S', a, w, ok, H, h, hok, hk => by cases h; exact hk a w H
  | o :: rest, S, S', a, w, ok, H, h, hok, hk => by
    simp only [exOpsO, Option.bind_eq_some_iff, Option.map_eq_some_iff, Prod.exists, Prod.mk.injEq] at h
    obtain ⟨ok1, S1, h1, ok2, S2, h2, h3, rfl⟩ := h
    rw [← h3, Bool.and_eq_true] at hok
    have := exOpO_wp (K := wpList Γ.P ops Q rest) (Q := Q) hK H h1 hok.1 (fun a' w' H' => exOpsO_wp hK H' h2 hok.2 hk)
    unfold wpList
    split
    · rename_i hw; rw [if_pos hw] at this; exact .inl this
    · rename_i hw; rw [if_neg hw] at this; exact this

/-- A loop round by round. -/
def exUnroll (body : St → Option Out) : Nat → St → Option Out
  | 0, _ => none
  | k + 1, S => (body S).bind fun o1 => match o1.nrm with
    | none => some o1
    | some S1 => (exUnroll body k S1).bind fun o2 => Out.seq S o1 o2

def isPanicOp (o : Oper) : Bool := match o.op with | .panic _ => true | _ => false
def isPanic : Code → Bool
  | .region _ ops _ => ops.toList.any isPanicOp
  | .seq _ b => isPanic b
  | _ => false

def ex (Γ : Fx) : Code → St → Option Out
  | .skip, S => some { ok := true, tag := .n, nrm := some S, exs := [], ret := none }
  | .label _, S => some { ok := true, tag := .n, nrm := some S, exs := [], ret := none }
  | .region _ ops draw, S => match (if draw then exDraw Γ.toEnv ops S else exOpsO Γ ops ops.toList S) with
    | some (ok, S') => some { ok := ok, tag := .n, nrm := some S', exs := [], ret := none }
    | none => if ops.toList.any isPanicOp then some { ok := false, tag := .n, nrm := none, exs := [], ret := none } else none
  | .seq a b, S => (ex Γ a S).bind fun o1 => match o1.nrm with
    | none => some o1
    | some S1 => (ex Γ b S1).bind fun o2 => Out.seq S o1 o2
  | .cond c x y, S => match S.opd Γ.toEnv c with
    | some (ok, .bool b) => match orcOf Γ c with
      | some true => (ex Γ x S).map fun o => { o with ok := sAnd (sAnd ok b) o.ok }
      | some false => (ex Γ y S).map fun o => { o with ok := sAnd (sAnd ok (sNot b)) o.ok }
      | none => if litOf Γ c = true then (bif b then ex Γ x S else ex Γ y S).map fun o => { o with ok := sAnd ok o.ok }
        else (ex Γ x S.fresh).bind fun o1 => (ex Γ y S.fresh).bind fun o2 => (Out.cond b S.fresh o1 o2).map fun o => { o.under S with ok := sAnd ok o.ok }
    | _ => none
  | .block id c, S => (ex Γ c S.fresh).bind fun o => (Out.block id S.fresh o).map fun o => o.under S
  | .loop c, S => if Γ.unroll = 0 then exLoop Γ.W Γ.rounds (ex Γ c) S else exUnroll (ex Γ c) Γ.unroll S
  | .exit id, S => some { ok := true, tag := .x id, nrm := none, exs := [(id + 1, S)], ret := none }
  | .ret, S => if Γ.inp then some { ok := true, tag := .r, nrm := none, exs := [(0, S)], ret := none } else (retAV Γ.toEnv S Γ.res).map fun (ok, vs) => { ok := ok, tag := .r, nrm := none, exs := [], ret := some vs }
  | _, _ => none

/-! ### That the reading is right -/
theorem SimE.rows_eq {E : Env} {base : Nat} {w0 : Start} {S S' : St} {a : Act} {w : World} (h : SimE E base w0 S a w) (ht : S'.tmps = S.tmps) (hr : S'.rows = S.rows) (hg : S'.gho = S.gho) : SimE E base w0 S' a w := by
  obtain ⟨X, H⟩ := h
  refine ⟨X, ?_⟩
  rw [hr]
  exact ⟨by rw [hr]; exact H.rows, H.ok, by rw [ht]; exact H.size, H.defers, by rw [ht, hr]; exact H.tmp, H.glob, by rw [hg, hr]; exact H.gho⟩

theorem SimE.under {E : Env} {base : Nat} {w0 : Start} {S S' : St} {a : Act} {w : World} (h : SimE E base w0 S' a w) : SimE E base w0 (S.under S') a w := h.rows_eq (by rw [St.under_eq]) (by rw [St.under_eq]) (by rw [St.under_eq])
theorem SimE.fresh {E : Env} {base : Nat} {w0 : Start} {S : St} {a : Act} {w : World} (h : SimE E base w0 S a w) : SimE E base w0 S.fresh a w := h.rows_eq rfl rfl rfl

theorem Agree.under {S S' : St} (h : Agree S.fresh S') : Agree S (S.under S') := by
  rw [St.under_eq]
  exact {
    len := h.len
    tmp := fun t ht => h.tmp t fun h' => ht (mem_unionN.2 (.inr h'))
    rlen := h.rlen
    row := fun r hr ht => h.row r hr fun h' => ht (mem_unionN.2 (.inr h'))
    dt := fun t ht => mem_unionN.2 (.inl ht)
    dr := fun r hr => mem_unionN.2 (.inl hr)
    gho := h.gho }

theorem joinSt1_agree {c : Bool} {S0 A B S : St} (h : joinSt1 c S0 A B = some S) (hA : Agree S0 A) : Agree S0 S := by
  simp only [joinSt1, Option.bind_eq_some_iff] at h
  obtain ⟨xs, _, ys, _, h⟩ := h
  split at h
  · cases h
    exact mk'_agree (T := tmplOf S0 A B (max A.rows.length B.rows.length)) (Nat.le_trans hA.rlen (Nat.le_max_left _ _))
  · cases h

theorem joinSt_agree {c : Bool} {S0 A B S : St} (h : joinSt c S0 A B = some S) (hA : Agree S0 A) : Agree S0 S := by
  unfold joinSt at h
  have hal := align_ok (P := Agree S0) (Q := fun _ => True) (S0 := S0) (fun S p q h => h.swap p q) (fun _ _ _ h => h) A B
  generalize align S0 A B = AB at h hal
  obtain ⟨A', B'⟩ := AB
  exact joinSt1_agree h (hal.1 hA)

theorem joinSt1_ok {E : Env} {base : Nat} {w0 : Start} {a : Act} {w : World} {c : Bool} {S0 A B S : St} (h : joinSt1 c S0 A B = some S) (hA : Agree S0 A) (hB : Agree S0 B)
    (h1 : c = true → SimE E base w0 A a w) (h2 : c = false → SimE E base w0 B a w) : SimE E base w0 S a w := by
  simp only [joinSt1, Option.bind_eq_some_iff] at h
  obtain ⟨xs, hx, ys, hy, h⟩ := h
  split at h
  · rename_i hl
    cases h
    cases c with
    | true =>
      rw [mixL_true hl]
      obtain ⟨X, H⟩ := h1 rfl
      obtain ⟨X', H', hlen⟩ := Tmpl.coe_sim H hA hx
      exact ⟨X', by rw [hlen]; exact H'⟩
    | false =>
      rw [mixL_false hl]
      obtain ⟨X, H⟩ := h2 rfl
      obtain ⟨X', H', hlen⟩ := Tmpl.coe_sim H hB hy
      exact ⟨X', by rw [hlen]; exact H'⟩
  · cases h

theorem joinSt_ok {E : Env} {base : Nat} {w0 : Start} {a : Act} {w : World} {c : Bool} {S0 A B S : St} (h : joinSt c S0 A B = some S) (hA : Agree S0 A) (hB : Agree S0 B)
    (h1 : c = true → SimE E base w0 A a w) (h2 : c = false → SimE E base w0 B a w) : SimE E base w0 S a w := by
  unfold joinSt at h
  have hal := align_ok (P := fun S => Agree S0 S ∧ (c = true → SimE E base w0 S a w)) (Q := fun S => Agree S0 S ∧ (c = false → SimE E base w0 S a w)) (S0 := S0)
    (fun S p q h => ⟨h.1.swap p q, fun e => (h.2 e).swap p q⟩) (fun S p q h => ⟨h.1.swap p q, fun e => (h.2 e).swap p q⟩) A B
  generalize align S0 A B = AB at h hal
  obtain ⟨A', B'⟩ := AB
  have ha := hal.1 ⟨hA, h1⟩
  have hb := hal.2 ⟨hB, h2⟩
  exact joinSt1_ok h ha.1 hb.1 ha.2 hb.2

theorem joinO_agree {c : Bool} {S0 : St} {A B r : Option St} (h : joinO c S0 A B = some r) (hA : ∀ S, A = some S → Agree S0 S) (hB : ∀ S, B = some S → Agree S0 S) : ∀ S, r = some S → Agree S0 S := by
  intro S hr
  subst hr
  cases A <;> cases B <;> simp only [joinO, Option.map_eq_some_iff, Option.some.injEq, reduceCtorEq, exists_eq_right] at h
  · exact hB _ (by rw [h])
  · exact hA _ (by rw [h])
  · exact joinSt_agree h (hA _ rfl)

theorem joinO_ok {E : Env} {base : Nat} {w0 : Start} {a : Act} {w : World} {c : Bool} {S0 : St} {A B r : Option St} (h : joinO c S0 A B = some r) (hA : ∀ S, A = some S → Agree S0 S) (hB : ∀ S, B = some S → Agree S0 S)
    (h1 : c = true → ∃ S, A = some S ∧ SimE E base w0 S a w) (h2 : c = false → ∃ S, B = some S ∧ SimE E base w0 S a w) : ∃ S, r = some S ∧ SimE E base w0 S a w := by
  cases A with
  | none =>
    cases c with
    | true => obtain ⟨S, e, _⟩ := h1 rfl; cases e
    | false =>
      obtain ⟨S, rfl, hs⟩ := h2 rfl
      simp only [joinO, Option.some.injEq] at h
      exact ⟨S, h.symm, hs⟩
  | some A =>
    cases B with
    | none =>
      cases c with
      | false => obtain ⟨S, e, _⟩ := h2 rfl; cases e
      | true =>
        obtain ⟨S, e, hs⟩ := h1 rfl
        cases e
        simp only [joinO, Option.some.injEq] at h
        exact ⟨A, h.symm, hs⟩
    | some B =>
      simp only [joinO, Option.map_eq_some_iff] at h
      obtain ⟨S, hj, rfl⟩ := h
      refine ⟨S, rfl, joinSt_ok hj (hA A rfl) (hB B rfl) (fun e => ?_) (fun e => ?_)⟩
      · obtain ⟨S', e', hs⟩ := h1 e; cases e'; exact hs
      · obtain ⟨S', e', hs⟩ := h2 e; cases e'; exact hs

theorem lookup_mem {α : Type} : ∀ {l : List (Nat × α)} {i : Nat} {x : α}, l.lookup i = some x → (i, x) ∈ l
  | (j, y) :: l, i, x, h => by
    simp only [List.lookup_cons] at h
    split at h
    · rename_i e
      cases h
      have : i = j := by simpa using e
      subst this
      simp
    · exact List.mem_cons_of_mem _ (lookup_mem h)

theorem lookup_filter {α : Type} {i j : Nat} (h : i ≠ j) : ∀ (l : List (Nat × α)), (l.filter fun p => p.1 != j).lookup i = l.lookup i
  | [] => rfl
  | (k, y) :: l => by
    simp only [List.filter_cons]
    split
    · simp only [List.lookup_cons, lookup_filter h l]
    · rename_i hk
      have : k = j := by simpa using hk
      subst this
      rw [lookup_filter h l, List.lookup_cons]
      have : (i == k) = false := by simpa using h
      rw [this]

theorem joinX_agree {c : Bool} {S0 : St} : ∀ {xs ys r : List (Nat × St)}, joinX c S0 xs ys = some r → (∀ p ∈ xs, Agree S0 p.2) → (∀ p ∈ ys, Agree S0 p.2) → ∀ p ∈ r, Agree S0 p.2
  | [], ys, r, h, _, hy => by simp only [joinX, Option.some.injEq] at h; subst h; exact hy
  | (i, A) :: xs, ys, r, h, hx, hy => by
    simp only [joinX, Option.bind_eq_some_iff, Option.map_eq_some_iff] at h
    obtain ⟨s, hs, rest, hrest, rfl⟩ := h
    have ih := joinX_agree hrest (fun p hp => hx p (List.mem_cons_of_mem _ hp)) (fun p hp => hy p ((List.mem_filter.1 hp).1))
    have hso := joinO_agree hs (fun S e => by cases e; exact hx (i, A) (by simp)) (fun S e => hy (i, S) (lookup_mem e))
    cases s with
    | none => exact ih
    | some S =>
      intro p hp
      rcases List.mem_cons.1 hp with rfl | hp
      · exact hso S rfl
      · exact ih p hp

theorem joinX_ok {E : Env} {base : Nat} {w0 : Start} {a : Act} {w : World} {c : Bool} {S0 : St} {i : Nat} : ∀ {xs ys r : List (Nat × St)}, joinX c S0 xs ys = some r → (∀ p ∈ xs, Agree S0 p.2) → (∀ p ∈ ys, Agree S0 p.2) →
    (c = true → ∃ S, xs.lookup i = some S ∧ SimE E base w0 S a w) → (c = false → ∃ S, ys.lookup i = some S ∧ SimE E base w0 S a w) → ∃ S, r.lookup i = some S ∧ SimE E base w0 S a w
  | [], ys, r, h, _, hy, h1, h2 => by
    simp only [joinX, Option.some.injEq] at h
    subst h
    cases c with
    | true => obtain ⟨S, e, _⟩ := h1 rfl; cases e
    | false => exact h2 rfl
  | (j, A) :: xs, ys, r, h, hx, hy, h1, h2 => by
    simp only [joinX, Option.bind_eq_some_iff, Option.map_eq_some_iff] at h
    obtain ⟨s, hs, rest, hrest, rfl⟩ := h
    have hA := hx (j, A) (by simp)
    by_cases e : i = j
    · subst e
      have hself : ∀ (A : St) (xs : List (Nat × St)), ((i, A) :: xs).lookup i = some A := fun A xs => by simp [List.lookup_cons]
      obtain ⟨S, rfl, hsim⟩ := joinO_ok (E := E) (base := base) (w0 := w0) (a := a) (w := w) hs (fun S e => by cases e; exact hA) (fun S e => hy (i, S) (lookup_mem e))
        (fun ec => by
          obtain ⟨S, e1, e2⟩ := h1 ec
          rw [hself] at e1
          cases e1
          exact ⟨A, rfl, e2⟩) (fun ec => h2 ec)
      exact ⟨S, hself S rest, hsim⟩
    · have hne : (i == j) = false := by simpa using e
      have ih := joinX_ok (E := E) (base := base) (w0 := w0) (a := a) (w := w) (i := i) hrest (fun p hp => hx p (List.mem_cons_of_mem _ hp)) (fun p hp => hy p ((List.mem_filter.1 hp).1))
        (fun ec => by
          obtain ⟨S, e1, e2⟩ := h1 ec
          rw [List.lookup_cons, hne] at e1
          exact ⟨S, e1, e2⟩)
        (fun ec => by
          obtain ⟨S, e1, e2⟩ := h2 ec
          exact ⟨S, by rw [lookup_filter e]; exact e1, e2⟩)
      cases s with
      | none => exact ih
      | some S =>
        obtain ⟨S', e1, e2⟩ := ih
        exact ⟨S', by rw [List.lookup_cons, hne]; exact e1, e2⟩

/-- The values of results. -/
def resVals (res : List ResultVar) (a : Act) : List Value := res.map fun | .tmp t => a.tmps.getD t undef | .cell _ _ => undef

/-- What a return leaves: data. -/
def RetE (base : Nat) (w0 : Start) (res : List ResultVar) (vs : List AV) (a : Act) (w : World) : Prop :=
  a.defers = [] ∧ ∃ X, X.rows = [] ∧ X.φ = (fun _ => none) ∧ RowsOk base w0 0 X w ∧ RelL X vs (resVals res a) ∧ AV.allL (fun _ _ => false) vs = true

theorem Turn.nil (X : Cx) (h : X.rows = []) : Turn X X (fun _ => none) (fun _ => none) := by
  refine ⟨rfl, rfl, fun r cs' hc => ?_, fun r g s xs' hc => ?_⟩ <;> rw [h] at hc <;> simp [Rows.get] at hc

theorem joinR_ok {base : Nat} {w0 : Start} {res : List ResultVar} {a : Act} {w : World} {c : Bool} {A B r : Option (List AV)} (h : joinR c A B = some r)
    (h1 : c = true → ∃ vs, A = some vs ∧ RetE base w0 res vs a w) (h2 : c = false → ∃ vs, B = some vs ∧ RetE base w0 res vs a w) : ∃ vs, r = some vs ∧ RetE base w0 res vs a w := by
  cases A with
  | none =>
    cases c with
    | true => obtain ⟨S, e, _⟩ := h1 rfl; cases e
    | false =>
      obtain ⟨S, rfl, hs⟩ := h2 rfl
      simp only [joinR, Option.some.injEq] at h
      exact ⟨S, h.symm, hs⟩
  | some A =>
    cases B with
    | none =>
      cases c with
      | false => obtain ⟨S, e, _⟩ := h2 rfl; cases e
      | true =>
        obtain ⟨S, e, hs⟩ := h1 rfl
        cases e
        simp only [joinR, Option.some.injEq] at h
        exact ⟨A, h.symm, hs⟩
    | some B =>
      simp only [joinR, Option.map_eq_some_iff] at h
      obtain ⟨vs, hj, rfl⟩ := h
      simp only [joinL2, Option.bind_eq_some_iff] at hj
      obtain ⟨xs, hx, ys, hy, hj⟩ := hj
      split at hj
      · rename_i hc
        cases hj
        refine ⟨_, rfl, ?_⟩
        cases c with
        | true =>
          obtain ⟨S, e, hd, X, hX, hφ, R, hrel, hall⟩ := h1 rfl
          cases e
          rw [mixL_true hc.1] at hc ⊢
          exact ⟨hd, X, hX, hφ, R, by simpa using (AV.coeL_ok (Turn.nil X hX) _ A xs [] _ hx hrel).2, hc.2⟩
        | false =>
          obtain ⟨S, e, hd, X, hX, hφ, R, hrel, hall⟩ := h2 rfl
          cases e
          rw [mixL_false hc.1] at hc ⊢
          exact ⟨hd, X, hX, hφ, R, by simpa using (AV.coeL_ok (Turn.nil X hX) _ B ys [] _ hy hrel).2, hc.2⟩
      · cases hj

def Out.ag (S : St) (o : Out) : Prop := (∀ S', o.nrm = some S' → Agree S S') ∧ ∀ p ∈ o.exs, Agree S p.2

def OutOk (E : Env) (base : Nat) (w0 : Start) (inp : Bool) (res : List ResultVar) (o : Out) : Exit → Act → World → Prop
  | .normal, a, w => o.tag = .n ∧ ∃ S, o.nrm = some S ∧ SimE E base w0 S a w
  | .exit id, a, w => o.tag = .x id ∧ ∃ S, o.exs.lookup (id + 1) = some S ∧ SimE E base w0 S a w
  | .ret, a, w => o.tag = .r ∧ (inp = false → ∃ vs, o.ret = some vs ∧ RetE base w0 res vs a w) ∧ (inp = true → ∃ S, o.exs.lookup 0 = some S ∧ SimE E base w0 S a w)
  | _, _, _ => False

theorem Out.ag.under {S : St} {o : Out} (h : o.ag S.fresh) : (o.under S).ag S := by
  refine ⟨fun S' e => ?_, fun p hp => ?_⟩
  · simp only [Out.under, Option.map_eq_some_iff] at e
    obtain ⟨S1, e1, rfl⟩ := e
    exact (h.1 S1 e1).under
  · simp only [Out.under, List.mem_map] at hp
    obtain ⟨q, hq, rfl⟩ := hp
    exact (h.2 q hq).under

theorem lookup_map {α β : Type} (f : α → β) : ∀ (l : List (Nat × α)) (i : Nat), (l.map fun p => (p.1, f p.2)).lookup i = (l.lookup i).map f
  | [], _ => rfl
  | (j, y) :: l, i => by
    simp only [List.map_cons, List.lookup_cons]
    split
    · rfl
    · exact lookup_map f l i

theorem OutOk.under {E : Env} {base : Nat} {w0 : Start} {inp : Bool} {res : List ResultVar} {S : St} {o : Out} {e : Exit} {a : Act} {w : World} (h : OutOk E base w0 inp res o e a w) : OutOk E base w0 inp res (o.under S) e a w := by
  cases e with
  | normal =>
    obtain ⟨h1, S', h2, h3⟩ := h
    exact ⟨h1, S.under S', by simp [Out.under, h2], h3.under⟩
  | exit id =>
    obtain ⟨h1, S', h2, h3⟩ := h
    refine ⟨h1, S.under S', ?_, h3.under⟩
    show ((o.exs.map fun p => (p.1, S.under p.2)).lookup (id + 1)) = _
    rw [lookup_map, h2]; rfl
  | ret =>
    obtain ⟨h1, h2, h3⟩ := h
    refine ⟨h1, h2, fun hi => ?_⟩
    obtain ⟨S', h4, h5⟩ := h3 hi
    refine ⟨S.under S', ?_, h5.under⟩
    show ((o.exs.map fun p => (p.1, S.under p.2)).lookup 0) = _
    rw [lookup_map, h4]; rfl
  | goto l => exact h
  | panic ch => exact h
  | outgrown => exact h

theorem exLoop_agree {W : (List Sc → Bool × Bool × List Sc) → List Sc → Option (List Sc)} {rounds : Nat} {body : St → Option Out} (hb : ∀ S o, body S = some o → o.ag S) {S : St} {o : Out} (h : exLoop W rounds body S = some o) : o.ag S := by
  simp only [exLoop, Option.bind_eq_some_iff] at h
  obtain ⟨T, _, x0, _, h⟩ := h
  split at h
  · rename_i hlen
    simp only [Option.map_eq_some_iff] at h
    obtain ⟨o', ho, rfl⟩ := h
    have h1 := hb _ _ ho
    have h2 := fun xs => mk'_agree (T := T) (S0 := S.fresh) (xs := xs) hlen
    refine Out.ag.under ?_
    exact ⟨fun S' e => (by cases e), fun p hp => (h2 _).trans (h1.2 p hp)⟩
  · cases h

theorem seq_agree {S S1 : St} {o1 o2 o : Out} (a1 : o1.ag S) (hS1 : o1.nrm = some S1) (a2 : o2.ag S1) (h : Out.seq S o1 o2 = some o) : o.ag S := by
  have aS := a1.1 S1 hS1
  simp only [Out.seq, Option.bind_eq_some_iff, Option.map_eq_some_iff] at h
  obtain ⟨e, he, r, hr, rfl⟩ := h
  exact ⟨fun S' e' => aS.trans (a2.1 S' e'), joinX_agree he (fun p hp => aS.trans (a2.2 p hp)) a1.2⟩
theorem exUnroll_agree {body : St → Option Out} (hb : ∀ S o, body S = some o → o.ag S) : ∀ (k : Nat) (S : St) (o : Out), exUnroll body k S = some o → o.ag S
  | 0, _, _, h => by cases h
  | k + 1, S, o, h => by
    simp only [exUnroll, Option.bind_eq_some_iff] at h
    obtain ⟨o1, h1, h⟩ := h
    have a1 := hb S o1 h1
    split at h
    · cases h; exact a1
    · rename_i S1 hS1
      simp only [Option.bind_eq_some_iff] at h
      obtain ⟨o2, h2, h⟩ := h
      exact seq_agree a1 hS1 (exUnroll_agree hb k S1 o2 h2) h

theorem ex_agree (Γ : Fx) (hK : EnvOk Γ.toEnv) : ∀ (c : Code) (S : St) (o : Out), ex Γ c S = some o → o.ag S
  | .skip, S, o, h => by
    simp only [ex, Option.some.injEq] at h
    subst h
    exact ⟨fun S' e => by cases e; exact Agree.refl S, fun p hp => by cases hp⟩
  | .label _, S, o, h => by
    simp only [ex, Option.some.injEq] at h
    subst h
    exact ⟨fun S' e => by cases e; exact Agree.refl S, fun p hp => by cases hp⟩
  | .region id ops draw, S, o, h => by
    simp only [ex] at h
    split at h
    rotate_left
    · split at h
      · cases h
        exact ⟨fun S' e => (by cases e), fun p hp => by cases hp⟩
      · cases h
    rename_i ok S1 h1
    cases h
    split at h1
    · exact ⟨fun S' e => (by cases e; exact exDraw_agree hK h1), fun p hp => by cases hp⟩
    · exact ⟨fun S' e => (by cases e; exact exOpsO_agree hK h1), fun p hp => by cases hp⟩
  | .seq a b, S, o, h => by
    simp only [ex, Option.bind_eq_some_iff] at h
    obtain ⟨o1, h1, h⟩ := h
    have a1 := ex_agree Γ hK a S o1 h1
    split at h
    · cases h; exact a1
    · rename_i S1 hS1
      simp only [Option.bind_eq_some_iff] at h
      obtain ⟨o2, h2, h⟩ := h
      have a2 := ex_agree Γ hK b S1 o2 h2
      have aS := a1.1 S1 hS1
      simp only [Out.seq, Option.bind_eq_some_iff, Option.map_eq_some_iff] at h
      obtain ⟨e, he, r, hr, rfl⟩ := h
      exact ⟨fun S' e' => aS.trans (a2.1 S' e'), joinX_agree he (fun p hp => aS.trans (a2.2 p hp)) a1.2⟩
  | .cond c x y, S, o, h => by
    simp only [ex] at h
    split at h
    · rename_i okc b _
      have hit : ∀ {z : Code} {f : Out → Bool}, (∀ o, ex Γ z S = some o → o.ag S) → ((ex Γ z S).map fun o => { o with ok := f o }) = some o → o.ag S := by
        intro z f hz hh
        simp only [Option.map_eq_some_iff] at hh
        obtain ⟨o1, h1, rfl⟩ := hh
        exact hz o1 h1
      split at h
      · exact hit (ex_agree Γ hK x S) h
      · exact hit (ex_agree Γ hK y S) h
      split at h
      · cases b
        · exact hit (ex_agree Γ hK y S) h
        · exact hit (ex_agree Γ hK x S) h
      simp only [Option.bind_eq_some_iff, Option.map_eq_some_iff] at h
      obtain ⟨o1, h1, o2, h2, o3, h3, rfl⟩ := h
      have a1 := ex_agree Γ hK x S.fresh o1 h1
      have a2 := ex_agree Γ hK y S.fresh o2 h2
      have a3 : o3.ag S.fresh := by
        simp only [Out.cond, Option.bind_eq_some_iff, Option.map_eq_some_iff] at h3
        obtain ⟨n, hn, e, he, r, hr, rfl⟩ := h3
        exact ⟨joinO_agree hn a1.1 a2.1, joinX_agree he a1.2 a2.2⟩
      exact ⟨a3.under.1, a3.under.2⟩
    · cases h
  | .block id c, S, o, h => by
    simp only [ex, Option.bind_eq_some_iff, Option.map_eq_some_iff] at h
    obtain ⟨o1, h1, o2, h2, rfl⟩ := h
    have a1 := ex_agree Γ hK c S.fresh o1 h1
    simp only [Out.block, Option.map_eq_some_iff] at h2
    obtain ⟨n, hn, rfl⟩ := h2
    refine Out.ag.under ⟨joinO_agree hn a1.1 (fun S' e => a1.2 (id + 1, S') (lookup_mem e)), fun p hp => a1.2 p (List.mem_filter.1 hp).1⟩
  | .loop c, S, o, h => by
    simp only [ex] at h
    split at h
    · exact exLoop_agree (fun S o h => ex_agree Γ hK c S o h) h
    · exact exUnroll_agree (fun S o h => ex_agree Γ hK c S o h) _ S o h
  | .exit id, S, o, h => by
    simp only [ex, Option.some.injEq] at h
    subst h
    refine ⟨fun S' e => (by cases e), fun p hp => ?_⟩
    simp only [List.mem_singleton] at hp
    subst hp
    exact Agree.refl S
  | .ret, S, o, h => by
    simp only [ex] at h
    split at h
    · cases h
      refine ⟨fun S' e => (by cases e), fun p hp => ?_⟩
      simp only [List.mem_singleton] at hp
      subst hp
      exact Agree.refl S
    · simp only [Option.map_eq_some_iff] at h
      obtain ⟨⟨ok, vs⟩, h1, rfl⟩ := h
      exact ⟨fun S' e => (by cases e), fun p hp => by cases hp⟩
  | .rangeFunc _ _ _ _, S, o, h => by simp only [ex, reduceCtorEq] at h
  | .scope _, S, o, h => by simp only [ex, reduceCtorEq] at h
  | .goto _, S, o, h => by simp only [ex, reduceCtorEq] at h
  | .refuse _, S, o, h => by simp only [ex, reduceCtorEq] at h

theorem whileN_inv {P : Program} {c : Code} {Q : Exit → Act → World → Prop} {f : List Sc → Bool × Bool × List Sc} {I : List Sc → Act → World → Prop} {y : List Sc}
    (hlast : ∀ z a w, f y = (true, false, z) → I y a w → c.wp P (Exit.then (fun _ _ => False) Q) a w)
    (hstep : ∀ x z a w, f x = (true, true, z) → I x a w → c.wp P (Exit.then (I z) Q) a w) :
    ∀ (k : Nat) (x : List Sc) (a : Act) (w : World), whileN f k x = some y → I x a w → Code.rounds P c Q k a w
  | 0, x, a, w, h, _ => by cases h
  | k + 1, x, a, w, h, hI => by
    simp only [whileN] at h
    rw [rounds_succ]
    split at h
    · rename_i z hf
      refine Code.wp_mono (fun e a w hq => ?_) (hstep x z a w hf hI)
      cases e with
      | normal => exact whileN_inv hlast hstep k z a w h hq
      | _ => exact hq
    · rename_i z hf
      cases h
      refine Code.wp_mono (fun e a w hq => ?_) (hlast z a w hf hI)
      cases e with
      | normal => exact hq.elim
      | _ => exact hq
    · cases h

/-- A way to find where a loop ends is right if it only finds what rounds find. -/
def WOk (W : (List Sc → Bool × Bool × List Sc) → List Sc → Option (List Sc)) : Prop := ∀ f x y, W f x = some y → ∃ k, whileN f k x = some y

theorem retAV_ok {E : Env} {base n : Nat} {w0 : Start} {w : World} {X : Cx} {S : St} {a : Act} (H : Sim E base w0 n X S a w) : ∀ {res : List ResultVar} {ok : Bool} {vs : List AV}, retAV E S res = some (ok, vs) → ok = true →
    RelL X.lent vs (resVals res a) ∧ AV.allL (fun _ _ => false) vs = true
  | [], ok, vs, h, hok => by cases h; simp [resVals, RelL, AV.allL]
  | .cell _ _ :: _, ok, vs, h, hok => by cases h
  | .tmp t :: rs, ok, vs, h, hok => by
    simp only [retAV, Option.bind_eq_some_iff, Prod.exists] at h
    obtain ⟨ok1, v, h1, u, h2, h3⟩ := h
    split at h3
    · rename_i hu
      simp only [Option.map_eq_some_iff, Prod.exists, Prod.mk.injEq] at h3
      obtain ⟨ok2, us, h4, rfl, rfl⟩ := h3
      simp only [Bool.and_eq_true] at hok
      obtain ⟨hr, _⟩ := opd_ok H h1 hok.1
      obtain ⟨ih1, ih2⟩ := retAV_ok H h4 hok.2
      have hl := lend_ok H.ok v u _ (by rw [H.rows]; exact h2) hr
      simp only [resVals, List.map_cons, RelL, AV.allL, Bool.and_eq_true]
      exact ⟨⟨_, _, rfl, hl, ih1⟩, hu, ih2⟩
    · cases h3

theorem lent_ok {base n : Nat} {w0 : Start} {w : World} {X : Cx} (H : RowsOk base w0 n X w) : RowsOk base w0 0 X.lent w where
  heap := H.heap
  keeps := H.keeps
  sub b hb := by
    rcases hb with hb | ⟨r, x, o, hx, hφ⟩
    · exact H.sub b hb
    · exact .inr (H.own r x b o hx hφ).1
  hb := H.hb
  fresh b hb := by
    rcases hb with hb | ⟨r, x, o, hx, hφ⟩
    · exact H.fresh b hb
    · exact H.lt hx hφ
  row r x hx := by simp [Cx.lent, Rows.get] at hx
  own r x b o hx := by simp [Cx.lent, Rows.get] at hx
  apart r r' x x' b o b' o' hx := by simp [Cx.lent, Rows.get] at hx
  refs r cs hx := by simp [Cx.lent, Rows.get] at hx

/-- One behind the other, as outcomes: the first one's normal end is followed by the second. -/
theorem seq_first {E : Env} {base : Nat} {w0 : Start} {inp : Bool} {res : List ResultVar} {S S1 : St} {o1 o2 o : Out} (a1 : o1.ag S) (hS1 : o1.nrm = some S1) (a2 : o2.ag S1) (h : Out.seq S o1 o2 = some o) {e : Exit} {a : Act} {w : World} (hq : OutOk E base w0 inp res o1 e a w) (hne : e ≠ .normal) :
    OutOk E base w0 inp res o e a w := by
  have aS := a1.1 S1 hS1
  simp only [Out.seq, Option.bind_eq_some_iff, Option.map_eq_some_iff] at h
  obtain ⟨ex', he, r, hr, rfl⟩ := h
  have ag2 : ∀ p ∈ o2.exs, Agree S p.2 := fun p hp => aS.trans (a2.2 p hp)
  cases e with
  | normal => exact absurd rfl hne
  | exit id =>
    obtain ⟨ht, S', e', H'⟩ := hq
    have hN : o1.tag.isN = false := by rw [ht]; rfl
    exact ⟨by show o1.tag.thenN o2.tag = _; rw [ht]; rfl, joinX_ok he ag2 a1.2 (fun hf => by rw [hN] at hf; cases hf) (fun _ => ⟨S', e', H'⟩)⟩
  | ret =>
    obtain ⟨ht, e2, e3⟩ := hq
    have hN : o1.tag.isN = false := by rw [ht]; rfl
    exact ⟨by show o1.tag.thenN o2.tag = _; rw [ht]; rfl, fun hi => joinR_ok hr (fun hf => by rw [hN] at hf; cases hf) (fun _ => e2 hi), fun hi => joinX_ok he ag2 a1.2 (fun hf => by rw [hN] at hf; cases hf) (fun _ => e3 hi)⟩
  | goto l => exact hq
  | panic ch => exact hq
  | outgrown => exact hq
theorem seq_second {E : Env} {base : Nat} {w0 : Start} {inp : Bool} {res : List ResultVar} {S S1 : St} {o1 o2 o : Out} (a1 : o1.ag S) (hS1 : o1.nrm = some S1) (a2 : o2.ag S1) (h : Out.seq S o1 o2 = some o) (ht : o1.tag = .n) {e : Exit} {a : Act} {w : World} (hq2 : OutOk E base w0 inp res o2 e a w) :
    OutOk E base w0 inp res o e a w := by
  have aS := a1.1 S1 hS1
  simp only [Out.seq, Option.bind_eq_some_iff, Option.map_eq_some_iff] at h
  obtain ⟨ex', he, r, hr, rfl⟩ := h
  have ag2 : ∀ p ∈ o2.exs, Agree S p.2 := fun p hp => aS.trans (a2.2 p hp)
  have hN : o1.tag.isN = true := by rw [ht]; rfl
  have hT : o1.tag.thenN o2.tag = o2.tag := by rw [ht]; rfl
  cases e with
  | normal => obtain ⟨t2, S2, e2, H2⟩ := hq2; exact ⟨hT.trans t2, S2, e2, H2⟩
  | exit id =>
    obtain ⟨t2, S2, e2, H2⟩ := hq2
    exact ⟨hT.trans t2, joinX_ok he ag2 a1.2 (fun _ => ⟨S2, e2, H2⟩) (fun hf => by rw [hN] at hf; cases hf)⟩
  | ret =>
    obtain ⟨t2, e2, e3⟩ := hq2
    exact ⟨hT.trans t2, fun hi => joinR_ok hr (fun _ => e2 hi) (fun hf => by rw [hN] at hf; cases hf), fun hi => joinX_ok he ag2 a1.2 (fun _ => e3 hi) (fun hf => by rw [hN] at hf; cases hf)⟩
  | goto l => exact hq2
  | panic ch => exact hq2
  | outgrown => exact hq2
theorem rounds_mono {P : Program} {c : Code} {Q Q' : Exit → Act → World → Prop} (h : ∀ e a w, Q e a w → Q' e a w) : ∀ (n : Nat) (a : Act) (w : World), Code.rounds P c Q n a w → Code.rounds P c Q' n a w
  | 0, _, _, h0 => h0.elim
  | n + 1, a, w, h0 => by
    rw [rounds_succ] at h0 ⊢
    refine Code.wp_mono (fun e a w hq => ?_) h0
    cases e with
    | normal => exact rounds_mono h n a w hq
    | _ => exact h _ _ _ hq
theorem exUnroll_nrm {body : St → Option Out} : ∀ (k : Nat) (S : St) (o : Out), exUnroll body k S = some o → o.nrm = none
  | 0, _, _, h => by cases h
  | k + 1, S, o, h => by
    simp only [exUnroll, Option.bind_eq_some_iff] at h
    obtain ⟨o1, h1, h⟩ := h
    split at h
    · rename_i hn; cases h; exact hn
    · simp only [Option.bind_eq_some_iff] at h
      obtain ⟨o2, h2, h⟩ := h
      have := exUnroll_nrm k _ o2 h2
      simp only [Out.seq, Option.bind_eq_some_iff, Option.map_eq_some_iff] at h
      obtain ⟨_, _, _, _, rfl⟩ := h
      exact this
theorem exUnroll_ok {P : Program} {E : Env} {base : Nat} {w0 : Start} {inp : Bool} {res : List ResultVar} {c : Code} {body : St → Option Out} (hg : ∀ S o, body S = some o → o.ag S)
    (hb : ∀ (S : St) (o : Out) (a : Act) (w : World), body S = some o → o.ok = true → SimE E base w0 S a w → c.wp P (OutOk E base w0 inp res o) a w) :
    ∀ (k : Nat) (S : St) (o : Out) (a : Act) (w : World), exUnroll body k S = some o → o.ok = true → SimE E base w0 S a w → Code.rounds P c (OutOk E base w0 inp res o) k a w
  | 0, _, _, _, _, h, _, _ => by cases h
  | k + 1, S, o, a, w, h, hok, H => by
    simp only [exUnroll, Option.bind_eq_some_iff] at h
    obtain ⟨o1, h1, h⟩ := h
    have a1 := hg S o1 h1
    rw [rounds_succ]
    split at h
    · rename_i hn
      cases h
      refine Code.wp_mono (fun e a w hq => ?_) (hb S o a w h1 hok H)
      cases e with
      | normal => obtain ⟨_, S', e, _⟩ := hq; rw [hn] at e; cases e
      | _ => exact hq
    · rename_i S1 hS1
      simp only [Option.bind_eq_some_iff] at h
      obtain ⟨o2, h2, h⟩ := h
      have a2 := exUnroll_agree hg k S1 o2 h2
      have hok' : (sAnd o1.ok (sIf o1.tag.isN o2.ok true)) = true := by
        have h' := h
        simp only [Out.seq, Option.bind_eq_some_iff, Option.map_eq_some_iff] at h'
        obtain ⟨_, _, _, _, rfl⟩ := h'
        exact hok
      simp only [Bool.and_eq_true] at hok'
      refine Code.wp_mono (fun e a w hq => ?_) (hb S o1 a w h1 hok'.1 H)
      cases e with
      | normal =>
        obtain ⟨ht, S', e', H'⟩ := hq
        rw [hS1] at e'
        cases e'
        have hok2 : o2.ok = true := by have := hok'.2; rw [ht, show Tg.isN .n = true from rfl] at this; simpa using this
        exact rounds_mono (fun e a w hq => seq_second a1 hS1 a2 h ht hq) k a w (exUnroll_ok hg hb k S1 o2 a w h2 hok2 H')
      | exit id => exact seq_first a1 hS1 a2 h hq (by simp)
      | ret => exact seq_first a1 hS1 a2 h hq (by simp)
      | goto l => exact seq_first a1 hS1 a2 h hq (by simp)
      | panic ch => exact seq_first a1 hS1 a2 h hq (by simp)
      | outgrown => exact seq_first a1 hS1 a2 h hq (by simp)

theorem ex_ok (Γ : Fx) (hK : EnvOk Γ.toEnv) (hW : WOk Γ.W) (hm : Γ.P.follows .mixedOrders = true) {base : Nat} {w0 : Start} : ∀ (c : Code) (S : St) (o : Out) (a : Act) (w : World), ex Γ c S = some o → o.ok = true → SimE Γ.toEnv base w0 S a w →
    c.wp Γ.P (OutOk Γ.toEnv base w0 Γ.inp Γ.res o) a w
  | .skip, S, o, a, w, h, hok, H => by
    simp only [ex, Option.some.injEq] at h
    subst h
    exact wp_skip ⟨rfl, S, rfl, H⟩
  | .label _, S, o, a, w, h, hok, H => by
    simp only [ex, Option.some.injEq] at h
    subst h
    exact wp_label ⟨rfl, S, rfl, H⟩
  | .region id ops draw, S, o, a, w, h, hok, H => by
    simp only [ex] at h
    split at h
    rotate_left
    · split at h
      · cases h; cases hok
      · cases h
    rename_i ok S1 h1
    cases h
    split at h1
    · rename_i hd
      subst hd
      exact exDraw_wp hK hm H h1 hok (fun a' w' H' => ⟨rfl, S1, rfl, H'⟩)
    · rename_i hd
      have : draw = false := by simpa using hd
      subst this
      exact wp_region_list (exOpsO_wp hK H h1 hok (fun a' w' H' => ⟨rfl, S1, rfl, H'⟩))
  | .seq x y, S, o, a, w, h, hok, H => by
    simp only [ex, Option.bind_eq_some_iff] at h
    obtain ⟨o1, h1, h⟩ := h
    have a1 := ex_agree Γ hK x S o1 h1
    split at h
    · rename_i hn
      cases h
      refine wp_seq (Code.wp_mono (fun e a w hq => ?_) (ex_ok Γ hK hW hm x S o a w h1 hok H))
      cases e with
      | normal => obtain ⟨_, S', e, _⟩ := hq; rw [hn] at e; cases e
      | _ => exact hq
    · rename_i S1 hS1
      simp only [Option.bind_eq_some_iff] at h
      obtain ⟨o2, h2, h⟩ := h
      have a2 := ex_agree Γ hK y S1 o2 h2
      have aS := a1.1 S1 hS1
      simp only [Out.seq, Option.bind_eq_some_iff, Option.map_eq_some_iff] at h
      obtain ⟨e, he, r, hr, rfl⟩ := h
      simp only [Bool.and_eq_true] at hok
      have ag2 : ∀ p ∈ o2.exs, Agree S p.2 := fun p hp => aS.trans (a2.2 p hp)
      refine wp_seq (Code.wp_mono (fun ex' a w hq => ?_) (ex_ok Γ hK hW hm x S o1 a w h1 hok.1 H))
      cases ex' with
      | normal =>
        obtain ⟨ht, S', e', H'⟩ := hq
        rw [hS1] at e'
        cases e'
        have hN : o1.tag.isN = true := by rw [ht]; rfl
        have hok2 : o2.ok = true := by have := hok.2; rw [hN] at this; simpa using this
        refine Code.wp_mono (fun e2 a w hq2 => ?_) (ex_ok Γ hK hW hm y S1 o2 a w h2 hok2 H')
        have hT : o1.tag.thenN o2.tag = o2.tag := by rw [ht]; rfl
        cases e2 with
        | normal => obtain ⟨t2, S2, e2, H2⟩ := hq2; exact ⟨hT.trans t2, S2, e2, H2⟩
        | exit id =>
          obtain ⟨t2, S2, e2, H2⟩ := hq2
          exact ⟨hT.trans t2, joinX_ok he ag2 a1.2 (fun _ => ⟨S2, e2, H2⟩) (fun hf => by rw [hN] at hf; cases hf)⟩
        | ret =>
          obtain ⟨t2, e2, e3⟩ := hq2
          exact ⟨hT.trans t2, fun hi => joinR_ok hr (fun _ => e2 hi) (fun hf => by rw [hN] at hf; cases hf), fun hi => joinX_ok he ag2 a1.2 (fun _ => e3 hi) (fun hf => by rw [hN] at hf; cases hf)⟩
        | goto l => exact hq2
        | panic ch => exact hq2
        | outgrown => exact hq2
      | exit id =>
        obtain ⟨ht, S', e', H'⟩ := hq
        have hN : o1.tag.isN = false := by rw [ht]; rfl
        exact ⟨by show o1.tag.thenN o2.tag = _; rw [ht]; rfl, joinX_ok he ag2 a1.2 (fun hf => by rw [hN] at hf; cases hf) (fun _ => ⟨S', e', H'⟩)⟩
      | ret =>
        obtain ⟨ht, e2, e3⟩ := hq
        have hN : o1.tag.isN = false := by rw [ht]; rfl
        exact ⟨by show o1.tag.thenN o2.tag = _; rw [ht]; rfl, fun hi => joinR_ok hr (fun hf => by rw [hN] at hf; cases hf) (fun _ => e2 hi), fun hi => joinX_ok he ag2 a1.2 (fun hf => by rw [hN] at hf; cases hf) (fun _ => e3 hi)⟩
      | goto l => exact hq
      | panic ch => exact hq
      | outgrown => exact hq
  | .cond c x y, S, o, a, w, h, hok, H => by
    simp only [ex] at h
    split at h
    · rename_i okc b hc
      have sub : ∀ {o1 : Out} {ok' : Bool} {e : Exit} {a' : Act} {w' : World}, OutOk Γ.toEnv base w0 Γ.inp Γ.res o1 e a' w' → OutOk Γ.toEnv base w0 Γ.inp Γ.res { o1 with ok := ok' } e a' w' := by
        intro o1 ok' e a' w' hq
        cases e <;> exact hq
      split at h
      · simp only [Option.map_eq_some_iff] at h
        obtain ⟨o1, h1, rfl⟩ := h
        simp only [Bool.and_eq_true] at hok
        obtain ⟨X, HX⟩ := H
        have hcv := (opd_ok HX hc hok.1.1).1
        simp only [Rel] at hcv
        refine wp_cond_split hcv (fun _ => Code.wp_mono (fun _ _ _ hq => sub hq) (ex_ok Γ hK hW hm x S o1 a w h1 hok.2 ⟨X, HX⟩)) (fun hb => ?_)
        rw [hb] at hok
        exact absurd hok.1.2 (by simp)
      · simp only [Option.map_eq_some_iff] at h
        obtain ⟨o1, h1, rfl⟩ := h
        simp only [Bool.and_eq_true] at hok
        obtain ⟨X, HX⟩ := H
        have hcv := (opd_ok HX hc hok.1.1).1
        simp only [Rel] at hcv
        refine wp_cond_split hcv (fun hb => ?_) (fun _ => Code.wp_mono (fun _ _ _ hq => sub hq) (ex_ok Γ hK hW hm y S o1 a w h1 hok.2 ⟨X, HX⟩))
        rw [hb] at hok
        exact absurd hok.1.2 (by simp)
      split at h
      · simp only [Option.map_eq_some_iff] at h
        obtain ⟨o1, h1, rfl⟩ := h
        simp only [Bool.and_eq_true] at hok
        obtain ⟨X, HX⟩ := H
        have hcv := (opd_ok HX hc hok.1).1
        simp only [Rel] at hcv
        cases b
        · exact wp_cond_split hcv (fun hb => by cases hb) (fun _ => Code.wp_mono (fun _ _ _ hq => sub hq) (ex_ok Γ hK hW hm y S o1 a w h1 hok.2 ⟨X, HX⟩))
        · exact wp_cond_split hcv (fun _ => Code.wp_mono (fun _ _ _ hq => sub hq) (ex_ok Γ hK hW hm x S o1 a w h1 hok.2 ⟨X, HX⟩)) (fun hb => by cases hb)
      simp only [Option.bind_eq_some_iff, Option.map_eq_some_iff] at h
      obtain ⟨o1, h1, o2, h2, o3, h3, rfl⟩ := h
      have a1 := ex_agree Γ hK x S.fresh o1 h1
      have a2 := ex_agree Γ hK y S.fresh o2 h2
      simp only [Bool.and_eq_true] at hok
      obtain ⟨X, HX⟩ := H
      have hcv := (opd_ok HX hc hok.1).1
      simp only [Rel] at hcv
      have H : SimE Γ.toEnv base w0 S a w := ⟨X, HX⟩
      simp only [Out.cond, Option.bind_eq_some_iff, Option.map_eq_some_iff] at h3
      obtain ⟨n, hn, e, he, r, hr, rfl⟩ := h3
      refine wp_cond_split hcv (fun hb => ?_) (fun hb => ?_)
      · subst hb
        refine Code.wp_mono (fun ex' a w hq => ?_) (ex_ok Γ hK hW hm x S.fresh o1 a w h1 (by simpa using hok.2) H.fresh)
        have : OutOk Γ.toEnv base w0 Γ.inp Γ.res { ok := bif true then o1.ok else o2.ok, tag := Tg.mix true o1.tag o2.tag, nrm := n, exs := e, ret := r } ex' a w := by
          cases ex' with
          | normal => exact ⟨hq.1, joinO_ok hn a1.1 a2.1 (fun _ => hq.2) (fun hf => by cases hf)⟩
          | exit id => exact ⟨hq.1, joinX_ok he a1.2 a2.2 (fun _ => hq.2) (fun hf => by cases hf)⟩
          | ret => exact ⟨hq.1, fun hi => joinR_ok hr (fun _ => hq.2.1 hi) (fun hf => by cases hf), fun hi => joinX_ok he a1.2 a2.2 (fun _ => hq.2.2 hi) (fun hf => by cases hf)⟩
          | goto l => exact hq
          | panic ch => exact hq
          | outgrown => exact hq
        have h2 := OutOk.under (S := S) this
        cases ex' <;> exact h2
      · subst hb
        refine Code.wp_mono (fun ex' a w hq => ?_) (ex_ok Γ hK hW hm y S.fresh o2 a w h2 (by simpa using hok.2) H.fresh)
        have : OutOk Γ.toEnv base w0 Γ.inp Γ.res { ok := bif false then o1.ok else o2.ok, tag := Tg.mix false o1.tag o2.tag, nrm := n, exs := e, ret := r } ex' a w := by
          cases ex' with
          | normal => exact ⟨hq.1, joinO_ok hn a1.1 a2.1 (fun hf => by cases hf) (fun _ => hq.2)⟩
          | exit id => exact ⟨hq.1, joinX_ok he a1.2 a2.2 (fun hf => by cases hf) (fun _ => hq.2)⟩
          | ret => exact ⟨hq.1, fun hi => joinR_ok hr (fun hf => by cases hf) (fun _ => hq.2.1 hi), fun hi => joinX_ok he a1.2 a2.2 (fun hf => by cases hf) (fun _ => hq.2.2 hi)⟩
          | goto l => exact hq
          | panic ch => exact hq
          | outgrown => exact hq
        have h2 := OutOk.under (S := S) this
        cases ex' <;> exact h2
    · cases h
  | .block id c, S, o, a, w, h, hok, H => by
    simp only [ex, Option.bind_eq_some_iff, Option.map_eq_some_iff] at h
    obtain ⟨o1, h1, o2, h2, rfl⟩ := h
    have a1 := ex_agree Γ hK c S.fresh o1 h1
    simp only [Out.block, Option.map_eq_some_iff] at h2
    obtain ⟨n, hn, rfl⟩ := h2
    have hag : ∀ S', o1.exs.lookup (id + 1) = some S' → Agree S.fresh S' := fun S' e => a1.2 (id + 1, S') (lookup_mem e)
    refine wp_block (Code.wp_mono (fun ex' a w hq => ?_) (ex_ok Γ hK hW hm c S.fresh o1 a w h1 hok H.fresh))
    cases ex' with
    | normal =>
      obtain ⟨ht, hs⟩ := hq
      have hN : o1.tag.isN = true := by rw [ht]; rfl
      exact OutOk.under (E := Γ.toEnv) (inp := Γ.inp) (res := Γ.res) (e := .normal) ⟨by show o1.tag.block id = _; rw [ht]; rfl, joinO_ok hn a1.1 hag (fun _ => hs) (fun hf => by rw [hN] at hf; cases hf)⟩
    | exit id' =>
      obtain ⟨ht, hs⟩ := hq
      have hN : o1.tag.isN = false := by rw [ht]; rfl
      simp only [Exit.inBlock]
      split
      · rename_i e
        subst e
        exact OutOk.under (E := Γ.toEnv) (inp := Γ.inp) (res := Γ.res) (e := .normal) ⟨by show o1.tag.block id' = _; rw [ht]; simp [Tg.block], joinO_ok hn a1.1 hag (fun hf => by rw [hN] at hf; cases hf) (fun _ => hs)⟩
      · rename_i e
        refine OutOk.under (E := Γ.toEnv) (inp := Γ.inp) (res := Γ.res) (e := .exit id') ⟨by show o1.tag.block id = _; rw [ht]; simp [Tg.block, e], ?_⟩
        obtain ⟨S', e1, e2⟩ := hs
        exact ⟨S', by rw [lookup_filter (show id' + 1 ≠ id + 1 from fun h => e (Nat.succ.inj h))]; exact e1, e2⟩
    | ret =>
      obtain ⟨ht, hs⟩ := hq
      refine OutOk.under (E := Γ.toEnv) (inp := Γ.inp) (res := Γ.res) (e := .ret) ⟨by show o1.tag.block id = _; rw [ht]; rfl, hs.1, fun hi => ?_⟩
      obtain ⟨S', e1, e2⟩ := hs.2 hi
      exact ⟨S', by rw [lookup_filter (show 0 ≠ id + 1 by omega)]; exact e1, e2⟩
    | goto l => exact hq
    | panic ch => exact hq
    | outgrown => exact hq
  | .loop c, S, o, a, w, h, hok, H => by
    simp only [ex] at h
    split at h
    rotate_left
    · exact wp_loop_rounds Γ.unroll (exUnroll_ok (fun S o h => ex_agree Γ hK c S o h) (fun S o a w h hok H => ex_ok Γ hK hW hm c S o a w h hok H) Γ.unroll S o a w h hok H)
    simp only [exLoop, Option.bind_eq_some_iff] at h
    obtain ⟨T, hT, x0, hx0, h⟩ := h
    split at h
    · rename_i hlen
      simp only [Option.map_eq_some_iff] at h
      obtain ⟨o', ho, rfl⟩ := h
      generalize hf : (fun xs => match ex Γ c (T.mk' S.fresh xs) with
        | some o => match o.nrm with
          | some B => match T.coe S.fresh (alignB S.fresh (T.mk' S.fresh xs) B) with
            | some ys => (o.ok, o.tag.isN, ys)
            | none => (false, false, [])
          | none => (o.ok, false, [])
        | none => (false, false, [])) = f at ho hok
      simp only [Out.under, Bool.and_eq_true] at hok
      obtain ⟨hy, hok'⟩ := hok
      obtain ⟨y, hy⟩ := Option.isSome_iff_exists.1 hy
      rw [hy] at ho
      simp only [Option.getD_some] at ho
      obtain ⟨k, hk⟩ := hW _ _ _ hy
      have start : SimE Γ.toEnv base w0 (T.mk' S.fresh x0) a w := by
        obtain ⟨X, HX⟩ := H.fresh
        obtain ⟨X', H', hl⟩ := Tmpl.coe_sim HX (Agree.refl _) hx0
        exact ⟨X', by rw [hl]; exact H'⟩
      have back : ∀ (x : List Sc) (ob : Out) (B : St) (ys : List Sc) (a : Act) (w : World), ex Γ c (T.mk' S.fresh x) = some ob → ob.nrm = some B → T.coe S.fresh (alignB S.fresh (T.mk' S.fresh x) B) = some ys → SimE Γ.toEnv base w0 B a w →
          SimE Γ.toEnv base w0 (T.mk' S.fresh ys) a w := by
        intro x ob B ys a w hb hB hc hs
        have ag0 : Agree S.fresh B := (mk'_agree hlen).trans ((ex_agree Γ hK c _ ob hb).1 B hB)
        have ag : Agree S.fresh (alignB S.fresh (T.mk' S.fresh x) B) := alignB_ok (Q := Agree S.fresh) (fun _ p q h => h.swap p q) ag0
        obtain ⟨X, HX⟩ := alignB_ok (S0 := S.fresh) (A := T.mk' S.fresh x) (Q := fun S' => SimE Γ.toEnv base w0 S' a w) (fun _ p q h => h.swap p q) hs
        obtain ⟨X', H', hl⟩ := Tmpl.coe_sim HX ag hc
        exact ⟨X', by rw [hl]; exact H'⟩
      refine wp_loop_rounds k (whileN_inv (f := f) (I := fun x a w => SimE Γ.toEnv base w0 (T.mk' S.fresh x) a w) (y := y) ?_ ?_ k x0 a w hk start)
      · intro z a w hfz hI
        refine Code.wp_mono (fun e a w hq => ?_) (ex_ok Γ hK hW hm c _ o' a w ho hok' hI)
        cases e with
        | normal =>
          obtain ⟨ht, B, hB, _⟩ := hq
          rw [← hf] at hfz
          simp only [ho, hB] at hfz
          split at hfz
          · simp only [Prod.mk.injEq] at hfz
            rw [ht] at hfz
            exact absurd hfz.2.1 (by simp [Tg.isN])
          · simp at hfz
        | exit id => exact OutOk.under (E := Γ.toEnv) (inp := Γ.inp) (res := Γ.res) (e := .exit id) (o := { o' with ok := _, nrm := none }) hq
        | ret => exact OutOk.under (E := Γ.toEnv) (inp := Γ.inp) (res := Γ.res) (e := .ret) (o := { o' with ok := _, nrm := none }) hq
        | goto l => exact hq
        | panic ch => exact hq
        | outgrown => exact hq
      · intro x z a w hfx hI
        rw [← hf] at hfx
        simp only at hfx
        split at hfx
        · rename_i ob hob
          split at hfx
          · rename_i B hB
            split at hfx
            · rename_i ys hys
              simp only [Prod.mk.injEq] at hfx
              obtain ⟨h1, h2, rfl⟩ := hfx
              have hN : ob.tag = .n := by
                revert h2
                cases ob.tag <;> simp [Tg.isN]
              refine Code.wp_mono (fun e a w hq => ?_) (ex_ok Γ hK hW hm c _ ob a w hob h1 hI)
              cases e with
              | normal =>
                obtain ⟨_, B', hB', hs⟩ := hq
                rw [hB] at hB'
                cases hB'
                exact back x ob B ys a w hob hB hys hs
              | exit id => obtain ⟨ht, _⟩ := hq; rw [hN] at ht; cases ht
              | ret => obtain ⟨ht, _⟩ := hq; rw [hN] at ht; cases ht
              | goto l => exact hq
              | panic ch => exact hq
              | outgrown => exact hq
            · simp at hfx
          · simp at hfx
        · simp at hfx
    · cases h
  | .exit id, S, o, a, w, h, hok, H => by
    simp only [ex, Option.some.injEq] at h
    subst h
    exact wp_exit ⟨rfl, S, by simp [List.lookup_cons], H⟩
  | .ret, S, o, a, w, h, hok, H => by
    simp only [ex] at h
    split at h
    · rename_i hi
      cases h
      exact wp_ret ⟨rfl, fun hf => (by rw [hi] at hf; cases hf), fun _ => ⟨S, rfl, H⟩⟩
    · rename_i hi
      simp only [Option.map_eq_some_iff, Prod.exists] at h
      obtain ⟨ok, vs, h1, rfl⟩ := h
      obtain ⟨X, HX⟩ := H
      obtain ⟨h2, h3⟩ := retAV_ok HX h1 hok
      exact wp_ret ⟨rfl, fun _ => ⟨vs, rfl, HX.defers, X.lent, rfl, rfl, lent_ok HX.ok, h2, h3⟩, fun hf => absurd hf hi⟩
  | .rangeFunc _ _ _ _, S, o, a, w, h, hok, H => by simp only [ex, reduceCtorEq] at h
  | .scope _, S, o, a, w, h, hok, H => by simp only [ex, reduceCtorEq] at h
  | .goto _, S, o, a, w, h, hok, H => by simp only [ex, reduceCtorEq] at h
  | .refuse _, S, o, a, w, h, hok, H => by simp only [ex, reduceCtorEq] at h
end Go.Proofs.YtnjofponcdcfcaaDoor.Ab
set_option linter.unusedVariables false
set_option linter.all false
namespace Go.Proofs.YtnjofponcdcfcaaDoor.Ab
open Go.RowKit

/-! ### Functions -/
def isTmpB : ResultVar → Bool | .tmp _ => true | _ => false

def packR : List AV → AV
  | [v] => v
  | vs => .tup vs

/-- What a function makes of data. -/
def exFn (Γ : Fx) (fn : Func) (args : List AV) : Option (Bool × AV) :=
  match fn.body with
  | none => none
  | some c =>
    if AV.allL (fun _ _ => false) args ∧ fn.results.toList.all isTmpB then
      (ex { Γ with res := fn.results.toList, inp := false } c { tmps := TMap.ofL args fn.ntmps, rows := [], dt := .nil, dr := .nil }).bind fun o =>
        if o.exs.isEmpty then match o.nrm with
        | none => o.ret.map fun vs => (o.ok, packR vs)
        | some S1 => (retAV Γ.toEnv S1 fn.results.toList).bind fun (ok2, us) => (joinR o.tag.isN (some us) o.ret).bind fun r => r.map fun vs => (sAnd o.ok (sIf o.tag.isN ok2 true), packR vs)
        else none
    else none

theorem results_run {P : Program} {fn : Func} {a : Act} {w : World} (h : fn.results.toList.all isTmpB = true) :
    (results fn a.tmps).run P w = .ok (if (resVals fn.results.toList a).length = 1 then (resVals fn.results.toList a).getD 0 undef else .tuple (resVals fn.results.toList a).toArray) w := by
  have key : ∀ (g : ResultVar → Sem Value), (∀ t, g (.tmp t) = pure (a.tmps.getD t undef)) → ∀ (rs : List ResultVar), rs.all isTmpB = true → (rs.mapM g).run P w = .ok (resVals rs a) w := by
    intro g hg rs
    induction rs with
    | nil => intro _; rfl
    | cons r rs ih =>
      intro hr
      simp only [List.all_cons, Bool.and_eq_true] at hr
      cases r with
      | cell _ _ => simp [isTmpB] at hr
      | tmp t =>
        rw [List.mapM_cons, Sem.run_bind, hg, Sem.run_pure, Result.andThen_ok, Sem.run_bind, ih hr.2]
        rfl
  unfold results
  rw [Array.mapM_eq_mapM_toList, Sem.run_bind, Sem.run_map, key _ (fun t => rfl) _ h]
  simp only [Result.andThen_ok, Sem.run_pure, List.size_toArray]
  split
  · rename_i e
    congr 1
    simp [List.getD, List.getElem?_eq_getElem (show 0 < (resVals fn.results.toList a).length by omega)]
  · rfl

theorem packR_rel {X : Cx} {vs : List AV} {us : List Value} (h : RelL X vs us) : Rel X (packR vs) (if us.length = 1 then us.getD 0 undef else .tuple us.toArray) := by
  have hl := RelL.length h
  unfold packR
  split
  · rename_i v
    simp only [RelL] at h
    obtain ⟨u, r, rfl, hu, rfl⟩ := h
    simpa using hu
  · rename_i hne
    have : us.length ≠ 1 := by
      intro e
      rw [hl] at e
      match vs, e with
      | [v], _ => exact hne v rfl
    rw [if_neg this]
    simp only [Rel]
    exact ⟨_, rfl, by simpa using h⟩

theorem exFnE_ok {Γ : Fx} (hK : EnvOk Γ.toEnv) (hW : WOk Γ.W) (hm : Γ.P.follows .mixedOrders = true) {f : FuncId} {fn : Func} (hf : Γ.P.funcs[f]? = some fn)
    (hin : ∀ (args : Array Value) (w : World), (callFunc f args).run Γ.P w = .ok (.enter f args) w) {C : List AV → Option (Bool × AV)} (hC : ∀ as r, C as = some (true, r) → exFn Γ fn as = some (true, r)) : KOk Γ.toEnv f C := by
  refine ⟨hin, fun F w as us r hG hF hrel hc => ?_⟩
  have hex := hC as r hc
  unfold exFn at hex
  split at hex
  · cases hex
  · rename_i c hb
    split at hex
    · rename_i hcond
      obtain ⟨hall, htmp⟩ := hcond
      simp only [Option.bind_eq_some_iff] at hex
      obtain ⟨o, ho, hex⟩ := hex
      split at hex
      rotate_left
      · cases hex
      rename_i hexs
      have hexs' : o.exs = [] := by simpa using hexs
      let X : Cx := ⟨F, fun _ => none, [], w.heap⟩
      let w0 : Start := ⟨w, F, []⟩
      have hlen := RelL.length hrel
      have R : RowsOk w.heap.size w0 0 X w := ⟨rfl, Below.refl _ _, fun b hb => .inl hb, Nat.le_refl _, hF, fun r x h => by simp [X, Rows.get] at h, fun r x b o h => by simp [X, Rows.get] at h,
        fun r r' x x' b o b' o' h => by simp [X, Rows.get] at h, fun r cs h => by simp [X, Rows.get] at h⟩
      have hsim : SimE Γ.toEnv w.heap.size w0 { tmps := TMap.ofL as fn.ntmps, rows := [], dt := .nil, dr := .nil } { tmps := us.toArray ++ Array.replicate (fn.ntmps - us.toArray.size) undef, defers := [] } w := by
        refine ⟨X, rfl, R, by simp [TMap.length_ofL, hlen], rfl, fun t v hv => ?_, fun g s x hg => hG g s x hg, rfl, rfl⟩
        rw [TMap.getElem?_ofL] at hv
        by_cases ht : t < as.length
        · rw [if_pos (by omega), List.getD_eq_getElem?_getD, List.getElem?_eq_getElem ht] at hv
          simp only [Option.getD_some, Option.some.injEq] at hv
          have hv : as[t]? = some v := by rw [List.getElem?_eq_getElem ht, hv]
          obtain ⟨u, hu, hr⟩ := RelL.get t v hrel hv
          have hva : v.all (fun _ _ => false) = true := by
            have : ∀ (l : List AV) (t : Nat), AV.allL (fun _ _ => false) l = true → l[t]? = some v → v.all (fun _ _ => false) = true := by
              intro l
              induction l with
              | nil => intro t _ h; simp at h
              | cons a l ih =>
                intro t h1 h2
                simp only [AV.allL, Bool.and_eq_true] at h1
                cases t with
                | zero => simp at h2; subst h2; exact h1.1
                | succ t => exact ih t h1.2 (by simpa using h2)
            exact this as t hall hv
          refine ⟨AV.all_imp (fun _ _ h => by cases h) v hva, ?_⟩
          have : (us.toArray ++ Array.replicate (fn.ntmps - us.toArray.size) undef).getD t undef = u := by
            have h1 : t < us.length := by omega
            have h2 : (us.toArray ++ Array.replicate (fn.ntmps - us.toArray.size) undef)[t]? = some u := by
              rw [Array.getElem?_append_left (by simpa using h1)]
              simpa using hu
            rw [Array.getD_eq_getD_getElem?, h2]; rfl
          rw [this]
          exact hr
        · rw [List.getD_eq_getElem?_getD, List.getElem?_eq_none (by omega)] at hv
          split at hv
          · cases hv; exact ⟨rfl, by simp [Rel]⟩
          · cases hv
      have fin : ∀ (vs : List AV) (a : Act) (w' : World) (r : AV), packR vs = r → RetE w.heap.size w0 fn.results.toList vs a w' → bodyPost Γ.P fn (fun e w' => ∃ (F' : Nat → Prop) (u : Value), e = .returned u ∧ Below w.heap.size w w' ∧ (∀ b, F b → F' b) ∧
          (∀ b, F' b → F b ∨ w.heap.size ≤ b) ∧ (∀ b, F' b → b < w'.heap.size) ∧ Rel ⟨F', fun _ => none, [], w'.heap⟩ r u) .ret a w' := by
        intro vs a w' r hp hr
        obtain ⟨hd, X', hX, hφ, R', hl, hal⟩ := hr
        refine ⟨hd, _, results_run htmp, ?_⟩
        refine ⟨fun b => X'.F b ∨ F b, _, rfl, R'.keeps, fun b h => .inr h, fun b h => ?_, fun b h => ?_, ?_⟩
        · rcases h with h | h
          · exact R'.sub b h
          · exact .inl h
        · rcases h with h | h
          · exact R'.fresh b h
          · exact Nat.lt_of_lt_of_le (hF b h) R'.keeps.size
        · rw [← hp]
          refine packR_rel (RelL.mono (p := fun _ _ => false) ?_ vs _ hal hl)
          exact Stab.data (fun _ h => .inl h) (fun b hb => by rw [R'.heap])
      refine calls_of_wp hf hb (Code.wp_mono (fun e a w' hq => ?_) (ex_ok { Γ with res := fn.results.toList, inp := false } hK hW hm c _ o _ w ho ?_ hsim))
      · cases hn : o.nrm with
        | none =>
          rw [hn] at hex
          simp only [Option.map_eq_some_iff, Prod.mk.injEq] at hex
          obtain ⟨vs, hv, hok, hp⟩ := hex
          cases e with
          | normal => obtain ⟨_, S', e', _⟩ := hq; rw [hn] at e'; cases e'
          | ret =>
            obtain ⟨vs', e', hr⟩ := hq.2.1 rfl
            rw [hv] at e'
            cases e'
            exact fin vs a w' r hp hr
          | exit id => obtain ⟨ht, S', e', _⟩ := hq; rw [hexs'] at e'; cases e'
          | goto l => exact hq.elim
          | panic ch => exact hq.elim
          | outgrown => exact hq.elim
        | some S1 =>
          rw [hn] at hex
          simp only [Option.bind_eq_some_iff, Option.map_eq_some_iff, Prod.exists, Prod.mk.injEq] at hex
          obtain ⟨ok2, vs2, hr2, r0, hj, vs, rfl, hok, hp⟩ := hex
          simp only [Bool.and_eq_true] at hok
          cases e with
          | normal =>
            obtain ⟨ht, S', e', X1, H1⟩ := hq
            rw [hn] at e'
            cases e'
            have hN : o.tag.isN = true := by rw [ht]; rfl
            have hok2 : ok2 = true := by have := hok.2; rw [hN] at this; simpa using this
            obtain ⟨h2, h3⟩ := retAV_ok H1 hr2 hok2
            have hre : RetE w.heap.size w0 fn.results.toList vs2 a w' := ⟨H1.defers, X1.lent, rfl, rfl, lent_ok H1.ok, h2, h3⟩
            obtain ⟨vs', e', hre'⟩ := joinR_ok (base := w.heap.size) (w0 := w0) (res := fn.results.toList) (a := a) (w := w') hj (fun _ => ⟨vs2, rfl, hre⟩) (fun hf => by rw [hN] at hf; cases hf)
            cases e'
            exact fin vs a w' r hp hre'
          | ret =>
            obtain ⟨ht, hq2, _⟩ := hq
            obtain ⟨vs', e', hr⟩ := hq2 rfl
            have hN : o.tag.isN = false := by rw [ht]; rfl
            obtain ⟨vs'', e'', hre'⟩ := joinR_ok (base := w.heap.size) (w0 := w0) (res := fn.results.toList) (a := a) (w := w') hj (fun hf => by rw [hN] at hf; cases hf) (fun _ => ⟨vs', e', hr⟩)
            cases e''
            exact fin vs a w' r hp hre'
          | exit id => obtain ⟨ht, S', e', _⟩ := hq; rw [hexs'] at e'; cases e'
          | goto l => exact hq.elim
          | panic ch => exact hq.elim
          | outgrown => exact hq.elim
      · cases hn : o.nrm with
        | none =>
          rw [hn] at hex
          simp only [Option.map_eq_some_iff, Prod.mk.injEq] at hex
          obtain ⟨vs, hv, hok, hp⟩ := hex
          exact hok
        | some S1 =>
          rw [hn] at hex
          simp only [Option.bind_eq_some_iff, Option.map_eq_some_iff, Prod.exists, Prod.mk.injEq, Bool.and_eq_true] at hex
          obtain ⟨ok2, vs2, hr2, r0, hj, vs, rfl, hok, hp⟩ := hex
          exact hok.1
    · cases hex

theorem exFn_ok {Γ : Fx} (hK : ∀ f c, Γ.K f = some c → KOk Γ.toEnv f c) (hW : WOk Γ.W) (hm : Γ.P.follows .mixedOrders = true) {f : FuncId} {fn : Func} (hf : Γ.P.funcs[f]? = some fn)
    (hin : ∀ (args : Array Value) (w : World), (callFunc f args).run Γ.P w = .ok (.enter f args) w) {C : List AV → Option (Bool × AV)} (hC : ∀ as r, C as = some (true, r) → exFn Γ fn as = some (true, r))
    (hI : ∀ f c, Γ.I f = some c → IOk Γ.toEnv f c := by intro _ _ h; cases h) (hJ : ∀ f c, Γ.J f = some c → KFr Γ.toEnv f c := by intro _ _ h; cases h)
    (hN : ∀ f c, Γ.N f = some c → KNew Γ.toEnv f c := by intro _ _ h; cases h) : KOk Γ.toEnv f C := exFnE_ok ⟨hK, hI, hJ, hN⟩ hW hm hf hin hC

/-- A way to find where a loop ends: by rounds, at most k. -/
theorem wok_whileN (k : Nat) : WOk (fun f x => whileN f k x) := fun f x y h => ⟨k, h⟩

/-- Where a loop ends, whatever the number of rounds. -/
noncomputable def whileW (f : List Sc → Bool × Bool × List Sc) (x : List Sc) : Option (List Sc) :=
  open Classical in if h : ∃ k y, whileN f k x = some y then some h.choose_spec.choose else none

theorem wok_whileW : WOk whileW := by
  intro f x y h
  unfold whileW at h
  split at h
  · rename_i hx
    cases h
    exact ⟨_, hx.choose_spec.choose_spec⟩
  · cases h

theorem whileN_mono {f : List Sc → Bool × Bool × List Sc} : ∀ {k m : Nat} {x y : List Sc}, whileN f k x = some y → k ≤ m → whileN f m x = some y
  | 0, m, x, y, h, _ => by cases h
  | k + 1, 0, x, y, h, hm => by omega
  | k + 1, m + 1, x, y, h, hm => by
    simp only [whileN] at h ⊢
    split at h
    · exact whileN_mono h (by omega)
    · exact h
    · cases h

theorem whileW_of {f : List Sc → Bool × Bool × List Sc} {k : Nat} {x y : List Sc} (h : whileN f k x = some y) : whileW f x = some y := by
  unfold whileW
  have hx : ∃ k y, whileN f k x = some y := ⟨k, y, h⟩
  rw [dif_pos hx]
  have h2 := hx.choose_spec.choose_spec
  have h3 := whileN_mono h (Nat.le_max_left k hx.choose)
  have h4 := whileN_mono h2 (Nat.le_max_right k hx.choose)
  rw [h3] at h4
  rw [← Option.some.inj h4]

/-! ### Contracts whose results stand in a form known beforehand -/
def outS (tmpl : AV) (x : Option (Bool × AV)) : Bool × List Sc :=
  match x with
  | some (ok, v) => match tmpl.coe (fun _ => none) (fun _ => none) v with
    | some xs => (ok, xs)
    | none => (false, [])
  | none => (false, [])

def mkC (tmpl : AV) (h : List AV → Option (Bool × AV)) : List AV → Option (Bool × AV) := fun as => some ((outS tmpl (h as)).1, (tmpl.fill (outS tmpl (h as)).2).1)

theorem KOk.mkC {E : Env} {f : FuncId} {h : List AV → Option (Bool × AV)} (H : KOk E f h) (tmpl : AV) : KOk E f (mkC tmpl h) := by
  refine ⟨H.enter, fun F w as us r hG hF hrel hc => ?_⟩
  simp only [Ab.mkC, Option.some.injEq, Prod.mk.injEq] at hc
  obtain ⟨h1, rfl⟩ := hc
  unfold outS at h1 ⊢
  split at h1
  · rename_i ok v hv
    split at h1
    · rename_i xs hx
      simp only at h1
      subst h1
      refine (H.valid F w as us v hG hF hrel hv).mono fun e w' he => ?_
      obtain ⟨F', u, e1, e2, e3, e4, e5, e6⟩ := he
      refine ⟨F', u, e1, e2, e3, e4, e5, ?_⟩
      have := (AV.coe_ok (Turn.nil ⟨F', fun _ => none, [], w'.heap⟩ rfl) tmpl v xs [] u hx e6).2
      simpa using this
    · cases h1
  · cases h1

/-- The arguments brought into a known form first. -/
def preC (ts : List AV) (h : List AV → Option (Bool × AV)) : List AV → Option (Bool × AV) := fun as => (AV.coeL (fun _ => none) (fun _ => none) ts as).bind fun xs => h (AV.fillL ts xs).1

theorem KOk.preC {E : Env} {f : FuncId} {h : List AV → Option (Bool × AV)} (H : KOk E f h) (ts : List AV) : KOk E f (preC ts h) := by
  refine ⟨H.enter, fun F w as us r hG hF hrel hc => ?_⟩
  simp only [Ab.preC, Option.bind_eq_some_iff] at hc
  obtain ⟨xs, h1, h2⟩ := hc
  have := (AV.coeL_ok (Turn.nil ⟨F, fun _ => none, [], w.heap⟩ rfl) ts as xs [] us h1 hrel).2
  exact H.valid F w _ us r hG hF (by simpa using this) h2

theorem KOk.cast {E E' : Env} {f : FuncId} {c : List AV → Option (Bool × AV)} (H : KOk E f c) (hP : E.P = E'.P) (hG : E.G = E'.G) : KOk E' f c := by
  obtain ⟨P, G, K, I, J, N⟩ := E
  obtain ⟨P', G', K', I', J', N'⟩ := E'
  cases hP
  cases hG
  exact ⟨H.enter, H.valid⟩

/-- A function with a body is entered. -/
theorem enter_of {P : Program} {f : FuncId} {fn : Func} (hf : P.funcs[f]? = some fn) (hn : (fn.name == "runtime.NumGoroutine") = false) (hb : fn.body.isNone = false) (args : Array Value) (w : World) : (callFunc f args).run P w = .ok (.enter f args) w := by
  unfold callFunc
  rw [Sem.run_bind]
  show Sem.run P (match P.funcs[f]? with | none => _ | some fn => _) w = _
  rw [hf]
  simp only [hn, hb, Bool.false_eq_true, if_false]
  rfl

/-- The form of a function's results. -/
def resOne (P : Program) (t : TypeId) : AV :=
  match shOf P 20 t with
  | some s => match aggB P t with
    | some true => .agg (cellsOf s s.dflt)
    | _ => (cellsOf s s.dflt).getD 0 .unk
  | none => .unk
def argsT (P : Program) (fn : Func) : List AV := fn.params.toList.map (resOne P)
def resT (P : Program) (fn : Func) : AV :=
  match fn.resultTypes.toList with
  | [t] => resOne P t
  | ts => .tup (ts.map (resOne P))
end Go.Proofs.YtnjofponcdcfcaaDoor.Ab
set_option linter.unusedVariables false
set_option linter.all false
namespace Go.Proofs.YtnjofponcdcfcaaDoor.Ab
open Go.RowKit

/-- Results, as they are. -/
def resAV (E : Env) (S : St) : List ResultVar → Option (Bool × List AV)
  | [] => some (true, [])
  | .tmp t :: rs => (S.opd E (.tmp t)).bind fun (ok, v) => (resAV E S rs).map fun (ok', us) => (sAnd ok ok', v :: us)
  | .cell x t :: rs => (S.opd E (.tmp x)).bind fun (ok, p) => (behind S.rows p).bind fun (cs, off) => (takeT E.P t cs off).bind fun v =>
      if v.all (fun q _ => S.rows.okid S.rows.length q) then (resAV E S rs).map fun (ok', us) => (sAnd ok ok', v :: us) else none

/-- The results' values. -/
def resRun (rs : List ResultVar) (tmps : Array Value) : Sem (List Value) := rs.mapM fun
  | .tmp t => pure (tmps.getD t undef)
  | .cell a t => do loadVar t (← asAddr (tmps.getD a undef))

theorem resAV_ok {E : Env} {base : Nat} {w0 : Start} {w : World} {X : Cx} {S : St} {a : Act} (H : Sim E base w0 S.rows.length X S a w) : ∀ {res : List ResultVar} {ok : Bool} {vs : List AV}, resAV E S res = some (ok, vs) → ok = true →
    ∃ us : List Value, (resRun res a.tmps).run E.P w = .ok us w ∧ RelL X vs us ∧ AV.allL (fun q _ => S.rows.okid S.rows.length q) vs = true
  | [], ok, vs, h, hok => by cases h; exact ⟨[], rfl, rfl, rfl⟩
  | .cell x t :: rs, ok, vs, h, hok => by
    simp only [resAV, Option.bind_eq_some_iff, Prod.exists] at h
    obtain ⟨ok1, p, h1, cs, off, h2, v, h3, h⟩ := h
    split at h
    · rename_i hva
      simp only [Option.map_eq_some_iff, Prod.exists, Prod.mk.injEq] at h
      obtain ⟨ok2, us, h4, rfl, rfl⟩ := h
      simp only [Bool.and_eq_true] at hok
      obtain ⟨hr, _⟩ := opd_ok H h1 hok.1
      obtain ⟨b, o, ws, hu, hl, hc⟩ := behind_at H.ok (by rw [H.rows]; exact h2) hr
      obtain ⟨val, hrun, hrel⟩ := run_loadVar_of h3 hl hc
      obtain ⟨us', e1, e2, e3⟩ := resAV_ok H h4 hok.2
      refine ⟨val :: us', ?_, ?_, ?_⟩
      · have hu' : a.tmps.getD x undef = .pointer (some ⟨b, o + off, none⟩) := hu
        have e0 : Sem.run E.P (do loadVar t (← asAddr (a.tmps.getD x undef))) w = .ok val w := by rw [hu']; simp [asAddr, hrun]
        unfold resRun at e1 ⊢
        rw [List.mapM_cons, Sem.run_bind]
        refine (congrArg (fun z => Result.andThen z _) e0).trans ?_
        rw [Result.andThen_ok, Sem.run_bind, e1]
        rfl
      · simp only [RelL]; exact ⟨_, _, rfl, hrel, e2⟩
      · simp only [AV.allL, Bool.and_eq_true]; exact ⟨hva, e3⟩
    · cases h
  | .tmp t :: rs, ok, vs, h, hok => by
    simp only [resAV, Option.bind_eq_some_iff, Option.map_eq_some_iff, Prod.exists, Prod.mk.injEq] at h
    obtain ⟨ok1, v, h1, ok2, us, h2, rfl, rfl⟩ := h
    simp only [Bool.and_eq_true] at hok
    obtain ⟨hr, ha⟩ := opd_ok H h1 hok.1
    obtain ⟨us', e1, e2, e3⟩ := resAV_ok H h2 hok.2
    refine ⟨a.tmps.getD t undef :: us', ?_, ?_, ?_⟩
    · unfold resRun at e1 ⊢
      rw [List.mapM_cons, Sem.run_bind, Sem.run_pure, Result.andThen_ok, Sem.run_bind, e1]
      rfl
    · simp only [RelL]; exact ⟨_, _, rfl, hr, e2⟩
    · simp only [AV.allL, Bool.and_eq_true]; exact ⟨ha, e3⟩

theorem results_run' {P : Program} {fn : Func} {a : Act} {w : World} {us : List Value} (h : (resRun fn.results.toList a.tmps).run P w = .ok us w) :
    (results fn a.tmps).run P w = .ok (if us.length = 1 then us.getD 0 undef else .tuple us.toArray) w := by
  unfold results
  rw [Array.mapM_eq_mapM_toList, Sem.run_bind, Sem.run_map]
  refine (congrArg (fun z => Result.andThen (Result.andThen z _) _) h).trans ?_
  simp only [Result.andThen_ok, Sem.run_pure, List.size_toArray]
  split
  · rename_i e
    congr 1
    simp [List.getD, List.getElem?_eq_getElem (show 0 < us.length by omega)]
  · rfl

def isResB : ResultVar → Bool := fun _ => true

theorem packR_all {p : Nat → Nat → Bool} {vs : List AV} (h : AV.allL p vs = true) : (packR vs).all p = true := by
  unfold packR
  split
  · simpa [AV.allL] using h
  · simpa [AV.all] using h

/-- The state in which a function read in place begins. -/
def startI (fn : Func) (rows : Rows) (gho args : List AV) : St := { tmps := TMap.ofL args fn.ntmps, rows := rows, dt := .nil, dr := .nil, gho := gho }

/-- Where a function read in place ends: its one state, all returns joined. -/
def endI (S0 : St) (o : Out) : Option St :=
  match o.exs with
  | [] => o.nrm
  | [(0, Sr)] => (joinO o.tag.isN S0 o.nrm (some Sr)).join
  | _ => none

def exFnI (Γ : Fx) (fn : Func) : IC := fun rows gho args =>
  match fn.body with
  | none => none
  | some c =>
    if fn.results.toList.all isResB then
      (ex { Γ with res := fn.results.toList, inp := true } c (startI fn rows gho args)).bind fun o =>
        (endI (startI fn rows gho args) o).bind fun S =>
          if refsOkB S.rows.length { S with tmps := TMap.ofL [] 0 } then
          (resAV Γ.toEnv S fn.results.toList).map fun (ok2, vs) => (sAnd o.ok ok2, packR vs, S.rows, S.dr)
          else none
    else none

/-- A call begins on its caller's rows. -/
theorem start_sim {E : Env} {base : Nat} {w0 : Start} {X : Cx} {w : World} {gho as : List AV} {us : List Value} (fn : Func) (R : RowsOk base w0 X.rows.length X w) (hG : GlobOk E X)
    (hg1 : AV.allL (fun q _ => X.rows.okid X.rows.length q) gho = true) (hg2 : RelL X gho w0.gv) (ha : AV.allL (fun q _ => X.rows.okid X.rows.length q) as = true) (hrel : RelL X as us) :
    SimE E base w0 (startI fn X.rows gho as) { tmps := us.toArray ++ Array.replicate (fn.ntmps - us.toArray.size) undef, defers := [] } w := by
  have hlen := RelL.length hrel
  refine ⟨X, rfl, R, by simp [startI, TMap.length_ofL, hlen], rfl, fun t v hv => ?_, hG, hg1, hg2⟩
  simp only [startI] at hv
  rw [TMap.getElem?_ofL] at hv
  by_cases ht : t < as.length
  · rw [if_pos (by omega), List.getD_eq_getElem?_getD, List.getElem?_eq_getElem ht] at hv
    simp only [Option.getD_some, Option.some.injEq] at hv
    have hv : as[t]? = some v := by rw [List.getElem?_eq_getElem ht, hv]
    obtain ⟨u, hu, hr⟩ := RelL.get t v hrel hv
    refine ⟨allL_get ha t v hv, ?_⟩
    have : (us.toArray ++ Array.replicate (fn.ntmps - us.toArray.size) undef).getD t undef = u := by
      have h1 : t < us.length := by omega
      have h2 : (us.toArray ++ Array.replicate (fn.ntmps - us.toArray.size) undef)[t]? = some u := by
        rw [Array.getElem?_append_left (by simpa using h1)]
        simpa using hu
      rw [Array.getD_eq_getD_getElem?, h2]; rfl
    rw [this]
    exact hr
  · rw [List.getD_eq_getElem?_getD, List.getElem?_eq_none (by omega)] at hv
    split at hv
    · cases hv; exact ⟨rfl, by simp [Rel]⟩
    · cases hv

/-- What a function in place leaves to its caller. -/
theorem end_post {E : Env} {base : Nat} {w0 : Start} {fn : Func} {gho : List AV} {S : St} {a : Act} {w : World} {ok2 : Bool} {vs : List AV} (htmp : fn.results.toList.all isResB = true)
    (H : SimE E base w0 S a w) (hgho : S.gho = gho) (hres : resAV E S fn.results.toList = some (ok2, vs)) (hok : ok2 = true) :
    a.defers = [] ∧ ∃ v, (results fn a.tmps).run E.P w = .ok v w ∧ ∃ (X' : Cx) (u : Value), Ending.returned v = .returned u ∧ X'.rows = S.rows ∧ RowsOk base w0 S.rows.length X' w ∧ GlobOk E X' ∧
      (AV.allL (fun q _ => S.rows.okid S.rows.length q) gho = true ∧ RelL X' gho w0.gv) ∧ (packR vs).all (fun q _ => S.rows.okid S.rows.length q) = true ∧ Rel X' (packR vs) u := by
  obtain ⟨X, H⟩ := H
  obtain ⟨us, hrun, h1, h2⟩ := resAV_ok H hres hok
  subst hgho
  exact ⟨H.defers, _, results_run' hrun, X, _, rfl, H.rows, H.ok, H.glob, H.gho, packR_all h2, packR_rel h1⟩

theorem exFnI_ok {Γ : Fx} (hK : EnvOk Γ.toEnv) (hW : WOk Γ.W) (hm : Γ.P.follows .mixedOrders = true) {f : FuncId} {fn : Func} (hf : Γ.P.funcs[f]? = some fn)
    (hin : ∀ (args : Array Value) (w : World), (callFunc f args).run Γ.P w = .ok (.enter f args) w) : IOk Γ.toEnv f (exFnI Γ fn) := by
  have key : ∀ (c : Code) (rows : Rows) (gho as : List AV) (o : Out) (S : St), ex { Γ with res := fn.results.toList, inp := true } c (startI fn rows gho as) = some o → endI (startI fn rows gho as) o = some S → Agree (startI fn rows gho as) S := by
    intro c rows gho as o S ho hS
    have ag := ex_agree { Γ with res := fn.results.toList, inp := true } hK c _ o ho
    unfold endI at hS
    split at hS
    · exact ag.1 S hS
    · rename_i Sr he
      simp only [Option.join_eq_some_iff] at hS
      exact joinO_agree hS ag.1 (fun S' e => by cases e; exact ag.2 (0, Sr) (by rw [he]; simp)) S rfl
    · cases hS
  refine ⟨hin, fun rows gho as ok r rows' d h => ?_, fun base w0 X w gho as us r rows' d R hG hg1 hg2 ha hrel h => ?_⟩
  · unfold exFnI at h
    split at h
    · cases h
    · rename_i c hb
      split at h
      · simp only [Option.bind_eq_some_iff] at h
        obtain ⟨o, ho, S, hS, h⟩ := h
        split at h
        · simp only [Option.map_eq_some_iff, Prod.exists, Prod.mk.injEq] at h
          obtain ⟨ok2, vs, hv, _, _, rfl, rfl⟩ := h
          have A := key c rows gho as o S ho hS
          exact ⟨A.rlen, fun q hq hn => A.row q hq hn⟩
        · cases h
      · cases h
  · unfold exFnI at h
    split at h
    · cases h
    · rename_i c hb
      split at h
      · rename_i htmp
        simp only [Option.bind_eq_some_iff] at h
        obtain ⟨o, ho, S, hS, h⟩ := h
        split at h
        · simp only [Option.map_eq_some_iff, Prod.exists, Prod.mk.injEq] at h
          obtain ⟨ok2, vs, hv, hok, rfl, rfl, rfl⟩ := h
          simp only [Bool.and_eq_true] at hok
          obtain ⟨hok1, hok2⟩ := hok
          have A := key c X.rows gho as o S ho hS
          have ag := ex_agree { Γ with res := fn.results.toList, inp := true } hK c _ o ho
          have st := start_sim (E := Γ.toEnv) fn R hG hg1 hg2 ha hrel
          refine calls_of_wp hf hb (Code.wp_mono (fun e a w' hq => ?_) (ex_ok { Γ with res := fn.results.toList, inp := true } hK hW hm c _ o _ w ho hok1 st))
          have fin : ∀ (a : Act) (w' : World), SimE Γ.toEnv base w0 S a w' → a.defers = [] ∧ ∃ v, (results fn a.tmps).run Γ.P w' = .ok v w' ∧ ∃ (X' : Cx) (u : Value), Ending.returned v = .returned u ∧ X'.rows = S.rows ∧ RowsOk base w0 S.rows.length X' w' ∧ GlobOk Γ.toEnv X' ∧
              (AV.allL (fun q _ => S.rows.okid S.rows.length q) gho = true ∧ RelL X' gho w0.gv) ∧ (packR vs).all (fun q _ => S.rows.okid S.rows.length q) = true ∧ Rel X' (packR vs) u :=
            fun a w' hs => end_post htmp hs A.gho hv hok2
          unfold endI at hS
          cases e with
          | normal =>
            obtain ⟨ht, S1, e1, hs⟩ := hq
            have hN : o.tag.isN = true := by rw [ht]; rfl
            split at hS
            · rw [e1] at hS; cases hS; exact fin a w' hs
            · rename_i Sr he
              simp only [Option.join_eq_some_iff] at hS
              obtain ⟨S2, h2, hs2⟩ := joinO_ok (E := Γ.toEnv) (base := base) (w0 := w0) (a := a) (w := w') hS ag.1 (fun S' e => by cases e; exact ag.2 (0, Sr) (by rw [he]; simp)) (fun _ => ⟨S1, e1, hs⟩) (fun hf => by rw [hN] at hf; cases hf)
              cases h2
              exact fin a w' hs2
            · cases hS
          | ret =>
            obtain ⟨ht, _, e3⟩ := hq
            obtain ⟨S1, e1, hs⟩ := e3 rfl
            have hN : o.tag.isN = false := by rw [ht]; rfl
            split at hS
            · rename_i he; rw [he] at e1; cases e1
            · rename_i Sr he
              rw [he] at e1
              have e2 : Sr = S1 := by simpa [List.lookup_cons] using e1
              subst e2
              simp only [Option.join_eq_some_iff] at hS
              obtain ⟨S2, h2, hs2⟩ := joinO_ok (E := Γ.toEnv) (base := base) (w0 := w0) (a := a) (w := w') hS ag.1 (fun S' e => by cases e; exact ag.2 (0, Sr) (by rw [he]; simp)) (fun hf => by rw [hN] at hf; cases hf) (fun _ => ⟨Sr, rfl, hs⟩)
              cases h2
              exact fin a w' hs2
            · cases hS
          | exit id =>
            obtain ⟨ht, S1, e1, hs⟩ := hq
            split at hS
            · rename_i he; rw [he] at e1; cases e1
            · rename_i Sr he
              rw [he] at e1
              simp [List.lookup_cons] at e1
            · cases hS
          | goto l => exact hq.elim
          | panic ch => exact hq.elim
          | outgrown => exact hq.elim
        · cases h
      · cases h

/-- A contract in place that says less. -/
theorem IOk.of {E : Env} {f : FuncId} {c c' : IC} (H : IOk E f c) (h : ∀ rows gho as ok r rows' d, c' rows gho as = some (ok, r, rows', d) → ∃ ok0, c rows gho as = some (ok0, r, rows', d) ∧ (ok = true → ok0 = true)) : IOk E f c' := by
  refine ⟨H.enter, fun rows gho as ok r rows' d e => ?_, fun base w0 X w gho as us r rows' d R hG h1 h2 h3 h4 e => ?_⟩
  · obtain ⟨ok0, e0, _⟩ := h _ _ _ _ _ _ _ e
    exact H.grows _ _ _ _ _ _ _ e0
  · obtain ⟨ok0, e0, h0⟩ := h _ _ _ _ _ _ _ e
    obtain rfl := h0 rfl
    exact H.valid base w0 X w gho as us r rows' d R hG h1 h2 h3 h4 e0
end Go.Proofs.YtnjofponcdcfcaaDoor.Ab
