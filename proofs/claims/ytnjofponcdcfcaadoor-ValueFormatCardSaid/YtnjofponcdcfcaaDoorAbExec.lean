import Derived.Test.YtnjofponcdcfcaaDoorAbState
import Derived.Test.YtnjofponcdcfcaaDoorAbMake
import Derived.Laws.OwnMore
set_option linter.unusedVariables false
set_option linter.all false
namespace Go.Proofs.YtnjofponcdcfcaaDoor.Ab
open Go.RowKit

theorem Stab.data {X X' : Cx} (h1 : ∀ b, X.F b → X'.F b) (h2 : ∀ b, X.F b → X'.heap[b]? = X.heap[b]?) : Stab X X' (fun _ _ => false) where
  F := h1
  heap := h2
  box _ _ h := by cases h
  arr _ _ h := by cases h

def St.opds (E : Env) (S : St) : List Operand → Option (Bool × List AV)
  | [] => some (true, [])
  | x :: xs => (S.opd E x).bind fun (ok, v) => (S.opds E xs).map fun (ok', vs) => (sAnd ok ok', v :: vs)

theorem opds_ok {E : Env} {base n : Nat} {w0 : Start} {w : World} {X : Cx} {S : St} {a : Act} (H : Sim E base w0 n X S a w) : ∀ {xs : List Operand} {ok : Bool} {vs : List AV}, S.opds E xs = some (ok, vs) → ok = true →
    RelL X vs (xs.map a.eval) ∧ AV.allL (fun q _ => S.rows.okid n q) vs = true
  | [], ok, vs, h, hok => by cases h; simp [RelL, AV.allL]
  | x :: xs, ok, vs, h, hok => by
    simp only [St.opds, Option.bind_eq_some_iff, Option.map_eq_some_iff, Prod.exists, Prod.mk.injEq] at h
    obtain ⟨ok1, v, h1, ok2, vs2, h2, rfl, rfl⟩ := h
    simp only [Bool.and_eq_true] at hok
    obtain ⟨hr, ha⟩ := opd_ok H h1 hok.1
    obtain ⟨ih1, ih2⟩ := opds_ok H h2 hok.2
    simp only [List.map_cons, RelL, AV.allL, Bool.and_eq_true]
    exact ⟨⟨_, _, rfl, hr, ih1⟩, ha, ih2⟩

/-- A function's contract: it may be entered, and it makes of data the datum that c says. -/
structure KOk (E : Env) (f : FuncId) (c : List AV → Option (Bool × AV)) : Prop where
  enter : ∀ (args : Array Value) (w : World), (callFunc f args).run E.P w = .ok (.enter f args) w
  valid : ∀ (F : Nat → Prop) (w : World) (as : List AV) (us : List Value) (r : AV),
    (∀ g s x, E.G g = some ⟨s, x⟩ → GRel ⟨F, fun _ => none, [], w.heap⟩ g s x) → (∀ b, F b → b < w.heap.size) →
    RelL ⟨F, fun _ => none, [], w.heap⟩ as us → c as = some (true, r) →
    Calls E.P f us.toArray w fun e w' => ∃ (F' : Nat → Prop) (u : Value), e = .returned u ∧ Below w.heap.size w w' ∧ (∀ b, F b → F' b) ∧ (∀ b, F' b → F b ∨ w.heap.size ≤ b) ∧ (∀ b, F' b → b < w'.heap.size) ∧
      Rel ⟨F', fun _ => none, [], w'.heap⟩ r u

mutual
theorem lend_same {rows : Rows} : ∀ (a b : AV), a.lend rows = some b → a.all (fun _ _ => false) = true → b = a
  | .own _ _, b, h, h2 | .osl _ _ _ _, b, h, h2 | .eptr _ _ _ _, b, h, h2 | .ptr _ _, b, h, h2 | .bsl _ _ _ _, b, h, h2 => by simp [AV.all] at h2
  | .agg cs, b, h, h2 => by
    simp only [AV.lend, Option.map_eq_some_iff] at h
    obtain ⟨ds, h, rfl⟩ := h
    rw [lendL_same cs ds h (by simpa [AV.all] using h2)]
  | .tup cs, b, h, h2 => by
    simp only [AV.lend, Option.map_eq_some_iff] at h
    obtain ⟨ds, h, rfl⟩ := h
    rw [lendL_same cs ds h (by simpa [AV.all] using h2)]
  | .iface t v, b, h, h2 => by
    simp only [AV.lend, Option.map_eq_some_iff] at h
    obtain ⟨d, h, rfl⟩ := h
    rw [lend_same v d h (by simpa [AV.all] using h2)]
  | .clo f cs, b, h, h2 => by
    cases cs with
    | nil => simp only [AV.lend, Option.some.injEq] at h; exact h.symm
    | cons _ _ => simp only [AV.lend, reduceCtorEq] at h
  | .unk, b, h, h2 | .bool _, b, h, h2 | .int _ _, b, h, h2 | .str _, b, h, h2 | .nilp, b, h, h2 | .nilf, b, h, h2 | .nili, b, h, h2 | .nils, b, h, h2 | .dsl _ _, b, h, h2 | .dptr _ _ _, b, h, h2 => by
    simp only [AV.lend, Option.some.injEq] at h; exact h.symm
  | .opt _ _, b, h, h2 | .gopt _ _, b, h, h2 => by simp only [AV.lend, reduceCtorEq] at h
theorem lendL_same {rows : Rows} : ∀ (as bs : List AV), AV.lendL rows as = some bs → AV.allL (fun _ _ => false) as = true → bs = as
  | [], bs, h, _ => by simp only [AV.lendL, Option.some.injEq] at h; exact h.symm
  | a :: as, bs, h, h2 => by
    simp only [AV.lendL, Option.bind_eq_some_iff, Option.map_eq_some_iff] at h
    obtain ⟨b, h1, bs', h3, rfl⟩ := h
    simp only [AV.allL, Bool.and_eq_true] at h2
    rw [lend_same a b h1 h2.1, lendL_same as bs' h3 h2.2]
end

/-- Of a call of a function that only computes. -/
def qCall (E : Env) (S : St) (c : Call) : Option (Bool × AV × Option Row) :=
  match c.callee with
  | .value (.func f) => (E.K f).bind fun k => (S.opds E c.args.toList).bind fun (ok, vs) => (AV.lendL S.rows vs).bind fun us => (k us).bind fun (ok', r) =>
      if r.all (fun _ _ => false) ∧ (AV.allL (fun _ _ => false) vs ∨ r.noData) then some (sAnd ok ok', r, none) else none
  | _ => none

/-- Data that point nowhere. -/
def Sh.flat : Sh → Bool
  | .sl _ => false
  | .arr _ e => e.flat
  | .prod a b => a.flat && b.flat
  | _ => true

theorem Den.flat {F F' : Nat → Prop} {h h' : Array Obj} : ∀ (s : Sh) (x : s.den) (cs : List Value), s.flat = true → Den F h s x cs → Den F' h' s x cs
  | .unit, _, _, _, e => e
  | .bool, _, _, _, e => e
  | .int _, _, _, _, e => e
  | .str, _, _, _, e => e
  | .sl e, _, _, hf, _ => by cases hf
  | .arr n e, xs, cs, hf, ⟨hl, h⟩ => ⟨hl, AllD.mono (fun x cs => Den.flat e x cs hf) xs cs h⟩
  | .prod a b, x, cs, hf, ⟨c1, c2, hc, h1, h2⟩ => by
    simp only [Sh.flat, Bool.and_eq_true] at hf
    exact ⟨c1, c2, hc, Den.flat a _ _ hf.1 h1, Den.flat b _ _ hf.2 h2⟩

/-- A contract whose results lie in new memory alone. -/
structure KFr (E : Env) (f : FuncId) (c : List AV → Option (Bool × AV)) : Prop where
  enter : ∀ (args : Array Value) (w : World), (callFunc f args).run E.P w = .ok (.enter f args) w
  valid : ∀ (F : Nat → Prop) (w : World) (as : List AV) (us : List Value) (r : AV),
    (∀ g s x, E.G g = some ⟨s, x⟩ → GRel ⟨F, fun _ => none, [], w.heap⟩ g s x) → (∀ b, F b → b < w.heap.size) →
    RelL ⟨F, fun _ => none, [], w.heap⟩ as us → c as = some (true, r) →
    Calls E.P f us.toArray w fun e w' => ∃ (F' : Nat → Prop) (u : Value), e = .returned u ∧ Below w.heap.size w w' ∧ (∀ b, F' b → w.heap.size ≤ b ∧ b < w'.heap.size) ∧ Rel ⟨F', fun _ => none, [], w'.heap⟩ r u

/-- A contract whose result is a slice of new memory. -/
structure KNew (E : Env) (f : FuncId) (c : List AV → Option (Bool × ((s : Sh) × List s.den))) : Prop where
  enter : ∀ (args : Array Value) (w : World), (callFunc f args).run E.P w = .ok (.enter f args) w
  valid : ∀ (F : Nat → Prop) (w : World) (as : List AV) (us : List Value) (s : Sh) (xs : List s.den),
    (∀ g s x, E.G g = some ⟨s, x⟩ → GRel ⟨F, fun _ => none, [], w.heap⟩ g s x) → (∀ b, F b → b < w.heap.size) →
    RelL ⟨F, fun _ => none, [], w.heap⟩ as us → c as = some (true, ⟨s, xs⟩) →
    Calls E.P f us.toArray w fun e w' => ∃ (F' : Nat → Prop) (loc : Option (Nat × Nat)) (u : Value), e = .returned u ∧ Below w.heap.size w w' ∧ (∀ b, F b → F' b) ∧ (∀ b, F' b → F b ∨ w.heap.size ≤ b) ∧ (∀ b, F' b → b < w'.heap.size) ∧
      (∀ b o, loc = some (b, o) → w.heap.size ≤ b ∧ ¬ F' b) ∧ RowOk ⟨F', fun _ => loc, [some (.arr 0 s xs)], w'.heap⟩ 0 (.arr 0 s xs) ∧ Rel ⟨F', fun _ => loc, [some (.arr 0 s xs)], w'.heap⟩ (.own 0 0) u

/-- Of a call whose results are new. -/
def qCallJ (E : Env) (S : St) (id : Nat) (c : Call) : Option (Bool × AV × Option Row) :=
  match c.callee with
  | .value (.func f) => match E.J f with
    | some k => (S.opds E c.args.toList).bind fun (ok, vs) => (AV.lendL S.rows vs).bind fun us => (k us).bind fun (ok', r) => if r.all (fun _ _ => false) then some (sAnd ok ok', r, none) else none
    | none => (E.N f).bind fun k => (S.opds E c.args.toList).bind fun (ok, vs) => (AV.lendL S.rows vs).bind fun us => (k us).bind fun (ok', ⟨s, xs⟩) =>
        if AV.allL (fun _ _ => false) vs || s.flat then some (sAnd ok ok', .own id 0, some (.arr 0 s xs)) else none
  | _ => none

/-- The room of no slice; zeros behind no slice. -/
def quietC (E : Env) (S : St) (id : Nat) (c : Call) : Option (Bool × AV × Option Row) :=
  match c.callee with
  | .builtin .cap => match c.args.toList, c.argTypes.toList with
    | [x], [t] => match S.opd E x, E.P.underlying t with
      | some (ok, .nils), some (.slice _) => some (ok, .int .i64 0, none)
      | _, _ => none
    | _, _ => none
  | .builtin .append => match c.args.toList, c.argTypes.toList with
    | [x, y], [t, t'] => match S.opd E x, S.opd E y with
      | some (okx, .nils), some (oky, .int _ k) => (qAppMake E.P t t' k).map fun (ok, row) => (sAnd (sAnd okx oky) ok, .own id 0, some row)
      | _, _ => none
    | _, _ => none
  | _ => none

def qop (E : Env) (S : St) (n id : Nat) (op : Op) : Option (Bool × AV × Option Row) :=
  match op with
  | .makeFunc fn first caps => match fn, first.toList with
    | .func f, [] => (S.opds E caps.toList).map fun (ok, vs) => (ok, .clo f vs, none)
    | _, _ => none
  | .call c => match c.callee with
    | .value _ => match qCall E S c with
      | some x => some x
      | none => qCallJ E S id c
    | _ => match quietC E S id c with
      | some x => some x
      | none => quietB E S c
  | op => quiet E S n id op

section
variable {E : Env} {base n : Nat} {w0 : Start} {w : World} {X : Cx} {S : St} {a : Act}

theorem quietC_ok (H : Sim E base w0 n X S a w) {c : Call} {id : Nat} (hid : n ≤ id) (hno : S.rows.get id = none) {dst : Option Tmp} {ty : TypeId} {pos : String} {after : Array Edge} {guard : Option (Nat × Bool)} {ok : Bool} {v : AV} {new : Option Row}
    (h : quietC E S id c = some (ok, v, new)) (hok : ok = true) :
    ∃ val w', (execOp a.eval { dst, op := .call c, type := ty, pos, after, guard }).run E.P w = .ok (.value val) w' ∧ QPost X w id v new val w' := by
  obtain ⟨callee, args, argTypes⟩ := c
  obtain ⟨args⟩ := args
  obtain ⟨argTypes⟩ := argTypes
  unfold quietC at h
  split at h
  · rename_i hcal
    simp only at hcal
    subst hcal
    split at h
    · rename_i x t ha ht
      simp only at ha ht
      subst ha ht
      split at h
      · rename_i ok' et hx ht
        cases h
        have hr := (opd_ok H hx hok).1
        simp only [Rel] at hr
        exact ⟨.int .i64 0, w, by simp [execOp, resolve, invoke, BigFrame.builtin_cap, Builtin.cap_, run_underlying ht, hr, goInt], QPost.same H.ok (by simp only [Rel])⟩
      · cases h
    · cases h
  · rename_i hcal
    simp only at hcal
    subst hcal
    split at h
    · rename_i x y t t' ha ht
      simp only at ha ht
      subst ha ht
      split at h
      · rename_i okx oky ky k hx hy
        simp only [Option.map_eq_some_iff, Prod.exists, Prod.mk.injEq] at h
        obtain ⟨ok', row, hq, h1, rfl, rfl⟩ := h
        subst h1
        simp only [Bool.and_eq_true] at hok
        have hxr := (opd_ok H hx hok.1.1).1
        have hyr := (opd_ok H hy hok.1.2).1
        simp only [Rel] at hxr hyr
        obtain ⟨val, w', hrun, hp⟩ := appMake_ok (ty := ty) (ki := ky) H.ok hid (by rw [H.rows]; exact hno) hq hok.2
        refine ⟨val, w', ?_, hp⟩
        rw [← hxr, ← hyr] at hrun
        simp [execOp, resolve, invoke, BigFrame.builtin_append, hrun]
      · cases h
    · cases h
  · cases h

theorem qCall_wp (hK : ∀ f c, E.K f = some c → KOk E f c) (H : Sim E base w0 n X S a w) {c : Call} {id : Nat} {dst : Option Tmp} {ty : TypeId} {pos : String} {after : Array Edge} {guard : Option (Nat × Bool)} {ok : Bool} {v : AV} {new : Option Row}
    (h : qCall E S c = some (ok, v, new)) (hok : ok = true) {K : Act → World → Prop} {Q : Exit → Act → World → Prop} (hk : ∀ val w', QPost X w id v new val w' → K (a.put dst val) w') :
    Oper.wp E.P { dst, op := .call c, type := ty, pos, after, guard } a w K Q := by
  obtain ⟨callee, args, argTypes⟩ := c
  obtain ⟨args⟩ := args
  unfold qCall at h
  split at h
  · rename_i f hcal
    simp only at hcal
    subst hcal
    simp only [Option.bind_eq_some_iff, Prod.exists] at h
    obtain ⟨k, hkf, ok1, vs, hvs, us, hus, ok2, r, hr, h2⟩ := h
    split at h2
    · rename_i hc
      obtain ⟨hc1, hc2⟩ := hc
      simp only [Option.some.injEq, Prod.mk.injEq] at h2
      obtain ⟨rfl, rfl, rfl⟩ := h2
      simp only [Bool.and_eq_true] at hok
      obtain ⟨hok1, rfl⟩ := hok
      obtain ⟨hrel, hall⟩ := opds_ok H hvs hok1
      have KO := hK f k hkf
      have hex : (execOp a.eval { dst, op := .call { callee := .value (.func f), args := ⟨args⟩, argTypes }, type := ty, pos, after, guard }).run E.P w = .ok (.enter f (args.map a.eval).toArray) w := by
        have e : execOp a.eval { dst, op := .call { callee := .value (.func f), args := ⟨args⟩, argTypes }, type := ty, pos, after, guard } = callFunc f (#[] ++ (⟨args⟩ : Array Operand).map a.eval ++ #[]) := rfl
        rw [e]
        have e2 : (#[] ++ (⟨args⟩ : Array Operand).map a.eval ++ #[] : Array Value) = (args.map a.eval).toArray := by simp
        rw [e2]
        exact KO.enter _ w
      unfold Oper.wp
      rw [hex, Oper.upon_enter]
      -- the context of the call: lent memory, or none lent
      have key : ∀ Fc : Nat → Prop, (∀ b, Fc b → b < w.heap.size) → (∀ g s x, E.G g = some ⟨s, x⟩ → GRel ⟨Fc, fun _ => none, [], w.heap⟩ g s x) →
          RelL ⟨Fc, fun _ => none, [], w.heap⟩ us (args.map a.eval) →
          (∀ (F' : Nat → Prop) (u : Value) (w' : World), Below w.heap.size w w' → (∀ b, Fc b → F' b) → (∀ b, F' b → Fc b ∨ w.heap.size ≤ b) → (∀ b, F' b → b < w'.heap.size) → Rel ⟨F', fun _ => none, [], w'.heap⟩ r u → QPost X w id r none u w') →
          Calls E.P f (args.map a.eval).toArray w fun
            | .returned v, w'' => K (a.put dst v) w''
            | .panicked chain, w'' => Q (.panic chain) a w''
            | .outgrown, _ => LetsOut Q := by
        intro Fc hF hG hU hpost
        refine (KO.valid Fc w us _ r hG hF hU hr).mono fun e w' he => ?_
        obtain ⟨F', u, rfl, h1, h2, h3, h4, h5⟩ := he
        exact hk u w' (hpost F' u w' h1 h2 h3 h4 h5)
      have hlent : RelL X.lent us (args.map a.eval) := lendL_ok H.ok vs us _ (by rw [H.rows]; exact hus) hrel
      have hXl : X.lent = ⟨X.lent.F, fun _ => none, [], w.heap⟩ := by unfold Cx.lent; rw [H.ok.heap]
      rcases hc2 with hc2 | hc2
      · -- nothing lent
        have hus' : RelL ⟨X.F, fun _ => none, [], w.heap⟩ us (args.map a.eval) := by
          have : ∀ (as bs : List AV) (ws : List Value), AV.lendL S.rows as = some bs → AV.allL (fun _ _ => false) as = true → RelL X as ws → RelL ⟨X.F, fun _ => none, [], w.heap⟩ bs ws := by
            intro as bs ws h1 h2 h3
            have hst : Stab X ⟨X.F, fun _ => none, [], w.heap⟩ (fun _ _ => false) := (Stab.data (fun _ h => h) fun b hb => by rw [H.ok.heap])
            have h4 := RelL.mono hst as ws h2 h3
            have : bs = as := lendL_same as bs h1 h2
            rw [this]; exact h4
          exact this vs us _ hus hc2 hrel
        refine key X.F H.ok.fresh (fun g s x hg => ?_) hus' (fun F' u w' h1 h2 h3 h4 h5 => ?_)
        · have := H.glob g s x hg
          refine GRel.mono (p := fun _ _ => false) ?_ this
          exact (Stab.data (fun _ h => h) fun b hb => by rw [H.ok.heap])
        · refine ⟨F', none, h1, h2, h3, h4, ?_⟩
          refine Rel.mono (p := fun _ _ => false) ?_ _ _ hc1 h5
          exact (Stab.data (fun _ h => h) fun b hb => rfl)
      · refine key X.lent.F (fun b hb => ?_) (fun g s x hg => ?_) (by rw [← hXl]; exact hlent) (fun F' u w' h1 h2 h3 h4 h5 => ?_)
        · rcases hb with hb | ⟨q, z, o, hz, hφ⟩
          · exact H.ok.fresh b hb
          · exact H.ok.lt hz hφ
        · have := H.glob g s x hg
          refine GRel.mono (p := fun _ _ => false) ?_ this
          exact (Stab.data (fun _ h => .inl h) fun b hb => by rw [H.ok.heap])
        · refine ⟨X.F, none, h1, fun _ h => h, fun _ h => .inl h, fun b hb => Nat.lt_of_lt_of_le (H.ok.fresh b hb) h1.size, ?_⟩
          exact Rel.noData r u hc2 h5
    · cases h2
  · cases h

theorem qCallJ_wp (hJ : ∀ f c, E.J f = some c → KFr E f c) (hN : ∀ f c, E.N f = some c → KNew E f c) (H : Sim E base w0 n X S a w) {c : Call} {id : Nat} {dst : Option Tmp} {ty : TypeId} {pos : String} {after : Array Edge} {guard : Option (Nat × Bool)} {ok : Bool} {v : AV} {new : Option Row}
    (h : qCallJ E S id c = some (ok, v, new)) (hok : ok = true) {K : Act → World → Prop} {Q : Exit → Act → World → Prop} (hk : ∀ val w', QPost X w id v new val w' → K (a.put dst val) w') :
    Oper.wp E.P { dst, op := .call c, type := ty, pos, after, guard } a w K Q := by
  obtain ⟨callee, args, argTypes⟩ := c
  obtain ⟨args⟩ := args
  unfold qCallJ at h
  have hXl : X.lent = ⟨X.lent.F, fun _ => none, [], w.heap⟩ := by unfold Cx.lent; rw [H.ok.heap]
  have hexec : ∀ (f : FuncId), (∀ (args : Array Value) (w : World), (callFunc f args).run E.P w = .ok (.enter f args) w) →
      (execOp a.eval { dst, op := .call { callee := .value (.func f), args := ⟨args⟩, argTypes }, type := ty, pos, after, guard }).run E.P w = .ok (.enter f (args.map a.eval).toArray) w := by
    intro f hent
    have e : execOp a.eval { dst, op := .call { callee := .value (.func f), args := ⟨args⟩, argTypes }, type := ty, pos, after, guard } = callFunc f (#[] ++ (⟨args⟩ : Array Operand).map a.eval ++ #[]) := rfl
    rw [e]
    have e2 : (#[] ++ (⟨args⟩ : Array Operand).map a.eval ++ #[] : Array Value) = (args.map a.eval).toArray := by simp
    rw [e2]
    exact hent _ w
  have hlF : ∀ b, X.lent.F b → b < w.heap.size := fun b hb => by
    rcases hb with hb | ⟨q, z, o, hz, hφ⟩
    · exact H.ok.fresh b hb
    · exact H.ok.lt hz hφ
  have hlG : ∀ g s x, E.G g = some ⟨s, x⟩ → GRel ⟨X.lent.F, fun _ => none, [], w.heap⟩ g s x := fun g s x hg => by
    refine GRel.mono (p := fun _ _ => false) ?_ (H.glob g s x hg)
    exact Stab.data (fun _ h => .inl h) fun b hb => by rw [H.ok.heap]
  split at h
  · rename_i f hcal
    simp only at hcal
    subst hcal
    split at h
    · rename_i k hkf
      simp only [Option.bind_eq_some_iff, Prod.exists] at h
      obtain ⟨ok1, vs, hvs, us, hus, ok2, r, hr, h2⟩ := h
      split at h2
      · rename_i hc1
        simp only [Option.some.injEq, Prod.mk.injEq] at h2
        obtain ⟨rfl, rfl, rfl⟩ := h2
        simp only [Bool.and_eq_true] at hok
        obtain ⟨hok1, rfl⟩ := hok
        obtain ⟨hrel, hall⟩ := opds_ok H hvs hok1
        have KO := hJ f k hkf
        have hlent : RelL X.lent us (args.map a.eval) := lendL_ok H.ok vs us _ (by rw [H.rows]; exact hus) hrel
        unfold Oper.wp
        rw [hexec f KO.enter, Oper.upon_enter]
        refine (KO.valid X.lent.F w us _ r hlG hlF (by rw [← hXl]; exact hlent) hr).mono fun e w' he => ?_
        obtain ⟨F', u, rfl, h1, h2, h3⟩ := he
        refine hk u w' ⟨fun b => X.F b ∨ F' b, none, h1, fun b hb => .inl hb, fun b hb => ?_, fun b hb => ?_, ?_⟩
        · rcases hb with hb | hb
          · exact .inl hb
          · exact .inr (h2 b hb).1
        · rcases hb with hb | hb
          · exact Nat.lt_of_lt_of_le (H.ok.fresh b hb) h1.size
          · exact (h2 b hb).2
        · refine Rel.mono (p := fun _ _ => false) ?_ _ _ hc1 h3
          exact Stab.data (fun _ h => .inr h) fun b hb => rfl
      · cases h2
    · simp only [Option.bind_eq_some_iff, Prod.exists] at h
      obtain ⟨k, hkf, ok1, vs, hvs, us, hus, ok2, sx, hr, h2⟩ := h
      obtain ⟨s, xs⟩ := sx
      simp only at h2
      split at h2
      · rename_i hc1
        simp only [Option.some.injEq, Prod.mk.injEq] at h2
        obtain ⟨rfl, rfl, rfl⟩ := h2
        simp only [Bool.and_eq_true] at hok
        obtain ⟨hok1, rfl⟩ := hok
        obtain ⟨hrel, hall⟩ := opds_ok H hvs hok1
        have KO := hN f k hkf
        unfold Oper.wp
        rw [hexec f KO.enter, Oper.upon_enter]
        -- what the caller gets
        have fin : ∀ (Fc F' : Nat → Prop) (loc : Option (Nat × Nat)) (u : Value) (w' : World), Below w.heap.size w w' → (∀ b, X.F b → Fc b) → (∀ b, Fc b → F' b) → (∀ b, F' b → Fc b ∨ w.heap.size ≤ b) → (∀ b, F' b → b < w'.heap.size) →
            (∀ b o, loc = some (b, o) → w.heap.size ≤ b ∧ ¬ F' b) → RowOk ⟨F', fun _ => loc, [some (.arr 0 s xs)], w'.heap⟩ 0 (.arr 0 s xs) → Rel ⟨F', fun _ => loc, [some (.arr 0 s xs)], w'.heap⟩ (.own 0 0) u →
            (s.flat = true ∨ ∀ b, Fc b → X.F b) → QPost X w id (.own id 0) (some (.arr 0 s xs)) u w' := by
          intro Fc F' loc u w' p1 p0 p2 p3 p4 p5 p6 p7 p8
          have hrow : ∀ F2 : Nat → Prop, (s.flat = true ∨ ∀ b, F' b → F2 b) → RowOk (Cx.claim { X with F := F2, heap := w'.heap } id (.arr 0 s xs) loc) id (.arr 0 s xs) := by
            intro F2 hF2
            rcases p6 with ⟨q1, q2⟩ | ⟨b, o, c, T, q1, q2, q3, q4⟩
            · exact .inl ⟨by simp [Cx.claim]; exact q1, q2⟩
            · refine .inr ⟨b, o, c, T, by simp [Cx.claim]; exact q1, q2, q3, fun i hi => ?_⟩
              obtain ⟨es, he, hd⟩ := q4 i hi
              refine ⟨es, he, ?_⟩
              rcases hF2 with hf | hF2
              · exact Den.flat s _ es hf hd
              · exact Den.mono hF2 (fun _ _ => rfl) s _ es hd
          have hrel2 : ∀ F2 : Nat → Prop, Rel (Cx.claim { X with F := F2, heap := w'.heap } id (.arr 0 s xs) loc) (.own id 0) u := by
            intro F2
            simp only [Rel] at p7 ⊢
            intro s' zs hz
            simp only [Cx.claim, Rows.get_put, if_pos] at hz
            obtain ⟨_, hs', hz'⟩ := Row.arr.inj (Option.some.inj hz)
            subst hs'
            cases hz'
            have := p7 s xs rfl
            simpa [Cx.claim] using this
          rcases p8 with hf | hF
          · exact ⟨X.F, loc, p1, fun _ h => h, fun _ h => .inl h, fun b hb => Nat.lt_of_lt_of_le (H.ok.fresh b hb) p1.size, hrow X.F (.inl hf), fun b o e => ⟨(p5 b o e).1, fun hb => (p5 b o e).2 (p2 b (p0 b hb))⟩, hrel2 X.F⟩
          · exact ⟨F', loc, p1, fun b hb => p2 b (p0 b hb), fun b hb => (p3 b hb).imp (hF b) (fun h => h), p4, hrow F' (.inr fun _ h => h), p5, hrel2 F'⟩
        by_cases hvn : AV.allL (fun _ _ => false) vs = true
        · have hus' : RelL ⟨X.F, fun _ => none, [], w.heap⟩ us (args.map a.eval) := by
            have hst : Stab X ⟨X.F, fun _ => none, [], w.heap⟩ (fun _ _ => false) := (Stab.data (fun _ h => h) fun b hb => by rw [H.ok.heap])
            rw [lendL_same vs us hus hvn]
            exact RelL.mono hst vs _ hvn hrel
          refine (KO.valid X.F w us _ s xs (fun g s x hg => ?_) H.ok.fresh hus' hr).mono fun e w' he => ?_
          · refine GRel.mono (p := fun _ _ => false) ?_ (H.glob g s x hg)
            exact (Stab.data (fun _ h => h) fun b hb => by rw [H.ok.heap])
          · obtain ⟨F', loc, u, rfl, h1, h2, h3, h4, h5, h6, h7⟩ := he
            exact hk u w' (fin X.F F' loc u w' h1 (fun _ h => h) h2 h3 h4 h5 h6 h7 (.inr fun _ h => h))
        · have hflat : s.flat = true := by
            simp only [Bool.or_eq_true] at hc1
            exact hc1.resolve_left hvn
          have hlent : RelL X.lent us (args.map a.eval) := lendL_ok H.ok vs us _ (by rw [H.rows]; exact hus) hrel
          refine (KO.valid X.lent.F w us _ s xs hlG hlF (by rw [← hXl]; exact hlent) hr).mono fun e w' he => ?_
          obtain ⟨F', loc, u, rfl, h1, h2, h3, h4, h5, h6, h7⟩ := he
          exact hk u w' (fin X.lent.F F' loc u w' h1 (fun _ h => .inl h) h2 h3 h4 h5 h6 h7 (.inl hflat))
      · cases h2
  · cases h
end
end Go.Proofs.YtnjofponcdcfcaaDoor.Ab
set_option linter.unusedVariables false
set_option linter.all false
namespace Go.Proofs.YtnjofponcdcfcaaDoor.Ab
open Go.RowKit

/-- The world behind a store into one row of the call's own. -/
structure Stored (X : Cx) (w w' : World) (b : Nat) : Prop where
  os : w'.os = w.os
  tape : w'.tape = w.tape
  output : w'.output = w.output
  size : w'.heap.size = w.heap.size
  block : ∀ k, k ≠ b → w'.heap[k]? = w.heap[k]?

theorem Stab.store {base n : Nat} {w0 : Start} {w w' : World} {X : Cx} (H : RowsOk base w0 n X w) {r b o : Nat} {x x' : Row} (hr : X.rows.get r = some x) (hφ : X.φ r = some (b, o)) (hs : Stored X w w' b)
    (hlt : r < X.rows.length) {c c' : Array Value} {T : TypeId} (hc : w.heap[b]? = some (.cells c T (0, 0))) (hc' : w'.heap[b]? = some (.cells c' T (0, 0))) (hsz : c'.size = c.size)
    (hkind : match x, x' with | .box _, .box _ => True | .arr g s xs, .arr g' s' xs' => g = g' ∧ ∃ e : s = s', (e ▸ xs : List s'.den).length = xs'.length | _, _ => False) :
    Stab X { X with rows := X.rows.set r (some x'), heap := w'.heap } (fun _ _ => true) := by
  have hget : ∀ q, Rows.get (X.rows.set r (some x')) q = if q = r then some x' else X.rows.get q := by
    intro q
    unfold Rows.get
    by_cases e : q = r
    · subst e; rw [List.getElem?_set_self hlt]; simp
    · rw [List.getElem?_set_ne (by omega), if_neg e]
  have hown := H.own r x b o hr hφ
  have hblk : ∀ k, k ≠ b → w'.heap[k]? = X.heap[k]? := fun k hk => by rw [H.heap]; exact hs.block k hk
  refine ⟨fun _ h => h, fun k hk => hblk k (fun e => hown.2 (e ▸ hk)), fun q g _ cs' hq => ?_, fun q g _ s xs' hq => ?_⟩
  · simp only [hget] at hq
    split at hq
    · rename_i e
      subst e
      cases hq
      cases x with
      | box cs => exact ⟨⟨cs, hr⟩, rfl⟩
      | arr _ _ _ => exact hkind.elim
    · exact ⟨⟨cs', hq⟩, rfl⟩
  · have hcell : ∀ k o', X.φ q = some (k, o') → ∀ c1 T1 fr1, w'.heap[k]? = some (.cells c1 T1 fr1) → ∃ c0 T0 fr0, X.heap[k]? = some (Obj.cells c0 T0 fr0) ∧ c0.size = c1.size := by
      intro k o' hk c1 T1 fr1 h1
      by_cases e : k = b
      · subst e
        rw [hc'] at h1
        cases h1
        exact ⟨c, T, (0, 0), by rw [H.heap]; exact hc, hsz.symm⟩
      · exact ⟨c1, T1, fr1, by rw [← hblk k e]; exact h1, rfl⟩
    simp only [hget] at hq
    split at hq
    · rename_i e
      subst e
      cases hq
      cases x with
      | box cs => exact hkind.elim
      | arr g0 s0 xs0 =>
        obtain ⟨rfl, rfl, hl⟩ := hkind
        exact ⟨xs0, hr, hl.symm, rfl, hcell⟩
    · exact ⟨xs', hq, rfl, rfl, hcell⟩


theorem RowsOk.store {base n : Nat} {w0 : Start} {w w' : World} {X : Cx} (H : RowsOk base w0 n X w) {r b o : Nat} {x x' : Row} (hr : X.rows.get r = some x) (hφ : X.φ r = some (b, o)) (hs : Stored X w w' b)
    (hlt : r < X.rows.length) {c c' : Array Value} {T : TypeId} (hc : w.heap[b]? = some (.cells c T (0, 0))) (hc' : w'.heap[b]? = some (.cells c' T (0, 0))) (hsz : c'.size = c.size)
    (hkind : match x, x' with | .box _, .box _ => True | .arr g s xs, .arr g' s' xs' => g = g' ∧ ∃ e : s = s', (e ▸ xs : List s'.den).length = xs'.length | _, _ => False)
    (hrow : RowOk { X with rows := X.rows.set r (some x'), heap := w'.heap } r x') (hrefs : ∀ cs, x' = .box cs → AV.allL (fun q _ => X.rows.okid n q) cs = true) :
    RowsOk base w0 n { X with rows := X.rows.set r (some x'), heap := w'.heap } w' ∧ Stab X { X with rows := X.rows.set r (some x'), heap := w'.heap } (fun _ _ => true) := by
  have hget : ∀ q, Rows.get (X.rows.set r (some x')) q = if q = r then some x' else X.rows.get q := by
    intro q
    unfold Rows.get
    by_cases e : q = r
    · subst e; rw [List.getElem?_set_self hlt]; simp
    · rw [List.getElem?_set_ne (by omega), if_neg e]
  have hown := H.own r x b o hr hφ
  have hblk : ∀ k, k ≠ b → w'.heap[k]? = X.heap[k]? := fun k hk => by rw [H.heap]; exact hs.block k hk
  have hst : Stab X { X with rows := X.rows.set r (some x'), heap := w'.heap } (fun _ _ => true) := Stab.store H hr hφ hs hlt hc hc' hsz hkind
  refine ⟨⟨rfl, H.keeps.trans ⟨hs.os, hs.tape, hs.output, by rw [hs.size]; exact Nat.le_refl _, fun k hk => hs.block k (by have := hown.1; omega)⟩, H.sub, by rw [hs.size]; exact H.hb, fun k hk => by rw [hs.size]; exact H.fresh k hk, ?_, ?_, ?_, ?_⟩, hst⟩
  · intro q y hq
    simp only [hget] at hq
    split at hq
    · rename_i e
      subst e
      cases hq
      exact hrow
    · rename_i e
      refine RowOk.mono hst rfl (fun k o' hk => hblk k fun eb => e ?_) y (fun cs ec => ?_) (H.row q y hq)
      · exact H.apart q r y x k o' b o hq hr hk hφ eb
      · subst ec
        exact AV.allL_imp (fun _ _ _ => rfl) cs (H.refs q cs hq)
  · intro q y k o' hq hk
    simp only [hget] at hq
    split at hq
    · rename_i e
      subst e
      exact H.own q x k o' hr hk
    · exact H.own q y k o' hq hk
  · intro q q' y y' k o1 k' o2 hq hq' hk hk' e
    have ex : ∀ q y, Rows.get (X.rows.set r (some x')) q = some y → ∃ z, X.rows.get q = some z := by
      intro q y hq
      rw [hget] at hq
      split at hq
      · rename_i e; subst e; exact ⟨x, hr⟩
      · exact ⟨y, hq⟩
    obtain ⟨z, hz⟩ := ex q y hq
    obtain ⟨z', hz'⟩ := ex q' y' hq'
    exact H.apart q q' z z' k o1 k' o2 hz hz' hk hk' e
  · intro q cs hq
    simp only [hget] at hq
    have him : ∀ (p : Nat), X.rows.okid n p = true → Rows.okid (X.rows.set r (some x')) n p = true := by
      intro p hp
      unfold Rows.okid at hp ⊢
      rw [hget]
      split
      · simp
      · exact hp
    split at hq
    · cases hq
      exact AV.allL_imp (fun _ _ h => him _ h) cs (hrefs cs rfl)
    · exact AV.allL_imp (fun _ _ h => him _ h) cs (H.refs q cs hq)

/-- What a store makes of the rows. -/
def qStore (P : Program) (rows : Rows) (n : Nat) (t : TypeId) (p v : AV) : Option (Nat × Row) :=
  (cellsAV rows v).bind fun vs =>
    if sizeIs P t vs.length then
      match p with
      | .ptr r off => match rows.get r with
        | some (.box cs) => if off + vs.length ≤ cs.length ∧ AV.allL (fun q _ => rows.okid n q) vs = true ∧ AV.allL (fun q _ => rows.okid n q) cs = true then some (r, .box (splice cs off vs)) else none
        | _ => none
      | .eptr r g i off => match rows.get r with
        | some (.arr g' s xs) => if g = g' ∧ off + vs.length ≤ s.size then
            match ofCells s (splice (cellsOf s (xs.getD i s.dflt)) off vs) with
            | some (y, []) => some (r, .arr g s (xs.set i y))
            | _ => none
          else none
        | _ => none
      | _ => none
    else none

theorem splice_get {α : Type} (l : List α) (off : Nat) (vs : List α) (h : off + vs.length ≤ l.length) (k : Nat) :
    (splice l off vs)[k]? = if off ≤ k ∧ k < off + vs.length then vs[k - off]? else l[k]? := by
  unfold splice
  have h1 : (l.take off).length = off := by simp; omega
  by_cases h2 : k < off
  · rw [List.append_assoc, List.getElem?_append_left (by omega), List.getElem?_take, if_pos h2, if_neg (by omega)]
  · by_cases h3 : k < off + vs.length
    · rw [List.append_assoc, List.getElem?_append_right (by omega), h1, List.getElem?_append_left (by omega), if_pos ⟨by omega, h3⟩]
    · rw [List.getElem?_append_right (by simp; omega), if_neg (by omega), List.getElem?_drop]
      congr 1
      simp; omega

theorem splice_length {α : Type} (l : List α) (off : Nat) (vs : List α) (h : off + vs.length ≤ l.length) : (splice l off vs).length = l.length := by
  unfold splice
  simp; omega

theorem run_storeVar {P : Program} {w : World} {t : TypeId} {b o : Nat} {v : Value} {c : Array Value} {T : TypeId} (hs : sizeIs P t v.cells.size = true) (hc : w.heap[b]? = some (.cells c T (0, 0)))
    (hle : o + v.cells.size ≤ c.size) (h1 : ∀ u ∈ v.cells.toList, u.oneCell' = true) :
    (storeVar t ⟨b, o, none⟩ v).run P w = .ok () (w.setRow b (splice c.toList o v.cells.toList).toArray) := by
  have h := run_storeCells_at P b o T v.cells.toList 0 c w hc (by simp; omega) h1
  simp only [Nat.add_zero] at h
  simp only [storeVar, Sem.run_bind, run_sizeOf hs, Result.andThen_ok]
  rw [if_neg (by simp)]
  exact h

theorem stored_setRow {X : Cx} {w : World} {b : Nat} (cs : Array Value) : Stored X w (w.setRow b cs) b :=
  ⟨rfl, rfl, rfl, by simp, fun k hk => setRow_other w b k cs hk⟩

theorem rows_get_lt {rows : Rows} {r : Nat} {x : Row} (h : rows.get r = some x) : r < rows.length := by
  rcases Nat.lt_or_ge r rows.length with h' | h'
  · exact h'
  · unfold Rows.get at h; rw [List.getElem?_eq_none h'] at h; cases h

theorem store_ok {P : Program} {base n : Nat} {w0 : Start} {w : World} {X : Cx} (H : RowsOk base w0 n X w) {t : TypeId} {p v : AV} {up uv : Value} {r : Nat} {x' : Row}
    (h : qStore P X.rows n t p v = some (r, x')) (hp : Rel X p up) (hv : Rel X v uv) :
    ∃ w' X', (Instr.storeAt t up uv).run P w = .ok () w' ∧ RowsOk base w0 n X' w' ∧ X'.rows = X.rows.set r (some x') ∧ r < X.rows.length ∧ Stab X X' (fun _ _ => true) := by
  simp only [qStore, Option.bind_eq_some_iff] at h
  obtain ⟨vs, hvs, h⟩ := h
  obtain ⟨hrel, hone⟩ := cellsAV_rel rfl hvs hv
  have hlen := RelL.length hrel
  simp only [Array.length_toList] at hlen
  split at h
  · rename_i hsz
    rw [← hlen] at hsz
    split at h
    · rename_i q off
      split at h
      · rename_i cs hrow
        split at h
        · rename_i hc
          obtain ⟨hle, ha1, ha2⟩ := hc
          simp only [Option.some.injEq, Prod.mk.injEq] at h
          obtain ⟨hq, rfl⟩ := h
          subst hq
          simp only [Rel] at hp
          obtain ⟨b, hb, rfl⟩ := hp cs hrow
          obtain ⟨_, c, T, hcb, hl⟩ := H.row q _ hrow b 0 hb
          rw [H.heap] at hcb
          have hcl := RelL.length hl
          simp only [Array.length_toList] at hcl
          have hrun := run_storeVar (P := P) (t := t) (b := b) (o := off) (v := uv) hsz hcb (by omega) hone
          have hc' := setRow_heap w b c (splice c.toList off uv.cells.toList).toArray T (0, 0) hcb
          have hst := stored_setRow (X := X) (w := w) (b := b) (splice c.toList off uv.cells.toList).toArray
          have hs2 : ((splice c.toList off uv.cells.toList).toArray).size = c.size := by
            simp only [List.size_toArray]
            rw [splice_length _ _ _ (by simp; omega)]; simp
          have S1 := Stab.store (x' := .box (splice cs off vs)) H hrow hb hst (rows_get_lt hrow) hcb hc' hs2 trivial
          obtain ⟨R, S2⟩ := RowsOk.store (x' := .box (splice cs off vs)) H hrow hb hst (rows_get_lt hrow) hcb hc' hs2 trivial (by
            intro b' o' hbo
            simp only at hbo
            rw [hb] at hbo
            cases hbo
            refine ⟨rfl, _, T, hc', ?_⟩
            exact RelL.splice off (RelL.mono S1 cs _ (AV.allL_imp (fun _ _ _ => rfl) cs ha2) hl) (RelL.mono S1 vs _ (AV.allL_imp (fun _ _ _ => rfl) vs ha1) hrel)) (by
            intro ds hd
            cases hd
            have app : ∀ (l m : List AV), AV.allL (fun q _ => X.rows.okid n q) l = true → AV.allL (fun q _ => X.rows.okid n q) m = true → AV.allL (fun q _ => X.rows.okid n q) (l ++ m) = true := by
              intro l
              induction l with
              | nil => intro m _ h; exact h
              | cons a l ih =>
                intro m h1 h2
                simp only [AV.allL, Bool.and_eq_true, List.cons_append] at h1 ⊢
                exact ⟨h1.1, ih m h1.2 h2⟩
            have tk : ∀ (k : Nat) (l : List AV), AV.allL (fun q _ => X.rows.okid n q) l = true → AV.allL (fun q _ => X.rows.okid n q) (l.take k) = true ∧ AV.allL (fun q _ => X.rows.okid n q) (l.drop k) = true := by
              intro k l
              induction l generalizing k with
              | nil => intro h; cases k <;> simp [AV.allL]
              | cons a l ih =>
                intro h
                simp only [AV.allL, Bool.and_eq_true] at h
                cases k with
                | zero => simp [AV.allL, h.1, h.2]
                | succ k => simp only [List.take_succ_cons, List.drop_succ_cons, AV.allL, Bool.and_eq_true]; exact ⟨⟨h.1, (ih k h.2).1⟩, (ih k h.2).2⟩
            unfold splice
            exact app _ _ (app _ _ (tk _ _ ha2).1 ha1) (tk _ _ ha2).2)
          exact ⟨_, _, by simp [Instr.storeAt, Instr.sureAddr, hrun], R, rfl, rows_get_lt hrow, S2⟩
        · cases h
      · cases h
    · rename_i q g i off
      split at h
      · rename_i g' s xs hrow
        split at h
        · rename_i hc
          obtain ⟨rfl, hle⟩ := hc
          split at h
          · rename_i y hy
            simp only [Option.some.injEq, Prod.mk.injEq] at h
            obtain ⟨hq, rfl⟩ := h
            subst hq
            simp only [Rel] at hp
            obtain ⟨hi, b, o, hb, rfl⟩ := hp s xs hrow
            rcases H.row q _ hrow with ⟨h1, _⟩ | ⟨b', o', c, T, h1, hcb, h3, h4⟩
            · rw [h1] at hb; cases hb
            · rw [h1] at hb; cases hb
              rw [H.heap] at hcb
              have hmul : o + i * s.size + s.size ≤ c.size := by
                have : (i + 1) * s.size ≤ xs.length * s.size := Nat.mul_le_mul_right _ hi
                rw [Nat.add_mul] at this
                omega
              have hrun := run_storeVar (P := P) (t := t) (b := b) (o := o + i * s.size + off) (v := uv) hsz hcb (by omega) hone
              have hc' := setRow_heap w b c (splice c.toList (o + i * s.size + off) uv.cells.toList).toArray T (0, 0) hcb
              have hst := stored_setRow (X := X) (w := w) (b := b) (splice c.toList (o + i * s.size + off) uv.cells.toList).toArray
              have hs2 : ((splice c.toList (o + i * s.size + off) uv.cells.toList).toArray).size = c.size := by
                simp only [List.size_toArray]
                rw [splice_length _ _ _ (by simp; omega)]; simp
              have hkind : g = g ∧ ∃ e : s = s, (e ▸ xs : List s.den).length = (xs.set i y).length := ⟨rfl, rfl, by simp⟩
              have S1 := Stab.store (x' := .arr g s (xs.set i y)) H hrow h1 hst (rows_get_lt hrow) hcb hc' hs2 hkind
              have hF : ∀ k, X.F k → (w.setRow b (splice c.toList (o + i * s.size + off) uv.cells.toList).toArray).heap[k]? = X.heap[k]? := S1.heap
              obtain ⟨R, S2⟩ := RowsOk.store (x' := .arr g s (xs.set i y)) H hrow h1 hst (rows_get_lt hrow) hcb hc' hs2 hkind (by
                refine .inr ⟨b, o, _, T, h1, hc', by rw [List.length_set, hs2]; exact h3, fun j hj => ?_⟩
                simp only [List.length_set] at hj
                obtain ⟨es, ⟨c1, T1, fr1, he1, he2⟩, hd⟩ := h4 j hj
                rw [H.heap, hcb] at he1
                cases he1
                have hel := Den.length s _ es hd
                by_cases e : j = i
                · subst e
                  have hre : RelL X (splice (cellsOf s xs[j]) off vs) (splice es off uv.cells.toList) := RelL.splice off (Den.rel s _ es hd) hrel
                  rw [show xs.getD j s.dflt = xs[j] by simp [List.getD, List.getElem?_eq_getElem hi]] at hy
                  obtain ⟨v1, v2, ev, hdy, hr2⟩ := ofCells_den s _ y [] _ hy hre
                  have : v2 = [] := by simpa [RelL] using hr2
                  subst this
                  rw [List.append_nil] at ev
                  refine ⟨v1, ⟨_, T, (0, 0), hc', fun k hk => ?_⟩, ?_⟩
                  · rw [← ev] at hk ⊢
                    rw [splice_length _ _ _ (by simp; omega)] at hk
                    rw [← Array.getElem?_toList, List.toList_toArray, splice_get _ _ _ (by simp; omega), splice_get _ _ _ (by simp; omega)]
                    by_cases hin : off ≤ k ∧ k < off + uv.cells.toList.length
                    · rw [if_pos hin, if_pos (by omega)]
                      congr 1; omega
                    · rw [if_neg hin, if_neg (by omega)]
                      rw [Array.getElem?_toList]
                      exact he2 k hk
                  · rw [List.getElem_set_self]
                    exact Den.mono (fun _ h => h) hF s y v1 hdy
                · refine ⟨es, ⟨_, T, (0, 0), hc', fun k hk => ?_⟩, ?_⟩
                  · rw [← Array.getElem?_toList, List.toList_toArray, splice_get _ _ _ (by simp; omega), if_neg]
                    · rw [Array.getElem?_toList]; exact he2 k hk
                    · intro hin
                      simp only [Array.length_toList] at hin
                      rcases Nat.lt_or_gt_of_ne e with hlt | hgt
                      · have : (j + 1) * s.size ≤ i * s.size := Nat.mul_le_mul_right _ hlt
                        rw [Nat.add_mul] at this
                        omega
                      · have : (i + 1) * s.size ≤ j * s.size := Nat.mul_le_mul_right _ hgt
                        rw [Nat.add_mul] at this
                        omega
                  · rw [List.getElem_set_ne (by omega)]
                    exact Den.mono (fun _ h => h) hF s _ es hd) (fun cs hcs => by cases hcs)
              exact ⟨_, _, by simp [Instr.storeAt, Instr.sureAddr, hrun], R, rfl, rows_get_lt hrow, S2⟩
          · cases h
        · cases h
      · cases h
    · cases h
  · cases h
end Go.Proofs.YtnjofponcdcfcaaDoor.Ab
set_option linter.unusedVariables false
set_option linter.all false
namespace Go.Proofs.YtnjofponcdcfcaaDoor.Ab
open Go.RowKit

theorem allD_one {α : Type} {D : α → List Value → Prop} (hD : ∀ x cs, D x cs → ∀ c ∈ cs, c.oneCell' = true) : ∀ (xs : List α) (cs : List Value), AllD D xs cs → ∀ c ∈ cs, c.oneCell' = true
  | [], cs, h, c, hc => by rw [show cs = [] from h] at hc; cases hc
  | x :: xs, cs, ⟨c1, c2, e, h1, h2⟩, c, hc => by
    subst e
    rcases List.mem_append.1 hc with hc | hc
    · exact hD x c1 h1 c hc
    · exact allD_one hD xs c2 h2 c hc

theorem Den.one {F : Nat → Prop} {h : Array Obj} : ∀ (s : Sh) (x : s.den) (cs : List Value), Den F h s x cs → ∀ c ∈ cs, c.oneCell' = true
  | .unit, _, cs, e, c, hc => by rw [show cs = [] from e] at hc; cases hc
  | .bool, _, cs, e, c, hc => by rw [show cs = [_] from e] at hc; simp only [List.mem_singleton] at hc; subst hc; rfl
  | .int _, _, cs, e, c, hc => by rw [show cs = [_] from e] at hc; simp only [List.mem_singleton] at hc; subst hc; rfl
  | .str, _, cs, e, c, hc => by rw [show cs = [_] from e] at hc; simp only [List.mem_singleton] at hc; subst hc; rfl
  | .sl e, _, cs, ⟨_, _, ec, _⟩, c, hc => by rw [ec] at hc; simp only [List.mem_singleton] at hc; subst hc; rfl
  | .arr n e, xs, cs, ⟨_, h⟩, c, hc => allD_one (fun x cs => Den.one e x cs) xs cs h c hc
  | .prod a b, x, cs, ⟨c1, c2, e, h1, h2⟩, c, hc => by
    subst e
    rcases List.mem_append.1 hc with hc | hc
    · exact Den.one a _ _ h1 c hc
    · exact Den.one b _ _ h2 c hc

/-- The cells of a slice, one behind the other. -/
theorem gather {α : Type} {D : α → List Value → Prop} {n b : Nat} {h : Array Obj} (hD : ∀ x cs, D x cs → cs.length = n) : ∀ (ys : List α) (o : Nat),
    (∀ i, (hi : i < ys.length) → ∃ es, cellsAt h b (o + i * n) es ∧ D ys[i] es) → ∃ us, AllD D ys us ∧ ∀ j v, us[j]? = some v → ∃ c T fr, h[b]? = some (.cells c T fr) ∧ c[o + j]? = some v
  | [], o, _ => ⟨[], rfl, fun j v hv => by simp at hv⟩
  | y :: ys, o, H => by
    obtain ⟨e0, he0, hd0⟩ := H 0 (by simp)
    obtain ⟨us, hu, hc⟩ := gather hD ys (o + n) (fun i hi => by
      obtain ⟨es, he, hd⟩ := H (i + 1) (by simpa using hi)
      refine ⟨es, ?_, by simpa using hd⟩
      rw [show o + n + i * n = o + (i + 1) * n by rw [Nat.add_mul]; omega]
      exact he)
    refine ⟨e0 ++ us, ⟨e0, us, rfl, by simpa using hd0, hu⟩, fun j v hv => ?_⟩
    have hl := hD _ _ hd0
    by_cases hj : j < e0.length
    · rw [List.getElem?_append_left hj] at hv
      obtain ⟨c, T, fr, h1, h2⟩ := he0
      refine ⟨c, T, fr, h1, ?_⟩
      have := h2 j hj
      simp only [Nat.zero_mul, Nat.add_zero] at this
      rw [this, hv]
    · rw [List.getElem?_append_right (by omega)] at hv
      obtain ⟨c, T, fr, h1, h2⟩ := hc _ v hv
      exact ⟨c, T, fr, h1, by rw [show o + j = o + n + (j - e0.length) by omega]; exact h2⟩

/-- The data of a slice that is appended. -/
def srcOf (rows : Rows) (s : Sh) : AV → Option (List s.den)
  | .nils => some []
  | .dsl e ys => if h : e = s then some (h ▸ ys) else none
  | .own r g => match rows.get r with | some (.arr g' e ys) => if h : e = s then (if g = g' then some (h ▸ ys) else none) else none | _ => none
  | .osl r g st len => match rows.get r with | some (.arr g' e ys) => if h : e = s then (if g = g' then some (((h ▸ ys : List s.den).drop st).take len) else none) else none | _ => none
  | _ => none

theorem srcOf_ok {base n : Nat} {w0 : Start} {w : World} {X : Cx} (H : RowsOk base w0 n X w) {s : Sh} {a : AV} {ys : List s.den} {u : Value} (h : srcOf X.rows s a = some ys) (hr : Rel X a u) :
    ∃ p cap, u = .slice p ys.length cap ∧ ((p = none ∧ ys = []) ∨ ∃ q us, p = some q ∧ AllD (Den X.F X.heap s) ys us ∧ ∀ j v, us[j]? = some v → w.cell? (q.add j) = some v) := by
  have cell : ∀ {b o : Nat} {us : List Value}, (∀ j v, us[j]? = some v → ∃ c T fr, X.heap[b]? = some (.cells c T fr) ∧ c[o + j]? = some v) → ∀ j v, us[j]? = some v → w.cell? ((⟨b, o, none⟩ : Addr).add j) = some v := by
    intro b o us hu j v hv
    obtain ⟨c, T, fr, h1, h2⟩ := hu j v hv
    rw [addr_add, World.cell?]
    rw [H.heap] at h1
    simp [h1, h2]
  cases a <;> simp only [srcOf, Option.some.injEq, reduceCtorEq] at h
  case nils =>
    subst h
    simp only [Rel] at hr
    exact ⟨none, 0, hr, .inl ⟨rfl, rfl⟩⟩
  case dsl e zs =>
    split at h
    · rename_i e
      subst e
      cases h
      simp only [Rel] at hr
      obtain ⟨p, cap, hc, hl, hn, hp⟩ := hr
      obtain rfl : u = _ := List.cons.inj hc |>.1
      refine ⟨p, cap, rfl, ?_⟩
      cases p with
      | none => exact .inl ⟨rfl, (hn rfl).1⟩
      | some q =>
        obtain ⟨hsp, he⟩ := hp q rfl
        rcases Nat.eq_zero_or_pos zs.length with h0 | h0
        · obtain rfl := List.eq_nil_of_length_eq_zero h0
          exact .inr ⟨_, [], rfl, rfl, fun j v hj => by simp at hj⟩
        have hsp := hsp h0
        obtain ⟨b, o, sp⟩ := q
        cases hsp
        obtain ⟨us, hu, hcell⟩ := gather (b := b) (h := X.heap) (fun x cs => Den.length _ x cs) zs o (fun i hi => (he i hi).2)
        exact .inr ⟨_, us, rfl, hu, cell hcell⟩
    · cases h
  case own r g =>
    split at h
    · rename_i g' e zs hrow
      split at h
      · rename_i e
        subst e
        split at h
        · rename_i e
          subst e
          cases h
          simp only [Rel] at hr
          rcases hr _ _ hrow with ⟨h1, h2, rfl⟩ | ⟨b, o, cap, h1, rfl, h3, h4⟩
          · exact ⟨none, 0, by rw [h2], .inl ⟨rfl, List.eq_nil_of_length_eq_zero h2⟩⟩
          · refine ⟨_, cap, rfl, .inr ?_⟩
            rcases H.row r _ hrow with ⟨h5, _⟩ | ⟨b', o', c, T, h5, h6, h7, h8⟩
            · rw [h5] at h1; cases h1
            · rw [h5] at h1; cases h1
              obtain ⟨us, hu, hcell⟩ := gather (b := b) (h := X.heap) (fun x cs => Den.length _ x cs) zs o h8
              exact ⟨_, us, rfl, hu, cell hcell⟩
        · cases h
      · cases h
    · cases h
  case osl r g st len =>
    split at h
    · rename_i g' e zs hrow
      split at h
      · rename_i e
        subst e
        split at h
        · rename_i e
          subst e
          cases h
          simp only [Rel] at hr
          obtain ⟨hle, hc⟩ := hr _ _ hrow
          have hlen : ((zs.drop st).take len).length = len := by simp; omega
          rcases hc with ⟨h1, h2, rfl⟩ | ⟨b, o, ad, cap, h1, rfl, h3, h4⟩
          · have h0 : len = 0 := by omega
            subst h0
            exact ⟨none, 0, by simp, .inl ⟨rfl, by simp⟩⟩
          · refine ⟨some ad, cap, by rw [hlen], ?_⟩
            rcases h4 with h4 | ⟨rfl, h5⟩
            · have h0 : len = 0 := by omega
              subst h0
              exact .inr ⟨ad, [], rfl, by simp [AllD], fun j v hv => by simp at hv⟩
            · rcases H.row r _ hrow with ⟨h6, _⟩ | ⟨b', o', c, T, h6, h7, h8, h9⟩
              · rw [h6] at h1; cases h1
              · rw [h6] at h1; cases h1
                obtain ⟨us, hu, hcell⟩ := gather (b := b) (h := X.heap) (D := Den X.F X.heap _) (fun x cs => Den.length _ x cs) ((zs.drop st).take len) (o + st * (Sh.size _)) (fun i hi => by
                  rw [hlen] at hi
                  obtain ⟨es, he, hd⟩ := h9 (st + i) (by omega)
                  refine ⟨es, ?_, ?_⟩
                  · rw [Nat.add_mul, ← Nat.add_assoc] at he
                    exact he
                  · rw [show ((zs.drop st).take len)[i]'(by omega) = zs[st + i]'(by omega) by simp]
                    exact hd)
                exact .inr ⟨_, us, rfl, hu, cell hcell⟩
        · cases h
      · cases h
    · cases h

/-- A row of the call's own is laid anew: in its block, or in a new one. -/
theorem RowsOk.reset {base n : Nat} {w0 : Start} {w w' : World} {X : Cx} (H : RowsOk base w0 n X w) {r : Nat} {x x' : Row} {loc : Option (Nat × Nat)} (hr : X.rows.get r = some x)
    (hos : w'.os = w.os) (htape : w'.tape = w.tape) (hout : w'.output = w.output) (hsize : w.heap.size ≤ w'.heap.size)
    (hblk : ∀ k, k < w.heap.size → (∀ o, X.φ r ≠ some (k, o)) → w'.heap[k]? = w.heap[k]?)
    (hloc : ∀ b o, loc = some (b, o) → w.heap.size ≤ b ∨ ∃ o', X.φ r = some (b, o'))
    {g' : Nat} {s' : Sh} {ys : List s'.den} (hx' : x' = .arr g' s' ys) (hbox : ∀ q cs, X.rows.get q = some (.box cs) → AV.allL (fun q h => !(q == r && h == g')) cs = true)
    (hrow : RowOk { X with rows := X.rows.set r (some x'), heap := w'.heap, φ := fun q => if q = r then loc else X.φ q } r x') :
    RowsOk base w0 n { X with rows := X.rows.set r (some x'), heap := w'.heap, φ := fun q => if q = r then loc else X.φ q } w' ∧
      Stab X { X with rows := X.rows.set r (some x'), heap := w'.heap, φ := fun q => if q = r then loc else X.φ q } (fun q h => !(q == r && h == g')) := by
  have hlt := rows_get_lt hr
  have hget : ∀ q, Rows.get (X.rows.set r (some x')) q = if q = r then some x' else X.rows.get q := by
    intro q
    unfold Rows.get
    by_cases e : q = r
    · subst e; rw [List.getElem?_set_self hlt]; simp
    · rw [List.getElem?_set_ne (by omega), if_neg e]
  have hFb : ∀ k, X.F k → w'.heap[k]? = X.heap[k]? := fun k hk => by
    rw [H.heap]
    exact hblk k (H.fresh k hk) fun o ho => (H.own r x k o hr ho).2 hk
  have hother : ∀ q y k o, q ≠ r → X.rows.get q = some y → X.φ q = some (k, o) → w'.heap[k]? = X.heap[k]? := fun q y k o hq hy hk => by
    rw [H.heap]
    exact hblk k (H.lt hy hk) fun o' ho' => hq (H.apart q r y x k o k o' hy hr hk ho' rfl)
  -- for boxes all references serve
  have stab : ∀ p : Nat → Nat → Bool, (∀ g s xs, X.rows.get r = some (.arr g s xs) → p r g' = true → False) → (∀ q g, p q g = true → q = r → g ≠ g') →
      Stab X { X with rows := X.rows.set r (some x'), heap := w'.heap, φ := fun q => if q = r then loc else X.φ q } p := by
    intro p hp1 hp2
    refine ⟨fun _ h => h, hFb, fun q g hp cs' hq => ?_, fun q g hp s xs' hq => ?_⟩
    · simp only [hget] at hq
      split at hq
      · rw [hx'] at hq; cases hq
      · rename_i e
        exact ⟨⟨cs', hq⟩, by simp [e]⟩
    · simp only [hget] at hq
      split at hq
      · rename_i e
        rw [hx'] at hq
        cases hq
        exact absurd rfl (hp2 q _ hp e)
      · rename_i e
        refine ⟨xs', hq, rfl, by simp [e], fun k o hk c T fr hc => ?_⟩
        rw [hother q _ k o e hq hk] at hc
        exact ⟨c, T, fr, hc, rfl⟩
  have stab1 : Stab X { X with rows := X.rows.set r (some x'), heap := w'.heap, φ := fun q => if q = r then loc else X.φ q } (fun q h => !(q == r && h == g')) :=
    stab _ (fun g s xs _ hp => by simp at hp) (fun q g hp e => by subst e; simpa using hp)
  refine ⟨⟨rfl, H.keeps.trans ⟨hos, htape, hout, hsize, fun k hk => hblk k (by have := H.hb; omega) fun o ho => by have := (H.own r x k o hr ho).1; omega⟩, H.sub, Nat.le_trans H.hb hsize,
    fun k hk => Nat.lt_of_lt_of_le (H.fresh k hk) hsize, ?_, ?_, ?_, ?_⟩, stab1⟩
  · intro q y hq
    simp only [hget] at hq
    split at hq
    · rename_i e
      subst e
      cases hq
      exact hrow
    · rename_i e
      refine RowOk.mono stab1 (by simp [e]) (fun k o hk => hother q y k o e hq hk) y (fun cs ec => ?_) (H.row q y hq)
      subst ec
      exact hbox q cs hq
  · intro q y k o hq hk
    simp only [hget] at hq
    split at hq
    · rename_i e
      simp only [if_pos e] at hk
      rcases hloc k o hk with h | ⟨o', h⟩
      · exact ⟨Nat.le_trans H.hb h, fun hF => by have := H.fresh k hF; omega⟩
      · exact H.own r x k o' hr h
    · rename_i e
      simp only [if_neg e] at hk
      exact H.own q y k o hq hk
  · intro q q' y y' k o k' o' hq hq' hk hk' ek
    simp only [hget] at hq hq'
    by_cases e : q = r <;> by_cases e' : q' = r
    · rw [e, e']
    · rw [if_neg e'] at hq'
      simp only [if_pos e] at hk
      simp only [if_neg e'] at hk'
      rcases hloc k o hk with h | ⟨o2, h⟩
      · have := H.lt hq' hk'; omega
      · exact absurd (H.apart q' r y' x k' o' k o2 hq' hr hk' h ek.symm) e'
    · rw [if_neg e] at hq
      simp only [if_neg e] at hk
      simp only [if_pos e'] at hk'
      rcases hloc k' o' hk' with h | ⟨o2, h⟩
      · have := H.lt hq hk; omega
      · exact absurd (H.apart q r y x k o k' o2 hq hr hk h ek) e
    · rw [if_neg e] at hq
      rw [if_neg e'] at hq'
      simp only [if_neg e] at hk
      simp only [if_neg e'] at hk'
      exact H.apart q q' y y' k o k' o' hq hq' hk hk' ek
  · intro q cs hq
    simp only [hget] at hq
    split at hq
    · rw [hx'] at hq; cases hq
    · refine AV.allL_imp (fun p _ hp => ?_) cs (H.refs q cs hq)
      unfold Rows.okid at hp ⊢
      rw [hget]
      split
      · simp
      · exact hp

section
variable {P : Program} {w : World}
theorem run_append_at {t e ty : TypeId} {i : TypeInfo} (ht : P.underlying t = some (.slice e)) (hi : P.info? e = some i) {b o sLen sCap : Nat} {cur : Array Value} {T : TypeId} (hg : w.heap[b]? = some (.cells cur T (0, 0)))
    {p : Option Addr} {m c : Nat} {news : List Value} (hf : (Builtin.firstCells i.size m (.slice p m c)).run P w = .ok news.toArray w) (h1 : ∀ u ∈ news, u.oneCell' = true)
    (hroom : sLen + m ≤ sCap) (hfit : o + sLen * i.size + news.length ≤ cur.size) :
    (Builtin.append_ #[t, t] ty #[.slice (some ⟨b, o, none⟩) sLen sCap, .slice p m c]).run P w =
      .ok (.slice (some ⟨b, o, none⟩) (sLen + m) sCap) (w.setRow b (splice cur.toList (o + sLen * i.size) news).toArray) := by
  have hst := run_storeCells_at P b (o + sLen * i.size) T news 0 cur w hg (by simpa using hfit) h1
  simp only [Nat.add_zero] at hst
  simp [Builtin.append_, run_underlying ht, sizeOf, typeInfo, hi, Builtin.lenOf, hroom, hf, addr_add, hst, splice]

theorem run_append_none {t e ty : TypeId} {i : TypeInfo} (ht : P.underlying t = some (.slice e)) (hi : P.info? e = some i) {p : Option Addr} {c : Nat} :
    (Builtin.append_ #[t, t] ty #[.slice none 0 0, .slice p 0 c]).run P w = .ok (.slice none 0 0) w := by
  cases p <;> simp [Builtin.append_, run_underlying ht, sizeOf, typeInfo, hi, Builtin.lenOf, Builtin.firstCells, loadCells, loadCellsFrom]
end

/-- What the source of an append holds, in cells. -/
theorem src_cells {P : Program} {w : World} {X : Cx} {s : Sh} {ys : List s.den} {p : Option Addr} {cap : Nat}
    (h : (p = none ∧ ys = []) ∨ ∃ q us, p = some q ∧ AllD (Den X.F X.heap s) ys us ∧ ∀ j v, us[j]? = some v → w.cell? (q.add j) = some v) :
    ∃ us, AllD (Den X.F X.heap s) ys us ∧ (Builtin.firstCells s.size ys.length (.slice p ys.length cap)).run P w = .ok us.toArray w ∧ (ys ≠ [] → ∃ q, p = some q ∧ ∀ j v, us[j]? = some v → w.cell? (q.add j) = some v) := by
  rcases h with ⟨rfl, rfl⟩ | ⟨q, us, rfl, hu, hc⟩
  · exact ⟨[], rfl, by simp [Builtin.firstCells], fun h => absurd rfl h⟩
  · have hl := AllD.length (fun x cs => Den.length s x cs) ys us hu
    exact ⟨us, hu, run_firstCells_some (P := P) w s.size ys.length q ys.length cap us hl hc, fun _ => ⟨q, rfl, hc⟩⟩

structure AppTy (P : Program) (t : TypeId) (s : Sh) (bytes : Nat) : Prop where
  ex : ∃ e i z, P.underlying t = some (.slice e) ∧ P.info? e = some i ∧ i.zero = some z ∧ i.size = s.size ∧ i.bytes = bytes ∧ z.cells.size = s.size
  size : 0 < s.size
  bytes : 0 < bytes

/-- A slice type that may be appended to: its element's shape, and bytes. -/
def appTy (P : Program) (t : TypeId) : Option (Sh × Nat) :=
  match P.underlying t with
  | some (.slice e) => match shOf P 20 e, P.info? e with
    | some s, some i => match i.zero with
      | some z => if i.size = s.size ∧ z.cells.size = s.size ∧ 0 < s.size ∧ 0 < i.bytes then some (s, i.bytes) else none
      | none => none
    | _, _ => none
  | _ => none

theorem appTy_ok {P : Program} {t : TypeId} {s : Sh} {bytes : Nat} (h : appTy P t = some (s, bytes)) : AppTy P t s bytes := by
  unfold appTy at h
  split at h
  · rename_i e ht
    split at h
    · rename_i s' i hs hi
      split at h
      · rename_i z hz
        split at h
        · rename_i hc
          cases h
          exact ⟨⟨e, i, z, ht, hi, hz, hc.1, rfl, hc.2.1⟩, hc.2.2.1, hc.2.2.2⟩
        · cases h
      · cases h
    · cases h
  · cases h

/-- A row that has just been grown into a new block. -/
theorem grown_row {X' : Cx} {r : Nat} {w w' : World} {s : Sh} {g : Nat} {zs : List s.den} {F : Nat → Prop} {h0 : Array Obj} {us : List Value} {more : Array Value} {e : TypeId} (hw : w' = w.drew.alloc (.cells (us.toArray ++ more) e))
    (hX : X'.heap = w'.heap) (hF : X'.F = F) (hmono : ∀ b, F b → w'.heap[b]? = h0[b]?) (hD : AllD (Den F h0 s) zs us) (hφ : X'.φ r = some (w.heap.size, 0)) : RowOk X' r (.arr g s zs) := by
  have hl := AllD.length (fun x cs => Den.length s x cs) zs us hD
  have hcell : w'.heap[w.heap.size]? = some (.cells (us.toArray ++ more) e (0, 0)) := by rw [hw]; exact heap_alloc_new w.drew _
  refine .inr ⟨w.heap.size, 0, us.toArray ++ more, e, hφ, by rw [hX]; exact hcell, by simp; omega, fun i hi => ?_⟩
  obtain ⟨es, he, hd⟩ := allD_at (h := w'.heap) (b := w.heap.size) (fun x cs => Den.length s x cs) zs us 0 i hi hD ⟨_, e, (0, 0), hcell, fun j hj => by
    rw [Nat.zero_add, ← Array.getElem?_toList, Array.toList_append, List.getElem?_append_left (by simpa using hj)]⟩
  refine ⟨es, by rw [hX]; exact he, ?_⟩
  rw [hX, hF]
  exact Den.mono (fun _ h => h) hmono s _ es hd

theorem AllD.append {α : Type} {D : α → List Value → Prop} : ∀ {xs ys : List α} {us vs : List Value}, AllD D xs us → AllD D ys vs → AllD D (xs ++ ys) (us ++ vs)
  | [], ys, us, vs, h, h' => by rw [show us = [] from h]; exact h'
  | x :: xs, ys, us, vs, ⟨c1, c2, e, h1, h2⟩, h' => by
    subst e
    exact ⟨c1, c2 ++ vs, by simp, h1, AllD.append h2 h'⟩

theorem append_own {P : Program} {base n : Nat} {w0 : Start} {w : World} {X : Cx} (H : RowsOk base w0 n X w) {t ty : TypeId} {s : Sh} {bytes : Nat} (hT : AppTy P t s bytes) {r g : Nat} {xs ys : List s.den}
    (hrow : X.rows.get r = some (.arr g s xs)) {u x : Value} (hu : Rel X (.own r g) u) {p : Option Addr} {cap : Nat} (hx : x = .slice p ys.length cap)
    (hsrc : (p = none ∧ ys = []) ∨ ∃ q us, p = some q ∧ AllD (Den X.F X.heap s) ys us ∧ ∀ j v, us[j]? = some v → w.cell? (q.add j) = some v)
    (hbytes : (xs.length + ys.length) * bytes ≤ 140737488355328) (hbox : ∀ q cs, X.rows.get q = some (.box cs) → AV.allL (fun q h => !(q == r && h == g + 1)) cs = true) :
    ∃ v w' X', (Builtin.append_ #[t, t] ty #[u, x]).run P w = .ok v w' ∧ RowsOk base w0 n X' w' ∧ X'.rows = X.rows.set r (some (.arr (g + 1) s (xs ++ ys))) ∧ Stab X X' (fun q h => !(q == r && h == g + 1)) ∧ Rel X' (.own r (g + 1)) v := by
  subst hx
  obtain ⟨e, i, z, ht, hi, hz, hsz, hby, hzs⟩ := hT.ex
  have hspos := hT.size
  have hbpos := hT.bytes
  have hrl := rows_get_lt hrow
  obtain ⟨us, hus, hfc, hne⟩ := src_cells (P := P) (w := w) (cap := cap) hsrc
  have hul := AllD.length (fun x cs => Den.length s x cs) ys us hus
  have hnum : xs.length + ys.length ≤ 140737488355328 := Nat.le_trans (Nat.le_mul_of_pos_right _ hbpos) hbytes
  have hgetr : ∀ (x' : Row), Rows.get (X.rows.set r (some x')) r = some x' := fun x' => by unfold Rows.get; rw [List.getElem?_set_self hrl]; simp
  have hrel : ∀ (X' : Cx) (loc : Option (Nat × Nat)) (v : Value), X'.rows = X.rows.set r (some (.arr (g + 1) s (xs ++ ys))) → X'.φ r = loc →
      ((loc = none ∧ (xs ++ ys).length = 0 ∧ v = .slice none 0 0) ∨ ∃ b o cap, loc = some (b, o) ∧ v = .slice (some ⟨b, o, none⟩) (xs ++ ys).length cap ∧ (xs ++ ys).length ≤ cap ∧ ∀ c T fr, X'.heap[b]? = some (.cells c T fr) → o + cap * s.size ≤ c.size) →
      Rel X' (.own r (g + 1)) v := by
    intro X' loc v hr hφ h
    simp only [Rel]
    intro s' zs hz
    rw [hr, hgetr] at hz
    obtain ⟨_, hs', hz'⟩ := Row.arr.inj (Option.some.inj hz)
    subst hs'
    cases hz'
    rw [hφ]
    exact h
  -- growth into a new block
  have grow : ∀ (olds : List Value) (old : Nat), AllD (Den X.F X.heap s) xs olds → old < xs.length + ys.length →
      ∀ ty', (Builtin.append_ #[t, t] ty' #[u, .slice p ys.length cap]).run P w = .ok (.slice (some ⟨w.heap.size, 0, none⟩) (xs.length + ys.length) (grownCap w (xs.length + ys.length) old e))
        (w.drew.alloc (.cells (olds.toArray ++ us.toArray ++ Builtin.zeroCells z.cells (grownCap w (xs.length + ys.length) old e - (xs.length + ys.length))) e)) →
      ∃ v w' X', (Builtin.append_ #[t, t] ty' #[u, .slice p ys.length cap]).run P w = .ok v w' ∧ RowsOk base w0 n X' w' ∧ X'.rows = X.rows.set r (some (.arr (g + 1) s (xs ++ ys))) ∧ Stab X X' (fun q h => !(q == r && h == g + 1)) ∧ Rel X' (.own r (g + 1)) v := by
    intro olds old hold hlt ty' hrun
    have hge := grownCap_ge w (xs.length + ys.length) old e
    have holdl := AllD.length (fun x cs => Den.length s x cs) xs olds hold
    generalize hwd : w.drew.alloc (.cells (olds.toArray ++ us.toArray ++ Builtin.zeroCells z.cells (grownCap w (xs.length + ys.length) old e - (xs.length + ys.length))) e) = w' at hrun
    have hold' : ∀ k, k < w.heap.size → w'.heap[k]? = w.heap[k]? := fun k hk => by rw [← hwd]; exact heap_alloc_old w.drew _ (show k < w.drew.heap.size from hk)
    obtain ⟨R, S⟩ := RowsOk.reset (w' := w') (x' := .arr (g + 1) s (xs ++ ys)) (loc := some (w.heap.size, 0)) H hrow (by rw [← hwd]; rfl) (by rw [← hwd]; rfl) (by rw [← hwd]; rfl) (by rw [← hwd]; simp)
      (fun k hk _ => hold' k hk) (fun b o e => by cases e; exact .inl (Nat.le_refl _)) rfl hbox (by
        refine grown_row (w := w) (w' := w') (F := X.F) (h0 := X.heap) (us := olds ++ us) (more := Builtin.zeroCells z.cells (grownCap w (xs.length + ys.length) old e - (xs.length + ys.length))) (e := e) ?_ rfl rfl (fun b hb => ?_) (AllD.append hold hus) (by simp)
        · rw [← hwd]; simp
        · rw [H.heap]; exact hold' b (H.fresh b hb))
    refine ⟨_, w', _, hrun, R, rfl, S, hrel _ (some (w.heap.size, 0)) _ rfl (by simp) (.inr ⟨w.heap.size, 0, _, rfl, by rw [List.length_append], by rw [List.length_append]; exact hge, fun c T fr hc => ?_⟩)⟩
    simp only at hc
    rw [← hwd] at hc
    have hnew := heap_alloc_new w.drew (.cells (olds.toArray ++ us.toArray ++ Builtin.zeroCells z.cells (grownCap w (xs.length + ys.length) old e - (xs.length + ys.length))) e)
    rw [show (w.drew).heap.size = w.heap.size from rfl] at hnew
    rw [hnew] at hc
    cases hc
    have hlen : olds.length + us.length = (xs.length + ys.length) * s.size := by rw [holdl, hul, Nat.add_mul]
    simp only [Array.size_append, List.size_toArray, size_zeroCells, hzs]
    rw [hlen, ← Nat.add_mul, Nat.zero_add]
    exact Nat.mul_le_mul_right _ (by omega)
  simp only [Rel] at hu
  rcases hu s xs hrow with ⟨hφ, h0, rfl⟩ | ⟨b, o, cp, hφ, rfl, hle, hsize⟩
  · have hxs : xs = [] := List.eq_nil_of_length_eq_zero h0
    subst hxs
    by_cases hy : ys = []
    · subst hy
      obtain ⟨R, S⟩ := RowsOk.reset (w' := w) (x' := .arr (g + 1) s ([] ++ [])) (loc := none) H hrow rfl rfl rfl (Nat.le_refl _) (fun _ _ _ => rfl) (fun b o e => by cases e) rfl hbox (.inl ⟨by simp, rfl⟩)
      exact ⟨_, w, _, run_append_none ht hi, R, rfl, S, hrel _ none _ rfl (by simp) (.inl ⟨rfl, rfl, rfl⟩)⟩
    · obtain ⟨q, rfl, hq⟩ := hne hy
      have hylen : 0 < ys.length := List.length_pos_iff.2 hy
      refine grow [] 0 rfl (by simpa using hylen) ty ?_
      have hb2 : ys.length * i.bytes ≤ 281474976710656 := by rw [hby]; simp only [List.length_nil, Nat.zero_add] at hbytes; omega
      have := run_append_nil (P := P) w t ty e i z ht hi hz q ys.length cap us (by rw [hul, hsz]) hq hylen (by simp at hnum; omega) hb2
      simpa using this
  · rcases H.row r _ hrow with ⟨h5, _⟩ | ⟨b', o', c, T, h5, hcb, h7, h8⟩
    · rw [h5] at hφ; cases hφ
    · rw [h5] at hφ; cases hφ
      obtain ⟨olds, hold, hoc⟩ := gather (b := b) (h := X.heap) (D := Den X.F X.heap s) (fun x cs => Den.length s x cs) xs o h8
      have holdl := AllD.length (fun x cs => Den.length s x cs) xs olds hold
      have hcb' : w.heap[b]? = some (.cells c T (0, 0)) := by rw [← H.heap]; exact hcb
      have hsz' := hsize c T (0, 0) hcb
      by_cases hroom : xs.length + ys.length ≤ cp
      · have hfit : o + xs.length * i.size + us.length ≤ c.size := by
          rw [hul, hsz, Nat.add_assoc, ← Nat.add_mul]
          have := Nat.mul_le_mul_right s.size hroom
          omega
        have hrun := run_append_at (ty := ty) ht hi hcb' (p := p) (m := ys.length) (c := cap) (news := us) (by rw [hsz]; exact hfc) (allD_one (fun x cs => Den.one s x cs) ys us hus) hroom hfit
        generalize hcc : (splice c.toList (o + xs.length * i.size) us).toArray = c' at hrun
        have hc' := setRow_heap w b c c' T (0, 0) hcb'
        have hcs : c'.size = c.size := by
          rw [← hcc]
          simp only [List.size_toArray]
          rw [splice_length _ _ _ (by simp; omega)]; simp
        have hblk : ∀ k, k ≠ b → (w.setRow b c').heap[k]? = w.heap[k]? := fun k hk => setRow_other w b k c' hk
        have hFh : ∀ k, X.F k → (w.setRow b c').heap[k]? = X.heap[k]? := fun k hk => by
          rw [H.heap]; exact hblk k fun e => (H.own r _ b o hrow h5).2 (e ▸ hk)
        have hget : ∀ k, c'[k]? = if o + xs.length * s.size ≤ k ∧ k < o + xs.length * s.size + us.length then us[k - (o + xs.length * s.size)]? else c[k]? := fun k => by
          have hk0 : c.toList[k]? = c[k]? := by simp
          rw [← hcc, List.getElem?_toArray, splice_get _ _ _ (by simp; omega), hsz, hk0]
        obtain ⟨R, S⟩ := RowsOk.reset (w' := w.setRow b c') (x' := .arr (g + 1) s (xs ++ ys)) (loc := some (b, o)) H hrow rfl rfl rfl (by simp)
          (fun k hk hno => hblk k fun e => hno o (by rw [e]; exact h5)) (fun b1 o1 e => by cases e; exact .inr ⟨o, h5⟩) rfl hbox (by
            refine .inr ⟨b, o, c', T, by simp, hc', ?_, fun j hj => ?_⟩
            · rw [hcs, List.length_append]
              have := Nat.mul_le_mul_right s.size hroom
              omega
            · have hD := AllD.append hold hus
              have hDl := AllD.length (fun x cs => Den.length s x cs) (xs ++ ys) (olds ++ us) hD
              obtain ⟨es, he, hd⟩ := allD_at (h := (w.setRow b c').heap) (b := b) (fun x cs => Den.length s x cs) (xs ++ ys) (olds ++ us) o j hj hD ⟨c', T, (0, 0), hc', fun k hk => by
                rw [hget]
                by_cases hk1 : k < olds.length
                · rw [if_neg (by omega), List.getElem?_append_left hk1]
                  obtain ⟨c1, T1, fr1, e1, e2⟩ := hoc k olds[k] (by simp [hk1])
                  rw [hcb] at e1
                  cases e1
                  rw [e2]; simp [hk1]
                · rw [List.length_append] at hk
                  rw [if_pos (by omega), List.getElem?_append_right (by omega)]
                  congr 1; omega⟩
              exact ⟨es, he, Den.mono (fun _ h => h) hFh s _ es hd⟩)
        refine ⟨_, _, _, hrun, R, rfl, S, hrel _ (some (b, o)) _ rfl (by simp) (.inr ⟨b, o, cp, rfl, by rw [List.length_append], by rw [List.length_append]; exact hroom, fun c2 T2 fr2 h2 => ?_⟩)⟩
        simp only at h2
        rw [hc'] at h2
        cases h2
        omega
      · have hyne : ys ≠ [] := fun e => by subst e; simp at hroom; omega
        obtain ⟨q, rfl, hq⟩ := hne hyne
        refine grow olds cp hold (by omega) ty ?_
        exact run_append_grow (P := P) w t ty e i z ht hi hz ⟨b, o, none⟩ xs.length cp olds (by rw [holdl, hsz]) (fun j v hv => by
          obtain ⟨c1, T1, fr1, e1, e2⟩ := hoc j v hv
          rw [hcb] at e1
          cases e1
          rw [addr_add, World.cell?]
          simp [hcb', e2]) q ys.length cap us (by rw [hul, hsz]) hq (by omega) (by omega) (growslice_fits (by omega) (by rw [hby]; exact hbytes))

/-- An append to an empty slice without room, as to none. -/
theorem run_append_room0 {P : Program} {w : World} {t e ty : TypeId} {i : TypeInfo} {z : Value} (ht : P.underlying t = some (.slice e)) (hi : P.info? e = some i) (hz : i.zero = some z) {a : Addr} {p : Option Addr} {m c : Nat} {us : List Value}
    (hf : (Builtin.firstCells i.size m (.slice p m c)).run P w = .ok us.toArray w) (hm : 0 < m) (h63 : (m : Int) ≤ 9223372036854775807) (h48 : m * i.bytes ≤ 281474976710656) :
    (Builtin.append_ #[t, t] ty #[.slice (some a) 0 0, .slice p m c]).run P w = (Builtin.append_ #[t, t] ty #[.slice none 0 0, .slice p m c]).run P w := by
  have hn : m ≠ 0 := by omega
  have h63' : ¬ (9223372036854775807 < (m : Int)) := by omega
  have h48' : ¬ (281474976710656 < Builtin.nextslicecap m 0 * i.bytes) := by rw [nextslicecap_zero hm]; omega
  have e0 : ∀ (bs : Option Addr), Builtin.firstCells i.size 0 (.slice bs 0 0) = pure #[] := by
    intro bs; cases bs <;> simp [Builtin.firstCells, loadCells, loadCellsFrom]
  simp [Builtin.append_, run_underlying ht, sizeOf, typeInfo, zeroValue, hi, hz, Builtin.lenOf, hn, h63', h48', Question.forced, e0]

/-- A row cut short. -/
theorem RowsOk.cut {base n : Nat} {w0 : Start} {w : World} {X : Cx} (H : RowsOk base w0 n X w) {r g len : Nat} {s : Sh} {xs : List s.den} (hrow : X.rows.get r = some (.arr g s xs)) {loc : Option (Nat × Nat)}
    (hloc : loc = X.φ r ∨ (loc = none ∧ len = 0)) (hbox : ∀ q cs, X.rows.get q = some (.box cs) → AV.allL (fun q h => !(q == r && h == g + 1)) cs = true) :
    RowsOk base w0 n { X with rows := X.rows.set r (some (.arr (g + 1) s (xs.take len))), heap := w.heap, φ := fun q => if q = r then loc else X.φ q } w ∧
    Stab X { X with rows := X.rows.set r (some (.arr (g + 1) s (xs.take len))), heap := w.heap, φ := fun q => if q = r then loc else X.φ q } (fun q h => !(q == r && h == g + 1)) := by
  refine RowsOk.reset (w' := w) (x' := .arr (g + 1) s (xs.take len)) (loc := loc) H hrow rfl rfl rfl (Nat.le_refl _) (fun _ _ _ => rfl) (fun b o e => ?_) rfl hbox ?_
  · rcases hloc with h | ⟨h, _⟩
    · rw [h] at e; exact .inr ⟨o, e⟩
    · rw [h] at e; cases e
  · rcases hloc with h | ⟨h, h0⟩
    · rcases H.row r _ hrow with ⟨h1, h2⟩ | ⟨b, o, c, T, h1, h2, h3, h4⟩
      · exact .inl ⟨by simp [h, h1], by rw [h2]; simp⟩
      · refine .inr ⟨b, o, c, T, by simp [h, h1], by rw [← H.heap]; exact h2, ?_, fun i hi => ?_⟩
        · have : (xs.take len).length * s.size ≤ xs.length * s.size := Nat.mul_le_mul_right _ (by simp; omega)
          omega
        · have hi' : i < xs.length := by simp at hi; omega
          obtain ⟨es, he, hd⟩ := h4 i hi'
          refine ⟨es, by rw [← H.heap]; exact he, ?_⟩
          rw [show (xs.take len)[i] = xs[i] by simp]
          rw [← H.heap]
          exact hd
    · subst h h0
      exact .inl ⟨by simp, by simp⟩

/-- An append of something to the first elements of a row of the call's own. -/
theorem append_osl {P : Program} {base n : Nat} {w0 : Start} {w : World} {X : Cx} (H : RowsOk base w0 n X w) {t ty : TypeId} {s : Sh} {bytes : Nat} (hT : AppTy P t s bytes) {r g len : Nat} {xs ys : List s.den}
    (hrow : X.rows.get r = some (.arr g s xs)) {u x : Value} (hu : Rel X (.osl r g 0 len) u) {p : Option Addr} {cap : Nat} (hx : x = .slice p ys.length cap)
    (hsrc : (p = none ∧ ys = []) ∨ ∃ q us, p = some q ∧ AllD (Den X.F X.heap s) ys us ∧ ∀ j v, us[j]? = some v → w.cell? (q.add j) = some v)
    (hpos : 0 < ys.length) (hbytes : (len + ys.length) * bytes ≤ 140737488355328) (hbox1 : ∀ q cs, X.rows.get q = some (.box cs) → AV.allL (fun q h => !(q == r && h == g + 1)) cs = true)
    (hbox2 : ∀ q cs, X.rows.get q = some (.box cs) → AV.allL (fun q h => !(q == r && h == g + 2)) cs = true) :
    ∃ v w' X', (Builtin.append_ #[t, t] ty #[u, x]).run P w = .ok v w' ∧ RowsOk base w0 n X' w' ∧ X'.rows = X.rows.set r (some (.arr (g + 2) s (xs.take len ++ ys))) ∧
      Stab X X' (fun q h => !(q == r && h == g + 1) && !(q == r && h == g + 2)) ∧ Rel X' (.own r (g + 2)) v := by
  have hrl := rows_get_lt hrow
  simp only [Rel] at hu
  obtain ⟨hlen, hu⟩ := hu s xs hrow
  have htl : (xs.take len).length = len := by simp; omega
  have go : ∀ (loc : Option (Nat × Nat)) (u' : Value), (loc = X.φ r ∨ (loc = none ∧ len = 0)) →
      ((loc = none ∧ (xs.take len).length = 0 ∧ u' = .slice none 0 0) ∨ ∃ b o cap, loc = some (b, o) ∧ u' = .slice (some ⟨b, o, none⟩) (xs.take len).length cap ∧ (xs.take len).length ≤ cap ∧ ∀ c T fr, w.heap[b]? = some (.cells c T fr) → o + cap * s.size ≤ c.size) →
      (Builtin.append_ #[t, t] ty #[u, x]).run P w = (Builtin.append_ #[t, t] ty #[u', x]).run P w →
      ∃ v w' X', (Builtin.append_ #[t, t] ty #[u, x]).run P w = .ok v w' ∧ RowsOk base w0 n X' w' ∧ X'.rows = X.rows.set r (some (.arr (g + 2) s (xs.take len ++ ys))) ∧
        Stab X X' (fun q h => !(q == r && h == g + 1) && !(q == r && h == g + 2)) ∧ Rel X' (.own r (g + 2)) v := by
    intro loc u' hloc hu' hrun
    obtain ⟨R1, S1⟩ := RowsOk.cut H hrow (len := len) hloc hbox1
    have hget : ∀ q, Rows.get (X.rows.set r (some (.arr (g + 1) s (xs.take len)))) q = if q = r then some (.arr (g + 1) s (xs.take len)) else X.rows.get q := by
      intro q
      unfold Rows.get
      by_cases e : q = r
      · subst e; rw [List.getElem?_set_self hrl]; simp
      · rw [List.getElem?_set_ne (by omega), if_neg e]
    obtain ⟨v, w', X', h1, h2, h3, h4, h5⟩ := append_own (P := P) (ty := ty) (t := t) (ys := ys) (cap := cap) R1 hT (r := r) (g := g + 1) (xs := xs.take len) (by rw [hget, if_pos rfl]) (u := u') (x := x) (by
        simp only [Rel]
        intro s' zs hz
        rw [hget, if_pos rfl] at hz
        obtain ⟨_, hs', hz'⟩ := Row.arr.inj (Option.some.inj hz)
        subst hs'
        cases hz'
        simp only [if_true]
        exact hu') (p := p) hx (by rw [← H.heap]; exact hsrc) (by rw [htl]; exact hbytes) (fun q cs hq => by
        rw [hget] at hq
        split at hq
        · cases hq
        · exact hbox2 q cs hq)
    refine ⟨v, w', X', hrun.trans h1, h2, by rw [h3]; simp, ?_, h5⟩
    refine ⟨fun b hb => h4.F b (S1.F b hb), fun b hb => (h4.heap b (S1.F b hb)).trans (S1.heap b hb), fun q k hp cs' hq => ?_, fun q k hp s' xs' hq => ?_⟩
    · simp only [Bool.and_eq_true] at hp
      obtain ⟨⟨cs, hcs⟩, hφ⟩ := h4.box q k hp.2 cs' hq
      obtain ⟨h6, hφ2⟩ := S1.box q k hp.1 cs hcs
      exact ⟨h6, hφ.trans hφ2⟩
    · simp only [Bool.and_eq_true] at hp
      obtain ⟨ws, hws, hl, hφ, hs⟩ := h4.arr q k hp.2 s' xs' hq
      obtain ⟨vs, hvs, hl2, hφ2, hs2⟩ := S1.arr q k hp.1 s' ws hws
      refine ⟨vs, hvs, hl.trans hl2, hφ.trans hφ2, fun b o hb c' T' fr' hc' => ?_⟩
      obtain ⟨c1, T1, fr1, e1, e2⟩ := hs b o (hφ2.trans hb) c' T' fr' hc'
      obtain ⟨c2, T2, fr2, e3, e4⟩ := hs2 b o hb c1 T1 fr1 e1
      exact ⟨c2, T2, fr2, e3, e4.trans e2⟩
  rcases hu with ⟨h1, h2, rfl⟩ | ⟨b, o, a, cp, h1, rfl, h3, h4⟩
  · exact go (X.φ r) _ (.inl rfl) (.inl ⟨h1, by rw [htl]; omega, rfl⟩) rfl
  · rcases h4 with ⟨h4, _⟩ | ⟨rfl, h5⟩
    · have h0 : len = 0 := by omega
      subst h0 h4
      obtain ⟨e, i, z, ht, hi, hz, hsz, hby, hzs⟩ := hT.ex
      have hbpos := hT.bytes
      subst hx
      obtain ⟨us, hus, hfc, hne⟩ := src_cells (P := P) (w := w) (cap := cap) hsrc
      have hnum : ys.length ≤ 140737488355328 := by
        have : ys.length ≤ ys.length * bytes := Nat.le_mul_of_pos_right _ hbpos
        rw [Nat.zero_add] at hbytes
        omega
      refine go none (.slice none 0 0) (.inr ⟨rfl, rfl⟩) (.inl ⟨rfl, by simp, rfl⟩) ?_
      exact run_append_room0 ht hi hz (by rw [hsz]; exact hfc) hpos (by omega) (by rw [hby]; rw [Nat.zero_add] at hbytes; omega)
    · refine go (X.φ r) _ (.inl rfl) (.inr ⟨b, o, cp, h1, ?_, by rw [htl]; exact h3, fun c T fr hc => ?_⟩) rfl
      · rw [htl, Nat.zero_mul, Nat.add_zero]
      · have := h5 c T fr (by rw [H.heap]; exact hc)
        rw [Nat.zero_add] at this
        exact this
end Go.Proofs.YtnjofponcdcfcaaDoor.Ab
set_option linter.unusedVariables false
set_option linter.all false
namespace Go.Proofs.YtnjofponcdcfcaaDoor.Ab
open Go.RowKit

/-! ### Operations that turn a row -/
def noRefB (S : St) (r g : Nat) : Bool :=
  (S.tmps.all (fun v => v.all fun q h => !(q == r && h == g)) && AV.allL (fun q h => !(q == r && h == g)) S.gho) && S.rows.all fun x => match x with | some (.box cs) => AV.allL (fun q h => !(q == r && h == g)) cs | _ => true

/-- What an append to a slice of the call's own makes: whether it goes well, the slice, the rows, the row that turned. -/
def qAppend (P : Program) (S : St) (n id : Nat) (t : TypeId) (x y : AV) : Option (Bool × AV × Rows × Nat) :=
  match appTy P t with
  | some (s, bytes) => match x with
    | .own r g => match S.rows.get r with
      | some (.arr g' s' xs) => if h : s' = s then
          (if g = g' then (srcOf S.rows s y).map fun ys => (sLe ((((h ▸ xs : List s.den).length + ys.length) * bytes : Nat) : Int) 140737488355328, .own r (g + 1), S.rows.set r (some (.arr (g + 1) s ((h ▸ xs : List s.den) ++ ys))), r) else none)
        else none
      | _ => none
    | .osl r g st len => match S.rows.get r with
      | some (.arr g' s' xs) => if h : s' = s then
          (if g = g' ∧ st = 0 then (srcOf S.rows s y).map fun ys =>
            (sAnd (sLt 0 (ys.length : Int)) (sLe (((len + ys.length) * bytes : Nat) : Int) 140737488355328), .own r (g + 2), S.rows.set r (some (.arr (g + 2) s ((h ▸ xs : List s.den).take len ++ ys))), r) else none)
        else none
      | _ => none
    | .nils => (srcOf S.rows s y).map fun ys => (sLe ((ys.length * bytes : Nat) : Int) 140737488355328, .own id 1, (S.rows.put id (.arr 0 s [])).set id (some (.arr 1 s ys)), id)
    | _ => none
  | none => none

def loud0 (E : Env) (S : St) (n id : Nat) (op : Op) : Option (Bool × AV × Rows × Nat) :=
  match op with
  | .store t x y => match S.opd E x, S.opd E y with
    | some (okx, p), some (oky, v) => (qStore E.P S.rows n t p v).map fun (r, row) => (sAnd okx oky, .unk, S.rows.set r (some row), r)
    | _, _ => none
  | .call c => match c.callee with
    | .builtin .append => match c.args.toList, c.argTypes.toList with
      | [x, y], [t, t'] => if t = t' then
          (match S.opd E x, S.opd E y with
          | some (okx, vx), some (oky, vy) => (qAppend E.P S n id t vx vy).map fun (ok, v, rows, r) => (sAnd (sAnd okx oky) ok, v, rows, r)
          | _, _ => none) else none
      | _, _ => none
    | _ => none
  | _ => none

/-- The growths that an append counts anew. -/
def loudNew (E : Env) (S : St) (op : Op) : List Nat :=
  match op with
  | .call c => match c.callee with
    | .builtin .append => match c.args.toList with
      | x :: _ => match S.opd E x with
        | some (_, .own _ g) => [g + 1]
        | some (_, .osl _ g _ _) => [g + 1, g + 2]
        | some (_, .nils) => [0, 1]
        | _ => []
      | _ => []
    | _ => []
  | _ => []

def loud (E : Env) (S : St) (n id : Nat) (op : Op) : Option (Bool × AV × Rows × Nat) :=
  (loud0 E S n id op).bind fun x => if (loudNew E S op).all (noRefB S x.2.2.2) then some x else none

/-- Nothing speaks of the growth g of row r. -/
structure NoRef (S : St) (r g : Nat) : Prop where
  tmp : ∀ (t : Nat) (v : AV), S.tmps[t]? = some v → v.all (fun q h => !(q == r && h == g)) = true
  box : ∀ (q : Nat) (cs : List AV), S.rows.get q = some (.box cs) → AV.allL (fun q h => !(q == r && h == g)) cs = true
  gho : AV.allL (fun q h => !(q == r && h == g)) S.gho = true

def St.loudly (S : St) (dst : Option Tmp) (v : AV) (rows : Rows) (r : Nat) : St := (forceN r fun q => forceN S.dr fun d => { S with rows := rows, dr := addN q d } : St).putT dst v

mutual
theorem AV.all_and {p q : Nat → Nat → Bool} : ∀ {a : AV}, a.all p = true → a.all q = true → a.all (fun r g => p r g && q r g) = true
  | .unk, _, _ | .bool _, _, _ | .int _ _, _, _ | .str _, _, _ | .nilp, _, _ | .nilf, _, _ | .nili, _, _ | .nils, _, _ | .dsl _ _, _, _ | .dptr _ _ _, _, _ => rfl
  | .ptr r _, e, f | .bsl r _ _ _, e, f | .eptr r _ _ _, e, f | .osl r _ _ _, e, f | .own r _, e, f => by simp only [AV.all] at e f ⊢; rw [e, f]; rfl
  | .agg cs, e, f | .tup cs, e, f | .clo _ cs, e, f => by simp only [AV.all] at e f ⊢; exact AV.allL_and e f
  | .iface _ v, e, f | .opt _ v, e, f | .gopt _ v, e, f => by simp only [AV.all] at e f ⊢; exact AV.all_and e f
theorem AV.allL_and {p q : Nat → Nat → Bool} : ∀ {as : List AV}, AV.allL p as = true → AV.allL q as = true → AV.allL (fun r g => p r g && q r g) as = true
  | [], _, _ => rfl
  | a :: as, e, f => by
    simp only [AV.allL, Bool.and_eq_true] at e f ⊢
    exact ⟨AV.all_and e.1 f.1, AV.allL_and e.2 f.2⟩
end

section
variable {E : Env} {base n : Nat} {w0 : Start} {w w' : World} {X X' : Cx} {S : St} {a : Act}

theorem Sim.turn' (H : Sim E base w0 n X S a w) (R : RowsOk base w0 n X' w') {S' : St} (hrows : X'.rows = S'.rows) {dst : Option Tmp} {v : AV} {val : Value} {p : Nat → Nat → Bool}
    (hst : Stab X X' p) (hall : ∀ (t : Nat) (v : AV), S.tmps[t]? = some v → v.all p = true) (hgh : S'.gho = S.gho) (hallg : AV.allL p S.gho = true) (htm : S'.tmps = match dst with | some t => S.tmps.set t v | none => S.tmps)
    (hok : ∀ q, S.rows.okid n q = true → S'.rows.okid n q = true)
    (hv : dst ≠ none → v.all (fun q _ => S'.rows.okid n q) = true ∧ Rel X' v val) : Sim E base w0 n X' S' (a.put dst val) w' where
  rows := hrows
  ok := R
  size := by rw [put_size, H.size, htm]; cases dst <;> simp
  defers := by rw [put_defers]; exact H.defers
  tmp t u hu := by
    have old : ∀ u, S.tmps[t]? = some u → u.all (fun q _ => S'.rows.okid n q) = true ∧ Rel X' u (a.tmps.getD t undef) := by
      intro u hu
      obtain ⟨h1, h2⟩ := H.tmp t u hu
      exact ⟨AV.all_imp (fun q _ h => hok q h) u h1, Rel.mono hst u _ (hall t u hu) h2⟩
    rw [htm] at hu
    cases dst with
    | none => exact old u hu
    | some d =>
      simp only at hu
      by_cases e : t = d
      · subst e
        have hlt : t < S.tmps.length := by
          have := TMap.getElem?_lt hu
          simpa using this
        rw [TMap.getElem?_set_self hlt] at hu
        cases hu
        refine ⟨(hv (by simp)).1, ?_⟩
        have : (a.put (some t) val).tmps.getD t undef = val := by
          have hs : t < a.tmps.size := by rw [H.size]; exact hlt
          simp [Act.put, hs]
        rw [this]
        exact (hv (by simp)).2
      · rw [TMap.getElem?_set_ne (by omega)] at hu
        have : (a.put (some d) val).tmps.getD t undef = a.tmps.getD t undef := by
          simp [Act.put, Array.getElem?_setIfInBounds_ne (show d ≠ t from fun h => e h.symm)]
        rw [this]
        exact old u hu
  glob g s x hg := by
    exact GRel.mono hst (H.glob g s x hg)
  gho := by
    rw [hgh]
    exact ⟨AV.allL_imp (fun q _ h => hok q h) _ H.gho.1, RelL.mono hst _ _ hallg H.gho.2⟩

theorem noRefB_tmp {r g : Nat} (h : noRefB S r g = true) {t : Nat} {v : AV} (hv : S.tmps[t]? = some v) : v.all (fun q h => !(q == r && h == g)) = true := by
  simp only [noRefB, Bool.and_eq_true] at h
  exact TMap.all_at (by simp [AV.all]) h.1.1 hv
theorem noRefB_gho {r g : Nat} (h : noRefB S r g = true) : AV.allL (fun q h => !(q == r && h == g)) S.gho = true := by
  simp only [noRefB, Bool.and_eq_true] at h
  exact h.1.2
theorem noRefB_box {r g : Nat} (h : noRefB S r g = true) {q : Nat} {cs : List AV} (hv : S.rows.get q = some (.box cs)) : AV.allL (fun q h => !(q == r && h == g)) cs = true := by
  simp only [noRefB, Bool.and_eq_true, List.all_eq_true] at h
  unfold Rows.get at hv
  cases hr : S.rows[q]? with
  | none => rw [hr] at hv; cases hv
  | some x =>
    rw [hr] at hv
    simp only [Option.join_some] at hv
    subst hv
    exact h.2 _ (List.mem_of_getElem? hr)

theorem okid_set {rows : Rows} {r : Nat} {x : Row} (hlt : r < rows.length) {q : Nat} (h : rows.okid n q = true) : Rows.okid (rows.set r (some x)) n q = true := by
  unfold Rows.okid at h ⊢
  unfold Rows.get at h ⊢
  by_cases e : q = r
  · subst e; rw [List.getElem?_set_self hlt]; simp
  · rw [List.getElem?_set_ne (by omega)]; exact h

theorem NoRef.of {r g : Nat} (h : noRefB S r g = true) : NoRef S r g := ⟨fun _ _ hv => noRefB_tmp h hv, fun _ _ hv => noRefB_box h hv, noRefB_gho h⟩

theorem loudly_tmps (S : St) (dst : Option Tmp) (v : AV) (rows : Rows) (r : Nat) : (S.loudly dst v rows r).tmps = match dst with | some t => S.tmps.set t v | none => S.tmps := by
  unfold St.loudly; rw [forceN_eq, forceN_eq]; cases dst <;> first | rfl | (simp only [St.putT]; rw [St.setT_eq])
theorem loudly_gho (S : St) (dst : Option Tmp) (v : AV) (rows : Rows) (r : Nat) : (S.loudly dst v rows r).gho = S.gho := by
  unfold St.loudly; rw [forceN_eq, forceN_eq]; cases dst <;> first | rfl | (simp only [St.putT]; rw [St.setT_eq])
theorem loudly_rows (S : St) (dst : Option Tmp) (v : AV) (rows : Rows) (r : Nat) : (S.loudly dst v rows r).rows = rows := by
  unfold St.loudly; rw [forceN_eq, forceN_eq]; cases dst <;> first | rfl | (simp only [St.putT]; rw [St.setT_eq])

theorem loud0_wp (H : Sim E base w0 n X S a w) {id : Nat} (hid : n ≤ id) (hno : S.rows.get id = none) {op : Op} {dst : Option Tmp} {ty : TypeId} {pos : String} {after : Array Edge} {guard : Option (Nat × Bool)}
    {ok : Bool} {v : AV} {rows : Rows} {r : Nat} (h : loud0 E S n id op = some (ok, v, rows, r)) (hno1 : ∀ g ∈ loudNew E S op, NoRef S r g) (hok : ok = true) (hrefs : v.all (fun q _ => rows.okid n q) = true)
    {K : Act → World → Prop} {Q : Exit → Act → World → Prop} (hk : ∀ val w' X', Sim E base w0 n X' (S.loudly dst v rows r) (a.put dst val) w' → K (a.put dst val) w') :
    Oper.wp E.P { dst, op, type := ty, pos, after, guard } a w K Q := by
  unfold loud0 at h
  split at h
  · rename_i t x y
    split at h
    · rename_i okx p oky u hx hy
      simp only [Option.map_eq_some_iff, Prod.exists, Prod.mk.injEq] at h
      obtain ⟨r', row, hs, rfl, rfl, rfl, rfl⟩ := h
      simp only [Bool.and_eq_true] at hok
      have hxr := (opd_ok H hx hok.1).1
      have hyr := (opd_ok H hy hok.2).1
      obtain ⟨w', X', hrun, R, hrows, hlt, hst⟩ := store_ok (P := E.P) H.ok (by rw [H.rows]; exact hs) hxr hyr
      have hrun' : (execOp a.eval { dst, op := .store t x y, type := ty, pos, after, guard }).run E.P w = .ok .skip w' := by simp [execOp, hrun]
      unfold Oper.wp
      rw [hrun', Oper.upon_skip]
      refine hk undef w' X' (Sim.turn' H R (by rw [hrows, loudly_rows, H.rows]) hst (fun t v hv => AV.all_imp (fun _ _ _ => rfl) v (H.tmp t v hv).1) (loudly_gho ..) (AV.allL_imp (fun _ _ _ => rfl) _ H.gho.1) (loudly_tmps ..) (fun q hq => by
        rw [loudly_rows]; exact okid_set (by rw [← H.rows]; exact hlt) hq) (fun _ => ⟨rfl, by simp [Rel]⟩))
    · cases h
  · rename_i c
    obtain ⟨callee, args, argTypes⟩ := c
    obtain ⟨args⟩ := args
    obtain ⟨argTypes⟩ := argTypes
    split at h
    · rename_i hcal
      simp only at hcal
      subst hcal
      split at h
      · rename_i x y t t' hargs htys
        simp only at hargs htys
        subst hargs htys
        split at h
        · rename_i htt
          subst htt
          split at h
          · rename_i okx vx oky vy hx hy
            simp only [Option.map_eq_some_iff, Prod.exists, Prod.mk.injEq] at h
            obtain ⟨ok', v', rows', r', hq, h1, rfl, rfl, rfl⟩ := h
            subst h1
            simp only [Bool.and_eq_true] at hok
            obtain ⟨⟨hok1, hok2⟩, hok3⟩ := hok
            have hxr := (opd_ok H hx hok1).1
            have hyr := (opd_ok H hy hok2).1
            have fin : ∀ (val : Value) (w' : World) (X' : Cx) (p : Nat → Nat → Bool), (Builtin.append_ #[t, t] ty #[a.eval x, a.eval y]).run E.P w = .ok val w' → RowsOk base w0 n X' w' → X'.rows = rows' → Stab X X' p →
                (∀ (t : Nat) (v : AV), S.tmps[t]? = some v → v.all p = true) → AV.allL p S.gho = true → (∀ q, S.rows.okid n q = true → Rows.okid rows' n q = true) → Rel X' v' val →
                Oper.wp E.P { dst, op := .call { callee := .builtin .append, args := ⟨[x, y]⟩, argTypes := ⟨[t, t]⟩ }, type := ty, pos, after, guard } a w K Q := by
              intro val w' X' p hrun R hrows hst hall hallg hokid hrel
              have hrun' : (execOp a.eval { dst, op := .call { callee := .builtin .append, args := ⟨[x, y]⟩, argTypes := ⟨[t, t]⟩ }, type := ty, pos, after, guard }).run E.P w = .ok (.value val) w' := by
                simp [execOp, resolve, invoke, BigFrame.builtin_append, hrun]
              unfold Oper.wp
              rw [hrun', Oper.upon_value]
              exact hk val w' X' (Sim.turn' H R (by rw [hrows, loudly_rows]) hst hall (loudly_gho ..) hallg (loudly_tmps ..) (fun q hq => by rw [loudly_rows]; exact hokid q hq) (fun _ => ⟨by rw [loudly_rows]; exact hrefs, hrel⟩))
            unfold qAppend at hq
            split at hq
            · rename_i s bytes hT
              have HT := appTy_ok hT
              split at hq
              · rename_i q g
                split at hq
                · rename_i g' s' xs hrow
                  split at hq
                  · rename_i es
                    subst es
                    split at hq
                    · rename_i hc
                      obtain rfl := hc
                      have hnr : NoRef S q (g + 1) := by
                        simp only [Option.map_eq_some_iff, Prod.mk.injEq] at hq
                        obtain ⟨ys, hys, _, _, _, rfl⟩ := hq
                        exact hno1 _ (by simp [loudNew, hx])
                      simp only [Option.map_eq_some_iff, Prod.mk.injEq] at hq
                      obtain ⟨ys, hys, h1, rfl, rfl, rfl⟩ := hq
                      subst h1
                      simp only [decide_eq_true_eq] at hok3
                      obtain ⟨p, cap, hu, hsrc⟩ := srcOf_ok H.ok (by rw [H.rows]; exact hys) hyr
                      obtain ⟨val, w', X', hrun, R, hrows, hst, hrel⟩ := append_own (P := E.P) (ty := ty) H.ok HT (by rw [H.rows]; exact hrow) hxr hu hsrc (Int.ofNat_le.1 hok3) (fun k cs hcs => hnr.box k cs (by rw [← H.rows]; exact hcs))
                      exact fin val w' X' _ hrun R (by rw [hrows, H.rows]) hst (fun t v hv => hnr.tmp t v hv) hnr.gho (fun k hk => okid_set (rows_get_lt hrow) hk) hrel
                    · cases hq
                  · cases hq
                · cases hq
              · rename_i q g st len
                split at hq
                · rename_i g' s' xs hrow
                  split at hq
                  · rename_i es
                    subst es
                    split at hq
                    · rename_i hc
                      obtain ⟨rfl, rfl⟩ := hc
                      have hnr : NoRef S q (g + 1) ∧ NoRef S q (g + 2) := by
                        simp only [Option.map_eq_some_iff, Prod.mk.injEq] at hq
                        obtain ⟨ys, hys, _, _, _, rfl⟩ := hq
                        exact ⟨hno1 _ (by simp [loudNew, hx]), hno1 _ (by simp [loudNew, hx])⟩
                      obtain ⟨hnr1, hnr2⟩ := hnr
                      simp only [Option.map_eq_some_iff, Prod.mk.injEq] at hq
                      obtain ⟨ys, hys, h1, rfl, rfl, rfl⟩ := hq
                      subst h1
                      simp only [Bool.and_eq_true, decide_eq_true_eq] at hok3
                      obtain ⟨p, cap, hu, hsrc⟩ := srcOf_ok H.ok (by rw [H.rows]; exact hys) hyr
                      obtain ⟨val, w', X', hrun, R, hrows, hst, hrel⟩ := append_osl (P := E.P) (ty := ty) H.ok HT (by rw [H.rows]; exact hrow) hxr hu hsrc (by omega) (Int.ofNat_le.1 hok3.2)
                        (fun k cs hcs => hnr1.box k cs (by rw [← H.rows]; exact hcs)) (fun k cs hcs => hnr2.box k cs (by rw [← H.rows]; exact hcs))
                      exact fin val w' X' _ hrun R (by rw [hrows, H.rows]) hst (fun t v hv => AV.all_and (hnr1.tmp t v hv) (hnr2.tmp t v hv)) (AV.allL_and hnr1.gho hnr2.gho) (fun k hk => okid_set (rows_get_lt hrow) hk) hrel
                    · cases hq
                  · cases hq
                · cases hq
              · · have hnr : NoRef S id 1 ∧ NoRef S id 0 := by
                    simp only [Option.map_eq_some_iff, Prod.mk.injEq] at hq
                    obtain ⟨ys, hys, _, _, _, rfl⟩ := hq
                    exact ⟨hno1 _ (by simp [loudNew, hx]), hno1 _ (by simp [loudNew, hx])⟩
                  simp only [Option.map_eq_some_iff, Prod.mk.injEq] at hq
                  obtain ⟨ys, hys, h1, rfl, rfl, rfl⟩ := hq
                  subst h1
                  simp only [decide_eq_true_eq] at hok3
                  have hno' : X.rows.get id = none := by rw [H.rows]; exact hno
                  have R1 := RowsOk.claim H.ok hid (loc := none) (x := .arr 0 s []) hno' (fun b o e => by cases e) (.inl ⟨by simp [Cx.claim], rfl⟩) (fun cs e => by cases e)
                  have S1 := Stab.claim (X := X) (n := n) (id := id) (x := .arr 0 s []) (loc := none) hid hno'
                  have hget : (X.claim id (.arr 0 s []) none).rows.get id = some (.arr 0 s []) := by simp [Cx.claim, Rows.get_put]
                  simp only [Rel] at hxr
                  obtain ⟨p, cap, hu, hsrc⟩ := srcOf_ok H.ok (by rw [H.rows]; exact hys) hyr
                  have hbox : ∀ k cs, (X.claim id (.arr 0 s []) none).rows.get k = some (.box cs) → AV.allL (fun q h => !(q == id && h == 0 + 1)) cs = true := by
                    intro k cs hk
                    rw [Cx.claim, Rows.get_put] at hk
                    split at hk
                    · cases hk
                    · exact hnr.1.box _ _ (by rw [← H.rows]; exact hk)
                  obtain ⟨val, w', X', hrun, R, hrows, hst, hrel⟩ := append_own (P := E.P) (ty := ty) R1 HT hget (u := a.eval x) (xs := []) (by
                    simp only [Rel]
                    intro s' zs hz
                    rw [hget] at hz
                    obtain ⟨_, hs', hz'⟩ := Row.arr.inj (Option.some.inj hz)
                    subst hs'
                    cases hz'
                    exact .inl ⟨by simp [Cx.claim], rfl, hxr⟩) hu hsrc (by simpa using Int.ofNat_le.1 hok3) hbox
                  refine fin val w' X' (fun q h => S.rows.okid n q && !(q == id && h == 1)) hrun R (by rw [hrows]; simp [Cx.claim, H.rows]) ?_ (fun t v hv => ?_) (AV.allL_and H.gho.1 hnr.1.gho) (fun k hk => ?_) hrel
                  · refine ⟨fun b hb => hst.F b (S1.F b hb), fun b hb => (hst.heap b (S1.F b hb)).trans (S1.heap b hb), fun q g hp cs' hq => ?_, fun q g hp s' xs' hq => ?_⟩
                    · simp only [Bool.and_eq_true] at hp
                      obtain ⟨⟨cs, hcs⟩, hφ⟩ := hst.box q g (by simpa using hp.2) cs' hq
                      obtain ⟨h2, hφ2⟩ := S1.box q g (by rw [H.rows]; exact hp.1) cs hcs
                      exact ⟨h2, hφ.trans hφ2⟩
                    · simp only [Bool.and_eq_true] at hp
                      obtain ⟨ws, hws, hl, hφ, hs⟩ := hst.arr q g (by simpa using hp.2) s' xs' hq
                      obtain ⟨vs, hvs, hl2, hφ2, hs2⟩ := S1.arr q g (by rw [H.rows]; exact hp.1) s' ws hws
                      refine ⟨vs, hvs, hl.trans hl2, hφ.trans hφ2, fun b o hb c' T' fr' hc' => ?_⟩
                      exact hs b o (hφ2.trans hb) c' T' fr' hc'
                  · have h1 := (H.tmp t v hv).1
                    have h2 := hnr.1.tmp t v hv
                    exact AV.all_and h1 h2
                  · exact okid_set (by unfold Rows.put; simp; omega) (Rows.okid_put hk)
              · cases hq
            · cases hq
          · cases h
        · cases h
      · cases h
    · cases h
  · cases h

theorem loud_split {id : Nat} {op : Op} {ok : Bool} {v : AV} {rows : Rows} {r : Nat} (h : loud E S n id op = some (ok, v, rows, r)) : loud0 E S n id op = some (ok, v, rows, r) ∧ ∀ g ∈ loudNew E S op, NoRef S r g := by
  unfold loud at h
  simp only [Option.bind_eq_some_iff] at h
  obtain ⟨x, h1, h2⟩ := h
  split at h2
  · rename_i hc
    cases h2
    simp only [List.all_eq_true] at hc
    exact ⟨h1, fun g hg => NoRef.of (hc g hg)⟩
  · cases h2

theorem loud_wp (H : Sim E base w0 n X S a w) {id : Nat} (hid : n ≤ id) (hno : S.rows.get id = none) {op : Op} {dst : Option Tmp} {ty : TypeId} {pos : String} {after : Array Edge} {guard : Option (Nat × Bool)}
    {ok : Bool} {v : AV} {rows : Rows} {r : Nat} (h : loud E S n id op = some (ok, v, rows, r)) (hok : ok = true) (hrefs : v.all (fun q _ => rows.okid n q) = true)
    {K : Act → World → Prop} {Q : Exit → Act → World → Prop} (hk : ∀ val w' X', Sim E base w0 n X' (S.loudly dst v rows r) (a.put dst val) w' → K (a.put dst val) w') :
    Oper.wp E.P { dst, op, type := ty, pos, after, guard } a w K Q :=
  loud0_wp H hid hno (loud_split h).1 (loud_split h).2 hok hrefs hk

/-! ### Seen by one who sees more -/
def SubR (a b : Rows) : Prop := ∀ (r : Nat) (x : Row), a.get r = some x → b.get r = some x
structure SubS (S S' : St) : Prop where
  tmp : ∀ (t : Nat) (v : AV), S.tmps[t]? = some v → S'.tmps[t]? = some v ∨ v = .unk
  row : SubR S.rows S'.rows

theorem opd_sub {S S' : St} (h : SubS S S') {x : Operand} {r : Bool × AV} (e : S.opd E x = some r) : S'.opd E x = some r := by
  cases x with
  | tmp t =>
    simp only [St.opd] at e ⊢
    cases ht : S.tmps[t]? with
    | none => rw [ht] at e; cases e
    | some v =>
      rcases h.tmp t v ht with h1 | h1
      · rw [h1]; rw [ht] at e; exact e
      · subst h1; rw [ht] at e; cases e
  | const v => exact e
  | func f => exact e
  | global g => exact e

theorem solid_sub {a b : Rows} (h : SubR a b) : ∀ (v : AV), v.solid a = true → v.solid b = true := by
  intro v hv
  cases v <;> simp only [AV.solid] at hv ⊢ <;> try exact hv
  all_goals
    split at hv
    · rename_i hr
      simp only [h _ _ hr]
      try exact hv
    · cases hv

theorem cellsAV_sub {a b : Rows} (h : SubR a b) {v : AV} {vs : List AV} (e : cellsAV a v = some vs) : cellsAV b v = some vs := by
  cases v <;> simp only [cellsAV] at e ⊢
  case agg cs =>
    split at e
    · rename_i hc
      rw [if_pos ?_]
      · exact e
      · simp only [List.all_eq_true] at hc ⊢
        exact fun x hx => solid_sub h x (hc x hx)
    · cases e
  all_goals
    split at e
    · rename_i hc
      rw [if_pos (solid_sub h _ hc)]
      exact e
    · cases e

theorem okid_sub {a b : Rows} (h : SubR a b) {q : Nat} (e : a.okid n q = true) : b.okid n q = true := by
  unfold Rows.okid at e ⊢
  simp only [Bool.or_eq_true] at e ⊢
  rcases e with e | e
  · exact .inl e
  · obtain ⟨x, hx⟩ := Option.isSome_iff_exists.1 e
    exact .inr (by rw [h _ _ hx]; rfl)

theorem qStore_sub {P : Program} {a b : Rows} (h : SubR a b) {t : TypeId} {p v : AV} {x : Nat × Row} (e : qStore P a n t p v = some x) : qStore P b n t p v = some x := by
  simp only [qStore, Option.bind_eq_some_iff] at e ⊢
  obtain ⟨vs, hvs, e⟩ := e
  refine ⟨vs, cellsAV_sub h hvs, ?_⟩
  split at e
  · rename_i hs
    rw [if_pos hs]
    split at e
    · rename_i r off
      split at e
      · rename_i cs hr
        rw [h _ _ hr]
        simp only
        split at e
        · rename_i hc
          rw [if_pos ⟨hc.1, AV.allL_imp (fun q _ hq => okid_sub h hq) _ hc.2.1, AV.allL_imp (fun q _ hq => okid_sub h hq) _ hc.2.2⟩]
          exact e
        · cases e
      · cases e
    · rename_i r g i off
      split at e
      · rename_i g' s xs hr
        rw [h _ _ hr]
        exact e
      · cases e
    · cases e
  · cases e

theorem srcOf_sub {a b : Rows} (h : SubR a b) {s : Sh} {v : AV} {ys : List s.den} (e : srcOf a s v = some ys) : srcOf b s v = some ys := by
  cases v <;> simp only [srcOf] at e ⊢ <;> try exact e
  all_goals
    split at e
    · rename_i hr
      rw [h _ _ hr]
      exact e
    · cases e

theorem get_set_self {rows : Rows} {r : Nat} {x : Row} (h : r < rows.length) : Rows.get (rows.set r (some x)) r = some x := by
  unfold Rows.get; rw [List.getElem?_set_self h]; rfl
theorem get_set_ne {rows : Rows} {r q : Nat} {x : Option Row} (h : q ≠ r) : Rows.get (rows.set r x) q = rows.get q := by
  unfold Rows.get; rw [List.getElem?_set_ne (by omega)]

/-- What a loud operation does, it does where more is seen. -/
theorem loud0_sub {S S' : St} (h : SubS S S') {id : Nat} {op : Op} {ok : Bool} {v : AV} {rows : Rows} {r : Nat} (e : loud0 E S n id op = some (ok, v, rows, r)) :
    ∃ (rows' : Rows) (x : Row), loud0 E S' n id op = some (ok, v, rows', r) ∧ rows.get r = some x ∧ rows'.get r = some x ∧ (∀ q, q ≠ r → rows'.get q = S'.rows.get q) ∧ loudNew E S' op = loudNew E S op ∧
      (r = id ∨ ∃ y, S.rows.get r = some y) := by
  unfold loud0 at e
  split at e
  · rename_i t x y
    split at e
    · rename_i okx p oky u hx hy
      simp only [Option.map_eq_some_iff, Prod.exists, Prod.mk.injEq] at e
      obtain ⟨r', row, hs, rfl, rfl, rfl, rfl⟩ := e
      have hlt : ∃ y, S.rows.get r' = some y := by
        simp only [qStore, Option.bind_eq_some_iff] at hs
        obtain ⟨vs, hvs, hs⟩ := hs
        split at hs
        · split at hs
          · split at hs
            · rename_i hr
              split at hs
              · cases hs; exact ⟨_, hr⟩
              · cases hs
            · cases hs
          · split at hs
            · rename_i hr
              split at hs
              · split at hs
                · cases hs; exact ⟨_, hr⟩
                · cases hs
              · cases hs
            · cases hs
          · cases hs
        · cases hs
      obtain ⟨z, hz⟩ := hlt
      refine ⟨S'.rows.set r' (some row), row, ?_, get_set_self (rows_get_lt hz), get_set_self (rows_get_lt (h.row _ _ hz)), fun q hq => get_set_ne hq, rfl, .inr ⟨z, hz⟩⟩
      simp only [loud0, opd_sub h hx, opd_sub h hy, qStore_sub h.row hs, Option.map_some]
    · cases e
  · rename_i c
    obtain ⟨callee, args, argTypes⟩ := c
    obtain ⟨args⟩ := args
    obtain ⟨argTypes⟩ := argTypes
    split at e
    · rename_i hcal
      simp only at hcal
      subst hcal
      split at e
      · rename_i x y t t' hargs htys
        simp only at hargs htys
        subst hargs htys
        split at e
        · rename_i htt
          subst htt
          split at e
          · rename_i okx vx oky vy hx hy
            simp only [Option.map_eq_some_iff, Prod.exists, Prod.mk.injEq] at e
            obtain ⟨ok', v', rows', r', hq, h1, rfl, rfl, rfl⟩ := e
            have hnew : loudNew E S' (.call { callee := .builtin .append, args := ⟨[x, y]⟩, argTypes := ⟨[t, t]⟩ }) = loudNew E S (.call { callee := .builtin .append, args := ⟨[x, y]⟩, argTypes := ⟨[t, t]⟩ }) := by
              simp only [loudNew, opd_sub h hx, hx]
            have key : ∀ (rows2 : Rows), qAppend E.P S' n id t vx vy = some (ok', v', rows2, r') → loud0 E S' n id (.call { callee := .builtin .append, args := ⟨[x, y]⟩, argTypes := ⟨[t, t]⟩ }) = some (ok, v', rows2, r') := by
              intro rows2 h2
              simp only [loud0, opd_sub h hx, opd_sub h hy, h2, if_true, Option.map_some, h1]
            unfold qAppend at hq
            split at hq
            · rename_i s bytes hT
              split at hq
              · rename_i q g
                split at hq
                · rename_i g' s' xs hrow
                  split at hq
                  · rename_i es
                    subst es
                    split at hq
                    · rename_i hc
                      simp only [Option.map_eq_some_iff, Prod.mk.injEq] at hq
                      obtain ⟨ys, hys, e1, e2, rfl, rfl⟩ := hq
                      refine ⟨_, _, key _ ?_, get_set_self (rows_get_lt hrow), get_set_self (rows_get_lt (h.row _ _ hrow)), fun q hq => get_set_ne hq, hnew, .inr ⟨_, hrow⟩⟩
                      subst hc e2
                      simp only [qAppend, hT, h.row _ _ hrow, srcOf_sub h.row hys, dif_pos, if_true, Option.map_some, e1]
                    · cases hq
                  · cases hq
                · cases hq
              · rename_i q g st len
                split at hq
                · rename_i g' s' xs hrow
                  split at hq
                  · rename_i es
                    subst es
                    split at hq
                    · rename_i hc
                      simp only [Option.map_eq_some_iff, Prod.mk.injEq] at hq
                      obtain ⟨ys, hys, e1, e2, rfl, rfl⟩ := hq
                      refine ⟨_, _, key _ ?_, get_set_self (rows_get_lt hrow), get_set_self (rows_get_lt (h.row _ _ hrow)), fun q hq => get_set_ne hq, hnew, .inr ⟨_, hrow⟩⟩
                      obtain ⟨rfl, rfl⟩ := hc
                      subst e2
                      simp only [qAppend, hT, h.row _ _ hrow, srcOf_sub h.row hys, dif_pos, and_self, if_true, Option.map_some, e1]
                    · cases hq
                  · cases hq
                · cases hq
              · simp only [Option.map_eq_some_iff, Prod.mk.injEq] at hq
                obtain ⟨ys, hys, e1, e2, rfl, rfl⟩ := hq
                have hl : ∀ (rw : Rows), id < (rw.put id (.arr 0 s [])).length := fun rw => by unfold Rows.put; simp; omega
                refine ⟨_, _, key _ ?_, get_set_self (hl _), get_set_self (hl S'.rows), fun q hq => ?_, hnew, .inl rfl⟩
                · simp only [qAppend, hT, srcOf_sub h.row hys, Option.map_some, e1, e2]
                · rw [get_set_ne hq, Rows.get_put, if_neg hq]
              · cases hq
            · cases hq
          · cases e
        · cases e
      · cases e
    · cases e
  · cases e
end
end Go.Proofs.YtnjofponcdcfcaaDoor.Ab
