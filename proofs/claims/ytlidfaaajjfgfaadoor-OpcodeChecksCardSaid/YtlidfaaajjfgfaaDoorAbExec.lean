import Derived.Test.YtlidfaaajjfgfaaDoorAbCall
set_option linter.unusedVariables false
set_option linter.all false
namespace Go.Proofs.YtlidfaaajjfgfaaDoor.Ab
open Go.RowKit

theorem Stab.data {X X' : Cx} (h1 : ∀ b, X.F b → X'.F b) (h2 : ∀ b, X.F b → X'.heap[b]? = X.heap[b]?) : Stab X X' (fun _ _ => false) where
  F := h1
  heap := h2
  box _ _ h := by cases h
  arr _ _ h := by cases h

def St.opds (E : Env) (S : St) : List Operand → Option (Bool × List AV)
  | [] => some (true, [])
  | x :: xs => (S.opd E x).bind fun (ok, v) => (S.opds E xs).map fun (ok', vs) => (sAnd ok ok', v :: vs)

theorem opds_ok {E : Env} {base n : Nat} {w0 : Start} {w : World} {X : Cx} {S : St} {a : Act} (H : Sim E base w0 n X S a w) : ∀ {xs : List Operand} {ok : Bool} {vs : List AV}, S.opds E xs = some (ok, vs) → ok = true →
    RelL X vs (xs.map a.eval) ∧ AV.allL (fun q _ => S.rows.okid n q) vs = true
  | [], ok, vs, h, hok => by cases h; simp [RelL, AV.allL]
  | x :: xs, ok, vs, h, hok => by
    simp only [St.opds, Option.bind_eq_some_iff, Option.map_eq_some_iff, Prod.exists, Prod.mk.injEq] at h
    obtain ⟨ok1, v, h1, ok2, vs2, h2, rfl, rfl⟩ := h
    simp only [Bool.and_eq_true] at hok
    obtain ⟨hr, ha⟩ := opd_ok H h1 hok.1
    obtain ⟨ih1, ih2⟩ := opds_ok H h2 hok.2
    simp only [List.map_cons, RelL, AV.allL, Bool.and_eq_true]
    exact ⟨⟨_, _, rfl, hr, ih1⟩, ha, ih2⟩

/-- A function's contract: it may be entered, and it makes of data the datum that c says. -/
structure KOk (E : Env) (f : FuncId) (c : List AV → Option (Bool × AV)) : Prop where
  enter : ∀ (args : Array Value) (w : World), (callFunc f args).run E.P w = .ok (.enter f args) w
  valid : ∀ (F : Nat → Prop) (w : World) (as : List AV) (us : List Value) (r : AV),
    (∀ g s x, E.G g = some ⟨s, x⟩ → Rel ⟨F, fun _ => none, [], w.heap⟩ (.dptr s x 0) (.pointer (some ⟨g, 0, none⟩))) → (∀ b, F b → b < w.heap.size) →
    RelL ⟨F, fun _ => none, [], w.heap⟩ as us → c as = some (true, r) →
    Calls E.P f us.toArray w fun e w' => ∃ (F' : Nat → Prop) (u : Value), e = .returned u ∧ Below w.heap.size w w' ∧ (∀ b, F b → F' b) ∧ (∀ b, F' b → F b ∨ w.heap.size ≤ b) ∧ (∀ b, F' b → b < w'.heap.size) ∧
      Rel ⟨F', fun _ => none, [], w'.heap⟩ r u

mutual
theorem lend_same {rows : Rows} : ∀ (a b : AV), a.lend rows = some b → a.all (fun _ _ => false) = true → b = a
  | .own _ _, b, h, h2 | .osl _ _ _ _, b, h, h2 | .eptr _ _ _ _, b, h, h2 | .ptr _ _, b, h, h2 => by simp [AV.all] at h2
  | .agg cs, b, h, h2 => by
    simp only [AV.lend, Option.map_eq_some_iff] at h
    obtain ⟨ds, h, rfl⟩ := h
    rw [lendL_same cs ds h (by simpa [AV.all] using h2)]
  | .tup cs, b, h, h2 => by
    simp only [AV.lend, Option.map_eq_some_iff] at h
    obtain ⟨ds, h, rfl⟩ := h
    rw [lendL_same cs ds h (by simpa [AV.all] using h2)]
  | .iface t v, b, h, h2 => by
    simp only [AV.lend, Option.map_eq_some_iff] at h
    obtain ⟨d, h, rfl⟩ := h
    rw [lend_same v d h (by simpa [AV.all] using h2)]
  | .clo f cs, b, h, h2 => by
    cases cs with
    | nil => simp only [AV.lend, Option.some.injEq] at h; exact h.symm
    | cons _ _ => simp only [AV.lend, reduceCtorEq] at h
  | .unk, b, h, h2 | .bool _, b, h, h2 | .int _ _, b, h, h2 | .str _, b, h, h2 | .nilp, b, h, h2 | .nilf, b, h, h2 | .nili, b, h, h2 | .nils, b, h, h2 | .dsl _ _, b, h, h2 | .dptr _ _ _, b, h, h2 => by
    simp only [AV.lend, Option.some.injEq] at h; exact h.symm
  | .opt _ _, b, h, h2 | .gopt _ _, b, h, h2 => by simp only [AV.lend, reduceCtorEq] at h
theorem lendL_same {rows : Rows} : ∀ (as bs : List AV), AV.lendL rows as = some bs → AV.allL (fun _ _ => false) as = true → bs = as
  | [], bs, h, _ => by simp only [AV.lendL, Option.some.injEq] at h; exact h.symm
  | a :: as, bs, h, h2 => by
    simp only [AV.lendL, Option.bind_eq_some_iff, Option.map_eq_some_iff] at h
    obtain ⟨b, h1, bs', h3, rfl⟩ := h
    simp only [AV.allL, Bool.and_eq_true] at h2
    rw [lend_same a b h1 h2.1, lendL_same as bs' h3 h2.2]
end

/-- Of a call of a function that only computes. -/
def qCall (E : Env) (S : St) (c : Call) : Option (Bool × AV × Option Row) :=
  match c.callee with
  | .value (.func f) => (E.K f).bind fun k => (S.opds E c.args.toList).bind fun (ok, vs) => (AV.lendL S.rows vs).bind fun us => (k us).bind fun (ok', r) =>
      if r.all (fun _ _ => false) ∧ (AV.allL (fun _ _ => false) vs ∨ r.noData) then some (sAnd ok ok', r, none) else none
  | _ => none

def qop (E : Env) (S : St) (n id : Nat) (op : Op) : Option (Bool × AV × Option Row) :=
  match op with
  | .call c => match c.callee with
    | .value _ => qCall E S c
    | _ => quietB E S c
  | op => quiet E S n id op

section
variable {E : Env} {base n : Nat} {w0 : Start} {w : World} {X : Cx} {S : St} {a : Act}

theorem qCall_wp (hK : ∀ f c, E.K f = some c → KOk E f c) (H : Sim E base w0 n X S a w) {c : Call} {id : Nat} {dst : Option Tmp} {ty : TypeId} {pos : String} {after : Array Edge} {guard : Option (Nat × Bool)} {ok : Bool} {v : AV} {new : Option Row}
    (h : qCall E S c = some (ok, v, new)) (hok : ok = true) {K : Act → World → Prop} {Q : Exit → Act → World → Prop} (hk : ∀ val w', QPost X w id v new val w' → K (a.put dst val) w') :
    Oper.wp E.P { dst, op := .call c, type := ty, pos, after, guard } a w K Q := by
  obtain ⟨callee, args, argTypes⟩ := c
  obtain ⟨args⟩ := args
  unfold qCall at h
  split at h
  · rename_i f hcal
    simp only at hcal
    subst hcal
    simp only [Option.bind_eq_some_iff, Prod.exists] at h
    obtain ⟨k, hkf, ok1, vs, hvs, us, hus, ok2, r, hr, h2⟩ := h
    split at h2
    · rename_i hc
      obtain ⟨hc1, hc2⟩ := hc
      simp only [Option.some.injEq, Prod.mk.injEq] at h2
      obtain ⟨rfl, rfl, rfl⟩ := h2
      simp only [Bool.and_eq_true] at hok
      obtain ⟨hok1, rfl⟩ := hok
      obtain ⟨hrel, hall⟩ := opds_ok H hvs hok1
      have KO := hK f k hkf
      have hex : (execOp a.eval { dst, op := .call { callee := .value (.func f), args := ⟨args⟩, argTypes }, type := ty, pos, after, guard }).run E.P w = .ok (.enter f (args.map a.eval).toArray) w := by
        have e : execOp a.eval { dst, op := .call { callee := .value (.func f), args := ⟨args⟩, argTypes }, type := ty, pos, after, guard } = callFunc f (#[] ++ (⟨args⟩ : Array Operand).map a.eval ++ #[]) := rfl
        rw [e]
        have e2 : (#[] ++ (⟨args⟩ : Array Operand).map a.eval ++ #[] : Array Value) = (args.map a.eval).toArray := by simp
        rw [e2]
        exact KO.enter _ w
      unfold Oper.wp
      rw [hex, Oper.upon_enter]
      -- the context of the call: lent memory, or none lent
      have key : ∀ Fc : Nat → Prop, (∀ b, Fc b → b < w.heap.size) → (∀ g s x, E.G g = some ⟨s, x⟩ → Rel ⟨Fc, fun _ => none, [], w.heap⟩ (.dptr s x 0) (.pointer (some ⟨g, 0, none⟩))) →
          RelL ⟨Fc, fun _ => none, [], w.heap⟩ us (args.map a.eval) →
          (∀ (F' : Nat → Prop) (u : Value) (w' : World), Below w.heap.size w w' → (∀ b, Fc b → F' b) → (∀ b, F' b → Fc b ∨ w.heap.size ≤ b) → (∀ b, F' b → b < w'.heap.size) → Rel ⟨F', fun _ => none, [], w'.heap⟩ r u → QPost X w id r none u w') →
          Calls E.P f (args.map a.eval).toArray w fun
            | .returned v, w'' => K (a.put dst v) w''
            | .panicked chain, w'' => Q (.panic chain) a w''
            | .outgrown, _ => LetsOut Q := by
        intro Fc hF hG hU hpost
        refine (KO.valid Fc w us _ r hG hF hU hr).mono fun e w' he => ?_
        obtain ⟨F', u, rfl, h1, h2, h3, h4, h5⟩ := he
        exact hk u w' (hpost F' u w' h1 h2 h3 h4 h5)
      have hlent : RelL X.lent us (args.map a.eval) := lendL_ok H.ok vs us _ (by rw [H.rows]; exact hus) hrel
      have hXl : X.lent = ⟨X.lent.F, fun _ => none, [], w.heap⟩ := by unfold Cx.lent; rw [H.ok.heap]
      rcases hc2 with hc2 | hc2
      · -- nothing lent
        have hus' : RelL ⟨X.F, fun _ => none, [], w.heap⟩ us (args.map a.eval) := by
          have : ∀ (as bs : List AV) (ws : List Value), AV.lendL S.rows as = some bs → AV.allL (fun _ _ => false) as = true → RelL X as ws → RelL ⟨X.F, fun _ => none, [], w.heap⟩ bs ws := by
            intro as bs ws h1 h2 h3
            have hst : Stab X ⟨X.F, fun _ => none, [], w.heap⟩ (fun _ _ => false) := (Stab.data (fun _ h => h) fun b hb => by rw [H.ok.heap])
            have h4 := RelL.mono hst as ws h2 h3
            have : bs = as := lendL_same as bs h1 h2
            rw [this]; exact h4
          exact this vs us _ hus hc2 hrel
        refine key X.F H.ok.fresh (fun g s x hg => ?_) hus' (fun F' u w' h1 h2 h3 h4 h5 => ?_)
        · have := H.glob g s x hg
          refine Rel.mono (p := fun _ _ => false) ?_ _ _ rfl this
          exact (Stab.data (fun _ h => h) fun b hb => by rw [H.ok.heap])
        · refine ⟨F', none, h1, h2, h3, h4, ?_⟩
          refine Rel.mono (p := fun _ _ => false) ?_ _ _ hc1 h5
          exact (Stab.data (fun _ h => h) fun b hb => rfl)
      · refine key X.lent.F (fun b hb => ?_) (fun g s x hg => ?_) (by rw [← hXl]; exact hlent) (fun F' u w' h1 h2 h3 h4 h5 => ?_)
        · rcases hb with hb | ⟨q, z, o, hz, hφ⟩
          · exact H.ok.fresh b hb
          · exact H.ok.lt hz hφ
        · have := H.glob g s x hg
          refine Rel.mono (p := fun _ _ => false) ?_ _ _ rfl this
          exact (Stab.data (fun _ h => .inl h) fun b hb => by rw [H.ok.heap])
        · refine ⟨X.F, none, h1, fun _ h => h, fun _ h => .inl h, fun b hb => Nat.lt_of_lt_of_le (H.ok.fresh b hb) h1.size, ?_⟩
          exact Rel.noData r u hc2 h5
    · cases h2
  · cases h
end
end Go.Proofs.YtlidfaaajjfgfaaDoor.Ab
