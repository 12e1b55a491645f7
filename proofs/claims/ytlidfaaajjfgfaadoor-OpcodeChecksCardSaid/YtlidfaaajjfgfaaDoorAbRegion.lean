import Derived.Test.YtlidfaaajjfgfaaDoorAbCode
set_option linter.unusedVariables false
set_option linter.all false
namespace Go.Proofs.YtlidfaaajjfgfaaDoor.Ab
open Go.RowKit

/-- Whether a guarded operation is wanted. -/
def guardB (ops : Array Oper) (S : St) (j : Nat) (want : Bool) : Option Bool :=
  match (ops[j]?).bind (·.dst) with
  | some t => match S.tmps[t]? with
    | some (.bool b) => some (match want with | true => b | false => sNot b)
    | some (.gopt c (.bool b)) => some (sAnd c (match want with | true => b | false => sNot b))
    | _ => none
  | none => none

def isArr : Option Row → Bool
  | some (.arr _ _ _) => true
  | _ => false

/-- One quiet operation, maybe guarded, its new row at id. -/
def qstep (E : Env) (ops : Array Oper) (S : St) (n id : Nat) (o : Oper) : Option (Bool × AV × Option Row) :=
  match o.guard with
  | none => (qop E S n id o.op).bind fun (ok, v, new) => if okRefs S.rows n id v new && okNew S.rows n new then some (ok, v, new) else none
  | some (j, want) => (guardB ops S j want).bind fun c => (qop E S n id o.op).bind fun (ok, v, new) =>
      if okRefs S.rows n id v new && okNew S.rows n new && !isArr new then some (sOr (sNot c) ok, .gopt c v, new) else none

def exOp (E : Env) (ops : Array Oper) (S : St) (o : Oper) : Option (Bool × St) :=
  let n := S.rows.length
  match qstep E ops S n n o with
  | some (ok, v, new) => some (ok, S.after o.dst v n new)
  | none => match o.guard with
    | none => (loud E S n n o.op).bind fun (ok, v, rows, r) => if v.all (fun q _ => rows.okid n q) then some (ok, S.loudly o.dst v rows r) else none
    | some _ => none

def exOps (E : Env) (ops : Array Oper) : List Oper → St → Option (Bool × St)
  | [], S => some (true, S)
  | o :: rest, S => (exOp E ops S o).bind fun (ok, S1) => (exOps E ops rest S1).map fun (ok', S2) => (sAnd ok ok', S2)

section
variable {E : Env} {base n : Nat} {w0 : Start} {w w' : World} {X X' : Cx} {S : St} {a : Act}

theorem qop_wp (hK : ∀ f c, E.K f = some c → KOk E f c) (H : Sim E base w0 n X S a w) {id : Nat} (hid : n ≤ id) (hno : S.rows.get id = none) {op : Op} {dst : Option Tmp} {ty : TypeId} {pos : String} {after : Array Edge}
    {guard : Option (Nat × Bool)} {ok : Bool} {v : AV} {new : Option Row} (h : qop E S n id op = some (ok, v, new)) (hok : ok = true) {K : Act → World → Prop} {Q : Exit → Act → World → Prop}
    (hk : ∀ val w', QPost X w id v new val w' → K (a.put dst val) w') : Oper.wp E.P { dst, op, type := ty, pos, after, guard } a w K Q := by
  have val : (∃ val w', (execOp a.eval { dst, op, type := ty, pos, after, guard }).run E.P w = .ok (.value val) w' ∧ QPost X w id v new val w') → Oper.wp E.P { dst, op, type := ty, pos, after, guard } a w K Q := by
    rintro ⟨val, w', hrun, hpost⟩
    unfold Oper.wp
    rw [hrun, Oper.upon_value]
    exact hk val w' hpost
  unfold qop at h
  split at h
  · rename_i c
    split at h
    · exact qCall_wp hK H h hok hk
    · obtain ⟨u, h1, h2⟩ := quietB_ok (id := id) (dst := dst) (ty := ty) (pos := pos) (after := after) (guard := guard) H h hok
      exact val ⟨u, w, h1, h2⟩
  · exact val (quiet_ok H hid hno h hok)

theorem guardB_ok (H : Sim E base w0 n X S a w) {ops : Array Oper} {o : Oper} {j : Nat} {want c : Bool} (hg : o.guard = some (j, want)) (h : guardB ops S j want = some c) : Region.wanted o (yielded ops a.tmps) = c := by
  unfold guardB at h
  have hw : Region.wanted o (yielded ops a.tmps) = (yielded ops a.tmps j == some want) := by simp [Region.wanted, hg]
  rw [hw]
  split at h
  · rename_i t ht
    have hget : ∀ v, S.tmps[t]? = some v → a.tmps[t]? = some (a.tmps.getD t undef) := by
      intro v hv
      have hlt : t < a.tmps.size := by rw [H.size]; exact TMap.getElem?_lt hv
      simp [hlt]
    split at h
    · rename_i b hb
      cases h
      have hr := (H.tmp t _ hb).2
      simp only [Rel] at hr
      have := hget _ hb
      rw [hr] at this
      simp only [yielded, ht, Option.bind_some, this]
      cases b <;> cases want <;> rfl
    · rename_i c1 b hb
      cases h
      have hr := (H.tmp t _ hb).2
      simp only [Rel] at hr
      have := hget _ hb
      cases c1 with
      | true =>
        rw [hr.1 rfl] at this
        simp only [yielded, ht, Option.bind_some, this]
        cases b <;> cases want <;> rfl
      | false =>
        rw [hr.2 rfl] at this
        simp only [yielded, ht, Option.bind_some, this, undef]
        cases b <;> cases want <;> rfl
    · cases h
  · cases h

/-- A guarded or unguarded quiet operation, step by step. -/
theorem qstep_wp (hK : ∀ f c, E.K f = some c → KOk E f c) (H : Sim E base w0 n X S a w) {ops : Array Oper} {id : Nat} (hid : n ≤ id) (hno : S.rows.get id = none) {o : Oper} {ok : Bool} {v : AV} {new : Option Row}
    (h : qstep E ops S n id o = some (ok, v, new)) (hok : ok = true) {K : Act → World → Prop} {Q : Exit → Act → World → Prop}
    (hk : ∀ val w', QPost X w id v new val w' → K (a.put o.dst val) w') :
    (if Region.wanted o (yielded ops a.tmps) then o.wp E.P a w K Q else K (a.put o.dst undef) w) ∧ okRefs S.rows n id v new = true ∧ okNew S.rows n new = true := by
  unfold qstep at h
  split at h
  · rename_i hg
    simp only [Option.bind_eq_some_iff, Prod.exists] at h
    obtain ⟨ok1, v1, new1, h1, h2⟩ := h
    split at h2
    · rename_i hc
      simp only [Bool.and_eq_true] at hc
      simp only [Option.some.injEq, Prod.mk.injEq] at h2
      obtain ⟨rfl, rfl, rfl⟩ := h2
      refine ⟨?_, hc.1, hc.2⟩
      rw [if_pos (by simp [Region.wanted, hg])]
      obtain ⟨dst, op, ty, pos, after, guard⟩ := o
      exact qop_wp hK H hid hno h1 hok hk
    · cases h2
  · rename_i j want hg
    simp only [Option.bind_eq_some_iff, Prod.exists] at h
    obtain ⟨c, hgb, ok1, v1, new1, h1, h2⟩ := h
    split at h2
    · rename_i hc
      simp only [Bool.and_eq_true, Bool.not_eq_true'] at hc
      obtain ⟨⟨hc1, hc2⟩, hc3⟩ := hc
      simp only [Option.some.injEq, Prod.mk.injEq] at h2
      obtain ⟨hok', rfl, rfl⟩ := h2
      refine ⟨?_, by simpa [okRefs, AV.all] using hc1, hc2⟩
      rw [guardB_ok H hg hgb]
      cases c with
      | true =>
        simp only [if_true]
        obtain ⟨dst, op, ty, pos, after, guard⟩ := o
        refine qop_wp hK H hid hno h1 (by rw [← hok'] at hok; simpa using hok) (fun val w' hp => hk val w' ?_)
        obtain ⟨F', loc, p1, p2, p3, p4, p5⟩ := hp
        refine ⟨F', loc, p1, p2, p3, p4, ?_⟩
        cases new1 with
        | none => simp only [Rel] at p5 ⊢; exact ⟨fun _ => p5, fun e => by cases e⟩
        | some row => obtain ⟨q1, q2, q3⟩ := p5; simp only [Rel]; exact ⟨q1, q2, fun _ => q3, fun e => (by cases e)⟩
      | false =>
        simp only [Bool.false_eq_true, if_false]
        refine hk undef w ?_
        have hX : ({ X with F := X.F, heap := w.heap } : Cx) = X := by rw [← H.ok.heap]
        refine ⟨X.F, none, Below.refl _ _, fun _ h => h, fun _ h => .inl h, H.ok.fresh, ?_⟩
        cases new1 with
        | none => simp only [Rel]; exact ⟨fun e => (by cases e), fun _ => trivial⟩
        | some row =>
          simp only [Rel]
          refine ⟨?_, fun b o e => (by cases e), fun e => (by cases e), fun _ => trivial⟩
          cases row with
          | box cs => intro b o e; simp [Cx.claim] at e
          | arr _ _ _ => simp [isArr] at hc3
    · cases h2
end

theorem put_length (rows : Rows) (x : Row) : (rows.put rows.length x).length = rows.length + 1 := by
  unfold Rows.put; simp

theorem after_length (S : St) (dst : Option Tmp) (v : AV) (new : Option Row) : S.rows.length ≤ (S.after dst v S.rows.length new).rows.length := by
  rw [St.after_rows]
  cases new with
  | none => exact Nat.le_refl _
  | some row => simp only [put_length]; omega

theorem get_end (rows : Rows) : rows.get rows.length = none := by
  unfold Rows.get; rw [List.getElem?_eq_none (Nat.le_refl _)]; rfl

/-- The state is read in some context. -/
def SimE (E : Env) (base : Nat) (w0 : Start) (S : St) (a : Act) (w : World) : Prop := ∃ X, Sim E base w0 S.rows.length X S a w

theorem loud_rows {E : Env} {S : St} {n id : Nat} (hid : id = S.rows.length) {op : Op} {ok : Bool} {v : AV} {rows : Rows} {r : Nat} (h : loud E S n id op = some (ok, v, rows, r)) :
    S.rows.length ≤ rows.length ∧ ∀ q, q < S.rows.length → q ≠ r → rows.get q = S.rows.get q := by
  have hset : ∀ (x : Row) (r q : Nat), q ≠ r → Rows.get (S.rows.set r (some x)) q = S.rows.get q := fun x r q hq => by
    unfold Rows.get; rw [List.getElem?_set_ne (by omega)]
  unfold loud at h
  split at h
  · split at h
    · simp only [Option.map_eq_some_iff, Prod.exists, Prod.mk.injEq] at h
      obtain ⟨r', row, hs, _, _, rfl, rfl⟩ := h
      exact ⟨by simp, fun q _ hq => hset _ _ _ hq⟩
    · cases h
  · split at h
    · split at h
      · split at h
        · split at h
          · simp only [Option.map_eq_some_iff, Prod.exists, Prod.mk.injEq] at h
            obtain ⟨ok', v', rows', r', hq, _, _, rfl, rfl⟩ := h
            unfold qAppend at hq
            split at hq
            · split at hq
              · split at hq
                · split at hq
                  · split at hq
                    · simp only [Option.map_eq_some_iff, Prod.mk.injEq] at hq
                      obtain ⟨ys, _, _, _, rfl, rfl⟩ := hq
                      exact ⟨by simp, fun q _ hq => hset _ _ _ hq⟩
                    · cases hq
                  · cases hq
                · cases hq
              · split at hq
                · simp only [Option.map_eq_some_iff, Prod.mk.injEq] at hq
                  obtain ⟨ys, _, _, _, rfl, rfl⟩ := hq
                  subst hid
                  refine ⟨by simp [put_length], fun q hq hne => ?_⟩
                  unfold Rows.get
                  rw [List.getElem?_set_ne (by omega)]
                  have := Rows.get_put S.rows S.rows.length (.arr 0 ‹Sh› []) q
                  rw [if_neg hne] at this
                  exact this
                · cases hq
              · cases hq
            · cases hq
          · cases h
        · cases h
      · cases h
    · cases h
  · cases h

theorem exOp_agree {E : Env} {ops : Array Oper} {S S' : St} {o : Oper} {ok : Bool} (h : exOp E ops S o = some (ok, S')) : Agree S S' := by
  unfold exOp at h
  simp only at h
  split at h
  · rename_i ok' v new hq
    cases h
    cases new with
    | none => exact Agree.putT S _ _
    | some row =>
      have h1 : Agree S { S with rows := S.rows.put S.rows.length row } := by
        refine ⟨rfl, fun _ _ => rfl, by simp [put_length], fun r hr _ => ?_, fun _ h => h, fun _ h => h⟩
        simp only [Rows.get_put, if_neg (by omega : r ≠ S.rows.length)]
      exact h1.trans (Agree.putT _ _ _)
  · split at h
    · simp only [Option.bind_eq_some_iff, Prod.exists] at h
      obtain ⟨ok', v, rows, r, hl, h2⟩ := h
      split at h2
      · cases h2
        obtain ⟨e1, e2⟩ := loud_rows rfl hl
        unfold St.loudly
        rw [forceN_eq, forceN_eq]
        have h1 : Agree S { S with rows := rows, dr := addN r S.dr } := by
          refine ⟨rfl, fun _ _ => rfl, e1, fun q hq hn => e2 q hq fun e => hn (by rw [e]; exact mem_addN.2 (.inl rfl)), fun _ h => h, fun q hq => mem_addN.2 (.inr hq)⟩
        exact h1.trans (Agree.putT _ _ _)
      · cases h2
    · cases h

theorem exOp_wp {E : Env} {base : Nat} {w0 : Start} {w : World} {S S' : St} {a : Act} (hK : ∀ f c, E.K f = some c → KOk E f c) (H : SimE E base w0 S a w) {ops : Array Oper} {o : Oper} {ok : Bool} (h : exOp E ops S o = some (ok, S')) (hok : ok = true)
    {K : Act → World → Prop} {Q : Exit → Act → World → Prop} (hk : ∀ a' w', SimE E base w0 S' a' w' → K a' w') :
    if Region.wanted o (yielded ops a.tmps) then o.wp E.P a w K Q else K (a.put o.dst undef) w := by
  obtain ⟨X, H⟩ := H
  unfold exOp at h
  simp only at h
  split at h
  · rename_i ok' v new hq
    cases h
    have hrefs := (qstep_wp (K := fun _ _ => True) (Q := Q) hK H (Nat.le_refl _) (get_end _) hq hok (fun _ _ _ => trivial)).2
    refine (qstep_wp hK H (Nat.le_refl _) (get_end _) hq hok (fun val w' hp => hk _ _ ?_)).1
    obtain ⟨X', H'⟩ := Sim.after H (Nat.le_refl _) (get_end _) (dst := o.dst) hp hrefs.1 hrefs.2
    exact ⟨X', H'.le (after_length ..)⟩
  · split at h
    · rename_i hg
      simp only [Option.bind_eq_some_iff, Prod.exists] at h
      obtain ⟨ok', v, rows, r, hl, h2⟩ := h
      split at h2
      · rename_i hrefs
        cases h2
        rw [if_pos (by simp [Region.wanted, hg])]
        obtain ⟨dst, op, ty, pos, after, guard⟩ := o
        refine loud_wp H (Nat.le_refl _) (get_end _) hl hok hrefs (fun val w' X' H' => hk _ _ ⟨X', H'.le ?_⟩)
        rw [loudly_rows]
        exact (loud_rows rfl hl).1
      · cases h2
    · cases h

theorem exOps_agree {E : Env} {ops : Array Oper} : ∀ {l : List Oper} {S S' : St} {ok : Bool}, exOps E ops l S = some (ok, S') → Agree S S'
  | [], S, S', ok, h => by cases h; exact Agree.refl S
  | o :: rest, S, S', ok, h => by
    simp only [exOps, Option.bind_eq_some_iff, Option.map_eq_some_iff, Prod.exists, Prod.mk.injEq] at h
    obtain ⟨ok1, S1, h1, ok2, S2, h2, _, rfl⟩ := h
    exact (exOp_agree h1).trans (exOps_agree h2)

theorem exOps_wp {E : Env} {base : Nat} {w0 : Start} (hK : ∀ f c, E.K f = some c → KOk E f c) {ops : Array Oper} {Q : Exit → Act → World → Prop} : ∀ {l : List Oper} {S S' : St} {a : Act} {w : World} {ok : Bool},
    SimE E base w0 S a w → exOps E ops l S = some (ok, S') → ok = true → (∀ a' w', SimE E base w0 S' a' w' → Q .normal a' w') → wpList E.P ops Q l a w
  | [], S, S', a, w, ok, H, h, hok, hk => by cases h; exact hk a w H
  | o :: rest, S, S', a, w, ok, H, h, hok, hk => by
    simp only [exOps, Option.bind_eq_some_iff, Option.map_eq_some_iff, Prod.exists, Prod.mk.injEq] at h
    obtain ⟨ok1, S1, h1, ok2, S2, h2, h3, rfl⟩ := h
    rw [← h3, Bool.and_eq_true] at hok
    have := exOp_wp (K := wpList E.P ops Q rest) (Q := Q) hK H h1 hok.1 (fun a' w' H' => exOps_wp hK H' h2 hok.2 hk)
    unfold wpList
    split
    · rename_i hw; rw [if_pos hw] at this; exact .inl this
    · rename_i hw; rw [if_neg hw] at this; exact this
end Go.Proofs.YtlidfaaajjfgfaaDoor.Ab
