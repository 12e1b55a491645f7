/- Calls in place: a function that works on the caller's own memory is read over the caller's rows. -/
import Derived.Test.YtnjofponcdcfcaaDoorAbExec
set_option linter.unusedVariables false
set_option linter.all false
namespace Go.Proofs.YtnjofponcdcfcaaDoor.Ab
open Go.RowKit

theorem RowsOk.withGv {base n : Nat} {w0 : Start} {w : World} {X : Cx} (H : RowsOk base w0 n X w) (gv : List Value) : RowsOk base { w0 with gv := gv } n X w :=
  ⟨H.heap, H.keeps, H.sub, H.hb, H.fresh, H.row, H.own, H.apart, H.refs⟩

/-- Package variables read as E says. -/
def GlobOk (E : Env) (X : Cx) : Prop := ∀ g s x, E.G g = some ⟨s, x⟩ → GRel X g s x

abbrev IC := Rows → List AV → List AV → Option (Bool × AV × Rows × Nat)

/-- A contract in place. -/
structure IOk (E : Env) (f : FuncId) (c : IC) : Prop where
  enter : ∀ (args : Array Value) (w : World), (callFunc f args).run E.P w = .ok (.enter f args) w
  grows : ∀ (rows : Rows) (gho as : List AV) (ok : Bool) (r : AV) (rows' : Rows) (d : Nat), c rows gho as = some (ok, r, rows', d) → rows.length ≤ rows'.length ∧ ∀ q, q < rows.length → q ∉ (d : NSet) → rows'.get q = rows.get q
  valid : ∀ (base : Nat) (w0 : Start) (X : Cx) (w : World) (gho as : List AV) (us : List Value) (r : AV) (rows' : Rows) (d : Nat),
    RowsOk base w0 X.rows.length X w → GlobOk E X → AV.allL (fun q _ => X.rows.okid X.rows.length q) gho = true → RelL X gho w0.gv →
    AV.allL (fun q _ => X.rows.okid X.rows.length q) as = true → RelL X as us → c X.rows gho as = some (true, r, rows', d) →
    Calls E.P f us.toArray w fun e w' => ∃ (X' : Cx) (u : Value), e = .returned u ∧ X'.rows = rows' ∧ RowsOk base w0 rows'.length X' w' ∧ GlobOk E X' ∧
      (AV.allL (fun q _ => rows'.okid rows'.length q) gho = true ∧ RelL X' gho w0.gv) ∧ r.all (fun q _ => rows'.okid rows'.length q) = true ∧ Rel X' r u

theorem IOk.cast {E E' : Env} {f : FuncId} {c : IC} (H : IOk E f c) (hP : E.P = E'.P) (hG : E.G = E'.G) : IOk E' f c := by
  obtain ⟨P, G, K, I, J, N⟩ := E
  obtain ⟨P', G', K', I', J', N'⟩ := E'
  cases hP
  cases hG
  exact ⟨H.enter, H.grows, H.valid⟩

/-- What stands in an environment is true. -/
structure EnvOk (E : Env) : Prop where
  K : ∀ f c, E.K f = some c → KOk E f c
  I : ∀ f c, E.I f = some c → IOk E f c
  J : ∀ f c, E.J f = some c → KFr E f c
  N : ∀ f c, E.N f = some c → KNew E f c

/-- All that the caller holds. -/
def St.held (S : St) : List AV := (forceN S.tmps.length fun n => (List.range n).map fun t => S.tmps.getD t .unk) ++ S.gho

theorem allL_of_get {p : Nat → Nat → Bool} : ∀ {as : List AV}, (∀ (i : Nat) (a : AV), as[i]? = some a → a.all p = true) → AV.allL p as = true
  | [], _ => rfl
  | a :: as, h => by
    simp only [AV.allL, Bool.and_eq_true]
    exact ⟨h 0 a rfl, allL_of_get fun i b hb => h (i + 1) b (by simpa using hb)⟩

theorem allL_get {p : Nat → Nat → Bool} : ∀ {as : List AV}, AV.allL p as = true → ∀ (i : Nat) (a : AV), as[i]? = some a → a.all p = true
  | [], _, i, a, h => by simp at h
  | b :: as, h, i, a, e => by
    simp only [AV.allL, Bool.and_eq_true] at h
    cases i with
    | zero => simp at e; subst e; exact h.1
    | succ i => exact allL_get h.2 i a (by simpa using e)

theorem allL_append {p : Nat → Nat → Bool} : ∀ {as bs : List AV}, AV.allL p (as ++ bs) = true ↔ AV.allL p as = true ∧ AV.allL p bs = true
  | [], bs => by simp [AV.allL]
  | a :: as, bs => by simp only [List.cons_append, AV.allL, Bool.and_eq_true, allL_append (as := as), and_assoc]

theorem relL_of_get {X : Cx} : ∀ {as : List AV} {vs : List Value}, as.length = vs.length → (∀ (i : Nat) (a : AV) (v : Value), as[i]? = some a → vs[i]? = some v → Rel X a v) → RelL X as vs
  | [], [], _, _ => rfl
  | a :: as, v :: vs, hl, h => by
    simp only [RelL]
    exact ⟨v, vs, rfl, h 0 a v rfl rfl, relL_of_get (by simpa using hl) fun i b u hb hu => h (i + 1) b u (by simpa using hb) (by simpa using hu)⟩
  | [], _ :: _, hl, _ => by simp at hl
  | _ :: _, [], hl, _ => by simp at hl

theorem relL_split {X : Cx} : ∀ {as bs : List AV} {vs us : List Value}, as.length = vs.length → RelL X (as ++ bs) (vs ++ us) → RelL X as vs ∧ RelL X bs us
  | [], bs, vs, us, hl, h => by
    obtain rfl : vs = [] := List.eq_nil_of_length_eq_zero (by simpa using hl.symm)
    exact ⟨rfl, h⟩
  | a :: as, bs, [], us, hl, h => by simp at hl
  | a :: as, bs, v :: vs, us, hl, h => by
    simp only [List.cons_append, RelL] at h ⊢
    obtain ⟨v', r, e, hv, hr⟩ := h
    cases e
    obtain ⟨h1, h2⟩ := relL_split (by simpa using hl) hr
    exact ⟨⟨v, vs, rfl, hv, h1⟩, h2⟩

/-- A call in place: whether it goes well, the value, the rows, the rows that turned. -/
def qPlace (E : Env) (S : St) (op : Op) : Option (Bool × AV × Rows × Nat) :=
  match op with
  | .call c => match c.callee with
    | .value x => (S.opd E x).bind fun (ok0, k) => match k with
      | .clo f caps => (E.I f).bind fun C => (S.opds E c.args.toList).bind fun (ok, vs) => (C S.rows S.held (vs ++ caps)).map fun (ok', r, rows', d) => (sAnd (sAnd ok0 ok) ok', r, rows', d)
      | _ => none
    | _ => none
  | _ => none

def St.placed (S : St) (dst : Option Tmp) (v : AV) (rows : Rows) (d : Nat) : St := (forceN d fun d => forceN S.dr fun d' => { S with rows := rows, dr := unionN d' d } : St).putT dst v

theorem placed_tmps (S : St) (dst : Option Tmp) (v : AV) (rows : Rows) (d : Nat) : (S.placed dst v rows d).tmps = match dst with | some t => S.tmps.set t v | none => S.tmps := by
  unfold St.placed; rw [forceN_eq, forceN_eq]; cases dst <;> first | rfl | (simp only [St.putT]; rw [St.setT_eq])
theorem placed_gho (S : St) (dst : Option Tmp) (v : AV) (rows : Rows) (d : Nat) : (S.placed dst v rows d).gho = S.gho := by
  unfold St.placed; rw [forceN_eq, forceN_eq]; cases dst <;> first | rfl | (simp only [St.putT]; rw [St.setT_eq])
theorem placed_rows (S : St) (dst : Option Tmp) (v : AV) (rows : Rows) (d : Nat) : (S.placed dst v rows d).rows = rows := by
  unfold St.placed; rw [forceN_eq, forceN_eq]; cases dst <;> first | rfl | (simp only [St.putT]; rw [St.setT_eq])

section
variable {E : Env} {base : Nat} {w0 : Start} {w w' : World} {X X' : Cx} {S : St} {a : Act}

theorem held_ok (H : Sim E base w0 S.rows.length X S a w) : AV.allL (fun q _ => S.rows.okid S.rows.length q) S.held = true ∧ RelL X S.held (a.tmps.toList ++ w0.gv) := by
  have hg : ∀ (i : Nat) (b : AV), (((List.range S.tmps.length).map fun t => S.tmps.getD t .unk))[i]? = some b → S.tmps[i]? = some b := by
    intro i b hb
    rw [List.getElem?_map] at hb
    cases hr : (List.range S.tmps.length)[i]? with
    | none => rw [hr] at hb; cases hb
    | some k =>
      rw [hr] at hb
      have hlt : i < S.tmps.length := by
        rcases Nat.lt_or_ge i S.tmps.length with h | h
        · exact h
        · rw [List.getElem?_eq_none (by simpa using h)] at hr; cases hr
      rw [List.getElem?_range hlt] at hr
      cases hr
      simp only [Option.map_some, Option.some.injEq] at hb
      rw [← hb]
      unfold TMap.getD
      show S.tmps[i]? = some ((S.tmps[i]?).getD .unk)
      rw [TMap.getElem?_some hlt]; rfl
  unfold St.held
  rw [forceN_eq]
  refine ⟨allL_append.2 ⟨allL_of_get fun i b hb => (H.tmp i b (hg i b hb)).1, H.gho.1⟩, RelL.append (relL_of_get (by simp [H.size]) fun i b v hb hv => ?_) H.gho.2⟩
  have := (H.tmp i b (hg i b hb)).2
  have hv' : a.tmps.getD i undef = v := by
    rw [Array.getElem?_toList] at hv
    rw [Array.getD_eq_getD_getElem?, hv]; rfl
  rw [hv'] at this
  exact this

theorem held_back (H : Sim E base w0 S.rows.length X S a w) {rows' : Rows} {gv : List Value} (h1 : AV.allL (fun q _ => rows'.okid rows'.length q) S.held = true) (h2 : RelL X' S.held (a.tmps.toList ++ w0.gv)) :
    (∀ (t : Nat) (v : AV), S.tmps[t]? = some v → v.all (fun q _ => rows'.okid rows'.length q) = true ∧ Rel X' v (a.tmps.getD t undef)) ∧ AV.allL (fun q _ => rows'.okid rows'.length q) S.gho = true ∧ RelL X' S.gho w0.gv := by
  unfold St.held at h1 h2
  rw [forceN_eq] at h1 h2
  obtain ⟨h3, h4⟩ := allL_append.1 h1
  obtain ⟨h5, h6⟩ := relL_split (by simp [H.size]) h2
  refine ⟨fun t v hv => ?_, h4, h6⟩
  have hlt := TMap.getElem?_lt hv
  have hg : (((List.range S.tmps.length).map fun t => S.tmps.getD t .unk))[t]? = some v := by
    rw [List.getElem?_map, List.getElem?_range hlt]
    simp only [Option.map_some, Option.some.injEq]
    unfold TMap.getD
    show (S.tmps[t]?).getD .unk = v
    rw [hv]; rfl
  refine ⟨allL_get h3 t v hg, ?_⟩
  obtain ⟨u, hu, hr⟩ := RelL.get t v h5 hg
  rw [Array.getElem?_toList] at hu
  rw [Array.getD_eq_getD_getElem?, hu]
  exact hr

theorem place_wp (hI : ∀ f c, E.I f = some c → IOk E f c) (H : Sim E base w0 S.rows.length X S a w) {op : Op} {dst : Option Tmp} {ty : TypeId} {pos : String} {after : Array Edge} {guard : Option (Nat × Bool)}
    {ok : Bool} {v : AV} {rows : Rows} {d : Nat} (h : qPlace E S op = some (ok, v, rows, d)) (hok : ok = true)
    {K : Act → World → Prop} {Q : Exit → Act → World → Prop} (hk : ∀ val w' X', Sim E base w0 rows.length X' (S.placed dst v rows d) (a.put dst val) w' → K (a.put dst val) w') :
    Oper.wp E.P { dst, op, type := ty, pos, after, guard } a w K Q := by
  unfold qPlace at h
  split at h
  · rename_i c
    obtain ⟨callee, args, argTypes⟩ := c
    obtain ⟨args⟩ := args
    split at h
    · rename_i x hcal
      simp only at hcal
      subst hcal
      simp only [Option.bind_eq_some_iff, Prod.exists] at h
      obtain ⟨ok0, k, hx, h⟩ := h
      split at h
      · rename_i f caps
        simp only [Option.bind_eq_some_iff, Option.map_eq_some_iff, Prod.exists, Prod.mk.injEq] at h
        obtain ⟨C, hC, ok1, vs, hvs, ok2, r, rows', d', hr, h1, rfl, rfl, rfl⟩ := h
        subst h1
        simp only [Bool.and_eq_true] at hok
        obtain ⟨⟨hok0, hok1⟩, rfl⟩ := hok
        obtain ⟨hxr, hxa⟩ := opd_ok H hx hok0
        obtain ⟨hrel, hall⟩ := opds_ok H hvs hok1
        simp only [Rel] at hxr
        obtain ⟨cv, hcv, hcr⟩ := hxr
        have IO := hI f C hC
        have hex : (execOp a.eval { dst, op := .call { callee := .value x, args := ⟨args⟩, argTypes }, type := ty, pos, after, guard }).run E.P w = .ok (.enter f (args.map a.eval ++ cv.toList).toArray) w := by
          have e : execOp a.eval { dst, op := .call { callee := .value x, args := ⟨args⟩, argTypes }, type := ty, pos, after, guard } = callFunc f (#[] ++ (⟨args⟩ : Array Operand).map a.eval ++ cv) := by
            simp only [execOp, resolve]
            rw [hcv]
            rfl
          rw [e]
          have e2 : (#[] ++ (⟨args⟩ : Array Operand).map a.eval ++ cv : Array Value) = (args.map a.eval ++ cv.toList).toArray := by simp
          rw [e2]
          exact IO.enter _ w
        unfold Oper.wp
        rw [hex, Oper.upon_enter]
        obtain ⟨hh1, hh2⟩ := held_ok H
        have hrows := H.rows
        refine (IO.valid base { w0 with gv := a.tmps.toList ++ w0.gv } X w S.held (vs ++ caps) (args.map a.eval ++ cv.toList) r rows' d' ?_ (fun g s x hg => H.glob g s x hg) ?_ hh2 ?_ (RelL.append hrel hcr) (by rw [hrows]; exact hr)).mono fun e w' he => ?_
        · rw [hrows]; exact H.ok.withGv _
        · rw [hrows]; exact hh1
        · rw [hrows]; exact allL_append.2 ⟨hall, by simpa [AV.all] using hxa⟩
        · obtain ⟨X', u, rfl, hX', R, hG, ⟨hg1, hg2⟩, hra, hru⟩ := he
          obtain ⟨hb1, hb2, hb3⟩ := held_back (gv := w0.gv) H hg1 hg2
          have R' : RowsOk base w0 rows'.length X' w' := R.withGv w0.gv
          refine hk u w' X' ⟨by rw [placed_rows]; exact hX', R', ?_, ?_, fun t z hz => ?_, fun g s x hg => hG g s x hg, ?_⟩
          · rw [put_size, H.size, placed_tmps]; cases dst <;> simp
          · rw [put_defers]; exact H.defers
          · rw [placed_tmps] at hz
            rw [placed_rows]
            cases dst with
            | none => exact hb1 t z hz
            | some e =>
              simp only at hz
              by_cases ee : t = e
              · subst ee
                have hlt : t < S.tmps.length := by
                  have := TMap.getElem?_lt hz
                  simpa using this
                rw [TMap.getElem?_set_self hlt] at hz
                cases hz
                have : (a.put (some t) u).tmps.getD t undef = u := by
                  have hs : t < a.tmps.size := by rw [H.size]; exact hlt
                  simp [Act.put, hs]
                rw [this]
                exact ⟨hra, hru⟩
              · rw [TMap.getElem?_set_ne (by omega)] at hz
                have : (a.put (some e) u).tmps.getD t undef = a.tmps.getD t undef := by
                  simp [Act.put, Array.getElem?_setIfInBounds_ne (show e ≠ t from fun h => ee h.symm)]
                rw [this]
                exact hb1 t z hz
          · rw [placed_rows, placed_gho]
            exact ⟨hb2, hb3⟩
      · cases h
    · cases h
  · cases h

theorem place_agree (hI : ∀ f c, E.I f = some c → ∀ (rows : Rows) (gho as : List AV) (ok : Bool) (r : AV) (rows' : Rows) (d : Nat), c rows gho as = some (ok, r, rows', d) → rows.length ≤ rows'.length ∧ ∀ q, q < rows.length → q ∉ (d : NSet) → rows'.get q = rows.get q)
    {op : Op} {dst : Option Tmp} {ok : Bool} {v : AV} {rows : Rows} {d : Nat} (h : qPlace E S op = some (ok, v, rows, d)) : Agree S (S.placed dst v rows d) := by
  unfold qPlace at h
  split at h
  · split at h
    · simp only [Option.bind_eq_some_iff, Prod.exists] at h
      obtain ⟨ok0, k, hx, h⟩ := h
      split at h
      · rename_i f caps
        simp only [Option.bind_eq_some_iff, Option.map_eq_some_iff, Prod.exists, Prod.mk.injEq] at h
        obtain ⟨C, hC, ok1, vs, hvs, ok2, r, rows', d', hr, h1, rfl, rfl, rfl⟩ := h
        obtain ⟨g1, g2⟩ := hI f C hC _ _ _ _ _ _ _ hr
        unfold St.placed
        rw [forceN_eq, forceN_eq]
        refine Agree.trans (S1 := { S with rows := rows', dr := unionN S.dr d' }) ⟨rfl, fun _ _ => rfl, g1, fun q hq hn => g2 q hq fun h => hn (mem_unionN.2 (.inr h)), fun _ h => h, fun q hq => mem_unionN.2 (.inl hq), rfl⟩ (Agree.putT _ _ _)
      · cases h
    · cases h
  · cases h
end
end Go.Proofs.YtnjofponcdcfcaaDoor.Ab
set_option linter.unusedVariables false
set_option linter.all false
namespace Go.Proofs.YtnjofponcdcfcaaDoor.Ab
open Go.RowKit

/-- Whether a guarded operation is wanted. -/
def guardB (ops : Array Oper) (S : St) (j : Nat) (want : Bool) : Option Bool :=
  match (ops[j]?).bind (·.dst) with
  | some t => match S.tmps[t]? with
    | some (.bool b) => some (match want with | true => b | false => sNot b)
    | some (.gopt c (.bool b)) => some (sAnd c (match want with | true => b | false => sNot b))
    | _ => none
  | none => none

def isArr : Option Row → Bool
  | some (.arr _ _ _) => true
  | _ => false

/-- One quiet operation, maybe guarded, its new row at id. -/
def qstep (E : Env) (ops : Array Oper) (S : St) (n id : Nat) (o : Oper) : Option (Bool × AV × Option Row) :=
  match o.guard with
  | none => (qop E S n id o.op).bind fun (ok, v, new) => if okRefs S.rows n id v new && okNew S.rows n new then some (ok, v, new) else none
  | some (j, want) => (guardB ops S j want).bind fun c => (qop E S n id o.op).bind fun (ok, v, new) =>
      if okRefs S.rows n id v new && okNew S.rows n new && !isArr new then some (sOr (sNot c) ok, .gopt c v, new) else none

def exOp (E : Env) (ops : Array Oper) (S : St) (o : Oper) : Option (Bool × St) :=
  let n := S.rows.length
  match qstep E ops S n n o with
  | some (ok, v, new) => some (ok, S.after o.dst v n new)
  | none => match o.guard with
    | none => match loud E S n n o.op with
      | some (ok, v, rows, r) => if v.all (fun q _ => rows.okid n q) then some (ok, S.loudly o.dst v rows r) else none
      | none => (qPlace E S o.op).map fun (ok, v, rows, d) => (ok, S.placed o.dst v rows d)
    | some _ => none

def exOps (E : Env) (ops : Array Oper) : List Oper → St → Option (Bool × St)
  | [], S => some (true, S)
  | o :: rest, S => (exOp E ops S o).bind fun (ok, S1) => (exOps E ops rest S1).map fun (ok', S2) => (sAnd ok ok', S2)

section
variable {E : Env} {base n : Nat} {w0 : Start} {w w' : World} {X X' : Cx} {S : St} {a : Act}

theorem qop_wp (hK : EnvOk E) (H : Sim E base w0 n X S a w) {id : Nat} (hid : n ≤ id) (hno : S.rows.get id = none) {op : Op} {dst : Option Tmp} {ty : TypeId} {pos : String} {after : Array Edge}
    {guard : Option (Nat × Bool)} {ok : Bool} {v : AV} {new : Option Row} (h : qop E S n id op = some (ok, v, new)) (hok : ok = true) {K : Act → World → Prop} {Q : Exit → Act → World → Prop}
    (hk : ∀ val w', QPost X w id v new val w' → K (a.put dst val) w') : Oper.wp E.P { dst, op, type := ty, pos, after, guard } a w K Q := by
  have val : (∃ val w', (execOp a.eval { dst, op, type := ty, pos, after, guard }).run E.P w = .ok (.value val) w' ∧ QPost X w id v new val w') → Oper.wp E.P { dst, op, type := ty, pos, after, guard } a w K Q := by
    rintro ⟨val, w', hrun, hpost⟩
    unfold Oper.wp
    rw [hrun, Oper.upon_value]
    exact hk val w' hpost
  unfold qop at h
  split at h
  · rename_i fn first caps
    split at h
    · rename_i f hf
      simp only [Option.map_eq_some_iff, Prod.exists, Prod.mk.injEq] at h
      obtain ⟨ok', vs, hvs, h1, rfl, rfl⟩ := h
      subst h1
      obtain ⟨hr, _⟩ := opds_ok H hvs hok
      refine val ⟨.func (.func f) #[] (caps.map a.eval), w, ?_, QPost.same H.ok ?_⟩
      · have : first = #[] := Array.toList_eq_nil_iff.1 hf
        subst this
        simp [execOp, Instr.makeFunc]
      · simp only [Rel]
        exact ⟨_, rfl, by simpa using hr⟩
    · cases h
  · rename_i c
    split at h
    · split at h
      · rename_i x hx
        cases h
        exact qCall_wp hK.K H hx hok hk
      · exact qCallJ_wp hK.J hK.N H h hok hk
    · split at h
      · rename_i x hx
        cases h
        exact val (quietC_ok H hid hno hx hok)
      obtain ⟨u, h1, h2⟩ := quietB_ok (id := id) (dst := dst) (ty := ty) (pos := pos) (after := after) (guard := guard) H h hok
      exact val ⟨u, w, h1, h2⟩
  · exact val (quiet_ok H hid hno h hok)

theorem guardB_ok (H : Sim E base w0 n X S a w) {ops : Array Oper} {o : Oper} {j : Nat} {want c : Bool} (hg : o.guard = some (j, want)) (h : guardB ops S j want = some c) : Region.wanted o (yielded ops a.tmps) = c := by
  unfold guardB at h
  have hw : Region.wanted o (yielded ops a.tmps) = (yielded ops a.tmps j == some want) := by simp [Region.wanted, hg]
  rw [hw]
  split at h
  · rename_i t ht
    have hget : ∀ v, S.tmps[t]? = some v → a.tmps[t]? = some (a.tmps.getD t undef) := by
      intro v hv
      have hlt : t < a.tmps.size := by rw [H.size]; exact TMap.getElem?_lt hv
      simp [hlt]
    split at h
    · rename_i b hb
      cases h
      have hr := (H.tmp t _ hb).2
      simp only [Rel] at hr
      have := hget _ hb
      rw [hr] at this
      simp only [yielded, ht, Option.bind_some, this]
      cases b <;> cases want <;> rfl
    · rename_i c1 b hb
      cases h
      have hr := (H.tmp t _ hb).2
      simp only [Rel] at hr
      have := hget _ hb
      cases c1 with
      | true =>
        rw [hr.1 rfl] at this
        simp only [yielded, ht, Option.bind_some, this]
        cases b <;> cases want <;> rfl
      | false =>
        rw [hr.2 rfl] at this
        simp only [yielded, ht, Option.bind_some, this, undef]
        cases b <;> cases want <;> rfl
    · cases h
  · cases h

/-- A guarded or unguarded quiet operation, step by step. -/
theorem qstep_wp (hK : EnvOk E) (H : Sim E base w0 n X S a w) {ops : Array Oper} {id : Nat} (hid : n ≤ id) (hno : S.rows.get id = none) {o : Oper} {ok : Bool} {v : AV} {new : Option Row}
    (h : qstep E ops S n id o = some (ok, v, new)) (hok : ok = true) {K : Act → World → Prop} {Q : Exit → Act → World → Prop}
    (hk : ∀ val w', QPost X w id v new val w' → K (a.put o.dst val) w') :
    (if Region.wanted o (yielded ops a.tmps) then o.wp E.P a w K Q else K (a.put o.dst undef) w) ∧ okRefs S.rows n id v new = true ∧ okNew S.rows n new = true := by
  unfold qstep at h
  split at h
  · rename_i hg
    simp only [Option.bind_eq_some_iff, Prod.exists] at h
    obtain ⟨ok1, v1, new1, h1, h2⟩ := h
    split at h2
    · rename_i hc
      simp only [Bool.and_eq_true] at hc
      simp only [Option.some.injEq, Prod.mk.injEq] at h2
      obtain ⟨rfl, rfl, rfl⟩ := h2
      refine ⟨?_, hc.1, hc.2⟩
      rw [if_pos (by simp [Region.wanted, hg])]
      obtain ⟨dst, op, ty, pos, after, guard⟩ := o
      exact qop_wp hK H hid hno h1 hok hk
    · cases h2
  · rename_i j want hg
    simp only [Option.bind_eq_some_iff, Prod.exists] at h
    obtain ⟨c, hgb, ok1, v1, new1, h1, h2⟩ := h
    split at h2
    · rename_i hc
      simp only [Bool.and_eq_true, Bool.not_eq_true'] at hc
      obtain ⟨⟨hc1, hc2⟩, hc3⟩ := hc
      simp only [Option.some.injEq, Prod.mk.injEq] at h2
      obtain ⟨hok', rfl, rfl⟩ := h2
      refine ⟨?_, by simpa [okRefs, AV.all] using hc1, hc2⟩
      rw [guardB_ok H hg hgb]
      cases c with
      | true =>
        simp only [if_true]
        obtain ⟨dst, op, ty, pos, after, guard⟩ := o
        refine qop_wp hK H hid hno h1 (by rw [← hok'] at hok; simpa using hok) (fun val w' hp => hk val w' ?_)
        obtain ⟨F', loc, p1, p2, p3, p4, p5⟩ := hp
        refine ⟨F', loc, p1, p2, p3, p4, ?_⟩
        cases new1 with
        | none => simp only [Rel] at p5 ⊢; exact ⟨fun _ => p5, fun e => by cases e⟩
        | some row => obtain ⟨q1, q2, q3⟩ := p5; simp only [Rel]; exact ⟨q1, q2, fun _ => q3, fun e => (by cases e)⟩
      | false =>
        simp only [Bool.false_eq_true, if_false]
        refine hk undef w ?_
        have hX : ({ X with F := X.F, heap := w.heap } : Cx) = X := by rw [← H.ok.heap]
        refine ⟨X.F, none, Below.refl _ _, fun _ h => h, fun _ h => .inl h, H.ok.fresh, ?_⟩
        cases new1 with
        | none => simp only [Rel]; exact ⟨fun e => (by cases e), fun _ => trivial⟩
        | some row =>
          simp only [Rel]
          refine ⟨?_, fun b o e => (by cases e), fun e => (by cases e), fun _ => trivial⟩
          cases row with
          | box cs => intro b o e; simp [Cx.claim] at e
          | arr _ _ _ => simp [isArr] at hc3
    · cases h2
end

theorem put_length (rows : Rows) (x : Row) : (rows.put rows.length x).length = rows.length + 1 := by
  unfold Rows.put; simp

theorem after_length (S : St) (dst : Option Tmp) (v : AV) (new : Option Row) : S.rows.length ≤ (S.after dst v S.rows.length new).rows.length := by
  rw [St.after_rows]
  cases new with
  | none => exact Nat.le_refl _
  | some row => simp only [put_length]; omega

theorem get_end (rows : Rows) : rows.get rows.length = none := by
  unfold Rows.get; rw [List.getElem?_eq_none (Nat.le_refl _)]; rfl

/-- The state is read in some context. -/
def SimE (E : Env) (base : Nat) (w0 : Start) (S : St) (a : Act) (w : World) : Prop := ∃ X, Sim E base w0 S.rows.length X S a w

theorem loud_rows {E : Env} {S : St} {n id : Nat} (hid : id = S.rows.length) {op : Op} {ok : Bool} {v : AV} {rows : Rows} {r : Nat} (h : loud E S n id op = some (ok, v, rows, r)) :
    S.rows.length ≤ rows.length ∧ ∀ q, q < S.rows.length → q ≠ r → rows.get q = S.rows.get q := by
  have hset : ∀ (x : Row) (r q : Nat), q ≠ r → Rows.get (S.rows.set r (some x)) q = S.rows.get q := fun x r q hq => by
    unfold Rows.get; rw [List.getElem?_set_ne (by omega)]
  replace h := (loud_split h).1
  unfold loud0 at h
  split at h
  · split at h
    · simp only [Option.map_eq_some_iff, Prod.exists, Prod.mk.injEq] at h
      obtain ⟨r', row, hs, _, _, rfl, rfl⟩ := h
      exact ⟨by simp, fun q _ hq => hset _ _ _ hq⟩
    · cases h
  · split at h
    · split at h
      · split at h
        · split at h
          · simp only [Option.map_eq_some_iff, Prod.exists, Prod.mk.injEq] at h
            obtain ⟨ok', v', rows', r', hq, _, _, rfl, rfl⟩ := h
            unfold qAppend at hq
            split at hq
            · split at hq
              · split at hq
                · split at hq
                  · split at hq
                    · simp only [Option.map_eq_some_iff, Prod.mk.injEq] at hq
                      obtain ⟨ys, _, _, _, rfl, rfl⟩ := hq
                      exact ⟨by simp, fun q _ hq => hset _ _ _ hq⟩
                    · cases hq
                  · cases hq
                · cases hq
              · split at hq
                · split at hq
                  · split at hq
                    · simp only [Option.map_eq_some_iff, Prod.mk.injEq] at hq
                      obtain ⟨ys, _, _, _, rfl, rfl⟩ := hq
                      exact ⟨by simp, fun q _ hq => hset _ _ _ hq⟩
                    · cases hq
                  · cases hq
                · cases hq
              · simp only [Option.map_eq_some_iff, Prod.mk.injEq] at hq
                obtain ⟨ys, _, _, _, rfl, rfl⟩ := hq
                subst hid
                refine ⟨by simp [put_length], fun q hq hne => ?_⟩
                unfold Rows.get
                rw [List.getElem?_set_ne (by omega)]
                have := Rows.get_put S.rows S.rows.length (.arr 0 ‹Sh› []) q
                rw [if_neg hne] at this
                exact this
              · cases hq
            · cases hq
          · cases h
        · cases h
      · cases h
    · cases h
  · cases h

theorem exOp_agree {E : Env} (hK : EnvOk E) {ops : Array Oper} {S S' : St} {o : Oper} {ok : Bool} (h : exOp E ops S o = some (ok, S')) : Agree S S' := by
  unfold exOp at h
  simp only at h
  split at h
  · rename_i ok' v new hq
    cases h
    cases new with
    | none => exact Agree.putT S _ _
    | some row =>
      have h1 : Agree S { S with rows := S.rows.put S.rows.length row } := by
        refine ⟨rfl, fun _ _ => rfl, by simp [put_length], fun r hr _ => ?_, fun _ h => h, fun _ h => h, rfl⟩
        simp only [Rows.get_put, if_neg (by omega : r ≠ S.rows.length)]
      exact h1.trans (Agree.putT _ _ _)
  · split at h
    · split at h
      rotate_left
      · simp only [Option.map_eq_some_iff, Prod.exists, Prod.mk.injEq] at h
        obtain ⟨ok', v, rows, d, hp, rfl, rfl⟩ := h
        exact place_agree (fun f c hc => (hK.I f c hc).grows) hp
      rename_i ok' v rows r hl
      split at h
      · cases h
        obtain ⟨e1, e2⟩ := loud_rows rfl hl
        unfold St.loudly
        rw [forceN_eq, forceN_eq]
        have h1 : Agree S { S with rows := rows, dr := addN r S.dr } := by
          refine ⟨rfl, fun _ _ => rfl, e1, fun q hq hn => e2 q hq fun e => hn (by rw [e]; exact mem_addN.2 (.inl rfl)), fun _ h => h, fun q hq => mem_addN.2 (.inr hq), rfl⟩
        exact h1.trans (Agree.putT _ _ _)
      · cases h
    · cases h

theorem exOp_wp {E : Env} {base : Nat} {w0 : Start} {w : World} {S S' : St} {a : Act} (hK : EnvOk E) (H : SimE E base w0 S a w) {ops : Array Oper} {o : Oper} {ok : Bool} (h : exOp E ops S o = some (ok, S')) (hok : ok = true)
    {K : Act → World → Prop} {Q : Exit → Act → World → Prop} (hk : ∀ a' w', SimE E base w0 S' a' w' → K a' w') :
    if Region.wanted o (yielded ops a.tmps) then o.wp E.P a w K Q else K (a.put o.dst undef) w := by
  obtain ⟨X, H⟩ := H
  unfold exOp at h
  simp only at h
  split at h
  · rename_i ok' v new hq
    cases h
    have hrefs := (qstep_wp (K := fun _ _ => True) (Q := Q) hK H (Nat.le_refl _) (get_end _) hq hok (fun _ _ _ => trivial)).2
    refine (qstep_wp hK H (Nat.le_refl _) (get_end _) hq hok (fun val w' hp => hk _ _ ?_)).1
    obtain ⟨X', H'⟩ := Sim.after H (Nat.le_refl _) (get_end _) (dst := o.dst) hp hrefs.1 hrefs.2
    exact ⟨X', H'.le (after_length ..)⟩
  · split at h
    · rename_i hg
      split at h
      rotate_left
      · simp only [Option.map_eq_some_iff, Prod.exists, Prod.mk.injEq] at h
        obtain ⟨ok', v, rows, d, hp, h1, rfl⟩ := h
        subst h1
        rw [if_pos (by simp [Region.wanted, hg])]
        obtain ⟨dst, op, ty, pos, after, guard⟩ := o
        exact place_wp hK.I H hp hok (fun val w' X' H' => hk _ _ ⟨X', by rw [placed_rows]; exact H'⟩)
      rename_i ok' v rows r hl
      split at h
      · rename_i hrefs
        cases h
        rw [if_pos (by simp [Region.wanted, hg])]
        obtain ⟨dst, op, ty, pos, after, guard⟩ := o
        refine loud_wp H (Nat.le_refl _) (get_end _) hl hok hrefs (fun val w' X' H' => hk _ _ ⟨X', H'.le ?_⟩)
        rw [loudly_rows]
        exact (loud_rows rfl hl).1
      · cases h
    · cases h

theorem exOps_agree {E : Env} (hK : EnvOk E) {ops : Array Oper} : ∀ {l : List Oper} {S S' : St} {ok : Bool}, exOps E ops l S = some (ok, S') → Agree S S'
  | [], S, S', ok, h => by cases h; exact Agree.refl S
  | o :: rest, S, S', ok, h => by
    simp only [exOps, Option.bind_eq_some_iff, Option.map_eq_some_iff, Prod.exists, Prod.mk.injEq] at h
    obtain ⟨ok1, S1, h1, ok2, S2, h2, _, rfl⟩ := h
    exact (exOp_agree hK h1).trans (exOps_agree hK h2)

theorem exOps_wp {E : Env} {base : Nat} {w0 : Start} (hK : EnvOk E) {ops : Array Oper} {Q : Exit → Act → World → Prop} : ∀ {l : List Oper} {S S' : St} {a : Act} {w : World} {ok : Bool},
    SimE E base w0 S a w → exOps E ops l S = some (ok, S') → ok = true → (∀ a' w', SimE E base w0 S' a' w' → Q .normal a' w') → wpList E.P ops Q l a w
  | [], S, S', a, w, ok, H, h, hok, hk => by cases h; exact hk a w H
  | o :: rest, S, S', a, w, ok, H, h, hok, hk => by
    simp only [exOps, Option.bind_eq_some_iff, Option.map_eq_some_iff, Prod.exists, Prod.mk.injEq] at h
    obtain ⟨ok1, S1, h1, ok2, S2, h2, h3, rfl⟩ := h
    rw [← h3, Bool.and_eq_true] at hok
    have := exOp_wp (K := wpList E.P ops Q rest) (Q := Q) hK H h1 hok.1 (fun a' w' H' => exOps_wp hK H' h2 hok.2 hk)
    unfold wpList
    split
    · rename_i hw; rw [if_pos hw] at this; exact .inl this
    · rename_i hw; rw [if_neg hw] at this; exact this
end Go.Proofs.YtnjofponcdcfcaaDoor.Ab
