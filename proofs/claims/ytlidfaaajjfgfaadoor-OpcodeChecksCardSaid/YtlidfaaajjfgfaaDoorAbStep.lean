import Derived.Test.YtlidfaaajjfgfaaDoorAbState
set_option linter.unusedVariables false
set_option linter.all false
namespace Go.Proofs.YtlidfaaajjfgfaaDoor.Ab
open Go.RowKit

/-! ### Operands -/
def St.opd (E : Env) (S : St) : Operand → Option (Bool × AV)
  | .tmp t => match S.tmps[t]? with
    | some (.opt c v) => some (c, v)
    | some (.gopt c v) => some (c, v)
    | some .unk => none
    | some v => some (true, v)
    | none => none
  | .const v => (constV v).map fun v => (true, v)
  | .func f => some (true, .clo f [])
  | .global g => match E.G g with | some ⟨s, x⟩ => some (true, .dptr s x 0) | none => none

section
variable {E : Env} {base n : Nat} {w0 : Start} {w : World} {X : Cx} {S : St} {a : Act}

theorem opd_ok (H : Sim E base w0 n X S a w) {x : Operand} {ok : Bool} {v : AV} (h : S.opd E x = some (ok, v)) (hok : ok = true) :
    Rel X v (a.eval x) ∧ v.all (fun q _ => S.rows.okid n q) = true := by
  cases x with
  | tmp t =>
    simp only [St.opd] at h
    split at h
    · rename_i c v' ht
      cases h
      obtain ⟨h1, h2⟩ := H.tmp t _ ht
      simp only [Rel] at h2
      exact ⟨h2 hok, by simpa [AV.all] using h1⟩
    · rename_i c v' ht
      cases h
      obtain ⟨h1, h2⟩ := H.tmp t _ ht
      simp only [Rel] at h2
      exact ⟨h2.1 hok, by simpa [AV.all] using h1⟩
    · cases h
    · rename_i v' _ _ _ ht
      cases h
      exact ⟨(H.tmp t _ ht).2, (H.tmp t _ ht).1⟩
    · cases h
  | const u =>
    simp only [St.opd, Option.map_eq_some_iff, Prod.mk.injEq] at h
    obtain ⟨v', h1, _, rfl⟩ := h
    exact ⟨constV_rel h1, constV_all h1⟩
  | func f =>
    cases h
    exact ⟨by simp only [Rel, RelL]; exact ⟨#[], rfl, rfl⟩, rfl⟩
  | global g =>
    simp only [St.opd] at h
    split at h
    · rename_i s x hg
      cases h
      exact ⟨H.glob g s x hg, rfl⟩
    · cases h

/-- Parts of a struct or slice. -/
def St.parts (E : Env) (S : St) : List (Nat × Operand) → Option (Bool × List (Nat × List AV))
  | [] => some (true, [])
  | (i, x) :: ps => (S.opd E x).bind fun (ok, v) => (cellsAV S.rows v).bind fun cs => (S.parts E ps).map fun (ok', r) => (sAnd ok ok', (i, cs) :: r)

theorem parts_ok (H : Sim E base w0 n X S a w) : ∀ {ps : List (Nat × Operand)} {ok : Bool} {r : List (Nat × List AV)}, S.parts E ps = some (ok, r) → ok = true →
    PartsRel X r (ps.map fun p => (p.1, a.eval p.2)) ∧ ∀ p ∈ r, ∀ c ∈ p.2, c.solid S.rows = true
  | [], ok, r, h, hok => by cases h; exact ⟨.nil, fun p hp => by cases hp⟩
  | (i, x) :: ps, ok, r, h, hok => by
    simp only [St.parts, Option.bind_eq_some_iff, Option.map_eq_some_iff, Prod.exists, Prod.mk.injEq] at h
    obtain ⟨ok1, v, h1, cs, h2, ok2, r2, h3, rfl, rfl⟩ := h
    simp only [Bool.and_eq_true] at hok
    obtain ⟨hr, _⟩ := opd_ok H h1 hok.1
    obtain ⟨ih1, ih2⟩ := parts_ok H h3 hok.2
    refine ⟨.cons i cs _ _ _ (cellsAV_rel H.rows h2 hr).1 ih1, ?_⟩
    intro p hp c hc
    rcases List.mem_cons.1 hp with rfl | hp
    · unfold cellsAV at h2
      split at h2
      · split at h2
        · rename_i hs; cases h2; exact List.all_eq_true.1 hs c hc
        · cases h2
      · split at h2
        · rename_i hs; cases h2
          simp only [List.mem_singleton] at hc
          rw [hc]; exact hs
        · cases h2
    · exact ih2 p hp c hc
end

/-! ### Two values meet -/
mutual
def AV.join (gT : Nat → Option Nat) : AV → AV → AV
  | .bool x, .bool _ => .bool x
  | .int k x, .int k' _ => if k = k' then .int k x else .unk
  | .str x, .str _ => .str x
  | .nilp, .nilp => .nilp
  | .nilf, .nilf => .nilf
  | .nili, .nili => .nili
  | .nils, .nils => .nils
  | .dsl e x, .dsl e' _ => if e = e' then .dsl e x else .unk
  | .dsl e x, .nils => .dsl e x
  | .nils, .dsl e x => .dsl e x
  | .dptr s x off, .dptr s' _ off' => if s = s' ∧ off = off' then .dptr s x off else .unk
  | .ptr r off, .ptr r' off' => if r = r' ∧ off = off' then .ptr r off else .unk
  | .eptr r _ i off, .eptr r' _ _ off' => if r = r' ∧ off = off' then .eptr r ((gT r).getD 0) i off else .unk
  | .own r _, .own r' _ => if r = r' then .own r ((gT r).getD 0) else .unk
  | .own r _, .nils => .own r ((gT r).getD 0)
  | .nils, .own r _ => .own r ((gT r).getD 0)
  | .own r _, .osl r' _ _ _ => if r = r' then .osl r ((gT r).getD 0) 0 0 else .unk
  | .osl r _ _ _, .own r' _ => if r = r' then .osl r ((gT r).getD 0) 0 0 else .unk
  | .osl r _ _ _, .osl r' _ _ _ => if r = r' then .osl r ((gT r).getD 0) 0 0 else .unk
  | .agg ts, .agg vs => if ts.length = vs.length then .agg (AV.joinL gT ts vs) else .unk
  | .tup ts, .tup vs => if ts.length = vs.length then .tup (AV.joinL gT ts vs) else .unk
  | .iface t a, .iface t' b => if t = t' then .iface t (a.join gT b) else .unk
  | .clo f ts, .clo f' vs => if f = f' ∧ ts.length = vs.length then .clo f (AV.joinL gT ts vs) else .unk
  | _, _ => .unk
def AV.joinL (gT : Nat → Option Nat) : List AV → List AV → List AV
  | t :: ts, v :: vs => t.join gT v :: AV.joinL gT ts vs
  | _, _ => []
end

theorem Turn.refl (X : Cx) : Turn X X (genS X.rows) (fun r => (genS X.rows r).map (·.1)) := by
  refine ⟨rfl, rfl, fun r cs' h => ⟨⟨cs', h⟩, rfl⟩, fun r g s xs' h => .inl ⟨g, xs', h, rfl, by simp [genS, h], rfl⟩⟩

/-- One of two values. -/
def pickAV (rows : Rows) (c : Bool) (x y : AV) : Option AV :=
  let gS := genS rows
  let gT := fun r => (genS rows r).map (·.1)
  let t := x.join gT y
  (t.coe gS gT x).bind fun xs => (t.coe gS gT y).bind fun ys => if xs.length = ys.length then some (t.fill (mixL c xs ys)).1 else none

theorem pickAV_ok {X : Cx} {c : Bool} {x y r : AV} {u : Value} (h : pickAV X.rows c x y = some r) (hx : c = true → Rel X x u) (hy : c = false → Rel X y u) : Rel X r u := by
  simp only [pickAV, Option.bind_eq_some_iff] at h
  obtain ⟨xs, h1, ys, h2, h3⟩ := h
  split at h3
  · rename_i hl
    cases h3
    cases c with
    | true =>
      rw [mixL_true hl]
      have := AV.coe_ok (Turn.refl X) _ x xs [] u h1 (hx rfl)
      simpa using this.2
    | false =>
      rw [mixL_false hl]
      have := AV.coe_ok (Turn.refl X) _ y ys [] u h2 (hy rfl)
      simpa using this.2
  · cases h3

/-! ### Quiet operations: they make a value, maybe a new row; no row that is there turns -/
def addrOfSome : AV → Bool
  | .ptr _ _ | .dptr _ _ _ | .eptr _ _ _ _ => true
  | _ => false

/-- An operand that may be missing. -/
def St.opdO (S : St) (E : Env) : Option Operand → Option (Bool × Option AV)
  | none => some (true, none)
  | some x => (S.opd E x).map fun (ok, v) => (ok, some v)

/-- Of a builtin that makes nothing. -/
def quietB (E : Env) (S : St) (c : Call) : Option (Bool × AV × Option Row) :=
  match c.callee with
  | .builtin .len => match c.args.toList, c.argTypes.toList with
    | [x], [t] => (S.opd E x).bind fun (ok, v) => match E.P.underlying t with
      | some (.slice _) => (lenAV S.rows v).map fun (k : Nat) => (ok, AV.int .i64 (k : Int), none)
      | some .string => match v with | .str s => some (ok, AV.int .i64 (s.size : Int), none) | _ => none
      | _ => none
    | _, _ => none
  | _ => none

/-- Of an operation that calls nothing: that it goes well, its value, a row that it makes. -/
def quiet (E : Env) (S : St) (n id : Nat) (op : Op) : Option (Bool × AV × Option Row) :=
  let P := E.P
  match op with
  | .move x | .assign x => (S.opd E x).map fun (ok, v) => (ok, v, none)
  | .pick c x y => match S.opd E c, S.opd E x, S.opd E y with
    | some (okc, .bool b), some (okx, vx), some (oky, vy) => (pickAV S.rows b vx vy).map fun v => (sAnd okc (sIf b okx oky), v, none)
    | _, _, _ => none
  | .alloc t => (zeroAV P t).map fun zs => (true, .ptr id 0, some (.box zs))
  | .box _ x => (S.opd E x).bind fun (ok, v) => (cellsAV S.rows v).bind fun cs =>
      if AV.allL (fun q _ => S.rows.okid n q) cs then some (ok, .ptr id 0, some (.box cs)) else none
  | .build t ps => (S.parts E ps.toList).bind fun (ok, r) => (qBuild P t r).map fun v => (ok, v, none)
  | .buildSlice t len ps => (S.parts E ps.toList).bind fun (ok, r) => (qBuildSlice P t len r).map fun row => (ok, .own id 0, some row)
  | .load t x => (S.opd E x).bind fun (ok, p) => (behind S.rows p).bind fun (cs, off) => (takeT P t cs off).map fun v => (ok, v, none)
  | .nilCheck x => (S.opd E x).bind fun (ok, p) => (behind S.rows p).map fun _ => (ok, p, none)
  | .binOp op t x y _ => match S.opd E x, S.opd E y with
    | some (okx, vx), some (oky, vy) => (qBin P op t vx vy).map fun (ok, v) => (sAnd (sAnd okx oky) ok, v, none)
    | _, _ => none
  | .unOp op _ x => (S.opd E x).bind fun (ok, v) => (qUn op v).map fun v => (ok, v, none)
  | .convert src dst x => (S.opd E x).bind fun (ok, v) => (qConv P src dst v).map fun v => (ok, v, none)
  | .fieldAddr s x f => (S.opd E x).bind fun (ok, p) => (qField P S.rows s f p).map fun v => (ok, v, none)
  | .indexAddr t x i => match S.opd E x, S.opd E i with
    | some (okx, p), some (oki, .int _ k) => (qIndex P S.rows t p k).map fun (ok, v) => (sAnd (sAnd okx oki) ok, v, none)
    | _, _ => none
  | .slice t x lo hi none => (S.opd E x).bind fun (ok, p) => (S.opdO E lo).bind fun (okl, la) => (S.opdO E hi).bind fun (okh, ha) => (bndAV la).bind fun l => (bndAV ha).bind fun h =>
      (qSlice P S.rows t p l h).map fun (ok2, v) => (sAnd (sAnd ok (sAnd okl okh)) ok2, v, none)
  | .extract x i => (S.opd E x).bind fun (ok, v) => match v with
    | .tup vs => (vs[i]?).map fun v => (ok, v, none)
    | _ => none
  | .call c => quietB E S c
  | _ => none

/-- References of the value of a quiet operation. -/
def okRefs (rows : Rows) (n id : Nat) (v : AV) (new : Option Row) : Bool :=
  v.all fun q _ => rows.okid n q || (new.isSome && q == id)

section
variable {E : Env} {base n : Nat} {w0 : Start} {w : World} {X : Cx} {S : St} {a : Act}

theorem quietB_ok (H : Sim E base w0 n X S a w) {c : Call} {id : Nat} {dst : Option Tmp} {ty : TypeId} {pos : String} {after : Array Edge} {guard : Option (Nat × Bool)} {ok : Bool} {v : AV} {new : Option Row}
    (h : quietB E S c = some (ok, v, new)) (hok : ok = true) :
    ∃ val, (execOp a.eval { dst, op := .call c, type := ty, pos, after, guard }).run E.P w = .ok (.value val) w ∧ QPost X w id v new val w := by
  have same : ∀ {v : AV} {val : Value}, Rel X v val → QPost X w id v none val w := fun h => QPost.same H.ok h
  obtain ⟨callee, args, argTypes⟩ := c
  obtain ⟨args⟩ := args
  obtain ⟨argTypes⟩ := argTypes
  unfold quietB at h
  split at h
  · rename_i hcal
    simp only at hcal
    subst hcal
    split at h
    · rename_i x t ha ht
      simp only at ha ht
      subst ha ht
      simp only [Option.bind_eq_some_iff, Prod.exists] at h
      obtain ⟨ok', p, h1, h2⟩ := h
      split at h2
      · rename_i et ht
        simp only [Option.map_eq_some_iff, Prod.mk.injEq] at h2
        obtain ⟨k, hk, rfl, rfl, rfl⟩ := h2
        obtain ⟨q, cap, hu⟩ := lenAV_ok (X := X) (by rw [H.rows]; exact hk) (opd_ok H h1 hok).1
        exact ⟨.int .i64 k, by simp [execOp, resolve, invoke, BigFrame.builtin_len, Builtin.len_, run_underlying ht, hu, goInt], same (by simp only [Rel])⟩
      · rename_i ht
        split at h2
        · rename_i str
          simp only [Option.some.injEq, Prod.mk.injEq] at h2
          obtain ⟨rfl, rfl, rfl⟩ := h2
          have hr := (opd_ok H h1 hok).1
          simp only [Rel] at hr
          exact ⟨.int .i64 str.size, by simp [execOp, resolve, invoke, BigFrame.builtin_len, Builtin.len_, run_underlying ht, hr, goInt], same (by simp only [Rel])⟩
        · cases h2
      · cases h2
    · cases h
  · cases h

theorem opdO_ok (H : Sim E base w0 n X S a w) {x : Option Operand} {ok : Bool} {v : Option AV} {l : Option Int} (h : S.opdO E x = some (ok, v)) (hok : ok = true) (hb : bndAV v = some l) : BndRel v (x.map a.eval) := by
  cases x with
  | none => cases h; exact .inl ⟨rfl, rfl⟩
  | some x =>
    simp only [St.opdO, Option.map_eq_some_iff, Prod.exists, Prod.mk.injEq] at h
    obtain ⟨ok', v', h1, rfl, rfl⟩ := h
    have hr := (opd_ok H h1 hok).1
    cases v' <;> simp only [bndAV, reduceCtorEq] at hb
    simp only [Rel] at hr
    exact .inr ⟨_, _, rfl, by rw [Option.map_some, hr]⟩

theorem quiet_ok (H : Sim E base w0 n X S a w) {id : Nat} (hid : n ≤ id) (hno : S.rows.get id = none) {op : Op} {dst : Option Tmp} {ty : TypeId} {pos : String} {after : Array Edge} {guard : Option (Nat × Bool)} {ok : Bool} {v : AV} {new : Option Row}
    (h : quiet E S n id op = some (ok, v, new)) (hok : ok = true) :
    ∃ val w', (execOp a.eval { dst, op, type := ty, pos, after, guard }).run E.P w = .ok (.value val) w' ∧ QPost X w id v new val w' := by
  have hno' : X.rows.get id = none := by rw [H.rows]; exact hno
  have same : ∀ {v : AV} {val : Value}, Rel X v val → QPost X w id v none val w := fun h => QPost.same H.ok h
  unfold quiet at h
  split at h
  · rename_i x
    simp only [Option.map_eq_some_iff, Prod.exists, Prod.mk.injEq] at h
    obtain ⟨ok', v', h1, rfl, rfl, rfl⟩ := h
    exact ⟨_, w, rfl, same (opd_ok H h1 hok).1⟩
  · rename_i x
    simp only [Option.map_eq_some_iff, Prod.exists, Prod.mk.injEq] at h
    obtain ⟨ok', v', h1, rfl, rfl, rfl⟩ := h
    exact ⟨_, w, rfl, same (opd_ok H h1 hok).1⟩
  · rename_i c x y
    split at h
    · rename_i okc b okx vx oky vy hc hx hy
      simp only [Option.map_eq_some_iff, Prod.mk.injEq] at h
      obtain ⟨v', hp, h1, rfl, rfl⟩ := h
      subst h1
      simp only [Bool.and_eq_true] at hok
      obtain ⟨hok1, hok2⟩ := hok
      have hb := (opd_ok H hc hok1).1
      simp only [Rel] at hb
      refine ⟨if b then a.eval x else a.eval y, w, ?_, same (pickAV_ok (by rw [H.rows]; exact hp) (fun e => ?_) (fun e => ?_))⟩
      · simp only [execOp, hb, asBool]
        rfl
      · subst e; exact (opd_ok H hx hok2).1
      · subst e; exact (opd_ok H hy hok2).1
    · cases h
  · rename_i t
    simp only [Option.map_eq_some_iff, Prod.mk.injEq] at h
    obtain ⟨zs, hz, _, rfl, rfl⟩ := h
    obtain ⟨z, hzr, hzrel, _⟩ := zeroAV_run (X := X) (w := w) hz
    have hzs : AV.allL (fun q _ => X.rows.okid n q) zs = true := by
      unfold zeroAV at hz
      split at hz
      · split at hz
        · split at hz
          · exact constL_all hz
          · cases hz
        · cases hz
      · cases hz
    exact ⟨_, _, by simp [execOp, Instr.alloc, hzr, newVar, newRow], box_post H.ok hid hno' t hzrel hzs⟩
  · rename_i t x
    simp only [Option.bind_eq_some_iff, Prod.exists] at h
    obtain ⟨ok', v', h1, cs, h2, h3⟩ := h
    split at h3
    · rename_i hrefs
      simp only [Option.some.injEq, Prod.mk.injEq] at h3
      obtain ⟨rfl, rfl, rfl⟩ := h3
      have hr := (opd_ok H h1 hok).1
      exact ⟨_, _, by simp [execOp, Instr.box, newVar, newRow], box_post H.ok hid hno' t (cellsAV_rel H.rows h2 hr).1 (by rw [H.rows]; exact hrefs)⟩
    · cases h3
  · rename_i t ps
    simp only [Option.bind_eq_some_iff, Option.map_eq_some_iff, Prod.exists, Prod.mk.injEq] at h
    obtain ⟨ok', r, h1, v', h2, rfl, rfl, rfl⟩ := h
    obtain ⟨hp, _⟩ := parts_ok H h1 hok
    obtain ⟨val, hrun, hrel⟩ := build_ok (P := E.P) (X := X) (w := w) (qs := ps.map fun p => (p.1, a.eval p.2)) h2 (by rw [Array.toList_map]; exact hp)
    exact ⟨val, w, by simp [execOp, hrun], same hrel⟩
  · rename_i t len ps
    simp only [Option.bind_eq_some_iff, Option.map_eq_some_iff, Prod.exists, Prod.mk.injEq] at h
    obtain ⟨ok', r, h1, row, h2, rfl, rfl, rfl⟩ := h
    obtain ⟨hp, _⟩ := parts_ok H h1 hok
    obtain ⟨val, w', hrun, hpost⟩ := buildSlice_ok (P := E.P) H.ok hid hno' (qs := ps.map fun p => (p.1, a.eval p.2)) h2 (by rw [Array.toList_map]; exact hp)
    exact ⟨val, w', by simp [execOp, hrun], hpost⟩
  · rename_i t x
    simp only [Option.bind_eq_some_iff, Option.map_eq_some_iff, Prod.exists, Prod.mk.injEq] at h
    obtain ⟨ok', p, h1, cs, off, h2, v', h3, rfl, rfl, rfl⟩ := h
    have hr := (opd_ok H h1 hok).1
    obtain ⟨b, o, vs, hu, hl, hc⟩ := behind_at H.ok (by rw [H.rows]; exact h2) hr
    obtain ⟨val, hrun, hrel⟩ := run_loadVar_of h3 hl hc
    exact ⟨val, w, by simp [execOp, hu, Instr.loadAt, Instr.sureAddr, hrun], same hrel⟩
  · rename_i x
    simp only [Option.bind_eq_some_iff, Option.map_eq_some_iff, Prod.exists, Prod.mk.injEq] at h
    obtain ⟨ok', p, h1, cs, off, h2, rfl, rfl, rfl⟩ := h
    have hr := (opd_ok H h1 hok).1
    obtain ⟨b, o, vs, hu, hl, hc⟩ := behind_at H.ok (by rw [H.rows]; exact h2) hr
    exact ⟨.pointer (some ⟨b, o + off, none⟩), w, by simp [execOp, hu], same (by rw [← hu]; exact hr)⟩
  · rename_i op t x y yt
    split at h
    · rename_i okx vx oky vy hx hy
      simp only [Option.map_eq_some_iff, Prod.exists, Prod.mk.injEq] at h
      obtain ⟨ok', v', hb, h1, rfl, rfl⟩ := h
      subst h1
      simp only [Bool.and_eq_true] at hok
      obtain ⟨val, hrun, hrel⟩ := bin_ok (P := E.P) (w := w) x y hb hok.2 (opd_ok H hx hok.1.1).1 (opd_ok H hy hok.1.2).1
      exact ⟨val, w, by simp only [execOp, Sem.run_bind, Result.andThen_ok] at hrun ⊢; rw [hrun]; rfl, same hrel⟩
    · cases h
  · rename_i op t x
    simp only [Option.bind_eq_some_iff, Option.map_eq_some_iff, Prod.exists, Prod.mk.injEq] at h
    obtain ⟨ok', p, h1, v', h2, rfl, rfl, rfl⟩ := h
    obtain ⟨val, hrun, hrel⟩ := un_ok (P := E.P) (w := w) h2 (opd_ok H h1 hok).1
    exact ⟨val, w, by simp [execOp, hrun], same hrel⟩
  · rename_i src dst x
    simp only [Option.bind_eq_some_iff, Option.map_eq_some_iff, Prod.exists, Prod.mk.injEq] at h
    obtain ⟨ok', p, h1, v', h2, rfl, rfl, rfl⟩ := h
    obtain ⟨val, hrun, hrel⟩ := conv_ok (P := E.P) (w := w) h2 (opd_ok H h1 hok).1
    exact ⟨val, w, by simp [execOp, hrun], same hrel⟩
  · rename_i s x f
    simp only [Option.bind_eq_some_iff, Option.map_eq_some_iff, Prod.exists, Prod.mk.injEq] at h
    obtain ⟨ok', p, h1, v', h2, rfl, rfl, rfl⟩ := h
    obtain ⟨val, hrun, hrel⟩ := field_ok (P := E.P) (w := w) (X := X) (by rw [H.rows]; exact h2) (opd_ok H h1 hok).1
    exact ⟨val, w, by simp [execOp, hrun], same hrel⟩
  · rename_i t x i
    split at h
    · rename_i okx p oki kd k hx hi
      simp only [Option.map_eq_some_iff, Prod.exists, Prod.mk.injEq] at h
      obtain ⟨ok', v', hb, h1, rfl, rfl⟩ := h
      subst h1
      simp only [Bool.and_eq_true] at hok
      have hiv := (opd_ok H hi hok.1.2).1
      simp only [Rel] at hiv
      obtain ⟨val, hrun, hrel⟩ := index_ok (P := E.P) H.ok (by rw [H.rows]; exact hb) hok.2 (opd_ok H hx hok.1.1).1 (k := kd)
      exact ⟨val, w, by simp [execOp, hiv, hrun], same hrel⟩
    · cases h
  · rename_i t x lo hi
    simp only [Option.bind_eq_some_iff, Option.map_eq_some_iff, Prod.exists, Prod.mk.injEq] at h
    obtain ⟨ok', p, h1, okl, la, hl, okh, ha, hh, l, hbl, h', hbh, ok2, v', hq, h3, rfl, rfl⟩ := h
    subst h3
    simp only [Bool.and_eq_true] at hok
    obtain ⟨val, hrun, hrel⟩ := slice_ok (P := E.P) (X := X) (w := w) (opdO_ok H hl hok.1.2.1 hbl) (opdO_ok H hh hok.1.2.2 hbh) hbl hbh (by rw [H.rows]; exact hq) hok.2 (opd_ok H h1 hok.1.1).1
    exact ⟨val, w, by simp only [execOp, Option.map_none]; rw [Sem.run_bind, hrun]; rfl, same hrel⟩
  · rename_i x i
    simp only [Option.bind_eq_some_iff, Prod.exists] at h
    obtain ⟨ok', p, h1, h2⟩ := h
    split at h2
    · rename_i vs
      simp only [Option.map_eq_some_iff, Prod.mk.injEq] at h2
      obtain ⟨v', hv, rfl, rfl, rfl⟩ := h2
      have hr := (opd_ok H h1 hok).1
      simp only [Rel] at hr
      obtain ⟨us, hu, hl⟩ := hr
      obtain ⟨u, hu', hrel⟩ := RelL.get i _ hl hv
      exact ⟨u, w, by simp [execOp, hu, Instr.extract, show us[i]? = some u by simpa using hu'], same hrel⟩
    · cases h2
  · rename_i c
    obtain ⟨val, hrun, hpost⟩ := quietB_ok (id := id) H h hok
    exact ⟨val, w, hrun, hpost⟩
  · cases h
end
end Go.Proofs.YtlidfaaajjfgfaaDoor.Ab
