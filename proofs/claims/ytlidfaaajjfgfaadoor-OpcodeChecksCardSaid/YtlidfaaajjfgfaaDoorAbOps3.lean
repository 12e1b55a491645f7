import Derived.Test.YtlidfaaajjfgfaaDoorAbOps2
import Derived.BigCall
set_option linter.unusedVariables false
set_option linter.all false
namespace Go.Proofs.YtlidfaaajjfgfaaDoor.Ab
open Go.RowKit

/-! ### What a quiet operation leaves -/
/-- The world has grown, maybe by a row of the call's own; the value reads. -/
def QPost (X : Cx) (w : World) (id : Nat) (v : AV) (new : Option Row) (val : Value) (w' : World) : Prop :=
  ∃ (F' : Nat → Prop) (loc : Option (Nat × Nat)), Below w.heap.size w w' ∧ (∀ b, X.F b → F' b) ∧ (∀ b, F' b → X.F b ∨ w.heap.size ≤ b) ∧ (∀ b, F' b → b < w'.heap.size) ∧
    match new with
    | none => Rel { X with F := F', heap := w'.heap } v val
    | some row => RowOk (Cx.claim { X with F := F', heap := w'.heap } id row loc) id row ∧ (∀ b o, loc = some (b, o) → w.heap.size ≤ b ∧ ¬ F' b) ∧
        Rel (Cx.claim { X with F := F', heap := w'.heap } id row loc) v val

theorem QPost.same {base n : Nat} {w0 : Start} {w : World} {X : Cx} (H : RowsOk base w0 n X w) {id : Nat} {v : AV} {val : Value} (h : Rel X v val) : QPost X w id v none val w := by
  refine ⟨X.F, none, Below.refl _ _, fun _ h => h, fun _ h => .inl h, H.fresh, ?_⟩
  have : ({ X with F := X.F, heap := w.heap } : Cx) = X := by rw [← H.heap]
  simp only [this]
  exact h

theorem below_push (w : World) (o : Obj) : Below w.heap.size w { w with heap := w.heap.push o } :=
  ⟨rfl, rfl, rfl, by simp, fun k hk => by simp [Array.getElem?_push, Nat.ne_of_lt hk]⟩

theorem cellsAt_push {h : Array Obj} {b o : Nat} {cs : List Value} {x : Obj} (H : cellsAt h b o cs) : cellsAt (h.push x) b o cs := by
  obtain ⟨c, T, fr, hc, hj⟩ := H
  have := (Array.getElem?_eq_some_iff.1 hc).1
  exact ⟨c, T, fr, by rw [Array.getElem?_push, if_neg (by omega)]; exact hc, hj⟩

/-- The world behind a new block. -/
theorem Stab.push {base n : Nat} {w0 : Start} {w : World} {X : Cx} (H : RowsOk base w0 n X w) (x : Obj) : Stab X { X with heap := w.heap.push x } (fun _ _ => true) :=
  Stab.grow (w' := { w with heap := w.heap.push x }) H (below_push w x) (F' := X.F) (fun _ h => h)

/-! ### Constants -/
def constAV : Value → Option AV
  | .bool b => some (.bool b)
  | .int k n => some (.int k n)
  | .string s => some (.str s)
  | .pointer none => some .nilp
  | .nilFunc => some .nilf
  | .nilIface => some .nili
  | .slice none 0 0 => some .nils
  | _ => none

theorem constAV_rel {X : Cx} {v : Value} {a : AV} (h : constAV v = some a) : Rel X a v := by
  unfold constAV at h
  split at h <;> cases h <;> simp [Rel]

theorem constAV_all {p : Nat → Nat → Bool} {v : Value} {a : AV} (h : constAV v = some a) : a.all p = true := by
  unfold constAV at h
  split at h <;> cases h <;> rfl

theorem constAV_solid {rows : Rows} {v : Value} {a : AV} (h : constAV v = some a) : a.solid rows = true := by
  unfold constAV at h
  split at h <;> cases h <;> rfl

def constL : List Value → Option (List AV)
  | [] => some []
  | v :: vs => (constAV v).bind fun a => (constL vs).bind fun as => some (a :: as)

theorem constL_rel {X : Cx} : ∀ {vs : List Value} {as : List AV}, constL vs = some as → RelL X as vs
  | [], as, h => by cases h; simp [RelL]
  | v :: vs, as, h => by
    simp only [constL, Option.bind_eq_some_iff] at h
    obtain ⟨a, h1, as', h2, h3⟩ := h
    cases h3
    simp only [RelL]
    exact ⟨v, vs, rfl, constAV_rel h1, constL_rel h2⟩

theorem constL_all {p : Nat → Nat → Bool} : ∀ {vs : List Value} {as : List AV}, constL vs = some as → AV.allL p as = true
  | [], as, h => by cases h; rfl
  | v :: vs, as, h => by
    simp only [constL, Option.bind_eq_some_iff] at h
    obtain ⟨a, h1, as', h2, h3⟩ := h
    cases h3
    simp only [AV.allL, Bool.and_eq_true]
    exact ⟨constAV_all h1, constL_all h2⟩

theorem constL_one : ∀ {vs : List Value} {as : List AV}, constL vs = some as → ∀ v ∈ vs, v.oneCell' = true
  | [], as, h, v, hv => by cases hv
  | u :: vs, as, h, v, hv => by
    simp only [constL, Option.bind_eq_some_iff] at h
    obtain ⟨a, h1, as', h2, h3⟩ := h
    rcases List.mem_cons.1 hv with rfl | hv
    · unfold constAV at h1
      split at h1 <;> first | rfl | cases h1
    · exact constL_one h2 v hv

/-- A constant, of one cell or a struct of such. -/
def constV : Value → Option AV
  | .agg cs => (constL cs.toList).map .agg
  | v => constAV v

theorem constV_rel {X : Cx} {v : Value} {a : AV} (h : constV v = some a) : Rel X a v := by
  unfold constV at h
  split at h
  · simp only [Option.map_eq_some_iff] at h
    obtain ⟨as, h, rfl⟩ := h
    simp only [Rel]
    exact ⟨_, rfl, constL_rel h⟩
  · exact constAV_rel h

theorem constV_all {p : Nat → Nat → Bool} {v : Value} {a : AV} (h : constV v = some a) : a.all p = true := by
  unfold constV at h
  split at h
  · simp only [Option.map_eq_some_iff] at h
    obtain ⟨as, h, rfl⟩ := h
    simp only [AV.all]
    exact constL_all h
  · exact constAV_all h

/-- The zero cells of a type. -/
def zeroAV (P : Program) (t : TypeId) : Option (List AV) :=
  match P.info? t with
  | some i => match i.zero with
    | some z => if z.cells.size = i.size then constL z.cells.toList else none
    | none => none
  | none => none

theorem zeroAV_run {P : Program} {X : Cx} {w : World} {t : TypeId} {as : List AV} (h : zeroAV P t = some as) :
    ∃ z, (zeroValue t).run P w = .ok z w ∧ RelL X as z.cells.toList ∧ (∀ v ∈ z.cells.toList, v.oneCell' = true) ∧ ∃ i, P.info? t = some i ∧ i.zero = some z ∧ z.cells.size = i.size := by
  unfold zeroAV at h
  split at h
  · rename_i i hi
    split at h
    · rename_i z hz
      split at h
      · rename_i hsz
        exact ⟨z, by simp [zeroValue, typeInfo, hi, hz], constL_rel h, constL_one h, i, hi, hz, hsz⟩
      · cases h
    · cases h
  · cases h

/-! ### New variables -/
theorem box_post {base n : Nat} {w0 : Start} {w : World} {X : Cx} (H : RowsOk base w0 n X w) {id : Nat} (hid : n ≤ id) (hno : X.rows.get id = none) {cs : List AV} {vs : Array Value} (t : TypeId)
    (hr : RelL X cs vs.toList) (hrefs : AV.allL (fun q _ => X.rows.okid n q) cs = true) :
    QPost X w id (.ptr id 0) (some (.box cs)) (.pointer (some ⟨w.heap.size, 0, none⟩)) { w with heap := w.heap.push (.cells vs t) } := by
  have hst := Stab.push H (.cells vs t (0, 0))
  refine ⟨X.F, some (w.heap.size, 0), below_push w _, fun _ h => h, fun _ h => .inl h, fun b hb => by have := H.fresh b hb; simp; omega, ?_, ?_, ?_⟩
  · intro b o hbo
    simp only [Cx.claim, if_true, Option.some.injEq, Prod.mk.injEq] at hbo
    obtain ⟨rfl, rfl⟩ := hbo
    refine ⟨rfl, vs, t, by simp [Cx.claim], ?_⟩
    have h1 : RelL { X with heap := w.heap.push (.cells vs t) } cs vs.toList := RelL.mono hst cs _ (AV.allL_imp (fun _ _ _ => rfl) cs hrefs) hr
    exact RelL.mono (Stab.claim (X := { X with heap := w.heap.push (.cells vs t) }) hid hno) cs _ hrefs h1
  · intro b o hbo
    cases hbo
    exact ⟨Nat.le_refl _, fun h => by have := H.fresh _ h; omega⟩
  · simp only [Rel]
    intro cs' h
    exact ⟨w.heap.size, by simp [Cx.claim], rfl⟩

/-! ### Filling -/
def splice {α : Type} (cells : List α) (off : Nat) (vs : List α) : List α := cells.take off ++ vs ++ cells.drop (off + vs.length)

theorem foldl_set (off : Nat) : ∀ (vs : List Value) (k : Nat) (cs : Array Value), off + k + vs.length ≤ cs.size →
    ((vs.zipIdx k).foldl (fun cs (c, j) => cs.setIfInBounds (off + j) c) cs).toList = splice cs.toList (off + k) vs
  | [], k, cs, h => by simp [splice]
  | v :: vs, k, cs, h => by
    simp only [List.zipIdx_cons, List.foldl_cons]
    simp only [List.length_cons] at h
    rw [foldl_set off vs (k + 1) _ (by simp; omega)]
    have e := list_seg_step cs.toList (off + k) v vs (by simp; omega)
    simpa [splice, Array.toList_setIfInBounds, Nat.add_assoc] using e

def fillAV (place : Nat → Option (Nat × Nat)) (cells : List AV) : List (Nat × List AV) → Option (List AV)
  | [] => some cells
  | (i, vs) :: rest => match place i with
    | none => none
    | some (off, size) => if vs.length = size ∧ off + vs.length ≤ cells.length then fillAV place (splice cells off vs) rest else none

theorem RelL.splice {X : Cx} {as bs : List AV} {vs us : List Value} (off : Nat) (h : RelL X as vs) (h' : RelL X bs us) : RelL X (splice as off bs) (splice vs off us) := by
  unfold Go.Proofs.YtlidfaaajjfgfaaDoor.Ab.splice
  rw [RelL.length h']
  exact RelL.append (RelL.append (RelL.take _ h) h') (RelL.drop _ h)

/-- Parts: a number, and a value's cells. -/
inductive PartsRel (X : Cx) : List (Nat × List AV) → List (Nat × Value) → Prop
  | nil : PartsRel X [] []
  | cons (i : Nat) (cs : List AV) (v : Value) (ps : List (Nat × List AV)) (qs : List (Nat × Value)) : RelL X cs v.cells.toList → PartsRel X ps qs → PartsRel X ((i, cs) :: ps) ((i, v) :: qs)

theorem fill_ok {X : Cx} (place : Nat → Option (Nat × Nat)) : ∀ {ps : List (Nat × List AV)} {qs : List (Nat × Value)}, PartsRel X ps qs → ∀ {cells : List AV} {vals : Array Value} {r : List AV},
    RelL X cells vals.toList → fillAV place cells ps = some r → ∃ out, Instr.fill place vals qs = some out ∧ RelL X r out.toList
  | _, _, .nil, cells, vals, r, h, hf => by
    simp only [fillAV, Option.some.injEq] at hf
    subst hf
    exact ⟨vals, rfl, h⟩
  | _, _, .cons i cs v ps qs h1 h2, cells, vals, r, h, hf => by
    simp only [fillAV] at hf
    have hl := RelL.length h
    have hl1 := RelL.length h1
    split at hf
    · cases hf
    · rename_i off size hp
      split at hf
      · rename_i hc
        simp only [Array.length_toList] at hl hl1
        have hfold := foldl_set off v.cells.toList 0 vals (by simp; omega)
        obtain ⟨out, ho, hr⟩ := fill_ok place h2 (vals := (v.cells.toList.zipIdx.foldl (fun cs (c, j) => cs.setIfInBounds (off + j) c) vals)) (by rw [hfold]; exact RelL.splice _ h h1) hf
        refine ⟨out, ?_, hr⟩
        have e1 : ¬ (v.cells.size ≠ size || decide (off + v.cells.size > vals.size)) = true := by simp; omega
        simp only [Instr.fill, hp, if_neg e1]
        rw [← ho]
        congr 1
        rw [← Array.foldl_toList, Array.toList_zipIdx]
      · cases hf

/-! ### Structs and slices made of parts -/
def placesOf (P : Program) : List Field → Option (List (Nat × Nat))
  | [] => some []
  | f :: fs => match P.info? f.type with
    | some i => (placesOf P fs).map ((f.offset, i.size) :: ·)
    | none => none

theorem places_run {P : Program} {w : World} : ∀ {fs : List Field} {l : List (Nat × Nat)}, placesOf P fs = some l →
    (fs.mapM fun f => do pure (f.offset, ← sizeOf f.type) : Sem (List (Nat × Nat))).run P w = .ok l w
  | [], l, h => by cases h; rfl
  | f :: fs, l, h => by
    simp only [placesOf] at h
    split at h
    · rename_i i hi
      simp only [Option.map_eq_some_iff] at h
      obtain ⟨l', h, rfl⟩ := h
      have ih := places_run (P := P) (w := w) h
      rw [List.mapM_cons, Sem.run_bind]
      have h1 : (do pure (f.offset, ← sizeOf f.type) : Sem (Nat × Nat)).run P w = .ok (f.offset, i.size) w := by simp [sizeOf, typeInfo, hi]
      rw [h1, Result.andThen_ok, Sem.run_bind, ih]
      rfl
    · cases h

def qBuild (P : Program) (t : TypeId) (parts : List (Nat × List AV)) : Option AV :=
  match P.underlying t, zeroAV P t with
  | some (.struct fs), some zs => (placesOf P fs.toList).bind fun l => (fillAV (fun i => l[i]?) zs parts).map .agg
  | some (.array _ e), some zs => match P.info? e with
    | some i => (fillAV (fun k => some (k * i.size, i.size)) zs parts).map .agg
    | none => none
  | _, _ => none

theorem build_ok {P : Program} {X : Cx} {w : World} {t : TypeId} {ps : List (Nat × List AV)} {qs : Array (Nat × Value)} {r : AV} (h : qBuild P t ps = some r) (hp : PartsRel X ps qs.toList) :
    ∃ v, (Instr.build t qs).run P w = .ok v w ∧ Rel X r v := by
  unfold qBuild at h
  split at h
  · rename_i fs zs ht hz
    simp only [Option.bind_eq_some_iff, Option.map_eq_some_iff] at h
    obtain ⟨l, hl, cs, hf, rfl⟩ := h
    obtain ⟨z, hzr, hzrel, _⟩ := zeroAV_run (X := X) (w := w) hz
    obtain ⟨out, ho, hrel⟩ := fill_ok (X := X) (fun i => l[i]?) hp hzrel hf
    refine ⟨.agg out, ?_, by simp only [Rel]; exact ⟨out, rfl, hrel⟩⟩
    have hpl := places_run (P := P) (w := w) hl
    have : (fs.mapM fun f => do pure (f.offset, ← sizeOf f.type) : Sem (Array (Nat × Nat))).run P w = .ok l.toArray w := by
      rw [Array.mapM_eq_mapM_toList, Sem.run_map, hpl]; rfl
    simp only [Instr.build, Sem.run_bind, hzr, Result.andThen_ok, run_underlying ht, this]
    rw [show (fun x => l.toArray[x]?) = fun i => l[i]? by funext i; simp, ho]
    rfl
  · rename_i n e zs ht hz
    split at h
    · rename_i i hi
      simp only [Option.map_eq_some_iff] at h
      obtain ⟨cs, hf, rfl⟩ := h
      obtain ⟨z, hzr, hzrel, _⟩ := zeroAV_run (X := X) (w := w) hz
      obtain ⟨out, ho, hrel⟩ := fill_ok (X := X) (fun k => some (k * i.size, i.size)) hp hzrel hf
      refine ⟨.agg out, ?_, by simp only [Rel]; exact ⟨out, rfl, hrel⟩⟩
      simp [Instr.build, hzr, run_underlying ht, sizeOf, typeInfo, hi, ho]
    · cases h
  · cases h

/-- The cells of a new slice. -/
def flat0 (zs : List AV) (n : Nat) : List AV := (List.range n).map fun i => zs.getD (i % zs.length) .unk

theorem RelL.of_get {X : Cx} : ∀ {as : List AV} {vs : List Value}, as.length = vs.length → (∀ (i : Nat) (a : AV) (v : Value), as[i]? = some a → vs[i]? = some v → Rel X a v) → RelL X as vs
  | [], [], _, _ => by simp [RelL]
  | [], _ :: _, h, _ => by simp at h
  | _ :: _, [], h, _ => by simp at h
  | a :: as, v :: vs, h, hi => by
    simp only [RelL]
    exact ⟨v, vs, rfl, hi 0 a v rfl rfl, RelL.of_get (by simpa using h) fun i a' v' ha hv => hi (i + 1) a' v' (by simpa using ha) (by simpa using hv)⟩

theorem flat0_rel {X : Cx} {zs : List AV} {z : Array Value} (n : Nat) (h : RelL X zs z.toList) (hz : n ≠ 0 → zs ≠ []) :
    RelL X (flat0 zs n) ((Array.range n).map (fun i => z[i % z.size]!)).toList := by
  have hl := RelL.length h
  simp only [Array.length_toList] at hl
  refine RelL.of_get (by simp [flat0]) fun i a v ha hv => ?_
  simp only [flat0, List.getElem?_map, Option.map_eq_some_iff] at ha
  obtain ⟨j, hj, rfl⟩ := ha
  have hin : i < n := by
    rcases Nat.lt_or_ge i n with h | h
    · exact h
    · rw [List.getElem?_eq_none (by simpa using h)] at hj; cases hj
  obtain rfl : i = j := by rw [List.getElem?_range hin] at hj; exact Option.some.inj hj
  have hpos : 0 < zs.length := by have := hz (by omega); cases zs <;> simp_all
  have hm : i % zs.length < zs.length := Nat.mod_lt _ hpos
  have hza : zs[i % zs.length]? = some (zs.getD (i % zs.length) .unk) := by simp [List.getD, List.getElem?_eq_getElem hm]
  obtain ⟨u, hu, hrel⟩ := RelL.get _ _ h hza
  have : v = u := by
    simp only [Array.toList_map, Array.toList_range, List.getElem?_map, List.getElem?_range hin, Option.map_some, Option.some.injEq] at hv
    rw [← hv, hl]
    have hm' : i % zs.length < z.size := by omega
    rw [getElem!_pos z _ hm']
    simpa [Array.getElem?_toList, Array.getElem?_eq_getElem hm'] using hu
  rw [this]
  exact hrel

/-- A row of data that has just been laid into a new block. -/
theorem arr_post {base n : Nat} {w0 : Start} {w : World} {X : Cx} (H : RowsOk base w0 n X w) {id : Nat} (hid : n ≤ id) (hno : X.rows.get id = none) {s : Sh} {xs : List s.den} {vs : Array Value} (t : TypeId) {cap : Nat}
    {us : List Value} (hr : AllD (Den X.F X.heap s) xs us) (hpre : ∃ more, vs.toList = us ++ more) (hc : vs.size = cap * s.size) (hle : xs.length ≤ cap) :
    QPost X w id (.own id 0) (some (.arr 0 s xs)) (.slice (some ⟨w.heap.size, 0, none⟩) xs.length cap) { w with heap := w.heap.push (.cells vs t) } := by
  have hlt : ∀ b, X.F b → (w.heap.push (Obj.cells vs t))[b]? = X.heap[b]? := fun b hb => by
    rw [H.heap, Array.getElem?_push, if_neg (by have := H.fresh b hb; omega)]
  refine ⟨X.F, some (w.heap.size, 0), below_push w _, fun _ h => h, fun _ h => .inl h, fun b hb => by have := H.fresh b hb; simp; omega, ?_, ?_, ?_⟩
  · obtain ⟨more, hmore⟩ := hpre
    have hul := AllD.length (fun x cs => Den.length s x cs) xs us hr
    refine .inr ⟨w.heap.size, 0, vs, t, by simp [Cx.claim], by simp [Cx.claim], ?_, fun i hi => ?_⟩
    · rw [hc]
      simpa using Nat.mul_le_mul_right s.size hle
    · have hcells : cellsAt (w.heap.push (Obj.cells vs t)) w.heap.size 0 us := ⟨vs, t, (0, 0), by simp, fun j hj => by
        rw [← Array.getElem?_toList, hmore]
        rw [Nat.zero_add, List.getElem?_append_left hj]⟩
      obtain ⟨es, he, hd⟩ := allD_at (fun x cs => Den.length s x cs) xs us 0 i hi hr hcells
      exact ⟨es, he, Den.mono (fun _ h => h) hlt s _ _ hd⟩
  · intro b o hbo
    cases hbo
    exact ⟨Nat.le_refl _, fun h => by have := H.fresh _ h; omega⟩
  · simp only [Rel]
    intro s' xs' h
    rw [Cx.claim, Rows.get_put, if_pos rfl] at h
    obtain ⟨⟨⟩, hs', hx⟩ := Row.arr.inj (Option.some.inj h)
    subst hs'
    cases hx
    refine .inr ⟨w.heap.size, 0, cap, by simp [Cx.claim], rfl, hle, fun c T fr hc' => ?_⟩
    simp only [Cx.claim, Array.getElem?_push_size, Option.some.injEq, Obj.cells.injEq] at hc'
    obtain ⟨rfl, _⟩ := hc'
    omega

def qBuildSlice (P : Program) (t : TypeId) (len : Nat) (parts : List (Nat × List AV)) : Option Row :=
  match P.underlying t with
  | some (.slice e) => match shOf P 20 e, zeroAV P e with
    | some s, some zs => if sizeIs P e s.size ∧ zs.length = s.size ∧ 0 < s.size ∧ len * s.size ≤ 2 ^ 24 then
        (fillAV (fun i => some (i * s.size, s.size)) (flat0 zs (len * s.size)) parts).bind fun cs =>
          match manyOf (ofCells s) len cs with
          | some (xs, []) => some (.arr 0 s xs)
          | _ => none
      else none
    | _, _ => none
  | _ => none

theorem buildSlice_ok {P : Program} {base n : Nat} {w0 : Start} {w : World} {X : Cx} (H : RowsOk base w0 n X w) {id : Nat} (hid : n ≤ id) (hno : X.rows.get id = none) {t : TypeId} {len : Nat} {ps : List (Nat × List AV)} {qs : Array (Nat × Value)}
    {row : Row} (h : qBuildSlice P t len ps = some row) (hp : PartsRel X ps qs.toList) :
    ∃ v w', (Instr.buildSlice t len qs).run P w = .ok v w' ∧ QPost X w id (.own id 0) (some row) v w' := by
  unfold qBuildSlice at h
  split at h
  · rename_i e ht
    split at h
    · rename_i s zs hs hz
      split at h
      · rename_i hc
        obtain ⟨h1, h2, h3, h4⟩ := hc
        simp only [Option.bind_eq_some_iff] at h
        obtain ⟨cs, hf, hm⟩ := h
        split at hm
        · rename_i xs hx
          cases hm
          obtain ⟨z, hzr, hzrel, _, i, hi, hiz, hzs⟩ := zeroAV_run (X := X) (w := w) hz
          have hflat := flat0_rel (len * s.size) hzrel (fun _ h0 => by rw [h0] at h2; simp at h2; omega)
          obtain ⟨out, ho, hrel⟩ := fill_ok (X := X) (fun i => some (i * s.size, s.size)) hp hflat hf
          obtain ⟨hl, v1, v2, hv, hD, hr2⟩ := manyOf_den (X := X) (fun cs x rest vs => ofCells_den s cs x rest vs) len cs xs [] out.toList hx hrel
          have hv2 : v2 = [] := by simpa [RelL] using hr2
          subst hv2
          have hsz : out.size = len * s.size := by
            have := AllD.length (fun x cs => Den.length s x cs) xs v1 hD
            rw [← Array.length_toList, hv, List.append_nil, this, hl]
          have hzl := RelL.length hzrel
          refine ⟨.slice (some ⟨w.heap.size, 0, none⟩) len len, { w with heap := w.heap.push (.cells out e) }, ?_, ?_⟩
          rotate_left
          · have := arr_post (id := id) H hid hno e hD ⟨[], by rw [hv]⟩ (cap := len) hsz (by omega)
            rw [hl] at this
            exact this
          · have e1 : ¬ (len * s.size > 2 ^ 24) := by omega
            simp only [Instr.buildSlice, Sem.run_bind, run_underlying ht, Result.andThen_ok, run_sizeOf h1, if_neg e1]
            by_cases hn : len * s.size = 0
            · have hqs : Instr.fill (fun i => some (i * s.size, s.size)) ((Array.range 0).map (fun i => (#[] : Array Value)[i % (#[] : Array Value).size]!)) qs.toList = some out := by
                rw [← ho, hn]
                congr 1
                simp
              simp only [hn, if_true, Sem.run_bind, Sem.run_pure, Result.andThen_ok]
              rw [hqs]
              rfl
            · simp only [if_neg hn, Sem.run_bind, hzr, Result.andThen_ok, Sem.run_pure]
              rw [ho]
              rfl
        · cases hm
      · cases h
    · cases h
  · cases h
end Go.Proofs.YtlidfaaajjfgfaaDoor.Ab
