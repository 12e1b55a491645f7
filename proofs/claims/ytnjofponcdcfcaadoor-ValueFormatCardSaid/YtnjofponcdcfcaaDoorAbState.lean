import Derived.Test.YtnjofponcdcfcaaDoorAbMake
set_option linter.unusedVariables false
set_option linter.all false
namespace Go.Proofs.YtnjofponcdcfcaaDoor.Ab
open Go.RowKit

/-- What the reading needs of the program, of package variables, and of functions that are called. -/
structure Env where
  P : Program
  G : Nat → Option ((s : Sh) × s.den)
  K : FuncId → Option (List AV → Option (Bool × AV))
  /-- Functions read in place: the rows, what else is held (the callers' temporaries), the arguments; whether it goes well, the result, the rows, the rows that turned. -/
  I : FuncId → Option (Rows → List AV → List AV → Option (Bool × AV × Rows × Nat)) := fun _ => none
  /-- Functions whose results are data of new memory alone. -/
  J : FuncId → Option (List AV → Option (Bool × AV)) := fun _ => none
  /-- Functions whose result is a slice of new memory. -/
  N : FuncId → Option (List AV → Option (Bool × ((s : Sh) × List s.den))) := fun _ => none

/-- Sets of numbers, by bits. -/
abbrev NSet := Nat
def NSet.nil : NSet := (0 : Nat)
def NSet.has (s : NSet) (x : Nat) : Bool := Nat.testBit s x
instance : Membership Nat NSet := ⟨fun s x => s.has x = true⟩
theorem NSet.mem_def {s : NSet} {x : Nat} : x ∈ s ↔ s.has x = true := Iff.rfl
@[simp] theorem not_mem_nil {x : Nat} : ¬ x ∈ NSet.nil := by
  show ¬ Nat.testBit 0 x = true
  simp
def addN (x : Nat) (l : NSet) : NSet := Nat.lor l (Nat.shiftLeft 1 x)
def unionN (l m : NSet) : NSet := Nat.lor l m
theorem mem_addN {x y : Nat} {l : NSet} : y ∈ addN x l ↔ y = x ∨ y ∈ l := by
  have : addN x l = l ||| (1 <<< x) := rfl
  rw [NSet.mem_def, NSet.has, this, Nat.testBit_or, Nat.testBit_shiftLeft]
  simp only [NSet.mem_def, NSet.has, Bool.or_eq_true, Bool.and_eq_true, decide_eq_true_eq]
  constructor
  · rintro (h | ⟨h1, h2⟩)
    · exact .inr h
    · left
      by_cases e : y - x = 0
      · omega
      · rw [Nat.testBit_one_eq_true_iff_self_eq_zero] at h2
        exact absurd h2 e
  · rintro (rfl | h)
    · exact .inr ⟨Nat.le_refl _, by simp⟩
    · exact .inl h
theorem mem_unionN {l m : NSet} {t : Nat} : t ∈ unionN l m ↔ t ∈ l ∨ t ∈ m := by
  have : unionN l m = l ||| m := rfl
  rw [NSet.mem_def, NSet.has, this, Nat.testBit_or]
  simp [NSet.mem_def, NSet.has]
/-- Those of it below n, in order. -/
def NSet.elems (n : Nat) (s : NSet) : List Nat := forceN n fun n => forceN s fun s => (List.range n).filter (NSet.has s)
def NSet.of (l : List Nat) : NSet := l.foldl (fun s x => forceN x fun x => forceN s fun s => addN x s) NSet.nil
theorem mem_of {l : List Nat} {x : Nat} : x ∈ NSet.of l ↔ x ∈ l := by
  have : ∀ (l : List Nat) (s : NSet), x ∈ l.foldl (fun s x => forceN x fun x => forceN s fun s => addN x s) s ↔ x ∈ s ∨ x ∈ l := by
    intro l
    induction l with
    | nil => intro s; simp
    | cons y l ih =>
      intro s
      rw [List.foldl_cons, ih, forceN_eq, forceN_eq, mem_addN, List.mem_cons]
      constructor
      · rintro ((h | h) | h)
        · exact .inr (.inl h)
        · exact .inl h
        · exact .inr (.inr h)
      · rintro (h | h | h)
        · exact .inl (.inr h)
        · exact .inl (.inl h)
        · exact .inr h
  rw [NSet.of, this]
  simp
def NSet.sub (s t : NSet) : Bool := forceN s fun s => forceN t fun t => Nat.beq (Nat.lor s t) t
theorem NSet.sub_mem {s t : NSet} (h : s.sub t = true) {x : Nat} (hx : x ∈ s) : x ∈ t := by
  simp only [NSet.sub, forceN_eq] at h
  have e : unionN s t = t := Nat.eq_of_beq_eq_true h
  rw [← e]
  exact mem_unionN.2 (.inl hx)
def NSet.below (n : Nat) (s : NSet) : NSet := forceN n fun n => forceN s fun s => Nat.mod s (Nat.pow 2 n)
theorem mem_below {n x : Nat} {s : NSet} (h : x ∈ s) (hx : x < n) : x ∈ s.below n := by
  have : s.below n = s % 2 ^ n := by unfold NSet.below; rw [forceN_eq, forceN_eq]; rfl
  rw [NSet.mem_def, NSet.has, this, Nat.testBit_mod_two_pow]
  simp [hx]
  exact h

/-- A state: the temporaries, the rows; which of them have been set. -/
structure St where
  tmps : TMap
  rows : Rows
  dt : NSet
  dr : NSet
  gho : List AV := []

def St.setT (S : St) (t : Nat) (v : AV) : St := forceN S.dt fun d => { S with tmps := S.tmps.set t v, dt := addN t d }
theorem St.setT_eq (S : St) (t : Nat) (v : AV) : S.setT t v = { S with tmps := S.tmps.set t v, dt := addN t S.dt } := forceN_eq
def St.putT (S : St) (t : Option Nat) (v : AV) : St := match t with | some t => S.setT t v | none => S

/-- The reading of a state. -/
structure Sim (E : Env) (base : Nat) (w0 : Start) (n : Nat) (X : Cx) (S : St) (a : Act) (w : World) : Prop where
  rows : X.rows = S.rows
  ok : RowsOk base w0 n X w
  size : a.tmps.size = S.tmps.length
  defers : a.defers = []
  tmp : ∀ t v, S.tmps[t]? = some v → v.all (fun q _ => S.rows.okid n q) = true ∧ Rel X v (a.tmps.getD t undef)
  glob : ∀ g s x, E.G g = some ⟨s, x⟩ → GRel X g s x
  gho : AV.allL (fun q _ => S.rows.okid n q) S.gho = true ∧ RelL X S.gho w0.gv

/-- S' comes of S by setting what S' names. -/
structure Agree (S S' : St) : Prop where
  len : S'.tmps.length = S.tmps.length
  tmp : ∀ t, t ∉ S'.dt → S'.tmps[t]? = S.tmps[t]?
  rlen : S.rows.length ≤ S'.rows.length
  row : ∀ r, r < S.rows.length → r ∉ S'.dr → S'.rows.get r = S.rows.get r
  dt : ∀ t, t ∈ S.dt → t ∈ S'.dt
  dr : ∀ r, r ∈ S.dr → r ∈ S'.dr
  gho : S'.gho = S.gho

theorem Agree.refl (S : St) : Agree S S := ⟨rfl, fun _ _ => rfl, Nat.le_refl _, fun _ _ _ => rfl, fun _ h => h, fun _ h => h, rfl⟩
theorem Agree.trans {S S1 S2 : St} (h : Agree S S1) (k : Agree S1 S2) : Agree S S2 where
  len := k.len.trans h.len
  tmp t ht := (k.tmp t ht).trans (h.tmp t fun h' => ht (k.dt t h'))
  rlen := Nat.le_trans h.rlen k.rlen
  row r hr ht := (k.row r (by have := h.rlen; omega) ht).trans (h.row r hr fun h' => ht (k.dr r h'))
  dt t ht := k.dt t (h.dt t ht)
  dr r hr := k.dr r (h.dr r hr)
  gho := k.gho.trans h.gho

theorem Agree.setT (S : St) (t : Nat) (v : AV) : Agree S (S.setT t v) := by
  rw [St.setT_eq]
  exact {
    len := by simp
    tmp := fun u hu => by
      have : u ≠ t := fun e => hu (by rw [e]; exact mem_addN.2 (.inl rfl))
      simp only
      rw [TMap.getElem?_set_ne (by omega)]
    rlen := Nat.le_refl _
    row := fun _ _ _ => rfl
    dt := fun u hu => mem_addN.2 (.inr hu)
    dr := fun _ h => h
    gho := rfl }

theorem Agree.putT (S : St) (t : Option Nat) (v : AV) : Agree S (S.putT t v) := by
  cases t with
  | none => exact Agree.refl S
  | some t => exact Agree.setT S t v

/-! ### Templates of states -/
structure Tmpl where
  ts : List (Nat × AV)
  rs : List (Nat × Option Row)
  len : Nat

def Tmpl.mkT : List (Nat × AV) → TMap → List Sc → TMap × List Sc
  | [], tmps, xs => (tmps, xs)
  | (t, a) :: ts, tmps, xs => mkT ts (tmps.set t (a.fill xs).1) (a.fill xs).2

def Row.fill : Option Row → List Sc → Option Row × List Sc
  | some (.box ts), r => (some (.box (AV.fillL ts r).1), (AV.fillL ts r).2)
  | some (.arr g s _), r => (some (.arr g s ((hd r).toD (.sl s))), tl r)
  | t, r => (t, r)

def Tmpl.mkR : List (Nat × Option Row) → Rows → List Sc → Rows
  | [], rows, xs => rows
  | (r, x) :: rs, rows, xs => mkR rs (rows.set r (Row.fill x xs).1) (Row.fill x xs).2

def resize (rows : Rows) (n : Nat) : Rows := rows.take n ++ List.replicate (n - rows.length) none

def Tmpl.mk' (T : Tmpl) (base : St) (xs : List Sc) : St :=
  { tmps := (mkT T.ts base.tmps xs).1, rows := mkR T.rs (resize base.rows T.len) (mkT T.ts base.tmps xs).2,
    dt := T.ts.foldl (fun l p => forceN p.1 fun x => forceN l fun l => addN x l) base.dt, dr := T.rs.foldl (fun l p => forceN p.1 fun x => forceN l fun l => addN x l) base.dr, gho := base.gho }

/-- The state of a row: its number of growths, its length. -/
def genS (rows : Rows) (r : Nat) : Option (Nat × Nat) := match rows.get r with | some (.arr g _ xs) => some (g, xs.length) | _ => none
def genT (T : Tmpl) (base : Rows) (r : Nat) : Option Nat :=
  match T.rs.lookup r with
  | some (some (.arr g _ _)) => some g
  | some _ => none
  | none => (genS base r).map (·.1)

def Row.coe (gS : Nat → Option (Nat × Nat)) (gT : Nat → Option Nat) : Option Row → Option Row → Option (List Sc)
  | none, _ => some []
  | some (.box ts), some (.box vs) => AV.coeL gS gT ts vs
  | some (.arr _ s _), some (.arr _ s' xs) => if s' = s then some [.d (.sl s') xs] else none
  | some (.arr _ s _), none => some [.d (.sl s) []]
  | _, _ => none

def Tmpl.coeT (gS : Nat → Option (Nat × Nat)) (gT : Nat → Option Nat) (tmps : TMap) : List (Nat × AV) → Option (List Sc)
  | [] => some []
  | (t, a) :: ts => match tmps[t]? with
    | some v => (a.coe gS gT v).bind fun x => (coeT gS gT tmps ts).map (x ++ ·)
    | none => none

def Tmpl.coeR (gS : Nat → Option (Nat × Nat)) (gT : Nat → Option Nat) (rows : Rows) : List (Nat × Option Row) → Option (List Sc)
  | [] => some []
  | (r, x) :: rs => (Row.coe gS gT x (rows.get r)).bind fun y => (coeR gS gT rows rs).map (y ++ ·)

/-- All references lie in the rows. -/
def refsB (len : Nat) (tmps : TMap) (rows : Rows) : Bool :=
  tmps.all (fun v => v.all fun r _ => decide (r < len)) && rows.all fun x => match x with | some (.box cs) => AV.allL (fun r _ => decide (r < len)) cs | _ => true

/-- A reference means on the template's side what it means on the other. -/
def compat (gS : Nat → Option (Nat × Nat)) (rows' : Rows) (r g : Nat) : Bool :=
  match rows'.get r with
  | some (.arr g' _ _) => g != g' || (gS r).map (·.1) == some g
  | _ => true

def compatT (p : Nat → Nat → Bool) (ks : NSet) (m : TMap) : Bool := forceN ks fun ks => m.allI fun i v => NSet.has ks i || v.all p
def compatR (p : Nat → Nat → Bool) (ks : NSet) : Nat → Rows → Bool
  | _, [] => true
  | i, x :: xs => (ks.has i || (match x with | some (.box cs) => AV.allL p cs | _ => true)) && compatR p ks (i + 1) xs

/-- The numbers and data of a state under a template; nothing, where it does not fit. -/
def Tmpl.coe (T : Tmpl) (base S : St) : Option (List Sc) :=
  let gS := genS S.rows
  let gT := genT T base.rows
  (coeT gS gT S.tmps T.ts).bind fun x => (coeR gS gT S.rows T.rs).bind fun y =>
    let xs := x ++ y
    let S' := T.mk' base xs
    if T.rs.all (fun p => decide (p.1 < T.len)) ∧ base.rows.length ≤ T.len ∧ refsB T.len S'.tmps S'.rows ∧
      compatT (compat gS S'.rows) (NSet.of (T.ts.map (·.1))) base.tmps ∧ compatR (compat gS S'.rows) (NSet.of (T.rs.map (·.1))) 0 base.rows ∧
      AV.allL (fun r _ => decide (r < T.len)) base.gho = true ∧ AV.allL (compat gS S'.rows) base.gho = true ∧
      S.dt.sub (NSet.of (T.ts.map (·.1))) ∧ (S.dr.below base.rows.length).sub (NSet.of (T.rs.map (·.1))) then some xs else none

theorem Row.fill_coe {gS : Nat → Option (Nat × Nat)} {gT : Nat → Option Nat} {t x : Option Row} {ys : List Sc} (r : List Sc) (h : Row.coe gS gT t x = some ys) : (Row.fill t (ys ++ r)).2 = r := by
  unfold Row.coe at h
  split at h
  · cases h; simp [Row.fill]
  · simpa [Row.fill] using AV.coeL_len _ _ ys r h
  · split at h <;> cases h; simp [Row.fill]
  · cases h; simp [Row.fill]
  · cases h

theorem coeT_ok {X X' : Cx} {gS : Nat → Option (Nat × Nat)} {gT : Nat → Option Nat} (T : Turn X X' gS gT) {tmps : TMap} : ∀ (ts : List (Nat × AV)) (tmps0 : TMap) (xs r : List Sc),
    Tmpl.coeT gS gT tmps ts = some xs → (Tmpl.mkT ts tmps0 (xs ++ r)).1.length = tmps0.length ∧
      ∀ t v, (Tmpl.mkT ts tmps0 (xs ++ r)).1[t]? = some v → (t ∉ ts.map (·.1) ∧ tmps0[t]? = some v) ∨ ∃ v0, tmps[t]? = some v0 ∧ ∀ u, Rel X v0 u → Rel X' v u
  | [], tmps0, xs, r, h => by
    exact ⟨rfl, fun t v hv => .inl ⟨by simp, hv⟩⟩
  | (t0, a) :: ts, tmps0, xs, r, h => by
    simp only [Tmpl.coeT] at h
    split at h
    · rename_i v0 hv0
      simp only [Option.bind_eq_some_iff, Option.map_eq_some_iff] at h
      obtain ⟨x, h1, y, h2, rfl⟩ := h
      have hlen := AV.coe_len a v0 x (y ++ r) h1
      simp only [Tmpl.mkT, List.append_assoc, hlen]
      obtain ⟨e1, e2⟩ := coeT_ok T ts (tmps0.set t0 (a.fill (x ++ (y ++ r))).1) y r h2
      refine ⟨by rw [e1]; simp, fun t v hv => ?_⟩
      rcases e2 t v hv with ⟨h3, h4⟩ | h3
      · by_cases e : t = t0
        · subst e
          have hlt : t < tmps0.length := by
            have := TMap.getElem?_lt h4
            simpa using this
          rw [TMap.getElem?_set_self hlt] at h4
          cases h4
          exact .inr ⟨v0, hv0, fun u hu => (AV.coe_ok T a v0 x (y ++ r) u h1 hu).2⟩
        · rw [TMap.getElem?_set_ne (by omega)] at h4
          refine .inl ⟨?_, h4⟩
          simp only [List.map_cons, List.mem_cons, not_or]
          exact ⟨e, h3⟩
      · exact .inr h3
    · cases h

theorem coeT_rest {gS : Nat → Option (Nat × Nat)} {gT : Nat → Option Nat} {tmps : TMap} : ∀ (ts : List (Nat × AV)) (tmps0 : TMap) (xs r : List Sc),
    Tmpl.coeT gS gT tmps ts = some xs → (Tmpl.mkT ts tmps0 (xs ++ r)).2 = r
  | [], tmps0, xs, r, h => by cases h; rfl
  | (t0, a) :: ts, tmps0, xs, r, h => by
    simp only [Tmpl.coeT] at h
    split at h
    · rename_i v0 hv0
      simp only [Option.bind_eq_some_iff, Option.map_eq_some_iff] at h
      obtain ⟨x, h1, y, h2, rfl⟩ := h
      simp only [Tmpl.mkT, List.append_assoc, AV.coe_len a v0 x (y ++ r) h1]
      exact coeT_rest ts _ y r h2
    · cases h

theorem mkT_length : ∀ (ts : List (Nat × AV)) (tmps0 : TMap) (xs : List Sc), (Tmpl.mkT ts tmps0 xs).1.length = tmps0.length
  | [], _, _ => rfl
  | (t, a) :: ts, tmps0, xs => by simp only [Tmpl.mkT]; rw [mkT_length]; simp
theorem mkT_other : ∀ (ts : List (Nat × AV)) (tmps0 : TMap) (xs : List Sc) (t : Nat), t ∉ ts.map (·.1) → (Tmpl.mkT ts tmps0 xs).1[t]? = tmps0[t]?
  | [], _, _, _, _ => rfl
  | (t0, a) :: ts, tmps0, xs, t, h => by
    simp only [List.map_cons, List.mem_cons, not_or] at h
    simp only [Tmpl.mkT]
    rw [mkT_other ts _ _ t h.2, TMap.getElem?_set_ne (by omega)]
theorem mkR_length : ∀ (rs : List (Nat × Option Row)) (rows0 : Rows) (xs : List Sc), (Tmpl.mkR rs rows0 xs).length = rows0.length
  | [], _, _ => rfl
  | (r, x) :: rs, rows0, xs => by simp only [Tmpl.mkR]; rw [mkR_length]; simp
theorem mkR_other : ∀ (rs : List (Nat × Option Row)) (rows0 : Rows) (xs : List Sc) (r : Nat), r ∉ rs.map (·.1) → (Tmpl.mkR rs rows0 xs).get r = rows0.get r
  | [], _, _, _, _ => rfl
  | (r0, x) :: rs, rows0, xs, r, h => by
    simp only [List.map_cons, List.mem_cons, not_or] at h
    simp only [Tmpl.mkR]
    rw [mkR_other rs _ _ r h.2]
    unfold Rows.get
    rw [List.getElem?_set_ne (by omega)]

/-- A row of the template's side comes of the row of the other. -/
def RowFrom (gS : Nat → Option (Nat × Nat)) (gT : Nat → Option Nat) (x : Option Row) : Row → Prop
  | .box cs' => ∃ vs ts ys r', x = some (.box vs) ∧ AV.coeL gS gT ts vs = some ys ∧ cs' = (AV.fillL ts (ys ++ r')).1
  | .arr g s xs' => (∃ g0, x = some (.arr g0 s xs')) ∨ (x = none ∧ xs' = [])

theorem coeR_from {gS : Nat → Option (Nat × Nat)} {gT : Nat → Option Nat} {rows : Rows} : ∀ (rs : List (Nat × Option Row)) (rows0 : Rows) (ys r : List Sc),
    Tmpl.coeR gS gT rows rs = some ys → ∀ q x', (Tmpl.mkR rs rows0 (ys ++ r)).get q = some x' → (q ∉ rs.map (·.1) ∧ rows0.get q = some x') ∨ RowFrom gS gT (rows.get q) x'
  | [], rows0, ys, r, h, q, x', hx => .inl ⟨by simp, hx⟩
  | (q0, t) :: rs, rows0, ys, r, h, q, x', hx => by
    simp only [Tmpl.coeR, Option.bind_eq_some_iff, Option.map_eq_some_iff] at h
    obtain ⟨y, h1, z, h2, rfl⟩ := h
    simp only [Tmpl.mkR, List.append_assoc, Row.fill_coe (z ++ r) h1] at hx
    rcases coeR_from rs _ z r h2 q x' hx with ⟨h3, h4⟩ | h3
    · by_cases e : q = q0
      · subst e
        unfold Rows.get at h4
        by_cases hlt : q < rows0.length
        · rw [List.getElem?_set_self hlt] at h4
          simp only [Option.join_some] at h4
          refine .inr ?_
          generalize rows.get q = z0 at h1 ⊢
          unfold Row.coe at h1
          split at h1
          · simp [Row.fill] at h4
          · rename_i ts vs
            simp only [Row.fill, Option.some.injEq] at h4
            subst h4
            exact ⟨vs, ts, y, z ++ r, rfl, h1, rfl⟩
          · split at h1
            · rename_i e
              subst e
              cases h1
              simp only [Row.fill, List.cons_append, hd_cons, tl_cons, Sc.toD_d, Option.some.injEq] at h4
              subst h4
              exact .inl ⟨_, rfl⟩
            · cases h1
          · cases h1
            simp only [Row.fill, List.cons_append, hd_cons, tl_cons, Sc.toD_d, Option.some.injEq] at h4
            subst h4
            exact .inr ⟨rfl, rfl⟩
          · cases h1
        · rw [List.getElem?_eq_none (by simp; omega)] at h4
          cases h4
      · unfold Rows.get at h4
        rw [List.getElem?_set_ne (by omega)] at h4
        refine .inl ⟨?_, h4⟩
        simp only [List.map_cons, List.mem_cons, not_or]
        exact ⟨e, h3⟩
    · exact .inr h3

theorem get_resize (rows : Rows) (n r : Nat) (h : rows.length ≤ n) : (resize rows n).get r = rows.get r := by
  unfold resize Rows.get
  rw [List.take_of_length_le h]
  by_cases hr : r < rows.length
  · rw [List.getElem?_append_left hr]
  · rw [List.getElem?_append_right (by omega), List.getElem?_eq_none (by omega : rows.length ≤ r)]
    by_cases h2 : r - rows.length < n - rows.length
    · rw [List.getElem?_replicate, if_pos h2]; rfl
    · rw [List.getElem?_replicate, if_neg h2]

theorem length_resize (rows : Rows) (n : Nat) (h : rows.length ≤ n) : (resize rows n).length = n := by
  unfold resize
  rw [List.take_of_length_le h, List.length_append, List.length_replicate]; omega

theorem compatT_at {p : Nat → Nat → Bool} {ks : NSet} {m : TMap} (h : compatT p ks m = true) (t : Nat) (v : AV) (hv : m[t]? = some v) (hn : t ∉ ks) : v.all p = true := by
  unfold compatT at h
  rw [forceN_eq] at h
  have := TMap.allI_at (fun _ => by simp [AV.all]) h hv
  simp only [Bool.or_eq_true] at this
  rcases this with h1 | h1
  · exact absurd (show t ∈ ks from h1) hn
  · exact h1

theorem compatR_at {p : Nat → Nat → Bool} {ks : NSet} : ∀ {i : Nat} {rows : Rows}, compatR p ks i rows = true → ∀ (j : Nat) (cs : List AV), Rows.get rows j = some (.box cs) → i + j ∉ ks → AV.allL p cs = true
  | i, [], _, j, cs, hv, _ => by simp [Rows.get] at hv
  | i, a :: rows, h, j, cs, hv, hn => by
    simp only [compatR, Bool.and_eq_true, Bool.or_eq_true] at h
    cases j with
    | zero =>
      simp only [Rows.get, List.getElem?_cons_zero, Option.join_some] at hv
      subst hv
      rcases h.1 with h1 | h1
      · exact absurd (show i ∈ ks from h1) (by simpa using hn)
      · exact h1
    | succ j => exact compatR_at h.2 j cs (by simpa [Rows.get] using hv) (by rw [show i + 1 + j = i + (j + 1) by omega]; exact hn)

theorem refsB_tmp {len : Nat} {tmps : TMap} {rows : Rows} (h : refsB len tmps rows = true) {t : Nat} {v : AV} (hv : tmps[t]? = some v) : v.all (fun r _ => decide (r < len)) = true := by
  simp only [refsB, Bool.and_eq_true] at h
  exact TMap.all_at (by simp [AV.all]) h.1 hv
theorem refsB_row {len : Nat} {tmps : TMap} {rows : Rows} (h : refsB len tmps rows = true) {r : Nat} {cs : List AV} (hv : rows.get r = some (.box cs)) : AV.allL (fun r _ => decide (r < len)) cs = true := by
  simp only [refsB, Bool.and_eq_true, List.all_eq_true] at h
  unfold Rows.get at hv
  cases hr : rows[r]? with
  | none => rw [hr] at hv; cases hv
  | some x =>
    rw [hr] at hv
    simp only [Option.join_some] at hv
    subst hv
    exact h.2 _ (List.mem_of_getElem? hr)

/-- A state that fits a template reads as the template's state. -/
theorem Tmpl.coe_sim {E : Env} {base n : Nat} {w0 : Start} {w : World} {X : Cx} {S S0 : St} {a : Act} {T : Tmpl} {xs : List Sc} (H : Sim E base w0 n X S a w) (hA : Agree S0 S) (h : T.coe S0 S = some xs) :
    ∃ X', Sim E base w0 T.len X' (T.mk' S0 xs) a w ∧ (T.mk' S0 xs).rows.length = T.len := by
  unfold Tmpl.coe at h
  simp only [Option.bind_eq_some_iff] at h
  obtain ⟨x, hx, y, hy, h⟩ := h
  split at h
  · rename_i hc
    obtain ⟨hk, hlen, hrefs, hct, hcr, hgo1, hgo2, hdt, hdr⟩ := hc
    cases h
    simp only [List.all_eq_true, decide_eq_true_eq] at hk
    have hrest := coeT_rest T.ts S0.tmps x y hx
    have hrows : (T.mk' S0 (x ++ y)).rows = Tmpl.mkR T.rs (resize S0.rows T.len) (y ++ []) := by simp [Tmpl.mk', hrest]
    have hrl : (T.mk' S0 (x ++ y)).rows.length = T.len := by rw [hrows, mkR_length, length_resize _ _ hlen]
    -- rows out of the template's names are as they were
    have hsame : ∀ r, r ∉ T.rs.map (·.1) → r < S0.rows.length → S.rows.get r = S0.rows.get r := by
      intro r hr hlt
      refine hA.row r hlt fun hd => ?_
      exact hr (mem_of.1 (NSet.sub_mem hdr (mem_below hd hlt)))
    have hfrom : ∀ r x', (T.mk' S0 (x ++ y)).rows.get r = some x' → (r ∉ T.rs.map (·.1) ∧ S0.rows.get r = some x' ∧ S.rows.get r = some x') ∨ RowFrom (genS S.rows) (genT T S0.rows) (S.rows.get r) x' := by
      intro r x' hr
      rw [hrows] at hr
      rcases coeR_from T.rs _ y [] hy r x' hr with ⟨h1, h2⟩ | h1
      · rw [get_resize _ _ _ hlen] at h2
        have hlt : r < S0.rows.length := by
          rcases Nat.lt_or_ge r S0.rows.length with h | h
          · exact h
          · unfold Rows.get at h2; rw [List.getElem?_eq_none h] at h2; cases h2
        exact .inl ⟨h1, h2, (hsame r h1 hlt).trans h2⟩
      · exact .inr h1
    let X' : Cx := { X with rows := (T.mk' S0 (x ++ y)).rows, φ := fun r => if (S.rows.get r).isSome then X.φ r else none }
    have hφs : ∀ r z, S.rows.get r = some z → X'.φ r = X.φ r := fun r z hz => by simp [X', hz]
    have turn : Turn X X' (genS S.rows) (genT T S0.rows) := by
      refine ⟨rfl, rfl, fun r cs' hr => ?_, fun r g s xs' hr => ?_⟩
      · rcases hfrom r _ hr with ⟨_, _, h3⟩ | ⟨vs, ts, ys, r', h1, _, _⟩
        · exact ⟨⟨cs', by rw [H.rows]; exact h3⟩, hφs r _ h3⟩
        · exact ⟨⟨vs, by rw [H.rows]; exact h1⟩, hφs r _ h1⟩
      · rcases hfrom r _ hr with ⟨_, _, h3⟩ | ⟨g0, h1⟩ | ⟨h1, h2⟩
        · exact .inl ⟨g, xs', by rw [H.rows]; exact h3, rfl, by simp [genS, h3], hφs r _ h3⟩
        · exact .inl ⟨g0, xs', by rw [H.rows]; exact h1, rfl, by simp [genS, h1], hφs r _ h1⟩
        · exact .inr ⟨by simp [genS, h1], by simp [h2], by simp [X', h1]⟩
    have stab : Stab X X' (compat (genS S.rows) X'.rows) := by
      refine ⟨fun _ h => h, fun _ _ => rfl, fun r g _ cs' hr => turn.box r cs' hr, fun r g hp s xs' hr => ?_⟩
      rcases turn.arr r g s xs' hr with ⟨g0, zs, h1, h2, h3, h4⟩ | ⟨h1, _, _⟩
      · have : g0 = g := by
          simp only [compat, hr, h3] at hp
          simpa using hp
        subst this
        exact ⟨zs, h1, h2, h4, fun b o _ c' T' fr' hc' => ⟨c', T', fr', hc', rfl⟩⟩
      · simp only [compat, hr, h1] at hp
        simp at hp
    have hok : ∀ v : AV, v.all (fun r _ => decide (r < T.len)) = true → v.all (fun q _ => (T.mk' S0 (x ++ y)).rows.okid T.len q) = true := fun v hv =>
      AV.all_imp (fun r g h => by simp only [Rows.okid, Bool.or_eq_true]; exact .inl h) v hv
    refine ⟨X', ⟨rfl, ?_, ?_, H.defers, ?_, ?_, ?_⟩, hrl⟩
    · refine ⟨H.ok.heap, H.ok.keeps, H.ok.sub, H.ok.hb, H.ok.fresh, ?_, ?_, ?_, ?_⟩
      · intro r x' hr
        rcases hfrom r x' hr with ⟨h1, h2, h3⟩ | hf
        · have hro := H.ok.row r x' (by rw [H.rows]; exact h3)
          refine RowOk.mono stab (hφs r _ h3) (fun _ _ _ => rfl) x' (fun cs e => ?_) hro
          subst e
          have := compatR_at hcr r cs h2 (by rw [Nat.zero_add]; exact fun h => h1 (mem_of.1 h))
          exact this
        · cases x' with
          | box cs' =>
            obtain ⟨vs, ts, ys, r', h1, h2, rfl⟩ := hf
            have hro := H.ok.row r _ (by rw [H.rows]; exact h1)
            intro b o hbo
            rw [hφs r _ h1] at hbo
            obtain ⟨ho, c, T', hc, hl⟩ := hro b o hbo
            exact ⟨ho, c, T', hc, (AV.coeL_ok turn ts vs ys r' _ h2 hl).2⟩
          | arr g s xs' =>
            rcases hf with ⟨g0, h1⟩ | ⟨h1, h2⟩
            · have hro := H.ok.row r _ (by rw [H.rows]; exact h1)
              have e := hφs r _ h1
              rcases hro with ⟨h3, h4⟩ | ⟨b, o, c, T', h3, h4⟩
              · exact .inl ⟨e.trans h3, h4⟩
              · exact .inr ⟨b, o, c, T', e.trans h3, h4⟩
            · exact .inl ⟨by simp [X', h1], h2⟩
      · intro r x' b o hr hbo
        have : ∃ z, S.rows.get r = some z := by
          rcases hfrom r x' hr with ⟨_, _, h3⟩ | hf
          · exact ⟨_, h3⟩
          · simp only [X'] at hbo
            cases hz : S.rows.get r with
            | none => rw [hz] at hbo; simp at hbo
            | some z => exact ⟨z, rfl⟩
        obtain ⟨z, hz⟩ := this
        rw [hφs r z hz] at hbo
        exact H.ok.own r z b o (by rw [H.rows]; exact hz) hbo
      · intro r r' x1 x2 b o b' o' hr hr' hb hb' e
        have ex : ∀ r b o, X'.φ r = some (b, o) → ∃ z, S.rows.get r = some z := by
          intro r b o hbo
          simp only [X'] at hbo
          cases hz : S.rows.get r with
          | none => rw [hz] at hbo; simp at hbo
          | some z => exact ⟨z, rfl⟩
        obtain ⟨z, hz⟩ := ex r b o hb
        obtain ⟨z', hz'⟩ := ex r' b' o' hb'
        rw [hφs r z hz] at hb
        rw [hφs r' z' hz'] at hb'
        exact H.ok.apart r r' z z' b o b' o' (by rw [H.rows]; exact hz) (by rw [H.rows]; exact hz') hb hb' e
      · intro r cs hr
        exact AV.allL_imp (fun r g h => by simp only [Rows.okid, Bool.or_eq_true]; exact .inl h) cs (refsB_row hrefs hr)
    · rw [H.size, hA.len]
      simp [Tmpl.mk', mkT_length]
    · intro t v hv
      refine ⟨hok v (refsB_tmp hrefs hv), ?_⟩
      obtain ⟨_, h2⟩ := coeT_ok turn T.ts S0.tmps x y hx
      rcases h2 t v hv with ⟨h3, h4⟩ | ⟨v0, h3, h4⟩
      · have hst : S.tmps[t]? = some v := by
          rw [hA.tmp t fun hd => ?_]
          · exact h4
          · exact h3 (mem_of.1 (NSet.sub_mem hdt hd))
        exact Rel.mono stab v _ (compatT_at hct t v h4 (fun h => h3 (mem_of.1 h))) (H.tmp t v hst).2
      · exact h4 _ (H.tmp t v0 h3).2
    · intro g s z hg
      exact H.glob g s z hg
    · have hgo : (T.mk' S0 (x ++ y)).gho = S.gho := hA.gho.symm
      rw [hgo]
      rw [← hA.gho] at hgo1 hgo2
      refine ⟨AV.allL_imp (fun r g h => by simp only [Rows.okid, Bool.or_eq_true]; exact .inl h) _ hgo1, RelL.mono stab _ _ hgo2 H.gho.2⟩
  · cases h

theorem mk'_agree {T : Tmpl} {S0 : St} {xs : List Sc} (hlen : S0.rows.length ≤ T.len) : Agree S0 (T.mk' S0 xs) where
  len := by simp [Tmpl.mk', mkT_length]
  tmp t ht := by
    refine mkT_other _ _ _ t fun h => ht ?_
    simp only [Tmpl.mk']
    have : ∀ (l : List (Nat × AV)) (d : NSet), (t ∈ d ∨ t ∈ l.map (·.1)) → t ∈ l.foldl (fun l p => forceN p.1 fun x => forceN l fun l => addN x l) d := by
      intro l
      induction l with
      | nil => intro d h; simpa using h
      | cons p l ih =>
        intro d h
        refine ih _ ?_
        simp only [List.map_cons, List.mem_cons] at h
        rcases h with h | h | h
        · exact .inl (by simp only [forceN_eq]; exact mem_addN.2 (.inr h))
        · exact .inl (by simp only [forceN_eq]; exact mem_addN.2 (.inl h))
        · exact .inr h
    exact this _ _ (.inr h)
  rlen := by simp only [Tmpl.mk', mkR_length, length_resize _ _ hlen]; exact hlen
  row r hr ht := by
    simp only [Tmpl.mk']
    rw [mkR_other, get_resize _ _ _ hlen]
    intro h
    apply ht
    simp only [Tmpl.mk']
    have : ∀ (l : List (Nat × Option Row)) (d : NSet), (r ∈ d ∨ r ∈ l.map (·.1)) → r ∈ l.foldl (fun l p => forceN p.1 fun x => forceN l fun l => addN x l) d := by
      intro l
      induction l with
      | nil => intro d h; simpa using h
      | cons p l ih =>
        intro d h
        refine ih _ ?_
        simp only [List.map_cons, List.mem_cons] at h
        rcases h with h | h | h
        · exact .inl (by simp only [forceN_eq]; exact mem_addN.2 (.inr h))
        · exact .inl (by simp only [forceN_eq]; exact mem_addN.2 (.inl h))
        · exact .inr h
    exact this _ _ (.inr h)
  dt t ht := by
    simp only [Tmpl.mk']
    have : ∀ (l : List (Nat × AV)) (d : NSet), t ∈ d → t ∈ l.foldl (fun l p => forceN p.1 fun x => forceN l fun l => addN x l) d := by
      intro l
      induction l with
      | nil => intro d h; simpa using h
      | cons p l ih => intro d h; exact ih _ (by simp only [forceN_eq]; exact mem_addN.2 (.inr h))
    exact this _ _ ht
  dr r hr := by
    simp only [Tmpl.mk']
    have : ∀ (l : List (Nat × Option Row)) (d : NSet), r ∈ d → r ∈ l.foldl (fun l p => forceN p.1 fun x => forceN l fun l => addN x l) d := by
      intro l
      induction l with
      | nil => intro d h; simpa using h
      | cons p l ih => intro d h; exact ih _ (by simp only [forceN_eq]; exact mem_addN.2 (.inr h))
    exact this _ _ hr
  gho := rfl
end Go.Proofs.YtnjofponcdcfcaaDoor.Ab
set_option linter.unusedVariables false
set_option linter.all false
namespace Go.Proofs.YtnjofponcdcfcaaDoor.Ab
open Go.RowKit

/-! ### Operands -/
def St.opd (E : Env) (S : St) : Operand → Option (Bool × AV)
  | .tmp t => match S.tmps[t]? with
    | some (.opt c v) => some (c, v)
    | some (.gopt c v) => some (c, v)
    | some .unk => none
    | some v => some (true, v)
    | none => none
  | .const v => (constV v).map fun v => (true, v)
  | .func f => some (true, .clo f [])
  | .global g => match E.G g with | some ⟨s, x⟩ => some (true, .dptr s x 0) | none => none

section
variable {E : Env} {base n : Nat} {w0 : Start} {w : World} {X : Cx} {S : St} {a : Act}

theorem opd_ok (H : Sim E base w0 n X S a w) {x : Operand} {ok : Bool} {v : AV} (h : S.opd E x = some (ok, v)) (hok : ok = true) :
    Rel X v (a.eval x) ∧ v.all (fun q _ => S.rows.okid n q) = true := by
  cases x with
  | tmp t =>
    simp only [St.opd] at h
    split at h
    · rename_i c v' ht
      cases h
      obtain ⟨h1, h2⟩ := H.tmp t _ ht
      simp only [Rel] at h2
      exact ⟨h2 hok, by simpa [AV.all] using h1⟩
    · rename_i c v' ht
      cases h
      obtain ⟨h1, h2⟩ := H.tmp t _ ht
      simp only [Rel] at h2
      exact ⟨h2.1 hok, by simpa [AV.all] using h1⟩
    · cases h
    · rename_i v' _ _ _ ht
      cases h
      exact ⟨(H.tmp t _ ht).2, (H.tmp t _ ht).1⟩
    · cases h
  | const u =>
    simp only [St.opd, Option.map_eq_some_iff, Prod.mk.injEq] at h
    obtain ⟨v', h1, _, rfl⟩ := h
    exact ⟨constV_rel h1, constV_all h1⟩
  | func f =>
    cases h
    exact ⟨by simp only [Rel, RelL]; exact ⟨#[], rfl, rfl⟩, rfl⟩
  | global g =>
    simp only [St.opd] at h
    split at h
    · rename_i s x hg
      cases h
      exact ⟨(H.glob g s x hg).1, rfl⟩
    · cases h

/-- Parts of a struct or slice. -/
def St.parts (E : Env) (S : St) : List (Nat × Operand) → Option (Bool × List (Nat × List AV))
  | [] => some (true, [])
  | (i, x) :: ps => (S.opd E x).bind fun (ok, v) => (cellsAV S.rows v).bind fun cs => (S.parts E ps).map fun (ok', r) => (sAnd ok ok', (i, cs) :: r)

theorem parts_ok (H : Sim E base w0 n X S a w) : ∀ {ps : List (Nat × Operand)} {ok : Bool} {r : List (Nat × List AV)}, S.parts E ps = some (ok, r) → ok = true →
    PartsRel X r (ps.map fun p => (p.1, a.eval p.2)) ∧ ∀ p ∈ r, ∀ c ∈ p.2, c.solid S.rows = true
  | [], ok, r, h, hok => by cases h; exact ⟨.nil, fun p hp => by cases hp⟩
  | (i, x) :: ps, ok, r, h, hok => by
    simp only [St.parts, Option.bind_eq_some_iff, Option.map_eq_some_iff, Prod.exists, Prod.mk.injEq] at h
    obtain ⟨ok1, v, h1, cs, h2, ok2, r2, h3, rfl, rfl⟩ := h
    simp only [Bool.and_eq_true] at hok
    obtain ⟨hr, _⟩ := opd_ok H h1 hok.1
    obtain ⟨ih1, ih2⟩ := parts_ok H h3 hok.2
    refine ⟨.cons i cs _ _ _ (cellsAV_rel H.rows h2 hr).1 ih1, ?_⟩
    intro p hp c hc
    rcases List.mem_cons.1 hp with rfl | hp
    · unfold cellsAV at h2
      split at h2
      · split at h2
        · rename_i hs; cases h2; exact List.all_eq_true.1 hs c hc
        · cases h2
      · split at h2
        · rename_i hs; cases h2
          simp only [List.mem_singleton] at hc
          rw [hc]; exact hs
        · cases h2
    · exact ih2 p hp c hc
end

/-! ### Two values meet -/
mutual
def AV.join (gT : Nat → Option Nat) : AV → AV → AV
  | .bool x, .bool _ => .bool x
  | .int k x, .int k' _ => if k = k' then .int k x else .unk
  | .str x, .str _ => .str x
  | .nilp, .nilp => .nilp
  | .nilf, .nilf => .nilf
  | .nili, .nili => .nili
  | .nils, .nils => .nils
  | .dsl e x, .dsl e' _ => if e = e' then .dsl e x else .unk
  | .dsl e x, .nils => .dsl e x
  | .nils, .dsl e x => .dsl e x
  | .dptr s x off, .dptr s' _ off' => if s = s' ∧ off = off' then .dptr s x off else .unk
  | .ptr r off, .ptr r' off' => if r = r' ∧ off = off' then .ptr r off else .unk
  | .bsl r off l c, .bsl r' off' l' c' => if r = r' ∧ (off = off' ∧ (l = l' ∧ c = c')) then .bsl r off l c else .unk
  | .eptr r _ i off, .eptr r' _ _ off' => if r = r' ∧ off = off' then .eptr r ((gT r).getD 0) i off else .unk
  | .own r _, .own r' _ => if r = r' then .own r ((gT r).getD 0) else .unk
  | .own r _, .nils => .own r ((gT r).getD 0)
  | .nils, .own r _ => .own r ((gT r).getD 0)
  | .own r _, .osl r' _ _ _ => if r = r' then .osl r ((gT r).getD 0) 0 0 else .unk
  | .osl r _ _ _, .own r' _ => if r = r' then .osl r ((gT r).getD 0) 0 0 else .unk
  | .osl r _ _ _, .osl r' _ _ _ => if r = r' then .osl r ((gT r).getD 0) 0 0 else .unk
  | .agg ts, .agg vs => if ts.length = vs.length then .agg (AV.joinL gT ts vs) else .unk
  | .tup ts, .tup vs => if ts.length = vs.length then .tup (AV.joinL gT ts vs) else .unk
  | .iface t a, .iface t' b => if t = t' then .iface t (a.join gT b) else .unk
  | .clo f ts, .clo f' vs => if f = f' ∧ ts.length = vs.length then .clo f (AV.joinL gT ts vs) else .unk
  | _, _ => .unk
def AV.joinL (gT : Nat → Option Nat) : List AV → List AV → List AV
  | t :: ts, v :: vs => t.join gT v :: AV.joinL gT ts vs
  | _, _ => []
end

theorem Turn.refl (X : Cx) : Turn X X (genS X.rows) (fun r => (genS X.rows r).map (·.1)) := by
  refine ⟨rfl, rfl, fun r cs' h => ⟨⟨cs', h⟩, rfl⟩, fun r g s xs' h => .inl ⟨g, xs', h, rfl, by simp [genS, h], rfl⟩⟩

/-- One of two values. -/
def pickAV (rows : Rows) (c : Bool) (x y : AV) : Option AV :=
  let gS := genS rows
  let gT := fun r => (genS rows r).map (·.1)
  let t := x.join gT y
  (t.coe gS gT x).bind fun xs => (t.coe gS gT y).bind fun ys => if xs.length = ys.length then some (t.fill (mixL c xs ys)).1 else none

theorem pickAV_ok {X : Cx} {c : Bool} {x y r : AV} {u : Value} (h : pickAV X.rows c x y = some r) (hx : c = true → Rel X x u) (hy : c = false → Rel X y u) : Rel X r u := by
  simp only [pickAV, Option.bind_eq_some_iff] at h
  obtain ⟨xs, h1, ys, h2, h3⟩ := h
  split at h3
  · rename_i hl
    cases h3
    cases c with
    | true =>
      rw [mixL_true hl]
      have := AV.coe_ok (Turn.refl X) _ x xs [] u h1 (hx rfl)
      simpa using this.2
    | false =>
      rw [mixL_false hl]
      have := AV.coe_ok (Turn.refl X) _ y ys [] u h2 (hy rfl)
      simpa using this.2
  · cases h3

/-! ### Quiet operations: they make a value, maybe a new row; no row that is there turns -/
def addrOfSome : AV → Bool
  | .ptr _ _ | .dptr _ _ _ | .eptr _ _ _ _ => true
  | _ => false

/-- An operand that may be missing. -/
def St.opdO (S : St) (E : Env) : Option Operand → Option (Bool × Option AV)
  | none => some (true, none)
  | some x => (S.opd E x).map fun (ok, v) => (ok, some v)

/-- Of a builtin that makes nothing. -/
def quietB (E : Env) (S : St) (c : Call) : Option (Bool × AV × Option Row) :=
  match c.callee with
  | .builtin .len => match c.args.toList, c.argTypes.toList with
    | [x], [t] => (S.opd E x).bind fun (ok, v) => match E.P.underlying t with
      | some (.slice _) => (lenAV S.rows v).map fun (k : Nat) => (ok, AV.int .i64 (k : Int), none)
      | some .string => match v with | .str s => some (ok, AV.int .i64 (s.size : Int), none) | _ => none
      | _ => none
    | _, _ => none
  | _ => none

/-- A byte of a text. -/
def byteAt (s : ByteArray) (i : Nat) : Int := ((s.data.toList.getD i 0).toNat : Int)
/-- Of an operation that calls nothing: that it goes well, its value, a row that it makes. -/
def quiet (E : Env) (S : St) (n id : Nat) (op : Op) : Option (Bool × AV × Option Row) :=
  let P := E.P
  match op with
  | .move x | .assign x => (S.opd E x).map fun (ok, v) => (ok, v, none)
  | .pick c x y => match S.opd E c, S.opd E x, S.opd E y with
    | some (okc, .bool b), some (okx, vx), some (oky, vy) => (pickAV S.rows b vx vy).map fun v => (sAnd okc (sIf b okx oky), v, none)
    | _, _, _ => none
  | .alloc t => (zeroAV P t).map fun zs => (true, .ptr id 0, some (.box zs))
  | .box _ x => (S.opd E x).bind fun (ok, v) => (cellsAV S.rows v).bind fun cs =>
      if AV.allL (fun q _ => S.rows.okid n q) cs then some (ok, .ptr id 0, some (.box cs)) else none
  | .build t ps => (S.parts E ps.toList).bind fun (ok, r) => (qBuild P t r).map fun v => (ok, v, none)
  | .buildSlice t len ps => (S.parts E ps.toList).bind fun (ok, r) => match qBuildSlice P t len r with
    | some row => some (ok, .own id 0, some row)
    | none => (qBuildRefs P S.rows n t len r).map fun cs => (ok, .bsl id 0 len len, some (.box cs))
  | .load t x => (S.opd E x).bind fun (ok, p) => (behind S.rows p).bind fun (cs, off) => (takeT P t cs off).map fun v => (ok, v, none)
  | .nilCheck x => (S.opd E x).bind fun (ok, p) => (behind S.rows p).map fun _ => (ok, p, none)
  | .binOp op t x y _ => match S.opd E x, S.opd E y with
    | some (okx, vx), some (oky, vy) => (qBin P op t vx vy).map fun (ok, v) => (sAnd (sAnd okx oky) ok, v, none)
    | _, _ => none
  | .unOp op _ x => (S.opd E x).bind fun (ok, v) => (qUn op v).map fun v => (ok, v, none)
  | .convert src dst x => (S.opd E x).bind fun (ok, v) => (qConv P src dst v).map fun v => (ok, v, none)
  | .fieldAddr s x f => (S.opd E x).bind fun (ok, p) => (qField P S.rows s f p).map fun v => (ok, v, none)
  | .indexAddr t x i => match S.opd E x, S.opd E i with
    | some (okx, p), some (oki, .int _ k) => (qIndex P S.rows t p k).map fun (ok, v) => (sAnd (sAnd okx oki) ok, v, none)
    | _, _ => none
  | .slice t x lo hi none => (S.opd E x).bind fun (ok, p) => (S.opdO E lo).bind fun (okl, la) => (S.opdO E hi).bind fun (okh, ha) => (bndAV la).bind fun l => (bndAV ha).bind fun h =>
      (qSlice P S.rows t p l h).map fun (ok2, v) => (sAnd (sAnd ok (sAnd okl okh)) ok2, v, none)
  | .extract x i => (S.opd E x).bind fun (ok, v) => match v with
    | .tup vs => (vs[i]?).map fun v => (ok, v, none)
    | _ => none
  | .call c => quietB E S c
  | .index t x i => match S.opd E x, S.opd E i, E.P.underlying t with
    | some (okx, .str s), some (oki, .int _ k), some .string => some (sAnd (sAnd okx oki) (sAnd (sLe 0 k) (sLt k (s.size : Int))), .int .u8 (byteAt s k.toNat), none)
    | some (okx, .agg cs), some (oki, .int _ k), some (.array len e) => (P.info? e).bind fun x => (takeT P e cs (k.toNat * x.size)).map fun v => (sAnd (sAnd okx oki) (sAnd (sLe 0 k) (sLt k (len : Int))), v, none)
    | _, _, _ => none
  | .makeSlice t l c => match S.opd E l, S.opd E c with
    | some (okl, .int _ kl), some (okc, .int _ kc) => (qMake E.P t kl kc).map fun (ok, row) => (sAnd (sAnd okl okc) ok, .own id 0, some row)
    | _, _ => none
  | _ => none

/-- References of the value of a quiet operation. -/
def okRefs (rows : Rows) (n id : Nat) (v : AV) (new : Option Row) : Bool :=
  v.all fun q _ => rows.okid n q || (new.isSome && q == id)

section
variable {E : Env} {base n : Nat} {w0 : Start} {w : World} {X : Cx} {S : St} {a : Act}

theorem quietB_ok (H : Sim E base w0 n X S a w) {c : Call} {id : Nat} {dst : Option Tmp} {ty : TypeId} {pos : String} {after : Array Edge} {guard : Option (Nat × Bool)} {ok : Bool} {v : AV} {new : Option Row}
    (h : quietB E S c = some (ok, v, new)) (hok : ok = true) :
    ∃ val, (execOp a.eval { dst, op := .call c, type := ty, pos, after, guard }).run E.P w = .ok (.value val) w ∧ QPost X w id v new val w := by
  have same : ∀ {v : AV} {val : Value}, Rel X v val → QPost X w id v none val w := fun h => QPost.same H.ok h
  obtain ⟨callee, args, argTypes⟩ := c
  obtain ⟨args⟩ := args
  obtain ⟨argTypes⟩ := argTypes
  unfold quietB at h
  split at h
  · rename_i hcal
    simp only at hcal
    subst hcal
    split at h
    · rename_i x t ha ht
      simp only at ha ht
      subst ha ht
      simp only [Option.bind_eq_some_iff, Prod.exists] at h
      obtain ⟨ok', p, h1, h2⟩ := h
      split at h2
      · rename_i et ht
        simp only [Option.map_eq_some_iff, Prod.mk.injEq] at h2
        obtain ⟨k, hk, rfl, rfl, rfl⟩ := h2
        obtain ⟨q, cap, hu⟩ := lenAV_ok (X := X) (by rw [H.rows]; exact hk) (opd_ok H h1 hok).1
        exact ⟨.int .i64 k, by simp [execOp, resolve, invoke, BigFrame.builtin_len, Builtin.len_, run_underlying ht, hu, goInt], same (by simp only [Rel])⟩
      · rename_i ht
        split at h2
        · rename_i str
          simp only [Option.some.injEq, Prod.mk.injEq] at h2
          obtain ⟨rfl, rfl, rfl⟩ := h2
          have hr := (opd_ok H h1 hok).1
          simp only [Rel] at hr
          exact ⟨.int .i64 str.size, by simp [execOp, resolve, invoke, BigFrame.builtin_len, Builtin.len_, run_underlying ht, hr, goInt], same (by simp only [Rel])⟩
        · cases h2
      · cases h2
    · cases h
  · cases h

theorem opdO_ok (H : Sim E base w0 n X S a w) {x : Option Operand} {ok : Bool} {v : Option AV} {l : Option Int} (h : S.opdO E x = some (ok, v)) (hok : ok = true) (hb : bndAV v = some l) : BndRel v (x.map a.eval) := by
  cases x with
  | none => cases h; exact .inl ⟨rfl, rfl⟩
  | some x =>
    simp only [St.opdO, Option.map_eq_some_iff, Prod.exists, Prod.mk.injEq] at h
    obtain ⟨ok', v', h1, rfl, rfl⟩ := h
    have hr := (opd_ok H h1 hok).1
    cases v' <;> simp only [bndAV, reduceCtorEq] at hb
    simp only [Rel] at hr
    exact .inr ⟨_, _, rfl, by rw [Option.map_some, hr]⟩

theorem quiet_ok (H : Sim E base w0 n X S a w) {id : Nat} (hid : n ≤ id) (hno : S.rows.get id = none) {op : Op} {dst : Option Tmp} {ty : TypeId} {pos : String} {after : Array Edge} {guard : Option (Nat × Bool)} {ok : Bool} {v : AV} {new : Option Row}
    (h : quiet E S n id op = some (ok, v, new)) (hok : ok = true) :
    ∃ val w', (execOp a.eval { dst, op, type := ty, pos, after, guard }).run E.P w = .ok (.value val) w' ∧ QPost X w id v new val w' := by
  have hno' : X.rows.get id = none := by rw [H.rows]; exact hno
  have same : ∀ {v : AV} {val : Value}, Rel X v val → QPost X w id v none val w := fun h => QPost.same H.ok h
  unfold quiet at h
  split at h
  · rename_i x
    simp only [Option.map_eq_some_iff, Prod.exists, Prod.mk.injEq] at h
    obtain ⟨ok', v', h1, rfl, rfl, rfl⟩ := h
    exact ⟨_, w, rfl, same (opd_ok H h1 hok).1⟩
  · rename_i x
    simp only [Option.map_eq_some_iff, Prod.exists, Prod.mk.injEq] at h
    obtain ⟨ok', v', h1, rfl, rfl, rfl⟩ := h
    exact ⟨_, w, rfl, same (opd_ok H h1 hok).1⟩
  · rename_i c x y
    split at h
    · rename_i okc b okx vx oky vy hc hx hy
      simp only [Option.map_eq_some_iff, Prod.mk.injEq] at h
      obtain ⟨v', hp, h1, rfl, rfl⟩ := h
      subst h1
      simp only [Bool.and_eq_true] at hok
      obtain ⟨hok1, hok2⟩ := hok
      have hb := (opd_ok H hc hok1).1
      simp only [Rel] at hb
      refine ⟨if b then a.eval x else a.eval y, w, ?_, same (pickAV_ok (by rw [H.rows]; exact hp) (fun e => ?_) (fun e => ?_))⟩
      · simp only [execOp, hb, asBool]
        rfl
      · subst e; exact (opd_ok H hx hok2).1
      · subst e; exact (opd_ok H hy hok2).1
    · cases h
  · rename_i t
    simp only [Option.map_eq_some_iff, Prod.mk.injEq] at h
    obtain ⟨zs, hz, _, rfl, rfl⟩ := h
    obtain ⟨z, hzr, hzrel, _⟩ := zeroAV_run (X := X) (w := w) hz
    have hzs : AV.allL (fun q _ => X.rows.okid n q) zs = true := by
      unfold zeroAV at hz
      split at hz
      · split at hz
        · split at hz
          · exact constL_all hz
          · cases hz
        · cases hz
      · cases hz
    exact ⟨_, _, by simp [execOp, Instr.alloc, hzr, newVar, newRow], box_post H.ok hid hno' t hzrel hzs⟩
  · rename_i t x
    simp only [Option.bind_eq_some_iff, Prod.exists] at h
    obtain ⟨ok', v', h1, cs, h2, h3⟩ := h
    split at h3
    · rename_i hrefs
      simp only [Option.some.injEq, Prod.mk.injEq] at h3
      obtain ⟨rfl, rfl, rfl⟩ := h3
      have hr := (opd_ok H h1 hok).1
      exact ⟨_, _, by simp [execOp, Instr.box, newVar, newRow], box_post H.ok hid hno' t (cellsAV_rel H.rows h2 hr).1 (by rw [H.rows]; exact hrefs)⟩
    · cases h3
  · rename_i t ps
    simp only [Option.bind_eq_some_iff, Option.map_eq_some_iff, Prod.exists, Prod.mk.injEq] at h
    obtain ⟨ok', r, h1, v', h2, rfl, rfl, rfl⟩ := h
    obtain ⟨hp, _⟩ := parts_ok H h1 hok
    obtain ⟨val, hrun, hrel⟩ := build_ok (P := E.P) (X := X) (w := w) (qs := ps.map fun p => (p.1, a.eval p.2)) h2 (by rw [Array.toList_map]; exact hp)
    exact ⟨val, w, by simp [execOp, hrun], same hrel⟩
  · rename_i t len ps
    simp only [Option.bind_eq_some_iff, Prod.exists] at h
    obtain ⟨ok', r, h1, h⟩ := h
    split at h
    rotate_left
    · simp only [Option.map_eq_some_iff, Prod.mk.injEq] at h
      obtain ⟨cs, h2, rfl, rfl, rfl⟩ := h
      obtain ⟨hp, _⟩ := parts_ok H h1 hok
      obtain ⟨val, w', hrun, hpost⟩ := buildRefs_ok (P := E.P) H.ok hid hno' (qs := ps.map fun p => (p.1, a.eval p.2)) (by rw [H.rows]; exact h2) (by rw [Array.toList_map]; exact hp)
      exact ⟨val, w', by simp [execOp, hrun], hpost⟩
    rename_i row h2
    simp only [Option.some.injEq, Prod.mk.injEq] at h
    obtain ⟨rfl, rfl, rfl⟩ := h
    obtain ⟨hp, _⟩ := parts_ok H h1 hok
    obtain ⟨val, w', hrun, hpost⟩ := buildSlice_ok (P := E.P) H.ok hid hno' (qs := ps.map fun p => (p.1, a.eval p.2)) h2 (by rw [Array.toList_map]; exact hp)
    exact ⟨val, w', by simp [execOp, hrun], hpost⟩
  · rename_i t x
    simp only [Option.bind_eq_some_iff, Option.map_eq_some_iff, Prod.exists, Prod.mk.injEq] at h
    obtain ⟨ok', p, h1, cs, off, h2, v', h3, rfl, rfl, rfl⟩ := h
    have hr := (opd_ok H h1 hok).1
    obtain ⟨b, o, vs, hu, hl, hc⟩ := behind_at H.ok (by rw [H.rows]; exact h2) hr
    obtain ⟨val, hrun, hrel⟩ := run_loadVar_of h3 hl hc
    exact ⟨val, w, by simp [execOp, hu, Instr.loadAt, Instr.sureAddr, hrun], same hrel⟩
  · rename_i x
    simp only [Option.bind_eq_some_iff, Option.map_eq_some_iff, Prod.exists, Prod.mk.injEq] at h
    obtain ⟨ok', p, h1, cs, off, h2, rfl, rfl, rfl⟩ := h
    have hr := (opd_ok H h1 hok).1
    obtain ⟨b, o, vs, hu, hl, hc⟩ := behind_at H.ok (by rw [H.rows]; exact h2) hr
    exact ⟨.pointer (some ⟨b, o + off, none⟩), w, by simp [execOp, hu], same (by rw [← hu]; exact hr)⟩
  · rename_i op t x y yt
    split at h
    · rename_i okx vx oky vy hx hy
      simp only [Option.map_eq_some_iff, Prod.exists, Prod.mk.injEq] at h
      obtain ⟨ok', v', hb, h1, rfl, rfl⟩ := h
      subst h1
      simp only [Bool.and_eq_true] at hok
      obtain ⟨val, hrun, hrel⟩ := bin_ok (P := E.P) (w := w) x y hb hok.2 (opd_ok H hx hok.1.1).1 (opd_ok H hy hok.1.2).1
      exact ⟨val, w, by simp only [execOp, Sem.run_bind, Result.andThen_ok] at hrun ⊢; rw [hrun]; rfl, same hrel⟩
    · cases h
  · rename_i op t x
    simp only [Option.bind_eq_some_iff, Option.map_eq_some_iff, Prod.exists, Prod.mk.injEq] at h
    obtain ⟨ok', p, h1, v', h2, rfl, rfl, rfl⟩ := h
    obtain ⟨val, hrun, hrel⟩ := un_ok (P := E.P) (w := w) h2 (opd_ok H h1 hok).1
    exact ⟨val, w, by simp [execOp, hrun], same hrel⟩
  · rename_i src dst x
    simp only [Option.bind_eq_some_iff, Option.map_eq_some_iff, Prod.exists, Prod.mk.injEq] at h
    obtain ⟨ok', p, h1, v', h2, rfl, rfl, rfl⟩ := h
    obtain ⟨val, hrun, hrel⟩ := conv_ok (P := E.P) (w := w) h2 (opd_ok H h1 hok).1
    exact ⟨val, w, by simp [execOp, hrun], same hrel⟩
  · rename_i s x f
    simp only [Option.bind_eq_some_iff, Option.map_eq_some_iff, Prod.exists, Prod.mk.injEq] at h
    obtain ⟨ok', p, h1, v', h2, rfl, rfl, rfl⟩ := h
    obtain ⟨val, hrun, hrel⟩ := field_ok (P := E.P) (w := w) (X := X) (by rw [H.rows]; exact h2) (opd_ok H h1 hok).1
    exact ⟨val, w, by simp [execOp, hrun], same hrel⟩
  · rename_i t x i
    split at h
    · rename_i okx p oki kd k hx hi
      simp only [Option.map_eq_some_iff, Prod.exists, Prod.mk.injEq] at h
      obtain ⟨ok', v', hb, h1, rfl, rfl⟩ := h
      subst h1
      simp only [Bool.and_eq_true] at hok
      have hiv := (opd_ok H hi hok.1.2).1
      simp only [Rel] at hiv
      obtain ⟨val, hrun, hrel⟩ := index_ok (P := E.P) H.ok (by rw [H.rows]; exact hb) hok.2 (opd_ok H hx hok.1.1).1 (k := kd)
      exact ⟨val, w, by simp [execOp, hiv, hrun], same hrel⟩
    · cases h
  · rename_i t x lo hi
    simp only [Option.bind_eq_some_iff, Option.map_eq_some_iff, Prod.exists, Prod.mk.injEq] at h
    obtain ⟨ok', p, h1, okl, la, hl, okh, ha, hh, l, hbl, h', hbh, ok2, v', hq, h3, rfl, rfl⟩ := h
    subst h3
    simp only [Bool.and_eq_true] at hok
    obtain ⟨val, hrun, hrel⟩ := slice_ok (P := E.P) (X := X) (w := w) (opdO_ok H hl hok.1.2.1 hbl) (opdO_ok H hh hok.1.2.2 hbh) hbl hbh (by rw [H.rows]; exact hq) hok.2 (opd_ok H h1 hok.1.1).1
    exact ⟨val, w, by simp only [execOp, Option.map_none]; rw [Sem.run_bind, hrun]; rfl, same hrel⟩
  · rename_i x i
    simp only [Option.bind_eq_some_iff, Prod.exists] at h
    obtain ⟨ok', p, h1, h2⟩ := h
    split at h2
    · rename_i vs
      simp only [Option.map_eq_some_iff, Prod.mk.injEq] at h2
      obtain ⟨v', hv, rfl, rfl, rfl⟩ := h2
      have hr := (opd_ok H h1 hok).1
      simp only [Rel] at hr
      obtain ⟨us, hu, hl⟩ := hr
      obtain ⟨u, hu', hrel⟩ := RelL.get i _ hl hv
      exact ⟨u, w, by simp [execOp, hu, Instr.extract, show us[i]? = some u by simpa using hu'], same hrel⟩
    · cases h2
  · rename_i c
    obtain ⟨val, hrun, hpost⟩ := quietB_ok (id := id) H h hok
    exact ⟨val, w, hrun, hpost⟩
  · rename_i t x i
    simp only at h
    split at h
    · rename_i okx s oki kd k hx hi ht
      cases h
      simp only [Bool.and_eq_true, decide_eq_true_eq] at hok
      have hxv := (opd_ok H hx hok.1.1).1
      have hiv := (opd_ok H hi hok.1.2).1
      simp only [Rel] at hxv hiv
      have hlt : k.toNat < s.size := by omega
      have e : s[k.toNat]? = some s[k.toNat] := getElem?_pos s k.toNat hlt
      have e2 : byteAt s k.toNat = (s[k.toNat].toNat : Int) := by
        unfold byteAt
        rw [List.getD_eq_getElem?_getD, List.getElem?_eq_getElem (by simpa using hlt)]
        rfl
      exact ⟨.int .u8 (byteAt s k.toNat), w, by simp [execOp, hxv, hiv, Instr.index, asIntOf, run_underlying ht, hok.2.1, e, e2], same (by simp only [Rel])⟩
    · rename_i okx cs oki kd k len el hx hi ht
      simp only [Option.bind_eq_some_iff, Option.map_eq_some_iff, Prod.mk.injEq] at h
      obtain ⟨inf, hinf, v', htk, h1, rfl, rfl⟩ := h
      subst h1
      simp only [Bool.and_eq_true, decide_eq_true_eq] at hok
      have hxv := (opd_ok H hx hok.1.1).1
      have hiv := (opd_ok H hi hok.1.2).1
      simp only [Rel] at hxv hiv
      obtain ⟨vs, hxv, hl⟩ := hxv
      obtain ⟨u, hu, hrel⟩ := run_part_of (w := w) htk hl
      have hs : sizeIs E.P el inf.size = true := by unfold sizeIs; rw [hinf]; simp
      exact ⟨u, w, by simp [execOp, hxv, hiv, Instr.index, asIntOf, run_underlying ht, hok.2.1, hok.2.2, run_sizeOf hs, hu], same hrel⟩
    · cases h
  · rename_i t l c
    simp only at h
    split at h
    · rename_i okl kl l' okc kc c' hl hc
      simp only [Option.map_eq_some_iff, Prod.exists, Prod.mk.injEq] at h
      obtain ⟨ok', row, hq, h1, rfl, rfl⟩ := h
      subst h1
      simp only [Bool.and_eq_true] at hok
      have hlv := (opd_ok H hl hok.1.1).1
      have hcv := (opd_ok H hc hok.1.2).1
      simp only [Rel] at hlv hcv
      obtain ⟨val, w', hrun, hpost⟩ := makeSlice_ok (P := E.P) H.ok hid hno' (k1 := kl) (k2 := kc) hq hok.2
      exact ⟨val, w', by simp [execOp, hlv, hcv, hrun], hpost⟩
    · cases h
  · cases h
end
end Go.Proofs.YtnjofponcdcfcaaDoor.Ab
set_option linter.unusedVariables false
set_option linter.all false
namespace Go.Proofs.YtnjofponcdcfcaaDoor.Ab
open Go.RowKit

/-! ### Behind a quiet operation -/
def St.after (S : St) (dst : Option Tmp) (v : AV) (id : Nat) (new : Option Row) : St :=
  (match new with | some row => { S with rows := S.rows.put id row } | none => S).putT dst v

def okNew (rows : Rows) (n : Nat) (new : Option Row) : Bool := match new with | some (.box cs) => AV.allL (fun q _ => rows.okid n q) cs | _ => true

theorem St.after_rows (S : St) (dst : Option Tmp) (v : AV) (id : Nat) (new : Option Row) : (S.after dst v id new).rows = match new with | some row => S.rows.put id row | none => S.rows := by
  unfold St.after
  cases new <;> cases dst <;> first | rfl | (simp only [St.putT]; rw [St.setT_eq])
theorem St.after_tmps (S : St) (dst : Option Tmp) (v : AV) (id : Nat) (new : Option Row) : (S.after dst v id new).tmps = match dst with | some t => S.tmps.set t v | none => S.tmps := by
  unfold St.after
  cases new <;> cases dst <;> first | rfl | (simp only [St.putT]; rw [St.setT_eq])

theorem St.after_gho (S : St) (dst : Option Tmp) (v : AV) (id : Nat) (new : Option Row) : (S.after dst v id new).gho = S.gho := by
  unfold St.after
  cases new <;> cases dst <;> first | rfl | (simp only [St.putT]; rw [St.setT_eq])

theorem put_size (a : Act) (dst : Option Tmp) (v : Value) : (a.put dst v).tmps.size = a.tmps.size := by cases dst <;> simp [Act.put]
theorem put_defers (a : Act) (dst : Option Tmp) (v : Value) : (a.put dst v).defers = a.defers := by cases dst <;> rfl

section
variable {E : Env} {base n : Nat} {w0 : Start} {w w' : World} {X X' : Cx} {S : St} {a : Act}

/-- A state whose context has turned stably; one temporary is set. -/
theorem Sim.turn (H : Sim E base w0 n X S a w) (R : RowsOk base w0 n X' w') {S' : St} (hrows : X'.rows = S'.rows) {dst : Option Tmp} {v : AV} {val : Value}
    (hst : Stab X X' (fun q _ => X.rows.okid n q)) (htm : S'.tmps = match dst with | some t => S.tmps.set t v | none => S.tmps)
    (hok : ∀ q, S.rows.okid n q = true → S'.rows.okid n q = true) (hgh : S'.gho = S.gho)
    (hv : dst ≠ none → v.all (fun q _ => S'.rows.okid n q) = true ∧ Rel X' v val) : Sim E base w0 n X' S' (a.put dst val) w' where
  rows := hrows
  ok := R
  size := by rw [put_size, H.size, htm]; cases dst <;> simp
  defers := by rw [put_defers]; exact H.defers
  tmp t u hu := by
    have old : ∀ u, S.tmps[t]? = some u → u.all (fun q _ => S'.rows.okid n q) = true ∧ Rel X' u (a.tmps.getD t undef) := by
      intro u hu
      obtain ⟨h1, h2⟩ := H.tmp t u hu
      exact ⟨AV.all_imp (fun q _ h => hok q h) u h1, Rel.mono hst u _ (by rw [H.rows]; exact h1) h2⟩
    rw [htm] at hu
    cases dst with
    | none => exact old u hu
    | some d =>
      simp only at hu
      by_cases e : t = d
      · subst e
        have hlt : t < S.tmps.length := by
          have := TMap.getElem?_lt hu
          simpa using this
        rw [TMap.getElem?_set_self hlt] at hu
        cases hu
        refine ⟨(hv (by simp)).1, ?_⟩
        have : (a.put (some t) val).tmps.getD t undef = val := by
          have hs : t < a.tmps.size := by rw [H.size]; exact hlt
          simp [Act.put, hs]
        rw [this]
        exact (hv (by simp)).2
      · rw [TMap.getElem?_set_ne (by omega)] at hu
        have : (a.put (some d) val).tmps.getD t undef = a.tmps.getD t undef := by
          simp [Act.put, Array.getElem?_setIfInBounds_ne (show d ≠ t from fun h => e h.symm)]
        rw [this]
        exact old u hu
  glob g s x hg := by
    exact GRel.mono hst (H.glob g s x hg)
  gho := by
    rw [hgh]
    exact ⟨AV.allL_imp (fun q _ h => hok q h) _ H.gho.1, RelL.mono hst _ _ (by rw [H.rows]; exact H.gho.1) H.gho.2⟩

theorem Sim.after (H : Sim E base w0 n X S a w) {id : Nat} (hid : n ≤ id) (hno : S.rows.get id = none) {dst : Option Tmp} {v : AV} {new : Option Row} {val : Value}
    (hp : QPost X w id v new val w') (hr : okRefs S.rows n id v new = true) (hn : okNew S.rows n new = true) : ∃ X', Sim E base w0 n X' (S.after dst v id new) (a.put dst val) w' := by
  obtain ⟨F', loc, hw, h1, h2, h3, hpost⟩ := hp
  have R1 := RowsOk.grow H.ok hw h1 h2 h3
  have S1 := Stab.grow H.ok hw h1
  cases new with
  | none =>
    refine ⟨_, Sim.turn (S' := S.after dst v id none) H R1 (by rw [St.after_rows]; exact H.rows) ⟨S1.F, S1.heap, fun r g _ => S1.box r g rfl, fun r g _ => S1.arr r g rfl⟩ (St.after_tmps ..) (fun q h => by rw [St.after_rows]; exact h) (St.after_gho ..) (fun _ => ⟨?_, hpost⟩)⟩
    rw [St.after_rows]
    exact AV.all_imp (fun q g h => by simpa [okRefs] using h) v hr
  | some row =>
    obtain ⟨p1, p2, p3⟩ := hpost
    have hno' : X.rows.get id = none := by rw [H.rows]; exact hno
    have R2 := RowsOk.claim R1 hid (loc := loc) (x := row) hno' (fun b o e => ⟨Nat.le_trans H.ok.hb (p2 b o e).1, (p2 b o e).2, fun r y b' o' hy hb' => by
      have := H.ok.lt hy hb'
      have := (p2 b o e).1
      omega⟩) p1 (fun cs e => by subst e; rw [show ({ X with F := F', heap := w'.heap } : Cx).rows = S.rows from H.rows]; exact hn)
    have S2 := Stab.claim (X := { X with F := F', heap := w'.heap }) (n := n) (id := id) (x := row) (loc := loc) hid hno'
    have hST : Stab X (Cx.claim { X with F := F', heap := w'.heap } id row loc) (fun q _ => X.rows.okid n q) := by
      refine ⟨fun b h => S1.F b h, fun b h => S1.heap b h, fun r g hp cs' hx => ?_, fun r g hp s xs' hx => ?_⟩
      · obtain ⟨⟨cs, hc⟩, hφ⟩ := S2.box r g hp cs' hx
        exact ⟨⟨cs, hc⟩, hφ⟩
      · obtain ⟨xs, hc, hl, hφ, hs⟩ := S2.arr r g hp s xs' hx
        obtain ⟨ys, hc', hl', hφ', hs'⟩ := S1.arr r g rfl s xs hc
        refine ⟨ys, hc', hl.trans hl', hφ, fun b o hb c' T' fr' hh => ?_⟩
        exact hs' b o hb c' T' fr' hh
    refine ⟨_, Sim.turn (S' := S.after dst v id (some row)) H R2 (by rw [St.after_rows]; simp [Cx.claim, H.rows]) hST (St.after_tmps ..) (fun q h => by rw [St.after_rows]; exact Rows.okid_put h) (St.after_gho ..) (fun _ => ⟨?_, p3⟩)⟩
    rw [St.after_rows]
    refine AV.all_imp (fun q g h => ?_) v hr
    simp only [Bool.or_eq_true, Option.isSome_some, Bool.true_and, beq_iff_eq] at h
    rcases h with h | h
    · exact Rows.okid_put h
    · subst h
      unfold Rows.okid
      rw [Rows.get_put]
      simp

theorem Sim.le (H : Sim E base w0 n X S a w) {m : Nat} (h : n ≤ m) : Sim E base w0 m X S a w :=
  { H with ok := H.ok.le h, tmp := fun t v hv => ⟨AV.all_imp (fun q g hq => Rows.okid_le h hq) v (H.tmp t v hv).1, (H.tmp t v hv).2⟩,
           gho := ⟨AV.allL_imp (fun q g hq => Rows.okid_le h hq) _ H.gho.1, H.gho.2⟩ }
end

/-! ### Calls of functions that only compute -/
mutual
def AV.noData : AV → Bool
  | .unk | .bool _ | .int _ _ | .str _ | .nilp | .nilf | .nili | .nils => true
  | .agg cs => AV.noDataL cs
  | .tup cs => AV.noDataL cs
  | .iface _ v => v.noData
  | _ => false
def AV.noDataL : List AV → Bool
  | [] => true
  | a :: as => a.noData && AV.noDataL as
end

mutual
theorem Rel.noData {X X' : Cx} : ∀ (a : AV) (v : Value), a.noData = true → Rel X a v → Rel X' a v
  | .unk, _, _, _ => by simp [Rel]
  | .bool _, _, _, h | .int _ _, _, _, h | .str _, _, _, h | .nilp, _, _, h | .nilf, _, _, h | .nili, _, _, h | .nils, _, _, h => by simpa [Rel] using h
  | .dsl _ _, _, h, _ | .dptr _ _ _, _, h, _ | .ptr _ _, _, h, _ | .bsl _ _ _ _, _, h, _ | .eptr _ _ _ _, _, h, _ | .osl _ _ _ _, _, h, _ | .own _ _, _, h, _ | .clo _ _, _, h, _ | .opt _ _, _, h, _ | .gopt _ _, _, h, _ => by simp [AV.noData] at h
  | .agg cs, v, h, hr => by
    simp only [Rel] at hr ⊢
    obtain ⟨vs, e, hr⟩ := hr
    exact ⟨vs, e, RelL.noData cs _ (by simpa [AV.noData] using h) hr⟩
  | .tup cs, v, h, hr => by
    simp only [Rel] at hr ⊢
    obtain ⟨vs, e, hr⟩ := hr
    exact ⟨vs, e, RelL.noData cs _ (by simpa [AV.noData] using h) hr⟩
  | .iface t a, v, h, hr => by
    simp only [Rel] at hr ⊢
    obtain ⟨u, e, hr⟩ := hr
    exact ⟨u, e, Rel.noData a u (by simpa [AV.noData] using h) hr⟩
theorem RelL.noData {X X' : Cx} : ∀ (as : List AV) (vs : List Value), AV.noDataL as = true → RelL X as vs → RelL X' as vs
  | [], _, _, h => by simpa [RelL] using h
  | a :: as, vs, h, hr => by
    simp only [RelL] at hr ⊢
    simp only [AV.noDataL, Bool.and_eq_true] at h
    obtain ⟨v, r, e, hv, hr⟩ := hr
    exact ⟨v, r, e, Rel.noData a v h.1 hv, RelL.noData as r h.2 hr⟩
end

mutual
/-- An argument, read as plain data for the length of a call. -/
def AV.lend (rows : Rows) : AV → Option AV
  | .own r g => match rows.get r with | some (.arr g' s xs) => if g = g' then some (.dsl s xs) else none | _ => none
  | .osl r g st len => match rows.get r with | some (.arr g' s xs) => if g = g' then some (.dsl s ((xs.drop st).take len)) else none | _ => none
  | .eptr r g i off => match rows.get r with | some (.arr g' s xs) => if g = g' then some (.dptr s (xs.getD i s.dflt) off) else none | _ => none
  | .agg cs => (AV.lendL rows cs).map .agg
  | .tup cs => (AV.lendL rows cs).map .tup
  | .iface t v => (v.lend rows).map (.iface t)
  | .clo f [] => some (.clo f [])
  | .unk => some .unk
  | .bool b => some (.bool b)
  | .int k n => some (.int k n)
  | .str s => some (.str s)
  | .nilp => some .nilp
  | .nilf => some .nilf
  | .nili => some .nili
  | .nils => some .nils
  | .dsl e xs => some (.dsl e xs)
  | .dptr s x off => some (.dptr s x off)
  | _ => none
def AV.lendL (rows : Rows) : List AV → Option (List AV)
  | [] => some []
  | a :: as => (a.lend rows).bind fun b => (AV.lendL rows as).map (b :: ·)
end

/-- The context of a callee: memory of the caller's own is data to it. -/
def Cx.lent (X : Cx) : Cx := { F := fun b => X.F b ∨ ∃ r x o, X.rows.get r = some x ∧ X.φ r = some (b, o), φ := fun _ => none, rows := [], heap := X.heap }

theorem den_lent {X : Cx} (s : Sh) (x : s.den) (cs : List Value) (h : Den X.F X.heap s x cs) : Den X.lent.F X.lent.heap s x cs :=
  Den.mono (fun _ h => .inl h) (fun _ _ => rfl) s x cs h

mutual
theorem lend_ok {base n : Nat} {w0 : Start} {w : World} {X : Cx} (H : RowsOk base w0 n X w) : ∀ (v v' : AV) (u : Value), v.lend X.rows = some v' → Rel X v u → Rel X.lent v' u
  | .own r g, v', u, h, hr => by
    simp only [AV.lend] at h
    split at h
    · rename_i g' s xs hrow
      split at h
      · rename_i e
        subst e
        cases h
        simp only [Rel] at hr ⊢
        rcases hr s xs hrow with ⟨h1, h2, rfl⟩ | ⟨b, o, cap, h1, rfl, h3, h4⟩
        · have : xs = [] := List.eq_nil_of_length_eq_zero h2
          subst this
          exact ⟨none, 0, rfl, Nat.le_refl _, fun _ => ⟨rfl, rfl⟩, fun p hp => by cases hp⟩
        · refine ⟨_, cap, rfl, h3, fun e => (by cases e), fun p hp => ?_⟩
          cases hp
          refine ⟨fun _ => rfl, fun i hi => ?_⟩
          rcases H.row r _ hrow with ⟨h5, _⟩ | ⟨b', o', c, T, h5, h6, h7, h8⟩
          · rw [h5] at h1; cases h1
          · rw [h5] at h1; cases h1
            obtain ⟨es, he, hd⟩ := h8 i hi
            exact ⟨.inr ⟨r, _, o, hrow, h5⟩, es, he, den_lent _ _ _ hd⟩
      · cases h
    · cases h
  | .osl r g st len, v', u, h, hr => by
    simp only [AV.lend] at h
    split at h
    · rename_i g' s xs hrow
      split at h
      · rename_i e
        subst e
        cases h
        simp only [Rel] at hr ⊢
        obtain ⟨hle, hc⟩ := hr s xs hrow
        have hlen : ((xs.drop st).take len).length = len := by simp; omega
        rcases hc with ⟨h1, h2, rfl⟩ | ⟨b, o, ad, cap, h1, rfl, h3, h4⟩
        · have h0 : len = 0 := by omega
          subst h0
          simp only [List.take_zero]
          exact ⟨none, 0, rfl, Nat.le_refl _, fun _ => ⟨rfl, rfl⟩, fun p hp => by cases hp⟩
        · refine ⟨some ad, cap, by rw [hlen], by omega, fun e => (by cases e), fun p hp => ?_⟩
          cases hp
          rcases h4 with h4 | ⟨rfl, h5⟩
          · have h0 : len = 0 := by omega
            subst h0
            exact ⟨fun _ => h4.2.1, fun i hi => by simp at hi⟩
          · refine ⟨fun _ => rfl, fun i hi => ?_⟩
            rw [hlen] at hi
            rcases H.row r _ hrow with ⟨h6, _⟩ | ⟨b', o', c, T, h6, h7, h8, h9⟩
            · rw [h6] at h1; cases h1
            · rw [h6] at h1; cases h1
              obtain ⟨es, he, hd⟩ := h9 (st + i) (by omega)
              refine ⟨.inr ⟨r, _, o, hrow, h6⟩, es, ?_, ?_⟩
              · rw [Nat.add_mul, ← Nat.add_assoc] at he
                exact he
              · rw [show ((xs.drop st).take len)[i]'(by omega) = xs[st + i]'(by omega) by simp]
                exact den_lent _ _ _ hd
      · cases h
    · cases h
  | .eptr r g i off, v', u, h, hr => by
    simp only [AV.lend] at h
    split at h
    · rename_i g' s xs hrow
      split at h
      · rename_i e
        subst e
        cases h
        simp only [Rel] at hr ⊢
        obtain ⟨hi, b, o, h1, rfl⟩ := hr s xs hrow
        rcases H.row r _ hrow with ⟨h5, _⟩ | ⟨b', o', c, T, h5, h6, h7, h8⟩
        · rw [h5] at h1; cases h1
        · rw [h5] at h1; cases h1
          obtain ⟨es, he, hd⟩ := h8 i hi
          refine ⟨b, o + i * s.size, es, rfl, .inr ⟨r, _, o, hrow, h5⟩, he, ?_⟩
          rw [show xs.getD i s.dflt = xs[i] by simp [List.getD, List.getElem?_eq_getElem hi]]
          exact den_lent _ _ _ hd
      · cases h
    · cases h
  | .agg cs, v', u, h, hr => by
    simp only [AV.lend, Option.map_eq_some_iff] at h
    obtain ⟨cs', h, rfl⟩ := h
    simp only [Rel] at hr ⊢
    obtain ⟨vs, e, hr⟩ := hr
    exact ⟨vs, e, lendL_ok H cs cs' _ h hr⟩
  | .tup cs, v', u, h, hr => by
    simp only [AV.lend, Option.map_eq_some_iff] at h
    obtain ⟨cs', h, rfl⟩ := h
    simp only [Rel] at hr ⊢
    obtain ⟨vs, e, hr⟩ := hr
    exact ⟨vs, e, lendL_ok H cs cs' _ h hr⟩
  | .iface t a, v', u, h, hr => by
    simp only [AV.lend, Option.map_eq_some_iff] at h
    obtain ⟨a', h, rfl⟩ := h
    simp only [Rel] at hr ⊢
    obtain ⟨x, e, hr⟩ := hr
    exact ⟨x, e, lend_ok H a a' _ h hr⟩
  | .clo f cs, v', u, h, hr => by
    cases cs with
    | nil => simp only [AV.lend, Option.some.injEq] at h; subst h; simpa [Rel, RelL] using hr
    | cons _ _ => simp only [AV.lend, reduceCtorEq] at h
  | .unk, v', u, h, hr | .bool _, v', u, h, hr | .int _ _, v', u, h, hr | .str _, v', u, h, hr | .nilp, v', u, h, hr | .nilf, v', u, h, hr | .nili, v', u, h, hr | .nils, v', u, h, hr => by
    simp only [AV.lend, Option.some.injEq] at h; subst h; simpa [Rel] using hr
  | .dsl e xs, v', u, h, hr => by
    simp only [AV.lend, Option.some.injEq] at h; subst h
    simp only [Rel] at hr ⊢
    exact den_lent (.sl e) xs _ hr
  | .dptr s x off, v', u, h, hr => by
    simp only [AV.lend, Option.some.injEq] at h; subst h
    simp only [Rel] at hr ⊢
    obtain ⟨b, o, cs, e, hF, hc, hd⟩ := hr
    exact ⟨b, o, cs, e, .inl hF, hc, den_lent _ _ _ hd⟩
  | .ptr _ _, v', u, h, hr | .bsl _ _ _ _, v', u, h, hr | .opt _ _, v', u, h, hr | .gopt _ _, v', u, h, hr => by simp only [AV.lend, reduceCtorEq] at h
theorem lendL_ok {base n : Nat} {w0 : Start} {w : World} {X : Cx} (H : RowsOk base w0 n X w) : ∀ (as bs : List AV) (us : List Value), AV.lendL X.rows as = some bs → RelL X as us → RelL X.lent bs us
  | [], bs, us, h, hr => by
    simp only [AV.lendL, Option.some.injEq] at h; subst h; simpa [RelL] using hr
  | a :: as, bs, us, h, hr => by
    simp only [AV.lendL, Option.bind_eq_some_iff, Option.map_eq_some_iff] at h
    obtain ⟨b, h1, bs', h2, rfl⟩ := h
    simp only [RelL] at hr ⊢
    obtain ⟨v, r, e, hv, hr⟩ := hr
    exact ⟨v, r, e, lend_ok H a b v h1 hv, lendL_ok H as bs' r h2 hr⟩
end
end Go.Proofs.YtnjofponcdcfcaaDoor.Ab
