import Derived.Test.YtlidfaaajjfgfaaDoorAbMap
set_option linter.unusedVariables false
set_option linter.all false
namespace Go.Proofs.YtlidfaaajjfgfaaDoor.Ab
open Go.RowKit

/-- What the reading needs of the program, of package variables, and of functions that are called. -/
structure Env where
  P : Program
  G : Nat → Option ((s : Sh) × s.den)
  K : FuncId → Option (List AV → Option (Bool × AV))

/-- Sets of numbers, by bits. -/
abbrev NSet := Nat
def NSet.nil : NSet := (0 : Nat)
def NSet.has (s : NSet) (x : Nat) : Bool := Nat.testBit s x
instance : Membership Nat NSet := ⟨fun s x => s.has x = true⟩
theorem NSet.mem_def {s : NSet} {x : Nat} : x ∈ s ↔ s.has x = true := Iff.rfl
@[simp] theorem not_mem_nil {x : Nat} : ¬ x ∈ NSet.nil := by
  show ¬ Nat.testBit 0 x = true
  simp
def addN (x : Nat) (l : NSet) : NSet := Nat.lor l (Nat.shiftLeft 1 x)
def unionN (l m : NSet) : NSet := Nat.lor l m
theorem mem_addN {x y : Nat} {l : NSet} : y ∈ addN x l ↔ y = x ∨ y ∈ l := by
  have : addN x l = l ||| (1 <<< x) := rfl
  rw [NSet.mem_def, NSet.has, this, Nat.testBit_or, Nat.testBit_shiftLeft]
  simp only [NSet.mem_def, NSet.has, Bool.or_eq_true, Bool.and_eq_true, decide_eq_true_eq]
  constructor
  · rintro (h | ⟨h1, h2⟩)
    · exact .inr h
    · left
      by_cases e : y - x = 0
      · omega
      · rw [Nat.testBit_one_eq_true_iff_self_eq_zero] at h2
        exact absurd h2 e
  · rintro (rfl | h)
    · exact .inr ⟨Nat.le_refl _, by simp⟩
    · exact .inl h
theorem mem_unionN {l m : NSet} {t : Nat} : t ∈ unionN l m ↔ t ∈ l ∨ t ∈ m := by
  have : unionN l m = l ||| m := rfl
  rw [NSet.mem_def, NSet.has, this, Nat.testBit_or]
  simp [NSet.mem_def, NSet.has]
/-- Those of it below n, in order. -/
def NSet.elems (n : Nat) (s : NSet) : List Nat := forceN n fun n => forceN s fun s => (List.range n).filter (NSet.has s)
def NSet.of (l : List Nat) : NSet := l.foldl (fun s x => forceN x fun x => forceN s fun s => addN x s) NSet.nil
theorem mem_of {l : List Nat} {x : Nat} : x ∈ NSet.of l ↔ x ∈ l := by
  have : ∀ (l : List Nat) (s : NSet), x ∈ l.foldl (fun s x => forceN x fun x => forceN s fun s => addN x s) s ↔ x ∈ s ∨ x ∈ l := by
    intro l
    induction l with
    | nil => intro s; simp
    | cons y l ih =>
      intro s
      rw [List.foldl_cons, ih, forceN_eq, forceN_eq, mem_addN, List.mem_cons]
      constructor
      · rintro ((h | h) | h)
        · exact .inr (.inl h)
        · exact .inl h
        · exact .inr (.inr h)
      · rintro (h | h | h)
        · exact .inl (.inr h)
        · exact .inl (.inl h)
        · exact .inr h
  rw [NSet.of, this]
  simp
def NSet.sub (s t : NSet) : Bool := forceN s fun s => forceN t fun t => Nat.beq (Nat.lor s t) t
theorem NSet.sub_mem {s t : NSet} (h : s.sub t = true) {x : Nat} (hx : x ∈ s) : x ∈ t := by
  simp only [NSet.sub, forceN_eq] at h
  have e : unionN s t = t := Nat.eq_of_beq_eq_true h
  rw [← e]
  exact mem_unionN.2 (.inl hx)
def NSet.below (n : Nat) (s : NSet) : NSet := forceN n fun n => forceN s fun s => Nat.mod s (Nat.pow 2 n)
theorem mem_below {n x : Nat} {s : NSet} (h : x ∈ s) (hx : x < n) : x ∈ s.below n := by
  have : s.below n = s % 2 ^ n := by unfold NSet.below; rw [forceN_eq, forceN_eq]; rfl
  rw [NSet.mem_def, NSet.has, this, Nat.testBit_mod_two_pow]
  simp [hx]
  exact h

/-- A state: the temporaries, the rows; which of them have been set. -/
structure St where
  tmps : TMap
  rows : Rows
  dt : NSet
  dr : NSet

def St.setT (S : St) (t : Nat) (v : AV) : St := forceN S.dt fun d => { S with tmps := S.tmps.set t v, dt := addN t d }
theorem St.setT_eq (S : St) (t : Nat) (v : AV) : S.setT t v = { S with tmps := S.tmps.set t v, dt := addN t S.dt } := forceN_eq
def St.putT (S : St) (t : Option Nat) (v : AV) : St := match t with | some t => S.setT t v | none => S

/-- The reading of a state. -/
structure Sim (E : Env) (base : Nat) (w0 : Start) (n : Nat) (X : Cx) (S : St) (a : Act) (w : World) : Prop where
  rows : X.rows = S.rows
  ok : RowsOk base w0 n X w
  size : a.tmps.size = S.tmps.length
  defers : a.defers = []
  tmp : ∀ t v, S.tmps[t]? = some v → v.all (fun q _ => S.rows.okid n q) = true ∧ Rel X v (a.tmps.getD t undef)
  glob : ∀ g s x, E.G g = some ⟨s, x⟩ → Rel X (.dptr s x 0) (.pointer (some ⟨g, 0, none⟩))

/-- S' comes of S by setting what S' names. -/
structure Agree (S S' : St) : Prop where
  len : S'.tmps.length = S.tmps.length
  tmp : ∀ t, t ∉ S'.dt → S'.tmps[t]? = S.tmps[t]?
  rlen : S.rows.length ≤ S'.rows.length
  row : ∀ r, r < S.rows.length → r ∉ S'.dr → S'.rows.get r = S.rows.get r
  dt : ∀ t, t ∈ S.dt → t ∈ S'.dt
  dr : ∀ r, r ∈ S.dr → r ∈ S'.dr

theorem Agree.refl (S : St) : Agree S S := ⟨rfl, fun _ _ => rfl, Nat.le_refl _, fun _ _ _ => rfl, fun _ h => h, fun _ h => h⟩
theorem Agree.trans {S S1 S2 : St} (h : Agree S S1) (k : Agree S1 S2) : Agree S S2 where
  len := k.len.trans h.len
  tmp t ht := (k.tmp t ht).trans (h.tmp t fun h' => ht (k.dt t h'))
  rlen := Nat.le_trans h.rlen k.rlen
  row r hr ht := (k.row r (by have := h.rlen; omega) ht).trans (h.row r hr fun h' => ht (k.dr r h'))
  dt t ht := k.dt t (h.dt t ht)
  dr r hr := k.dr r (h.dr r hr)

theorem Agree.setT (S : St) (t : Nat) (v : AV) : Agree S (S.setT t v) := by
  rw [St.setT_eq]
  exact {
    len := by simp
    tmp := fun u hu => by
      have : u ≠ t := fun e => hu (by rw [e]; exact mem_addN.2 (.inl rfl))
      simp only
      rw [TMap.getElem?_set_ne (by omega)]
    rlen := Nat.le_refl _
    row := fun _ _ _ => rfl
    dt := fun u hu => mem_addN.2 (.inr hu)
    dr := fun _ h => h }

theorem Agree.putT (S : St) (t : Option Nat) (v : AV) : Agree S (S.putT t v) := by
  cases t with
  | none => exact Agree.refl S
  | some t => exact Agree.setT S t v

/-! ### Templates of states -/
structure Tmpl where
  ts : List (Nat × AV)
  rs : List (Nat × Option Row)
  len : Nat

def Tmpl.mkT : List (Nat × AV) → TMap → List Sc → TMap × List Sc
  | [], tmps, xs => (tmps, xs)
  | (t, a) :: ts, tmps, xs => mkT ts (tmps.set t (a.fill xs).1) (a.fill xs).2

def Row.fill : Option Row → List Sc → Option Row × List Sc
  | some (.box ts), r => (some (.box (AV.fillL ts r).1), (AV.fillL ts r).2)
  | some (.arr g s _), r => (some (.arr g s ((hd r).toD (.sl s))), tl r)
  | t, r => (t, r)

def Tmpl.mkR : List (Nat × Option Row) → Rows → List Sc → Rows
  | [], rows, xs => rows
  | (r, x) :: rs, rows, xs => mkR rs (rows.set r (Row.fill x xs).1) (Row.fill x xs).2

def resize (rows : Rows) (n : Nat) : Rows := rows.take n ++ List.replicate (n - rows.length) none

def Tmpl.mk' (T : Tmpl) (base : St) (xs : List Sc) : St :=
  { tmps := (mkT T.ts base.tmps xs).1, rows := mkR T.rs (resize base.rows T.len) (mkT T.ts base.tmps xs).2,
    dt := T.ts.foldl (fun l p => forceN p.1 fun x => forceN l fun l => addN x l) base.dt, dr := T.rs.foldl (fun l p => forceN p.1 fun x => forceN l fun l => addN x l) base.dr }

/-- The state of a row: its number of growths, its length. -/
def genS (rows : Rows) (r : Nat) : Option (Nat × Nat) := match rows.get r with | some (.arr g _ xs) => some (g, xs.length) | _ => none
def genT (T : Tmpl) (base : Rows) (r : Nat) : Option Nat :=
  match T.rs.lookup r with
  | some (some (.arr g _ _)) => some g
  | some _ => none
  | none => (genS base r).map (·.1)

def Row.coe (gS : Nat → Option (Nat × Nat)) (gT : Nat → Option Nat) : Option Row → Option Row → Option (List Sc)
  | none, _ => some []
  | some (.box ts), some (.box vs) => AV.coeL gS gT ts vs
  | some (.arr _ s _), some (.arr _ s' xs) => if s' = s then some [.d (.sl s') xs] else none
  | some (.arr _ s _), none => some [.d (.sl s) []]
  | _, _ => none

def Tmpl.coeT (gS : Nat → Option (Nat × Nat)) (gT : Nat → Option Nat) (tmps : TMap) : List (Nat × AV) → Option (List Sc)
  | [] => some []
  | (t, a) :: ts => match tmps[t]? with
    | some v => (a.coe gS gT v).bind fun x => (coeT gS gT tmps ts).map (x ++ ·)
    | none => none

def Tmpl.coeR (gS : Nat → Option (Nat × Nat)) (gT : Nat → Option Nat) (rows : Rows) : List (Nat × Option Row) → Option (List Sc)
  | [] => some []
  | (r, x) :: rs => (Row.coe gS gT x (rows.get r)).bind fun y => (coeR gS gT rows rs).map (y ++ ·)

/-- All references lie in the rows. -/
def refsB (len : Nat) (tmps : TMap) (rows : Rows) : Bool :=
  tmps.all (fun v => v.all fun r _ => decide (r < len)) && rows.all fun x => match x with | some (.box cs) => AV.allL (fun r _ => decide (r < len)) cs | _ => true

/-- A reference means on the template's side what it means on the other. -/
def compat (gS : Nat → Option (Nat × Nat)) (rows' : Rows) (r g : Nat) : Bool :=
  match rows'.get r with
  | some (.arr g' _ _) => g != g' || (gS r).map (·.1) == some g
  | _ => true

def compatT (p : Nat → Nat → Bool) (ks : NSet) (m : TMap) : Bool := forceN ks fun ks => m.allI fun i v => NSet.has ks i || v.all p
def compatR (p : Nat → Nat → Bool) (ks : NSet) : Nat → Rows → Bool
  | _, [] => true
  | i, x :: xs => (ks.has i || (match x with | some (.box cs) => AV.allL p cs | _ => true)) && compatR p ks (i + 1) xs

/-- The numbers and data of a state under a template; nothing, where it does not fit. -/
def Tmpl.coe (T : Tmpl) (base S : St) : Option (List Sc) :=
  let gS := genS S.rows
  let gT := genT T base.rows
  (coeT gS gT S.tmps T.ts).bind fun x => (coeR gS gT S.rows T.rs).bind fun y =>
    let xs := x ++ y
    let S' := T.mk' base xs
    if T.rs.all (fun p => decide (p.1 < T.len)) ∧ base.rows.length ≤ T.len ∧ refsB T.len S'.tmps S'.rows ∧
      compatT (compat gS S'.rows) (NSet.of (T.ts.map (·.1))) base.tmps ∧ compatR (compat gS S'.rows) (NSet.of (T.rs.map (·.1))) 0 base.rows ∧
      S.dt.sub (NSet.of (T.ts.map (·.1))) ∧ (S.dr.below base.rows.length).sub (NSet.of (T.rs.map (·.1))) then some xs else none

theorem Row.fill_coe {gS : Nat → Option (Nat × Nat)} {gT : Nat → Option Nat} {t x : Option Row} {ys : List Sc} (r : List Sc) (h : Row.coe gS gT t x = some ys) : (Row.fill t (ys ++ r)).2 = r := by
  unfold Row.coe at h
  split at h
  · cases h; simp [Row.fill]
  · simpa [Row.fill] using AV.coeL_len _ _ ys r h
  · split at h <;> cases h; simp [Row.fill]
  · cases h; simp [Row.fill]
  · cases h

theorem coeT_ok {X X' : Cx} {gS : Nat → Option (Nat × Nat)} {gT : Nat → Option Nat} (T : Turn X X' gS gT) {tmps : TMap} : ∀ (ts : List (Nat × AV)) (tmps0 : TMap) (xs r : List Sc),
    Tmpl.coeT gS gT tmps ts = some xs → (Tmpl.mkT ts tmps0 (xs ++ r)).1.length = tmps0.length ∧
      ∀ t v, (Tmpl.mkT ts tmps0 (xs ++ r)).1[t]? = some v → (t ∉ ts.map (·.1) ∧ tmps0[t]? = some v) ∨ ∃ v0, tmps[t]? = some v0 ∧ ∀ u, Rel X v0 u → Rel X' v u
  | [], tmps0, xs, r, h => by
    exact ⟨rfl, fun t v hv => .inl ⟨by simp, hv⟩⟩
  | (t0, a) :: ts, tmps0, xs, r, h => by
    simp only [Tmpl.coeT] at h
    split at h
    · rename_i v0 hv0
      simp only [Option.bind_eq_some_iff, Option.map_eq_some_iff] at h
      obtain ⟨x, h1, y, h2, rfl⟩ := h
      have hlen := AV.coe_len a v0 x (y ++ r) h1
      simp only [Tmpl.mkT, List.append_assoc, hlen]
      obtain ⟨e1, e2⟩ := coeT_ok T ts (tmps0.set t0 (a.fill (x ++ (y ++ r))).1) y r h2
      refine ⟨by rw [e1]; simp, fun t v hv => ?_⟩
      rcases e2 t v hv with ⟨h3, h4⟩ | h3
      · by_cases e : t = t0
        · subst e
          have hlt : t < tmps0.length := by
            have := TMap.getElem?_lt h4
            simpa using this
          rw [TMap.getElem?_set_self hlt] at h4
          cases h4
          exact .inr ⟨v0, hv0, fun u hu => (AV.coe_ok T a v0 x (y ++ r) u h1 hu).2⟩
        · rw [TMap.getElem?_set_ne (by omega)] at h4
          refine .inl ⟨?_, h4⟩
          simp only [List.map_cons, List.mem_cons, not_or]
          exact ⟨e, h3⟩
      · exact .inr h3
    · cases h

theorem coeT_rest {gS : Nat → Option (Nat × Nat)} {gT : Nat → Option Nat} {tmps : TMap} : ∀ (ts : List (Nat × AV)) (tmps0 : TMap) (xs r : List Sc),
    Tmpl.coeT gS gT tmps ts = some xs → (Tmpl.mkT ts tmps0 (xs ++ r)).2 = r
  | [], tmps0, xs, r, h => by cases h; rfl
  | (t0, a) :: ts, tmps0, xs, r, h => by
    simp only [Tmpl.coeT] at h
    split at h
    · rename_i v0 hv0
      simp only [Option.bind_eq_some_iff, Option.map_eq_some_iff] at h
      obtain ⟨x, h1, y, h2, rfl⟩ := h
      simp only [Tmpl.mkT, List.append_assoc, AV.coe_len a v0 x (y ++ r) h1]
      exact coeT_rest ts _ y r h2
    · cases h

theorem mkT_length : ∀ (ts : List (Nat × AV)) (tmps0 : TMap) (xs : List Sc), (Tmpl.mkT ts tmps0 xs).1.length = tmps0.length
  | [], _, _ => rfl
  | (t, a) :: ts, tmps0, xs => by simp only [Tmpl.mkT]; rw [mkT_length]; simp
theorem mkT_other : ∀ (ts : List (Nat × AV)) (tmps0 : TMap) (xs : List Sc) (t : Nat), t ∉ ts.map (·.1) → (Tmpl.mkT ts tmps0 xs).1[t]? = tmps0[t]?
  | [], _, _, _, _ => rfl
  | (t0, a) :: ts, tmps0, xs, t, h => by
    simp only [List.map_cons, List.mem_cons, not_or] at h
    simp only [Tmpl.mkT]
    rw [mkT_other ts _ _ t h.2, TMap.getElem?_set_ne (by omega)]
theorem mkR_length : ∀ (rs : List (Nat × Option Row)) (rows0 : Rows) (xs : List Sc), (Tmpl.mkR rs rows0 xs).length = rows0.length
  | [], _, _ => rfl
  | (r, x) :: rs, rows0, xs => by simp only [Tmpl.mkR]; rw [mkR_length]; simp
theorem mkR_other : ∀ (rs : List (Nat × Option Row)) (rows0 : Rows) (xs : List Sc) (r : Nat), r ∉ rs.map (·.1) → (Tmpl.mkR rs rows0 xs).get r = rows0.get r
  | [], _, _, _, _ => rfl
  | (r0, x) :: rs, rows0, xs, r, h => by
    simp only [List.map_cons, List.mem_cons, not_or] at h
    simp only [Tmpl.mkR]
    rw [mkR_other rs _ _ r h.2]
    unfold Rows.get
    rw [List.getElem?_set_ne (by omega)]

/-- A row of the template's side comes of the row of the other. -/
def RowFrom (gS : Nat → Option (Nat × Nat)) (gT : Nat → Option Nat) (x : Option Row) : Row → Prop
  | .box cs' => ∃ vs ts ys r', x = some (.box vs) ∧ AV.coeL gS gT ts vs = some ys ∧ cs' = (AV.fillL ts (ys ++ r')).1
  | .arr g s xs' => (∃ g0, x = some (.arr g0 s xs')) ∨ (x = none ∧ xs' = [])

theorem coeR_from {gS : Nat → Option (Nat × Nat)} {gT : Nat → Option Nat} {rows : Rows} : ∀ (rs : List (Nat × Option Row)) (rows0 : Rows) (ys r : List Sc),
    Tmpl.coeR gS gT rows rs = some ys → ∀ q x', (Tmpl.mkR rs rows0 (ys ++ r)).get q = some x' → (q ∉ rs.map (·.1) ∧ rows0.get q = some x') ∨ RowFrom gS gT (rows.get q) x'
  | [], rows0, ys, r, h, q, x', hx => .inl ⟨by simp, hx⟩
  | (q0, t) :: rs, rows0, ys, r, h, q, x', hx => by
    simp only [Tmpl.coeR, Option.bind_eq_some_iff, Option.map_eq_some_iff] at h
    obtain ⟨y, h1, z, h2, rfl⟩ := h
    simp only [Tmpl.mkR, List.append_assoc, Row.fill_coe (z ++ r) h1] at hx
    rcases coeR_from rs _ z r h2 q x' hx with ⟨h3, h4⟩ | h3
    · by_cases e : q = q0
      · subst e
        unfold Rows.get at h4
        by_cases hlt : q < rows0.length
        · rw [List.getElem?_set_self hlt] at h4
          simp only [Option.join_some] at h4
          refine .inr ?_
          generalize rows.get q = z0 at h1 ⊢
          unfold Row.coe at h1
          split at h1
          · simp [Row.fill] at h4
          · rename_i ts vs
            simp only [Row.fill, Option.some.injEq] at h4
            subst h4
            exact ⟨vs, ts, y, z ++ r, rfl, h1, rfl⟩
          · split at h1
            · rename_i e
              subst e
              cases h1
              simp only [Row.fill, List.cons_append, hd_cons, tl_cons, Sc.toD_d, Option.some.injEq] at h4
              subst h4
              exact .inl ⟨_, rfl⟩
            · cases h1
          · cases h1
            simp only [Row.fill, List.cons_append, hd_cons, tl_cons, Sc.toD_d, Option.some.injEq] at h4
            subst h4
            exact .inr ⟨rfl, rfl⟩
          · cases h1
        · rw [List.getElem?_eq_none (by simp; omega)] at h4
          cases h4
      · unfold Rows.get at h4
        rw [List.getElem?_set_ne (by omega)] at h4
        refine .inl ⟨?_, h4⟩
        simp only [List.map_cons, List.mem_cons, not_or]
        exact ⟨e, h3⟩
    · exact .inr h3

theorem get_resize (rows : Rows) (n r : Nat) (h : rows.length ≤ n) : (resize rows n).get r = rows.get r := by
  unfold resize Rows.get
  rw [List.take_of_length_le h]
  by_cases hr : r < rows.length
  · rw [List.getElem?_append_left hr]
  · rw [List.getElem?_append_right (by omega), List.getElem?_eq_none (by omega : rows.length ≤ r)]
    by_cases h2 : r - rows.length < n - rows.length
    · rw [List.getElem?_replicate, if_pos h2]; rfl
    · rw [List.getElem?_replicate, if_neg h2]

theorem length_resize (rows : Rows) (n : Nat) (h : rows.length ≤ n) : (resize rows n).length = n := by
  unfold resize
  rw [List.take_of_length_le h, List.length_append, List.length_replicate]; omega

theorem compatT_at {p : Nat → Nat → Bool} {ks : NSet} {m : TMap} (h : compatT p ks m = true) (t : Nat) (v : AV) (hv : m[t]? = some v) (hn : t ∉ ks) : v.all p = true := by
  unfold compatT at h
  rw [forceN_eq] at h
  have := TMap.allI_at (fun _ => by simp [AV.all]) h hv
  simp only [Bool.or_eq_true] at this
  rcases this with h1 | h1
  · exact absurd (show t ∈ ks from h1) hn
  · exact h1

theorem compatR_at {p : Nat → Nat → Bool} {ks : NSet} : ∀ {i : Nat} {rows : Rows}, compatR p ks i rows = true → ∀ (j : Nat) (cs : List AV), Rows.get rows j = some (.box cs) → i + j ∉ ks → AV.allL p cs = true
  | i, [], _, j, cs, hv, _ => by simp [Rows.get] at hv
  | i, a :: rows, h, j, cs, hv, hn => by
    simp only [compatR, Bool.and_eq_true, Bool.or_eq_true] at h
    cases j with
    | zero =>
      simp only [Rows.get, List.getElem?_cons_zero, Option.join_some] at hv
      subst hv
      rcases h.1 with h1 | h1
      · exact absurd (show i ∈ ks from h1) (by simpa using hn)
      · exact h1
    | succ j => exact compatR_at h.2 j cs (by simpa [Rows.get] using hv) (by rw [show i + 1 + j = i + (j + 1) by omega]; exact hn)

theorem refsB_tmp {len : Nat} {tmps : TMap} {rows : Rows} (h : refsB len tmps rows = true) {t : Nat} {v : AV} (hv : tmps[t]? = some v) : v.all (fun r _ => decide (r < len)) = true := by
  simp only [refsB, Bool.and_eq_true] at h
  exact TMap.all_at (by simp [AV.all]) h.1 hv
theorem refsB_row {len : Nat} {tmps : TMap} {rows : Rows} (h : refsB len tmps rows = true) {r : Nat} {cs : List AV} (hv : rows.get r = some (.box cs)) : AV.allL (fun r _ => decide (r < len)) cs = true := by
  simp only [refsB, Bool.and_eq_true, List.all_eq_true] at h
  unfold Rows.get at hv
  cases hr : rows[r]? with
  | none => rw [hr] at hv; cases hv
  | some x =>
    rw [hr] at hv
    simp only [Option.join_some] at hv
    subst hv
    exact h.2 _ (List.mem_of_getElem? hr)

/-- A state that fits a template reads as the template's state. -/
theorem Tmpl.coe_sim {E : Env} {base n : Nat} {w0 : Start} {w : World} {X : Cx} {S S0 : St} {a : Act} {T : Tmpl} {xs : List Sc} (H : Sim E base w0 n X S a w) (hA : Agree S0 S) (h : T.coe S0 S = some xs) :
    ∃ X', Sim E base w0 T.len X' (T.mk' S0 xs) a w ∧ (T.mk' S0 xs).rows.length = T.len := by
  unfold Tmpl.coe at h
  simp only [Option.bind_eq_some_iff] at h
  obtain ⟨x, hx, y, hy, h⟩ := h
  split at h
  · rename_i hc
    obtain ⟨hk, hlen, hrefs, hct, hcr, hdt, hdr⟩ := hc
    cases h
    simp only [List.all_eq_true, decide_eq_true_eq] at hk
    have hrest := coeT_rest T.ts S0.tmps x y hx
    have hrows : (T.mk' S0 (x ++ y)).rows = Tmpl.mkR T.rs (resize S0.rows T.len) (y ++ []) := by simp [Tmpl.mk', hrest]
    have hrl : (T.mk' S0 (x ++ y)).rows.length = T.len := by rw [hrows, mkR_length, length_resize _ _ hlen]
    -- rows out of the template's names are as they were
    have hsame : ∀ r, r ∉ T.rs.map (·.1) → r < S0.rows.length → S.rows.get r = S0.rows.get r := by
      intro r hr hlt
      refine hA.row r hlt fun hd => ?_
      exact hr (mem_of.1 (NSet.sub_mem hdr (mem_below hd hlt)))
    have hfrom : ∀ r x', (T.mk' S0 (x ++ y)).rows.get r = some x' → (r ∉ T.rs.map (·.1) ∧ S0.rows.get r = some x' ∧ S.rows.get r = some x') ∨ RowFrom (genS S.rows) (genT T S0.rows) (S.rows.get r) x' := by
      intro r x' hr
      rw [hrows] at hr
      rcases coeR_from T.rs _ y [] hy r x' hr with ⟨h1, h2⟩ | h1
      · rw [get_resize _ _ _ hlen] at h2
        have hlt : r < S0.rows.length := by
          rcases Nat.lt_or_ge r S0.rows.length with h | h
          · exact h
          · unfold Rows.get at h2; rw [List.getElem?_eq_none h] at h2; cases h2
        exact .inl ⟨h1, h2, (hsame r h1 hlt).trans h2⟩
      · exact .inr h1
    let X' : Cx := { X with rows := (T.mk' S0 (x ++ y)).rows, φ := fun r => if (S.rows.get r).isSome then X.φ r else none }
    have hφs : ∀ r z, S.rows.get r = some z → X'.φ r = X.φ r := fun r z hz => by simp [X', hz]
    have turn : Turn X X' (genS S.rows) (genT T S0.rows) := by
      refine ⟨rfl, rfl, fun r cs' hr => ?_, fun r g s xs' hr => ?_⟩
      · rcases hfrom r _ hr with ⟨_, _, h3⟩ | ⟨vs, ts, ys, r', h1, _, _⟩
        · exact ⟨⟨cs', by rw [H.rows]; exact h3⟩, hφs r _ h3⟩
        · exact ⟨⟨vs, by rw [H.rows]; exact h1⟩, hφs r _ h1⟩
      · rcases hfrom r _ hr with ⟨_, _, h3⟩ | ⟨g0, h1⟩ | ⟨h1, h2⟩
        · exact .inl ⟨g, xs', by rw [H.rows]; exact h3, rfl, by simp [genS, h3], hφs r _ h3⟩
        · exact .inl ⟨g0, xs', by rw [H.rows]; exact h1, rfl, by simp [genS, h1], hφs r _ h1⟩
        · exact .inr ⟨by simp [genS, h1], by simp [h2], by simp [X', h1]⟩
    have stab : Stab X X' (compat (genS S.rows) X'.rows) := by
      refine ⟨fun _ h => h, fun _ _ => rfl, fun r g _ cs' hr => turn.box r cs' hr, fun r g hp s xs' hr => ?_⟩
      rcases turn.arr r g s xs' hr with ⟨g0, zs, h1, h2, h3, h4⟩ | ⟨h1, _, _⟩
      · have : g0 = g := by
          simp only [compat, hr, h3] at hp
          simpa using hp
        subst this
        exact ⟨zs, h1, h2, h4, fun b o _ c' T' fr' hc' => ⟨c', T', fr', hc', rfl⟩⟩
      · simp only [compat, hr, h1] at hp
        simp at hp
    have hok : ∀ v : AV, v.all (fun r _ => decide (r < T.len)) = true → v.all (fun q _ => (T.mk' S0 (x ++ y)).rows.okid T.len q) = true := fun v hv =>
      AV.all_imp (fun r g h => by simp only [Rows.okid, Bool.or_eq_true]; exact .inl h) v hv
    refine ⟨X', ⟨rfl, ?_, ?_, H.defers, ?_, ?_⟩, hrl⟩
    · refine ⟨H.ok.heap, H.ok.keeps, H.ok.sub, H.ok.hb, H.ok.fresh, ?_, ?_, ?_, ?_⟩
      · intro r x' hr
        rcases hfrom r x' hr with ⟨h1, h2, h3⟩ | hf
        · have hro := H.ok.row r x' (by rw [H.rows]; exact h3)
          refine RowOk.mono stab (hφs r _ h3) (fun _ _ _ => rfl) x' (fun cs e => ?_) hro
          subst e
          have := compatR_at hcr r cs h2 (by rw [Nat.zero_add]; exact fun h => h1 (mem_of.1 h))
          exact this
        · cases x' with
          | box cs' =>
            obtain ⟨vs, ts, ys, r', h1, h2, rfl⟩ := hf
            have hro := H.ok.row r _ (by rw [H.rows]; exact h1)
            intro b o hbo
            rw [hφs r _ h1] at hbo
            obtain ⟨ho, c, T', hc, hl⟩ := hro b o hbo
            exact ⟨ho, c, T', hc, (AV.coeL_ok turn ts vs ys r' _ h2 hl).2⟩
          | arr g s xs' =>
            rcases hf with ⟨g0, h1⟩ | ⟨h1, h2⟩
            · have hro := H.ok.row r _ (by rw [H.rows]; exact h1)
              have e := hφs r _ h1
              rcases hro with ⟨h3, h4⟩ | ⟨b, o, c, T', h3, h4⟩
              · exact .inl ⟨e.trans h3, h4⟩
              · exact .inr ⟨b, o, c, T', e.trans h3, h4⟩
            · exact .inl ⟨by simp [X', h1], h2⟩
      · intro r x' b o hr hbo
        have : ∃ z, S.rows.get r = some z := by
          rcases hfrom r x' hr with ⟨_, _, h3⟩ | hf
          · exact ⟨_, h3⟩
          · simp only [X'] at hbo
            cases hz : S.rows.get r with
            | none => rw [hz] at hbo; simp at hbo
            | some z => exact ⟨z, rfl⟩
        obtain ⟨z, hz⟩ := this
        rw [hφs r z hz] at hbo
        exact H.ok.own r z b o (by rw [H.rows]; exact hz) hbo
      · intro r r' x1 x2 b o b' o' hr hr' hb hb' e
        have ex : ∀ r b o, X'.φ r = some (b, o) → ∃ z, S.rows.get r = some z := by
          intro r b o hbo
          simp only [X'] at hbo
          cases hz : S.rows.get r with
          | none => rw [hz] at hbo; simp at hbo
          | some z => exact ⟨z, rfl⟩
        obtain ⟨z, hz⟩ := ex r b o hb
        obtain ⟨z', hz'⟩ := ex r' b' o' hb'
        rw [hφs r z hz] at hb
        rw [hφs r' z' hz'] at hb'
        exact H.ok.apart r r' z z' b o b' o' (by rw [H.rows]; exact hz) (by rw [H.rows]; exact hz') hb hb' e
      · intro r cs hr
        exact AV.allL_imp (fun r g h => by simp only [Rows.okid, Bool.or_eq_true]; exact .inl h) cs (refsB_row hrefs hr)
    · rw [H.size, hA.len]
      simp [Tmpl.mk', mkT_length]
    · intro t v hv
      refine ⟨hok v (refsB_tmp hrefs hv), ?_⟩
      obtain ⟨_, h2⟩ := coeT_ok turn T.ts S0.tmps x y hx
      rcases h2 t v hv with ⟨h3, h4⟩ | ⟨v0, h3, h4⟩
      · have hst : S.tmps[t]? = some v := by
          rw [hA.tmp t fun hd => ?_]
          · exact h4
          · exact h3 (mem_of.1 (NSet.sub_mem hdt hd))
        exact Rel.mono stab v _ (compatT_at hct t v h4 (fun h => h3 (mem_of.1 h))) (H.tmp t v hst).2
      · exact h4 _ (H.tmp t v0 h3).2
    · intro g s z hg
      exact H.glob g s z hg
  · cases h

theorem mk'_agree {T : Tmpl} {S0 : St} {xs : List Sc} (hlen : S0.rows.length ≤ T.len) : Agree S0 (T.mk' S0 xs) where
  len := by simp [Tmpl.mk', mkT_length]
  tmp t ht := by
    refine mkT_other _ _ _ t fun h => ht ?_
    simp only [Tmpl.mk']
    have : ∀ (l : List (Nat × AV)) (d : NSet), (t ∈ d ∨ t ∈ l.map (·.1)) → t ∈ l.foldl (fun l p => forceN p.1 fun x => forceN l fun l => addN x l) d := by
      intro l
      induction l with
      | nil => intro d h; simpa using h
      | cons p l ih =>
        intro d h
        refine ih _ ?_
        simp only [List.map_cons, List.mem_cons] at h
        rcases h with h | h | h
        · exact .inl (by simp only [forceN_eq]; exact mem_addN.2 (.inr h))
        · exact .inl (by simp only [forceN_eq]; exact mem_addN.2 (.inl h))
        · exact .inr h
    exact this _ _ (.inr h)
  rlen := by simp only [Tmpl.mk', mkR_length, length_resize _ _ hlen]; exact hlen
  row r hr ht := by
    simp only [Tmpl.mk']
    rw [mkR_other, get_resize _ _ _ hlen]
    intro h
    apply ht
    simp only [Tmpl.mk']
    have : ∀ (l : List (Nat × Option Row)) (d : NSet), (r ∈ d ∨ r ∈ l.map (·.1)) → r ∈ l.foldl (fun l p => forceN p.1 fun x => forceN l fun l => addN x l) d := by
      intro l
      induction l with
      | nil => intro d h; simpa using h
      | cons p l ih =>
        intro d h
        refine ih _ ?_
        simp only [List.map_cons, List.mem_cons] at h
        rcases h with h | h | h
        · exact .inl (by simp only [forceN_eq]; exact mem_addN.2 (.inr h))
        · exact .inl (by simp only [forceN_eq]; exact mem_addN.2 (.inl h))
        · exact .inr h
    exact this _ _ (.inr h)
  dt t ht := by
    simp only [Tmpl.mk']
    have : ∀ (l : List (Nat × AV)) (d : NSet), t ∈ d → t ∈ l.foldl (fun l p => forceN p.1 fun x => forceN l fun l => addN x l) d := by
      intro l
      induction l with
      | nil => intro d h; simpa using h
      | cons p l ih => intro d h; exact ih _ (by simp only [forceN_eq]; exact mem_addN.2 (.inr h))
    exact this _ _ ht
  dr r hr := by
    simp only [Tmpl.mk']
    have : ∀ (l : List (Nat × Option Row)) (d : NSet), r ∈ d → r ∈ l.foldl (fun l p => forceN p.1 fun x => forceN l fun l => addN x l) d := by
      intro l
      induction l with
      | nil => intro d h; simpa using h
      | cons p l ih => intro d h; exact ih _ (by simp only [forceN_eq]; exact mem_addN.2 (.inr h))
    exact this _ _ hr
end Go.Proofs.YtlidfaaajjfgfaaDoor.Ab
