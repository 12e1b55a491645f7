/- A row of numbers turned as a whole by a library function. No conditions. -/
import Derived.Test.YtnjofponcdcfcaaDoorAbRun
import Derived.Lib.AppendIntMem
set_option linter.all false
namespace Go.Proofs.YtnjofponcdcfcaaDoor.Ab
open Go.RowKit
theorem Below.of_grow {w : World} (os : Array Obj) : Below w.heap.size w (Sort.grow w os) :=
  ⟨rfl, rfl, rfl, by show w.heap.size ≤ (w.heap ++ os).size; rw [Array.size_append]; omega, fun j hj => by show (w.heap ++ os)[j]? = _; rw [Array.getElem?_append_left hj]⟩
/-- What a library function makes of the world that turns one row of numbers. -/
def turnW (k : IntKind) (w : World) (m b o : Nat) (ys : List Int) (os : Array Obj) : World := Sort.grow (Sort.putRow (Value.int k) (Sort.ahead w m) b o ys.toArray) os
theorem RowsOk.turn {base n : Nat} {w0 : Start} {w : World} {X : Cx} (H : RowsOk base w0 n X w) {r g b o : Nat} {k : IntKind} {xs ys : List Int} (hrow : X.rows.get r = some (.arr g (.int k) xs)) (hφ : X.φ r = some (b, o)) (hl : ys.length = xs.length) (m : Nat) (os : Array Obj) :
    ∃ X' : Cx, RowsOk base w0 n X' (turnW k w m b o ys os) ∧ X'.rows = X.rows.set r (some (.arr g (.int k) ys)) ∧ X'.φ = X.φ ∧ Stab X X' (fun _ _ => true) ∧ (∀ b, X'.F b ↔ X.F b) ∧
      ∀ c T fr, X'.heap[b]? = some (.cells c T fr) → ∃ c0 T0 fr0, X.heap[b]? = some (.cells c0 T0 fr0) ∧ c0.size = c.size := by
  rcases H.row r _ hrow with ⟨h1, _⟩ | ⟨b', o', c, T, h1, hcb, h3, h4⟩
  · rw [h1] at hφ; cases hφ
  rw [h1] at hφ
  cases hφ
  rw [H.heap] at hcb
  have hlt := H.lt hrow h1
  have hsz1 : ((Sh.int k).size) = 1 := rfl
  rw [hsz1, Nat.mul_one] at h3
  have hw1 : (Sort.putRow (Value.int k) (Sort.ahead w m) b o ys.toArray).heap[b]? = some (.cells (Sort.putCells (Value.int k) o ys.toArray c) T (0, 0)) := by
    show (w.heap.modify b _)[b]? = _
    rw [Array.getElem?_modify, if_pos rfl, hcb]
    rfl
  have hst : Stored X w (Sort.putRow (Value.int k) (Sort.ahead w m) b o ys.toArray) b :=
    ⟨rfl, rfl, rfl, by show (w.heap.modify b _).size = _; simp, fun q hq => by
      show (w.heap.modify b _)[q]? = _
      rw [Array.getElem?_modify, if_neg (by omega)]⟩
  have hsz : (Sort.putCells (Value.int k) o ys.toArray c).size = c.size := by simp [Sort.putCells]
  have hkind : g = g ∧ ∃ e : Sh.int k = Sh.int k, (e ▸ xs : List (Sh.int k).den).length = ys.length := ⟨rfl, rfl, hl.symm⟩
  obtain ⟨R, S⟩ := RowsOk.store (x' := .arr g (.int k) ys) H hrow h1 hst (rows_get_lt hrow) hcb hw1 hsz hkind (by
    refine .inr ⟨b, o, _, T, h1, hw1, by rw [hsz, hl, hsz1, Nat.mul_one]; exact h3, fun j hj => ⟨[.int k ys[j]], ⟨_, T, (0, 0), hw1, fun q hq => ?_⟩, rfl⟩⟩
    simp only [List.length_singleton] at hq
    obtain rfl : q = 0 := by omega
    simp only [hsz1, Nat.mul_one, Nat.add_zero]
    unfold Sort.putCells
    rw [Array.getElem?_mapIdx, Array.getElem?_eq_getElem (by omega)]
    simp only [Option.map_some, List.getElem?_cons_zero, Option.some.injEq]
    rw [if_pos ⟨by omega, by simp; omega⟩, show o + j - o = j by omega, getElem!_pos _ j (by simpa using hj)]
    simp) (fun cs hcs => by cases hcs)
  have hB := Below.of_grow (w := Sort.putRow (Value.int k) (Sort.ahead w m) b o ys.toArray) os
  refine ⟨_, R.grow hB (fun _ h => h) (fun b h => .inl h) (fun b h => Nat.lt_of_lt_of_le (R.fresh b h) hB.size), rfl, rfl, ?_, fun _ => Iff.rfl, fun c' T' fr' hc' => ?_⟩
  · have S2 := Stab.grow R hB (F' := X.F) (fun _ h => h)
    refine ⟨fun _ h => h, fun q hq => ?_, fun q g' _ cs' hq => ⟨(S.box q g' rfl cs' hq).1, rfl⟩, fun q g' _ s zs hq => ?_⟩
    · exact (S2.heap q hq).trans (S.heap q hq)
    · obtain ⟨xs1, e1, e2, _, e3⟩ := S.arr q g' rfl s zs hq
      refine ⟨xs1, e1, e2, rfl, fun p o1 hp c' T' fr' hc' => ?_⟩
      obtain ⟨_, _, _, _, e4⟩ := S2.arr q g' rfl s zs hq
      obtain ⟨c2, T2, fr2, e5, e6⟩ := e4 p o1 hp c' T' fr' hc'
      obtain ⟨c3, T3, fr3, e7, e8⟩ := e3 p o1 hp c2 T2 fr2 e5
      exact ⟨c3, T3, fr3, e7, by omega⟩
  · have hb := hB.block b (by rw [hst.size]; exact hlt)
    have hc' : (turnW k w m b o ys os).heap[b]? = some (.cells c' T' fr') := hc'
    unfold turnW at hc'
    rw [hb, hw1] at hc'
    cases hc'
    exact ⟨c, T, (0, 0), by rw [H.heap]; exact hcb, hsz.symm⟩
theorem RowsOk.holds {base n : Nat} {w0 : Start} {w : World} {X : Cx} (H : RowsOk base w0 n X w) {r g b o : Nat} {k : IntKind} {xs : List Int} (hrow : X.rows.get r = some (.arr g (.int k) xs)) (hφ : X.φ r = some (b, o)) : Sort.Holds (Value.int k) w b o xs.toArray := by
  rcases H.row r _ hrow with ⟨h1, _⟩ | ⟨b', o', c, T, h1, hcb, h3, h4⟩
  · rw [h1] at hφ; cases hφ
  rw [h1] at hφ
  cases hφ
  intro j hj
  have hj : j < xs.length := by simpa using hj
  obtain ⟨es, ⟨c1, T1, fr1, e1, e2⟩, hd⟩ := h4 j hj
  have hd : es = [.int k xs[j]] := hd
  subst hd
  rw [hcb] at e1
  cases e1
  rw [H.heap] at hcb
  have e3 := e2 0 (by simp)
  have e3 : c[o + j * 1 + 0]? = some (.int k xs[j]) := e3
  rw [Nat.mul_one, Nat.add_zero] at e3
  refine ⟨?_, ?_⟩
  · unfold World.cell?
    simp only [hcb]
    rw [getElem!_pos _ j (by simpa using hj)]
    simpa using e3
  · unfold World.frozen?
    simp only [hcb]
    simp
theorem set_get {rows : Rows} {r : Nat} {x : Row} (hlt : r < rows.length) (q : Nat) : Rows.get (rows.set r (some x)) q = if q = r then some x else rows.get q := by
  unfold Rows.get
  by_cases e : q = r
  · subst e; rw [List.getElem?_set_self hlt]; simp
  · rw [List.getElem?_set_ne (by omega), if_neg e]
/-- A library function that turns a whole row of numbers: what it makes of the numbers, what it answers with. -/
def turnC (k : IntKind) (okf : List Int → Bool) (t : List Int → List Int) (ans : List Int → Nat → Nat → AV) : IC := fun rows _ args =>
  match args with
  | [.own r g] => match rows.get r with
    | some (.arr g' (.int k') xs) => if g = g' ∧ k = k' then some (okf xs, ans xs r g, rows.set r (some (.arr g (.int k') (t xs))), addN r NSet.nil) else none
    | _ => none
  | _ => none
theorem turnC_ok {E : Env} {f : FuncId} {k : IntKind} {okf : List Int → Bool} {t : List Int → List Int} {ans : List Int → Nat → Nat → AV} (val : Option Addr → Nat → List Int → Value)
    (enter : ∀ (args : Array Value) (w : World), (callFunc f args).run E.P w = .ok (.enter f args) w)
    (hlen : ∀ xs, okf xs = true → (t xs).length = xs.length)
    (hrun : ∀ (w : World) (b o cap : Nat) (xs : List Int), okf xs = true → Sort.Holds (Value.int k) w b o xs.toArray → b < w.heap.size → xs.length ≤ cap →
      Calls E.P f #[.slice (some ⟨b, o, none⟩) xs.length cap] w fun e w' => e = .returned (val (some ⟨b, o, none⟩) cap xs) ∧ ∃ m os, w' = turnW k w m b o (t xs) os)
    (hnil : ∀ w : World, okf [] = true → Calls E.P f #[.slice none 0 0] w fun e w' => e = .returned (val none 0 []) ∧ w' = w)
    (hans : ∀ xs r g, (∀ p : Nat → Nat → Bool, p r g = true → (ans xs r g).all p = true))
    (hrel : ∀ (X : Cx) (r g : Nat) (xs : List Int) (a : Option Addr) (cap : Nat), okf xs = true → X.rows.get r = some (.arr g (.int k) (t xs)) → Rel X (.own r g) (.slice a xs.length cap) → Rel X (ans xs r g) (val a cap xs)) :
    IOk E f (turnC k okf t ans) := by
  refine ⟨enter, ?_, ?_⟩
  · intro rows gho args ok r rows' d h
    unfold turnC at h
    split at h
    · rename_i q g
      split at h
      · rename_i g' k' xs hrow
        split at h
        · simp only [Option.some.injEq, Prod.mk.injEq] at h
          obtain ⟨_, _, rfl, rfl⟩ := h
          refine ⟨by rw [List.length_set]; exact Nat.le_refl _, fun p hp hn => ?_⟩
          rw [set_get (rows_get_lt hrow), if_neg]
          intro e
          exact hn (by rw [mem_addN]; exact .inl e)
        · cases h
      · cases h
    · cases h
  · intro base w0 X w gho as us r rows' d R hG hg1 hg2 ha hr h
    unfold turnC at h
    split at h
    · rename_i q g
      split at h
      · rename_i g' k' xs hrow
        split at h
        · rename_i e
          obtain ⟨rfl, rfl⟩ := e
          simp only [Option.some.injEq, Prod.mk.injEq] at h
          obtain ⟨hok, rfl, rfl, rfl⟩ := h
          have hlt := rows_get_lt hrow
          simp only [RelL] at hr
          obtain ⟨v, _, rfl, hv, rfl⟩ := hr
          have hall : (AV.own q g).all (fun q _ => X.rows.okid X.rows.length q) = true := by
            simp only [AV.allL, Bool.and_eq_true] at ha
            exact ha.1
          have fin : ∀ (X' : Cx) (w' : World) (a : Option Addr) (cap : Nat), v = .slice a xs.length cap → X'.rows = X.rows.set q (some (.arr g (.int k) (t xs))) → RowsOk base w0 X.rows.length X' w' → Stab X X' (fun _ _ => true) →
              ∃ (X'' : Cx) (u : Value), Ending.returned (val a cap xs) = .returned u ∧ X''.rows = X.rows.set q (some (.arr g (.int k) (t xs))) ∧ RowsOk base w0 (X.rows.set q (some (.arr g (.int k) (t xs)))).length X'' w' ∧ GlobOk E X'' ∧
                (AV.allL (fun p _ => Rows.okid (X.rows.set q (some (.arr g (.int k) (t xs)))) (X.rows.set q (some (.arr g (.int k) (t xs)))).length p) gho = true ∧ RelL X'' gho w0.gv) ∧
                (ans xs q g).all (fun p _ => Rows.okid (X.rows.set q (some (.arr g (.int k) (t xs)))) (X.rows.set q (some (.arr g (.int k) (t xs)))).length p) = true ∧ Rel X'' (ans xs q g) u := by
            intro X' w' a cap hva hX R' S
            refine ⟨X', _, rfl, hX, by rw [List.length_set]; exact R', fun g' s x e => GRel.mono S (hG g' s x e), ⟨?_, RelL.mono S gho _ (AV.allL_imp (fun _ _ _ => rfl) gho hg1) hg2⟩, ?_, ?_⟩
            · rw [List.length_set]
              exact AV.allL_imp (fun p _ h => okid_set hlt h) gho hg1
            · refine hans xs q g _ ?_
              rw [List.length_set]
              exact okid_set hlt hall
            · refine hrel X' q g xs a cap hok (by rw [hX, set_get hlt, if_pos rfl]) ?_
              subst hva
              exact Rel.mono S (.own q g) _ rfl hv
          have hv' := hv
          simp only [Rel] at hv'
          rcases hv' _ xs hrow with ⟨h1, h2, h3⟩ | ⟨b, o, cap, h1, h2, h3, h4⟩
          · subst h3
            have hx : xs = [] := List.eq_nil_of_length_eq_zero h2
            subst hx
            refine (hnil w hok).mono fun e w' he => ?_
            obtain ⟨rfl, rfl⟩ := he
            have ht : t [] = [] := List.eq_nil_of_length_eq_zero (hlen _ hok)
            have hsame : X.rows.set q (some (.arr g (.int k) (t []))) = X.rows := by
              rw [ht]
              apply List.ext_getElem?
              intro i
              by_cases e : i = q
              · subst e
                rw [List.getElem?_set_self hlt]
                unfold Rows.get at hrow
                cases hh : X.rows[i]? with
                | none => rw [hh] at hrow; cases hrow
                | some y => rw [hh] at hrow; simp only [Option.join_some] at hrow; rw [hrow]
              · rw [List.getElem?_set_ne (by omega)]
            exact fin X _ none 0 rfl hsame.symm R ⟨fun _ h => h, fun _ _ => rfl, fun _ _ _ cs h => ⟨⟨cs, h⟩, rfl⟩, fun _ _ _ s zs h => ⟨zs, h, rfl, rfl, fun _ _ _ c T fr h => ⟨c, T, fr, h, rfl⟩⟩⟩
          · subst h2
            have hb := R.lt hrow h1
            refine (hrun w b o cap xs hok (R.holds hrow h1) hb h3).mono fun e w' he => ?_
            obtain ⟨rfl, m, os, rfl⟩ := he
            obtain ⟨X', R', hX, _, S, _⟩ := R.turn hrow h1 (hlen _ hok) m os
            exact fin X' _ _ cap rfl hX R' S
        · cases h
      · cases h
    · cases h
end Go.Proofs.YtnjofponcdcfcaaDoor.Ab
/- A loop that looks for the first place where something holds; tests in short. No conditions. -/
set_option linter.all false
namespace Go.Proofs.YtnjofponcdcfcaaDoor.Ab
/-- The first number below n that meets p; n if there is none. -/
def scanN (n : Nat) (p : Nat → Bool) : Nat := (List.range n).findIdx p
theorem scanN_le (n : Nat) (p : Nat → Bool) : scanN n p ≤ n := by
  unfold scanN
  have := List.findIdx_le_length (xs := List.range n) (p := p)
  simpa using this
theorem scanN_before {n : Nat} {p : Nat → Bool} {j : Nat} (hj : j < scanN n p) : p j = false := by
  have h := List.not_of_lt_findIdx hj
  rw [List.getElem_range] at h
  simpa using h
theorem scanN_at {n : Nat} {p : Nat → Bool} (h : scanN n p < n) : p (scanN n p) = true := by
  have h' : scanN n p < (List.range n).length := by simpa using h
  have := List.findIdx_getElem (xs := List.range n) (p := p) (w := h')
  have e : (List.range n)[List.findIdx p (List.range n)]'h' = scanN n p := List.getElem_range _
  rw [e] at this
  exact this
theorem scanN_all {n : Nat} {p : Nat → Bool} (h : ∀ j, j < n → p j = false) : scanN n p = n := by
  rcases Nat.lt_or_ge (scanN n p) n with hl | hl
  · have := scanN_at hl
    rw [h _ hl] at this
    cases this
  · exact Nat.le_antisymm (scanN_le n p) hl
theorem scanN_lt {n : Nat} {p : Nat → Bool} {j : Nat} (hj : j < n) (h : p j = true) : scanN n p < n := by
  rcases Nat.lt_or_ge (scanN n p) n with hl | hl
  · exact hl
  · have := scanN_before (n := n) (p := p) (j := j) (by omega)
    rw [h] at this
    cases this
theorem scanW {f : List Sc → Bool × Bool × List Sc} {x : List Sc} (st : Nat → List Sc) (n : Nat) (p : Nat → Bool) (hx : x = st 0) (h0 : ∀ j, j < n → p j = false → f (st j) = (true, true, st (j + 1)))
    (h1 : ∀ j, j < n → p j = true → (f (st j)).1 = true ∧ (f (st j)).2.1 = false) (hn : (f (st n)).1 = true ∧ (f (st n)).2.1 = false) : whileW f x = some (st (scanN n p)) := by
  have hle := scanN_le n p
  have hend : (f (st (scanN n p))).1 = true ∧ (f (st (scanN n p))).2.1 = false := by
    rcases Nat.lt_or_ge (scanN n p) n with h | h
    · exact h1 _ h (scanN_at h)
    · rw [show scanN n p = n by omega]
      exact hn
  exact whileW_upto st (scanN n p) hx (fun j hj => h0 j (by omega) (scanN_before hj)) hend.1 hend.2
/-! Tests in short; none of these by computing alone, so that the kernel never looks into what they stand before. -/
theorem sA1 (x : Bool) : sAnd x true = x := by cases x <;> rfl
theorem sA2 (x : Bool) : sAnd true x = x := by cases x <;> rfl
theorem sA3 (x : Bool) : sAnd x x = x := by cases x <;> rfl
theorem sA4 (x : Bool) : sAnd false x = false := by cases x <;> rfl
theorem sA5 (x : Bool) : sAnd x false = false := by cases x <;> rfl
theorem sO1 (x : Bool) : sOr x true = true := by cases x <;> rfl
theorem sO2 (x : Bool) : sOr (sNot x) x = true := by cases x <;> rfl
theorem sO3 (x : Bool) : sOr x (sNot x) = true := by cases x <;> rfl
theorem sO4 (x : Bool) : sOr true x = true := by cases x <;> rfl
theorem sO5 (x : Bool) : sOr false x = x := by cases x <;> rfl
theorem sI1 (x : Bool) : sIf x true true = true := by cases x <;> rfl
theorem sI2 (x : Bool) : sIf x x true = true := by cases x <;> rfl
theorem sI3 (x : Bool) : sIf x true (sNot x) = true := by cases x <;> rfl
theorem sIf_t {α : Type} (a b : α) (c : Bool) (h : c = true) : sIf c a b = a := by subst h; rfl
theorem sIf_f {α : Type} (a b : α) (c : Bool) (h : c = false) : sIf c a b = b := by subst h; rfl
theorem sI4 {α : Type} (a b : α) : sIf true a b = a := sIf_t a b true rfl
theorem sI5 {α : Type} (a b : α) : sIf false a b = b := sIf_f a b false rfl
theorem sN1 (x : Bool) : sNot (sNot x) = x := by cases x <;> rfl
theorem sN2' (x : Bool) (h : x = true) : sNot x = false := by subst h; rfl
theorem sN3' (x : Bool) (h : x = false) : sNot x = true := by subst h; rfl
theorem sN2 : sNot true = false := sN2' true rfl
theorem sN3 : sNot false = true := sN3' false rfl
theorem tIx (t : Tg) (i : Nat) (h : t = .x i) : t.isN = false := by subst h; rfl
theorem tIn (t : Tg) (h : t = .n) : t.isN = true := by subst h; rfl
theorem tIr (t : Tg) (h : t = .r) : t.isN = false := by subst h; rfl
theorem tI1 (i : Nat) : Tg.isN (.x i) = false := tIx _ i rfl
theorem tI2 : Tg.isN .n = true := tIn _ rfl
theorem tI3 : Tg.isN .r = false := tIr _ rfl
theorem tM1' (c : Bool) (t u : Tg) (h : c = true) : Tg.mix c t u = t := by subst h; rfl
theorem tM2' (c : Bool) (t u : Tg) (h : c = false) : Tg.mix c t u = u := by subst h; rfl
theorem tM1 (t u : Tg) : Tg.mix true t u = t := tM1' true t u rfl
theorem tM2 (t u : Tg) : Tg.mix false t u = u := tM2' false t u rfl
theorem tT1' (t u : Tg) (h : t = .n) : Tg.thenN t u = u := by subst h; rfl
theorem tT1 (u : Tg) : Tg.thenN .n u = u := tT1' _ u rfl
theorem tT2' (t u : Tg) (h : t = .r) : Tg.thenN t u = .r := by subst h; rfl
theorem tT2 (u : Tg) : Tg.thenN .r u = .r := tT2' _ u rfl
theorem tT3' (t u : Tg) (i : Nat) (h : t = .x i) : Tg.thenN t u = .x i := by subst h; rfl
theorem tT3 (u : Tg) (i : Nat) : Tg.thenN (.x i) u = .x i := tT3' _ u i rfl
theorem tB1' (i : Nat) (t : Tg) (h : t = .n) : Tg.block i t = .n := by subst h; rfl
theorem tB1 (i : Nat) : Tg.block i .n = .n := tB1' i _ rfl
theorem tB2' (i : Nat) (t : Tg) (h : t = .r) : Tg.block i t = .r := by subst h; rfl
theorem tB2 (i : Nat) : Tg.block i .r = .r := tB2' i _ rfl
theorem tB3' (i : Nat) (t : Tg) (h : t = .x i) : Tg.block i t = .n := by subst h; simp [Tg.block]
theorem tB3 (i : Nat) : Tg.block i (.x i) = .n := tB3' i _ rfl
theorem sS' {α : Type} (o : Option α) (x : α) (h : o = some x) : sSome o = true := by subst h; rfl
theorem sSome_some {α : Type} (x : α) : sSome (some x) = true := sS' _ x rfl
end Go.Proofs.YtnjofponcdcfcaaDoor.Ab
/- Tables of contracts of all kinds, over any program: what stands in a table is true; a function's contract out of its reading over a table. No conditions. -/
set_option linter.all false
namespace Go.Proofs.YtnjofponcdcfcaaDoor.Ab
structure XTab where
  k : List (FuncId × (List AV → Option (Bool × AV))) := []
  i : List (FuncId × IC) := []
  j : List (FuncId × (List AV → Option (Bool × AV))) := []
  n : List (FuncId × (List AV → Option (Bool × ((s : Sh) × List s.den)))) := []
/-- How a function is read: tests said beforehand, tests that are reckoned, loops round by round. -/
structure Opt where
  orc : List (Nat × Bool) := []
  lits : List Nat := []
  unroll : Nat := 0
abbrev Globs := Nat → Option ((s : Sh) × s.den)
noncomputable def gXP (P : Program) (G : Globs) (x : XTab) (o : Opt := {}) : Fx :=
  { P := P, G := G, K := fun f => x.k.lookup f, I := fun f => x.i.lookup f, J := fun f => x.j.lookup f, N := fun f => x.n.lookup f, res := [], W := whileW, rounds := 6, orc := o.orc, lits := o.lits, unroll := o.unroll }
noncomputable abbrev E0P (P : Program) (G : Globs) : Env := (gXP P G {}).toEnv
structure XOkP (P : Program) (G : Globs) (x : XTab) : Prop where
  k : ∀ f c, x.k.lookup f = some c → KOk (E0P P G) f c
  i : ∀ f c, x.i.lookup f = some c → IOk (E0P P G) f c
  j : ∀ f c, x.j.lookup f = some c → KFr (E0P P G) f c
  n : ∀ f c, x.n.lookup f = some c → KNew (E0P P G) f c
theorem KFr.cast' {E E' : Env} {f : FuncId} {c : List AV → Option (Bool × AV)} (H : KFr E f c) (hP : E.P = E'.P) (hG : E.G = E'.G) : KFr E' f c := by
  obtain ⟨P, G, K, I, J, N⟩ := E
  obtain ⟨P', G', K', I', J', N'⟩ := E'
  cases hP
  cases hG
  exact ⟨H.enter, H.valid⟩
theorem KNew.cast' {E E' : Env} {f : FuncId} {c} (H : KNew E f c) (hP : E.P = E'.P) (hG : E.G = E'.G) : KNew E' f c := by
  obtain ⟨P, G, K, I, J, N⟩ := E
  obtain ⟨P', G', K', I', J', N'⟩ := E'
  cases hP
  cases hG
  exact ⟨H.enter, H.valid⟩
variable {P : Program} {G : Globs}
theorem XOkP.env {x : XTab} (h : XOkP P G x) (o : Opt) : EnvOk (gXP P G x o).toEnv :=
  ⟨fun f c e => (h.k f c e).cast rfl rfl, fun f c e => (h.i f c e).cast rfl rfl, fun f c e => KFr.cast' (h.j f c e) rfl rfl, fun f c e => KNew.cast' (h.n f c e) rfl rfl⟩
theorem lookup_consP {α : Type} {p : FuncId → α → Prop} {t : List (FuncId × α)} (h : ∀ f c, t.lookup f = some c → p f c) {f : FuncId} {c : α} (k : p f c) : ∀ f' c', List.lookup f' ((f, c) :: t) = some c' → p f' c' := by
  intro f' c' e
  rw [List.lookup_cons] at e
  split at e
  · rename_i hh; cases e; rw [beq_iff_eq] at hh; subst hh; exact k
  · exact h _ _ e
theorem XOkP.nil : XOkP P G {} := ⟨fun _ _ h => (by cases h), fun _ _ h => (by cases h), fun _ _ h => (by cases h), fun _ _ h => (by cases h)⟩
theorem XOkP.consK {x : XTab} (h : XOkP P G x) {f : Nat} {c} (k : KOk (E0P P G) f c) : XOkP P G { x with k := (f, c) :: x.k } := ⟨lookup_consP h.k k, h.i, h.j, h.n⟩
theorem XOkP.consI {x : XTab} (h : XOkP P G x) {f : Nat} {c} (k : IOk (E0P P G) f c) : XOkP P G { x with i := (f, c) :: x.i } := ⟨h.k, lookup_consP h.i k, h.j, h.n⟩
theorem XOkP.consJ {x : XTab} (h : XOkP P G x) {f : Nat} {c} (k : KFr (E0P P G) f c) : XOkP P G { x with j := (f, c) :: x.j } := ⟨h.k, h.i, lookup_consP h.j k, h.n⟩
theorem XOkP.consN {x : XTab} (h : XOkP P G x) {f : Nat} {c} (k : KNew (E0P P G) f c) : XOkP P G { x with n := (f, c) :: x.n } := ⟨h.k, h.i, h.j, lookup_consP h.n k⟩
/-- How a function is entered. -/
def Enters (P : Program) (f : Nat) : Prop := ∀ (args : Array Value) (w : World), (callFunc f args).run P w = .ok (.enter f args) w
section
variable {x : XTab} (h : XOkP P G x) (hm : P.follows .mixedOrders = true) {f : Nat} {fn : Func} (hf : P.funcs[f]? = some fn) (he : Enters P f) (o : Opt)
include h hm hf he
/-- On data. -/
theorem XOkP.read {C : List AV → Option (Bool × AV)} (hC : ∀ xs r, C xs = some (true, r) → exFn (gXP P G x o) fn xs = some (true, r)) : KOk (E0P P G) f C :=
  KOk.cast (E := (gXP P G x o).toEnv) (E' := E0P P G) (exFnE_ok (Γ := gXP P G x o) (fn := fn) (h.env o) wok_whileW hm hf he hC) rfl rfl
/-- Run closed. -/
theorem XOkP.readC (k : Nat) {C : List AV → Option (Bool × AV)} (hC : ∀ xs r, C xs = some (true, r) → exFnC (gXP P G x o) k fn xs = some (true, r)) : KOk (E0P P G) f C :=
  KOk.cast (E := (gXP P G x o).toEnv) (E' := E0P P G) (exFnCE_ok (Γ := gXP P G x o) k (fn := fn) (h.env o) hm hf he hC) rfl rfl
/-- In place. -/
theorem XOkP.readI : IOk (E0P P G) f (exFnI (gXP P G x o) fn) :=
  IOk.cast (E := (gXP P G x o).toEnv) (E' := E0P P G) (exFnI_ok (Γ := gXP P G x o) (fn := fn) (h.env o) wok_whileW hm hf he) rfl rfl
/-- In place, run closed. -/
theorem XOkP.readCI (k : Nat) : IOk (E0P P G) f (exFnCI (gXP P G x o) k fn) :=
  IOk.cast (E := (gXP P G x o).toEnv) (E' := E0P P G) (exFnCI_ok (Γ := gXP P G x o) k (fn := fn) (h.env o) hm hf he) rfl rfl
end
end Go.Proofs.YtnjofponcdcfcaaDoor.Ab
