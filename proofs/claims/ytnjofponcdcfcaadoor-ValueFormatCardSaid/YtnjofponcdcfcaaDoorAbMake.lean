/- A slice made with a length: a row of zeros. -/
import Derived.Test.YtnjofponcdcfcaaDoorAbCore
import Derived.Laws.OwnMore
set_option linter.all false
namespace Go.Proofs.YtnjofponcdcfcaaDoor.Ab
open Go.RowKit

theorem rep_cells (z : Array Value) (hz : 0 < z.size) : ∀ c : Nat, (List.range (c * z.size)).map (fun j => z[j % z.size]!) = (List.replicate c z.toList).flatten
  | 0 => by simp
  | c + 1 => by
    have e1 : (c + 1) * z.size = c * z.size + z.size := by rw [Nat.add_mul, Nat.one_mul]
    have e2 : List.replicate (c + 1) z.toList = List.replicate c z.toList ++ [z.toList] := by rw [List.replicate_succ']
    rw [e1, List.range_add, List.map_append, rep_cells z hz c, e2, List.flatten_append, List.map_map]
    congr 1
    simp only [List.flatten_cons, List.flatten_nil, List.append_nil]
    apply List.ext_getElem?
    intro j
    rw [List.getElem?_map]
    by_cases hj : j < z.size
    · rw [List.getElem?_range hj]
      have : (c * z.size + j) % z.size = j := by rw [Nat.add_comm, Nat.add_mul_mod_self_right, Nat.mod_eq_of_lt hj]
      simp [this, hj]
    · rw [List.getElem?_eq_none (by simpa using hj), List.getElem?_eq_none (by simpa using hj)]
      rfl

theorem allD_rep {α : Type} {D : α → List Value → Prop} {x : α} {cs : List Value} (h : D x cs) : ∀ c : Nat, AllD D (List.replicate c x) (List.replicate c cs).flatten
  | 0 => rfl
  | c + 1 => ⟨cs, _, by simp [List.replicate_succ], h, allD_rep h c⟩

/-- A slice of zeros: whether it goes well, its row. -/
def qMake (P : Program) (t : TypeId) (l c : Int) : Option (Bool × Row) :=
  match P.underlying t with
  | some (.slice e) => match shOf P 20 e, zeroAV P e, P.info? e with
    | some s, some zs, some i => if 0 < s.size ∧ i.size = s.size ∧ zs.length = s.size then
        match ofCells s zs with
        | some (x, []) => some (sAnd (sLe 0 l) (sAnd (sLe l c) (sAnd (sLe c 9223372036854775807) (sLe (c * (i.bytes : Int)) 140737488355328))), .arr 0 s (List.replicate l.toNat x))
        | _ => none
      else none
    | _, _, _ => none
  | _ => none

theorem makeSlice_ok {P : Program} {base n : Nat} {w0 : Start} {w : World} {X : Cx} (H : RowsOk base w0 n X w) {id : Nat} (hid : n ≤ id) (hno : X.rows.get id = none) {t : TypeId} {l c : Int} {k1 k2 : IntKind} {ok : Bool} {row : Row}
    (h : qMake P t l c = some (ok, row)) (hok : ok = true) : ∃ v w', (Instr.makeSlice t (.int k1 l) (.int k2 c)).run P w = .ok v w' ∧ QPost X w id (.own id 0) (some row) v w' := by
  unfold qMake at h
  split at h
  · rename_i e ht
    split at h
    · rename_i s zs i hs hz hi
      split at h
      · rename_i hc
        obtain ⟨h0, h1, h2⟩ := hc
        split at h
        · rename_i x hx
          simp only [Option.some.injEq, Prod.mk.injEq] at h
          obtain ⟨h3, rfl⟩ := h
          subst h3
          simp only [Bool.and_eq_true, decide_eq_true_eq] at hok
          obtain ⟨g1, g2, g3, g4⟩ := hok
          obtain ⟨z, hzr, hzrel, _, i', hi', hiz, hzs⟩ := zeroAV_run (X := X) (w := w) hz
          rw [hi] at hi'
          cases hi'
          obtain ⟨v1, v2, hv, hD, hr2⟩ := ofCells_den (X := X) s zs x [] z.cells.toList hx hzrel
          have hv2 : v2 = [] := by simpa [RelL] using hr2
          subst hv2
          rw [List.append_nil] at hv
          have hzsz : z.cells.size = s.size := by rw [hzs, h1]
          let out : Array Value := (Array.range (c.toNat * s.size)).map fun j => z.cells[j % z.cells.size]!
          have hout : out.toList = (List.replicate c.toNat z.cells.toList).flatten := by
            have := rep_cells z.cells (by omega) c.toNat
            rw [hzsz] at this
            simp only [out, Array.toList_map, Array.toList_range, hzsz]
            exact this
          have hcl : List.replicate c.toNat z.cells.toList = List.replicate l.toNat z.cells.toList ++ List.replicate (c.toNat - l.toNat) z.cells.toList := by
            rw [List.replicate_append_replicate]
            congr 1
            omega
          have hpost := arr_post (id := id) (xs := List.replicate l.toNat x) (vs := out) (cap := c.toNat) H hid hno e (allD_rep (D := Den X.F X.heap s) (hv ▸ hD) l.toNat)
            ⟨(List.replicate (c.toNat - l.toNat) z.cells.toList).flatten, by rw [hout, hcl, List.flatten_append]⟩ (by simp [out]) (by rw [List.length_replicate]; omega)
          rw [List.length_replicate] at hpost
          refine ⟨_, _, ?_, hpost⟩
          have w1 : IntKind.wrap .i64 l = l := by unfold IntKind.wrap; simp [IntKind.signed, IntKind.bits]; omega
          have w2 : IntKind.wrap .i64 c = c := by unfold IntKind.wrap; simp [IntKind.signed, IntKind.bits]; omega
          have t1 : ¬ (c < 0) := by omega
          have t2 : ¬ ((281474976710656 : Int) < (i.bytes : Int) * c) := by
            rw [Int.mul_comm]
            omega
          have t3 : ¬ (l < 0) := by omega
          have t4 : ¬ (c < l) := by omega
          have t5 : ¬ (roomBytes < c.toNat * i.bytes) := by
            have e0 : ((c.toNat * i.bytes : Nat) : Int) = c * (i.bytes : Int) := by rw [Int.natCast_mul, Int.toNat_of_nonneg (by omega)]
            have : (roomBytes : Int) = 140737488355328 := rfl
            omega
          by_cases hn : c.toNat * i.size = 0
          · have hn' : out = #[] := by simp only [out]; rw [← h1, hn]; simp
            simp [Instr.makeSlice, run_underlying ht, asInt, asIntOf, typeInfo, hi, w1, w2, t1, t2, t3, t4, t5, askRoom, sizeOf, hn, hn', newRow]
            have e0 : ∀ f : Nat → Value, Array.map f (Array.range 0) = #[] := fun f => by simp
            rw [e0]
          · simp [Instr.makeSlice, run_underlying ht, asInt, asIntOf, typeInfo, hi, w1, w2, t1, t2, t3, t4, t5, askRoom, sizeOf, hn, hzr, newRow, out, h1]
            intro hh
            rw [h1] at hn
            exact absurd hh hn
        · cases h
      · cases h
    · cases h
  · cases h
end Go.Proofs.YtnjofponcdcfcaaDoor.Ab
set_option linter.unusedVariables false
set_option linter.all false
namespace Go.Proofs.YtnjofponcdcfcaaDoor.Ab
open Go.RowKit

/-! ### Numbers and data out of a plain value, and back: for branches that meet again, and loops -/
inductive Sc where
  | b (x : Bool) | i (x : Int) | n (x : Nat) | s (x : ByteArray) | d (s : Sh) (x : s.den)
  deriving Inhabited

def Sc.toB : Sc → Bool | .b x => x | _ => false
def Sc.toI : Sc → Int | .i x => x | _ => 0
def Sc.toN : Sc → Nat | .n x => x | _ => 0
def Sc.toS : Sc → ByteArray | .s x => x | _ => .empty
def Sc.toD (s : Sh) : Sc → s.den | .d s' x => if h : s' = s then h ▸ x else s.dflt | _ => s.dflt

theorem Sc.toD_d (s : Sh) (x : s.den) : Sc.toD s (.d s x) = x := by simp [Sc.toD]

/-- One of two. -/
def Sc.mix (c : Bool) : Sc → Sc → Sc
  | .b x, .b y => .b (sIf c x y)
  | .i x, .i y => .i (sIf c x y)
  | .n x, .n y => .n (sIf c x y)
  | .s x, .s y => .s (sIf c x y)
  | .d e x, .d e' y => if h : e' = e then .d e (sIf c x (h ▸ y)) else sIf c (.d e x) (.d e' y)
  | x, y => sIf c x y

theorem Sc.mix_true (x y : Sc) : Sc.mix true x y = x := by
  cases x <;> cases y <;> simp [Sc.mix]

theorem Sc.mix_false (x y : Sc) : Sc.mix false x y = y := by
  cases x <;> cases y <;> simp [Sc.mix]
  rename_i s x s' y
  intro h
  subst h
  simp

def mixL (c : Bool) : List Sc → List Sc → List Sc
  | x :: xs, y :: ys => Sc.mix c x y :: mixL c xs ys
  | _, _ => []

theorem mixL_true : ∀ {xs ys : List Sc}, xs.length = ys.length → mixL true xs ys = xs
  | [], [], _ => rfl
  | x :: xs, y :: ys, h => by simp [mixL, Sc.mix_true, mixL_true (xs := xs) (ys := ys) (by simpa using h)]
theorem mixL_false : ∀ {xs ys : List Sc}, xs.length = ys.length → mixL false xs ys = ys
  | [], [], _ => rfl
  | x :: xs, y :: ys, h => by simp [mixL, Sc.mix_false, mixL_false (xs := xs) (ys := ys) (by simpa using h)]

abbrev hd (r : List Sc) : Sc := r.headD (.b false)
abbrev tl (r : List Sc) : List Sc := r.tail
theorem hd_cons (x : Sc) (r : List Sc) : hd (x :: r) = x := rfl
theorem tl_cons (x : Sc) (r : List Sc) : tl (x :: r) = r := rfl

mutual
/-- A template filled with numbers and data. -/
def AV.fill : AV → List Sc → AV × List Sc
  | .bool _, r => (.bool (hd r).toB, tl r)
  | .int k _, r => (.int k (hd r).toI, tl r)
  | .str _, r => (.str (hd r).toS, tl r)
  | .dsl e _, r => (.dsl e ((hd r).toD (.sl e)), tl r)
  | .dptr s _ off, r => (.dptr s ((hd r).toD s) off, tl r)
  | .eptr q g _ off, r => (.eptr q g (hd r).toN off, tl r)
  | .osl q g _ _, r => (.osl q g (hd r).toN (hd (tl r)).toN, tl (tl r))
  | .agg ts, r => ((AV.fillL ts r).map .agg id)
  | .tup ts, r => ((AV.fillL ts r).map .tup id)
  | .iface t a, r => ((a.fill r).map (.iface t) id)
  | .clo f ts, r => ((AV.fillL ts r).map (.clo f) id)
  | .opt _ a, r => ((a.fill (tl r)).map (.opt (hd r).toB) id)
  | t, r => (t, r)
def AV.fillL : List AV → List Sc → List AV × List Sc
  | [], r => ([], r)
  | t :: ts, r => ((t.fill r).1 :: (AV.fillL ts (t.fill r).2).1, (AV.fillL ts (t.fill r).2).2)
end

mutual
/-- Some numbers and data for a template. -/
def AV.dummy : AV → List Sc
  | .bool _ => [.b false]
  | .int _ _ => [.i 0]
  | .str _ => [.s .empty]
  | .dsl e _ => [.d (.sl e) []]
  | .dptr s _ _ => [.d s s.dflt]
  | .eptr _ _ _ _ => [.n 0]
  | .osl _ _ _ _ => [.n 0, .n 0]
  | .agg ts => AV.dummyL ts
  | .tup ts => AV.dummyL ts
  | .iface _ a => a.dummy
  | .clo _ ts => AV.dummyL ts
  | .opt _ a => .b false :: a.dummy
  | _ => []
def AV.dummyL : List AV → List Sc
  | [] => []
  | t :: ts => t.dummy ++ AV.dummyL ts
end

mutual
/-- A value read under a template: gS, gT: the states of the rows on the two sides. -/
def AV.coe (gS : Nat → Option (Nat × Nat)) (gT : Nat → Option Nat) : AV → AV → Option (List Sc)
  | .unk, _ => some []
  | .bool _, .bool x => some [.b x]
  | .int k _, .int k' x => if k = k' then some [.i x] else none
  | .str _, .str x => some [.s x]
  | .nilp, .nilp => some []
  | .nilf, .nilf => some []
  | .nili, .nili => some []
  | .nils, .nils => some []
  | .dsl e _, .dsl e' xs => if e' = e then some [.d (.sl e') xs] else none
  | .dsl e _, .nils => some [.d (.sl e) []]
  | .dptr s _ off, .dptr s' x off' => if s' = s ∧ off' = off then some [.d s' x] else none
  | .ptr r off, .ptr r' off' => if r = r' ∧ off = off' then some [] else none
  | .bsl r off l c, .bsl r' off' l' c' => if r = r' ∧ (off = off' ∧ (l = l' ∧ c = c')) then some [] else none
  | .eptr r g _ off, .eptr r' g' i off' => if r = r' ∧ off = off' ∧ gT r = some g ∧ (gS r).map (·.1) = some g' then some [.n i] else none
  | .osl r g _ _, .osl r' g' st len => if r = r' ∧ gT r = some g ∧ (gS r).map (·.1) = some g' then some [.n st, .n len] else none
  | .osl r g _ _, .own r' g' => if r = r' ∧ gT r = some g then (match gS r with | some (g'', len) => if g'' = g' then some [.n 0, .n len] else none | none => none) else none
  | .own r g, .own r' g' => if r = r' ∧ gT r = some g ∧ (gS r).map (·.1) = some g' then some [] else none
  | .own r g, .nils => if gT r = some g ∧ gS r = none then some [] else none
  | .agg ts, .agg vs => AV.coeL gS gT ts vs
  | .tup ts, .tup vs => AV.coeL gS gT ts vs
  | .iface t a, .iface t' v => if t = t' then a.coe gS gT v else none
  | .clo f ts, .clo f' vs => if f = f' then AV.coeL gS gT ts vs else none
  | .opt _ a, v => match v with
    | .unk => some (.b false :: a.dummy)
    | .opt c v => (a.coe gS gT v).map (.b c :: ·)
    | .gopt c v => (a.coe gS gT v).map (.b c :: ·)
    | v => (a.coe gS gT v).map (.b true :: ·)
  | _, _ => none
def AV.coeL (gS : Nat → Option (Nat × Nat)) (gT : Nat → Option Nat) : List AV → List AV → Option (List Sc)
  | [], [] => some []
  | t :: ts, v :: vs => (t.coe gS gT v).bind fun x => (AV.coeL gS gT ts vs).map (x ++ ·)
  | _, _ => none
end

mutual
theorem AV.fill_dummy : ∀ (T : AV) (r : List Sc), (T.fill (T.dummy ++ r)).2 = r
  | .unk, _ | .nilp, _ | .nilf, _ | .nili, _ | .nils, _ | .ptr _ _, _ | .bsl _ _ _ _, _ | .own _ _, _ | .gopt _ _, _ => by simp [AV.fill, AV.dummy]
  | .bool _, _ | .int _ _, _ | .str _, _ | .dsl _ _, _ | .dptr _ _ _, _ | .eptr _ _ _ _, _ | .osl _ _ _ _, _ => by simp [AV.fill, AV.dummy]
  | .agg ts, r | .tup ts, r | .clo _ ts, r => by simpa [AV.fill, AV.dummy] using AV.fillL_dummy ts r
  | .iface _ a, r => by simpa [AV.fill, AV.dummy] using AV.fill_dummy a r
  | .opt _ a, r => by simpa [AV.fill, AV.dummy] using AV.fill_dummy a r
theorem AV.fillL_dummy : ∀ (ts : List AV) (r : List Sc), (AV.fillL ts (AV.dummyL ts ++ r)).2 = r
  | [], r => by simp [AV.fillL, AV.dummyL]
  | t :: ts, r => by
    simp only [AV.fillL, AV.dummyL, List.append_assoc]
    rw [AV.fill_dummy t]
    exact AV.fillL_dummy ts r
end

mutual
theorem AV.coe_len {gS : Nat → Option (Nat × Nat)} {gT : Nat → Option Nat} : ∀ (t v : AV) (xs r : List Sc), t.coe gS gT v = some xs → (t.fill (xs ++ r)).2 = r
  | .unk, v, xs, r, h => by simp only [AV.coe, Option.some.injEq] at h; subst h; simp [AV.fill]
  | .bool _, v, xs, r, h => by cases v <;> simp only [AV.coe, Option.some.injEq, reduceCtorEq] at h; subst h; simp [AV.fill]
  | .int k _, v, xs, r, h => by
    cases v <;> simp only [AV.coe, reduceCtorEq] at h
    split at h <;> cases h; simp [AV.fill]
  | .str _, v, xs, r, h => by cases v <;> simp only [AV.coe, Option.some.injEq, reduceCtorEq] at h; subst h; simp [AV.fill]
  | .nilp, v, xs, r, h => by cases v <;> simp only [AV.coe, Option.some.injEq, reduceCtorEq] at h; subst h; simp [AV.fill]
  | .nilf, v, xs, r, h => by cases v <;> simp only [AV.coe, Option.some.injEq, reduceCtorEq] at h; subst h; simp [AV.fill]
  | .nili, v, xs, r, h => by cases v <;> simp only [AV.coe, Option.some.injEq, reduceCtorEq] at h; subst h; simp [AV.fill]
  | .nils, v, xs, r, h => by cases v <;> simp only [AV.coe, Option.some.injEq, reduceCtorEq] at h; subst h; simp [AV.fill]
  | .dsl e _, v, xs, r, h => by
    cases v <;> simp only [AV.coe, Option.some.injEq, reduceCtorEq] at h
    · subst h; simp [AV.fill]
    · split at h <;> cases h; simp [AV.fill]
  | .dptr s _ off, v, xs, r, h => by
    cases v <;> simp only [AV.coe, reduceCtorEq] at h
    split at h <;> cases h; simp [AV.fill]
  | .ptr q off, v, xs, r, h => by
    cases v <;> simp only [AV.coe, reduceCtorEq] at h
    split at h <;> cases h; simp [AV.fill]
  | .bsl q off _ _, v, xs, r, h => by
    cases v <;> simp only [AV.coe, reduceCtorEq] at h
    split at h <;> cases h; simp [AV.fill]
  | .eptr q g _ off, v, xs, r, h => by
    cases v <;> simp only [AV.coe, reduceCtorEq] at h
    split at h <;> cases h; simp [AV.fill]
  | .osl q g _ _, v, xs, r, h => by
    cases v <;> simp only [AV.coe, reduceCtorEq] at h
    · split at h <;> cases h; simp [AV.fill]
    · split at h
      · split at h
        · split at h <;> cases h; simp [AV.fill]
        · cases h
      · cases h
  | .own q g, v, xs, r, h => by
    cases v <;> simp only [AV.coe, reduceCtorEq] at h
    · split at h <;> cases h; simp [AV.fill]
    · split at h <;> cases h; simp [AV.fill]
  | .agg ts, v, xs, r, h => by
    cases v <;> simp only [AV.coe, reduceCtorEq] at h
    simpa [AV.fill] using AV.coeL_len ts _ xs r h
  | .tup ts, v, xs, r, h => by
    cases v <;> simp only [AV.coe, reduceCtorEq] at h
    simpa [AV.fill] using AV.coeL_len ts _ xs r h
  | .iface t a, v, xs, r, h => by
    cases v <;> simp only [AV.coe, reduceCtorEq] at h
    split at h
    · simpa [AV.fill] using AV.coe_len a _ xs r h
    · cases h
  | .clo f ts, v, xs, r, h => by
    cases v <;> simp only [AV.coe, reduceCtorEq] at h
    split at h
    · simpa [AV.fill] using AV.coeL_len ts _ xs r h
    · cases h
  | .opt _ a, v, xs, r, h => by
    have plain : ∀ (c : Bool) (v' : AV) (xs : List Sc), (a.coe gS gT v').map (.b c :: ·) = some xs → ∀ c', ((AV.opt c' a).fill (xs ++ r)).2 = r := by
      intro c v' xs h c'
      simp only [Option.map_eq_some_iff] at h
      obtain ⟨ys, hy, rfl⟩ := h
      simpa [AV.fill] using AV.coe_len a v' ys r hy
    cases v <;> simp only [AV.coe] at h
    case unk =>
      cases h
      simpa [AV.fill] using AV.fill_dummy a r
    all_goals exact plain _ _ xs h _
  | .gopt _ a, v, xs, r, h => by cases v <;> simp only [AV.coe, reduceCtorEq] at h
theorem AV.coeL_len {gS : Nat → Option (Nat × Nat)} {gT : Nat → Option Nat} : ∀ (ts vs : List AV) (xs r : List Sc), AV.coeL gS gT ts vs = some xs → (AV.fillL ts (xs ++ r)).2 = r
  | [], vs, xs, r, h => by
    cases vs <;> simp only [AV.coeL, Option.some.injEq, reduceCtorEq] at h
    subst h
    simp [AV.fillL]
  | t :: ts, vs, xs, r, h => by
    cases vs with
    | nil => simp only [AV.coeL, reduceCtorEq] at h
    | cons v vs =>
      simp only [AV.coeL, Option.bind_eq_some_iff, Option.map_eq_some_iff] at h
      obtain ⟨x, h1, y, h2, rfl⟩ := h
      simp only [AV.fillL, List.append_assoc, AV.coe_len t v x (y ++ r) h1]
      exact AV.coeL_len ts vs y r h2
end

/-- How the rows of the template's side come of the rows of the other. -/
structure Turn (X X' : Cx) (gS : Nat → Option (Nat × Nat)) (gT : Nat → Option Nat) : Prop where
  F : X'.F = X.F
  heap : X'.heap = X.heap
  box : ∀ r cs', X'.rows.get r = some (.box cs') → (∃ cs, X.rows.get r = some (.box cs)) ∧ X'.φ r = X.φ r
  arr : ∀ r g s xs', X'.rows.get r = some (.arr g s xs') →
    (∃ g0 xs, X.rows.get r = some (.arr g0 s xs) ∧ xs'.length = xs.length ∧ gS r = some (g0, xs.length) ∧ X'.φ r = X.φ r) ∨ (gS r = none ∧ xs'.length = 0 ∧ X'.φ r = none)

mutual
theorem AV.coe_ok {X X' : Cx} {gS : Nat → Option (Nat × Nat)} {gT : Nat → Option Nat} (T : Turn X X' gS gT) : ∀ (t v : AV) (xs r : List Sc) (u : Value), t.coe gS gT v = some xs → Rel X v u →
    (t.fill (xs ++ r)).2 = r ∧ Rel X' (t.fill (xs ++ r)).1 u
  | .unk, v, xs, r, u, h, hr => by simp only [AV.coe, Option.some.injEq] at h; subst h; simp [AV.fill, Rel]
  | .bool _, v, xs, r, u, h, hr => by
    cases v <;> simp only [AV.coe, Option.some.injEq, reduceCtorEq] at h; subst h; simpa [AV.fill, Rel, Sc.toB] using hr
  | .int k _, v, xs, r, u, h, hr => by
    cases v <;> simp only [AV.coe, reduceCtorEq] at h
    split at h
    · rename_i e; subst e; cases h; simpa [AV.fill, Rel, Sc.toI] using hr
    · cases h
  | .str _, v, xs, r, u, h, hr => by
    cases v <;> simp only [AV.coe, Option.some.injEq, reduceCtorEq] at h; subst h; simpa [AV.fill, Rel, Sc.toS] using hr
  | .nilp, v, xs, r, u, h, hr => by
    cases v <;> simp only [AV.coe, Option.some.injEq, reduceCtorEq] at h; subst h; simpa [AV.fill, Rel] using hr
  | .nilf, v, xs, r, u, h, hr => by
    cases v <;> simp only [AV.coe, Option.some.injEq, reduceCtorEq] at h; subst h; simpa [AV.fill, Rel] using hr
  | .nili, v, xs, r, u, h, hr => by
    cases v <;> simp only [AV.coe, Option.some.injEq, reduceCtorEq] at h; subst h; simpa [AV.fill, Rel] using hr
  | .nils, v, xs, r, u, h, hr => by
    cases v <;> simp only [AV.coe, Option.some.injEq, reduceCtorEq] at h; subst h; simpa [AV.fill, Rel] using hr
  | .dsl e _, v, xs, r, u, h, hr => by
    cases v <;> simp only [AV.coe, Option.some.injEq, reduceCtorEq] at h
    · subst h
      simp only [Rel] at hr
      subst hr
      simp only [AV.fill, Rel, Sc.toD_d, List.cons_append, hd_cons, tl_cons, List.nil_append, true_and]
      exact ⟨none, 0, rfl, Nat.le_refl _, fun _ => ⟨rfl, rfl⟩, fun p hp => by cases hp⟩
    · split at h
      · rename_i e; subst e; cases h
        simp only [Rel] at hr
        simp only [AV.fill, Rel, Sc.toD_d, List.cons_append, hd_cons, tl_cons, List.nil_append, true_and]
        rw [T.F, T.heap]; exact hr
      · cases h
  | .dptr s _ off, v, xs, r, u, h, hr => by
    cases v <;> simp only [AV.coe, reduceCtorEq] at h
    split at h
    · rename_i e; obtain ⟨e, e'⟩ := e; subst e; subst e'; cases h
      simp only [Rel] at hr
      simp only [AV.fill, Rel, Sc.toD_d, List.cons_append, hd_cons, tl_cons, List.nil_append, true_and]
      rw [T.F, T.heap]; exact hr
    · cases h
  | .ptr q off, v, xs, r, u, h, hr => by
    cases v <;> simp only [AV.coe, reduceCtorEq] at h
    split at h
    · rename_i e; obtain ⟨e, e'⟩ := e; subst e; subst e'; cases h
      simp only [Rel] at hr
      simp only [AV.fill, Rel, List.nil_append, true_and]
      intro cs' hcs'
      obtain ⟨⟨cs, hcs⟩, hφ⟩ := T.box q cs' hcs'
      obtain ⟨b, hb, hv⟩ := hr cs hcs
      exact ⟨b, hφ.trans hb, hv⟩
    · cases h
  | .bsl q off _ _, v, xs, r, u, h, hr => by
    cases v <;> simp only [AV.coe, reduceCtorEq] at h
    split at h
    · rename_i e; obtain ⟨e, e', e2, e3⟩ := e; subst e; subst e'; subst e2; subst e3; cases h
      simp only [Rel] at hr
      simp only [AV.fill, Rel, List.nil_append, true_and]
      intro cs' hcs'
      obtain ⟨⟨cs, hcs⟩, hφ⟩ := T.box q cs' hcs'
      obtain ⟨b, hb, hv⟩ := hr cs hcs
      exact ⟨b, hφ.trans hb, hv⟩
    · cases h
  | .eptr q g _ off, v, xs, r, u, h, hr => by
    cases v <;> simp only [AV.coe, reduceCtorEq] at h
    split at h
    · rename_i e; obtain ⟨e, e', e1, e2⟩ := e; subst e; subst e'; cases h
      simp only [Rel] at hr
      simp only [AV.fill, Rel, Sc.toN, List.cons_append, hd_cons, tl_cons, List.nil_append, true_and]
      intro s xs' hx'
      rcases T.arr q g s xs' hx' with ⟨g0, xs, hx, hl, hg, hφ⟩ | ⟨hg, _⟩
      · rw [hg] at e2
        simp only [Option.map_some, Option.some.injEq] at e2
        subst e2
        obtain ⟨hi, b, o, hb, hv⟩ := hr s xs hx
        exact ⟨by omega, b, o, hφ.trans hb, hv⟩
      · rw [hg] at e2; cases e2
    · cases h
  | .osl q g _ _, v, xs, r, u, h, hr => by
    cases v <;> simp only [AV.coe, reduceCtorEq] at h
    · split at h
      · rename_i e; obtain ⟨e, e1, e2⟩ := e; subst e; cases h
        simp only [Rel] at hr
        simp only [AV.fill, Rel, Sc.toN, List.cons_append, hd_cons, tl_cons, List.nil_append, true_and]
        intro s xs' hx'
        rcases T.arr q g s xs' hx' with ⟨g0, xs, hx, hl, hg, hφ⟩ | ⟨hg, _⟩
        · rw [hg] at e2
          simp only [Option.map_some, Option.some.injEq] at e2
          subst e2
          obtain ⟨hle, hc⟩ := hr s xs hx
          refine ⟨by omega, ?_⟩
          rw [hφ, T.heap, hl]
          exact hc
        · rw [hg] at e2; cases e2
      · cases h
    · split at h
      · rename_i e; obtain ⟨e, e1⟩ := e; subst e
        split at h
        · rename_i g'' len hgs
          split at h
          · rename_i e2; subst e2; cases h
            simp only [Rel] at hr
            simp only [AV.fill, Rel, Sc.toN, List.cons_append, hd_cons, tl_cons, List.nil_append, true_and]
            intro s xs' hx'
            rcases T.arr q g s xs' hx' with ⟨g0, xs, hx, hl, hg, hφ⟩ | ⟨hg, _⟩
            · rw [hg] at hgs
              simp only [Option.some.injEq, Prod.mk.injEq] at hgs
              obtain ⟨rfl, rfl⟩ := hgs
              refine ⟨by omega, ?_⟩
              rw [hφ, T.heap]
              rcases hr s xs hx with ⟨h1, h2, h3⟩ | ⟨b, o, cap, h1, h2, h3, h4⟩
              · exact .inl ⟨h1, by omega, h3⟩
              · exact .inr ⟨b, o, _, cap, h1, h2, h3, .inr ⟨by simp, fun c T fr hc => by simpa using h4 c T fr hc⟩⟩
            · rw [hg] at hgs; cases hgs
          · cases h
        · cases h
      · cases h
  | .own q g, v, xs, r, u, h, hr => by
    cases v <;> simp only [AV.coe, reduceCtorEq] at h
    · split at h
      · rename_i e; obtain ⟨e1, e2⟩ := e; cases h
        simp only [Rel] at hr
        subst hr
        simp only [AV.fill, Rel, List.nil_append, true_and]
        intro s xs' hx'
        rcases T.arr q g s xs' hx' with ⟨g0, xs, hx, hl, hg, hφ⟩ | ⟨hg, h0, hφ⟩
        · rw [e2] at hg; cases hg
        · exact .inl ⟨hφ, h0, trivial⟩
      · cases h
    · split at h
      · rename_i e; obtain ⟨e, e1, e2⟩ := e; subst e; cases h
        simp only [Rel] at hr
        simp only [AV.fill, Rel, List.nil_append, true_and]
        intro s xs' hx'
        rcases T.arr q g s xs' hx' with ⟨g0, xs, hx, hl, hg, hφ⟩ | ⟨hg, _⟩
        · rw [hg] at e2
          simp only [Option.map_some, Option.some.injEq] at e2
          subst e2
          rw [hφ, T.heap, hl]
          exact hr s xs hx
        · rw [hg] at e2; cases e2
      · cases h
  | .agg ts, v, xs, r, u, h, hr => by
    cases v <;> simp only [AV.coe, reduceCtorEq] at h
    simp only [Rel] at hr
    obtain ⟨vs, rfl, hr⟩ := hr
    obtain ⟨h1, h2⟩ := AV.coeL_ok T ts _ xs r _ h hr
    simp only [AV.fill, Prod.map, Rel, id]
    exact ⟨h1, vs, rfl, h2⟩
  | .tup ts, v, xs, r, u, h, hr => by
    cases v <;> simp only [AV.coe, reduceCtorEq] at h
    simp only [Rel] at hr
    obtain ⟨vs, rfl, hr⟩ := hr
    obtain ⟨h1, h2⟩ := AV.coeL_ok T ts _ xs r _ h hr
    simp only [AV.fill, Prod.map, Rel, id]
    exact ⟨h1, vs, rfl, h2⟩
  | .iface t a, v, xs, r, u, h, hr => by
    cases v <;> simp only [AV.coe, reduceCtorEq] at h
    split at h
    · rename_i e; subst e
      simp only [Rel] at hr
      obtain ⟨w, rfl, hr⟩ := hr
      obtain ⟨h1, h2⟩ := AV.coe_ok T a _ xs r _ h hr
      simp only [AV.fill, Prod.map, Rel, id]
      exact ⟨h1, w, rfl, h2⟩
    · cases h
  | .clo f ts, v, xs, r, u, h, hr => by
    cases v <;> simp only [AV.coe, reduceCtorEq] at h
    split at h
    · rename_i e; subst e
      simp only [Rel] at hr
      obtain ⟨vs, rfl, hr⟩ := hr
      obtain ⟨h1, h2⟩ := AV.coeL_ok T ts _ xs r _ h hr
      simp only [AV.fill, Prod.map, Rel, id]
      exact ⟨h1, vs, rfl, h2⟩
    · cases h
  | .opt _ a, v, xs, r, u, h, hr => by
    have plain : ∀ (c : Bool) (v' : AV) (xs : List Sc), (a.coe gS gT v').map (.b c :: ·) = some xs → (c = true → Rel X v' u) → (c = false → True) → ∀ c0,
        ((AV.opt c0 a).fill (xs ++ r)).2 = r ∧ Rel X' ((AV.opt c0 a).fill (xs ++ r)).1 u := by
      intro c v' xs h h1 _ c0
      simp only [Option.map_eq_some_iff] at h
      obtain ⟨ys, hy, rfl⟩ := h
      simp only [AV.fill, List.cons_append, hd_cons, tl_cons, Prod.map, Rel, id, Sc.toB]
      cases c with
      | true =>
        obtain ⟨h2, h3⟩ := AV.coe_ok T a v' ys r u hy (h1 rfl)
        exact ⟨h2, fun _ => h3⟩
      | false =>
        refine ⟨?_, fun e => by cases e⟩
        exact AV.coe_len a v' ys r hy
    cases v <;> simp only [AV.coe] at h
    case unk =>
      cases h
      simp only [AV.fill, List.cons_append, hd_cons, tl_cons, Prod.map, Rel, id, Sc.toB]
      exact ⟨AV.fill_dummy a r, fun e => by cases e⟩
    case opt c v => exact plain c v xs h (by simpa [Rel] using hr) (fun _ => trivial) _
    case gopt c v => exact plain c v xs h (by simp only [Rel] at hr; exact hr.1) (fun _ => trivial) _
    all_goals exact plain true _ xs h (fun _ => hr) (fun _ => trivial) _
  | .gopt _ a, v, xs, r, u, h, hr => by cases v <;> simp only [AV.coe, reduceCtorEq] at h
theorem AV.coeL_ok {X X' : Cx} {gS : Nat → Option (Nat × Nat)} {gT : Nat → Option Nat} (T : Turn X X' gS gT) : ∀ (ts vs : List AV) (xs r : List Sc) (us : List Value), AV.coeL gS gT ts vs = some xs → RelL X vs us →
    (AV.fillL ts (xs ++ r)).2 = r ∧ RelL X' (AV.fillL ts (xs ++ r)).1 us
  | [], vs, xs, r, us, h, hr => by
    cases vs <;> simp only [AV.coeL, Option.some.injEq, reduceCtorEq] at h
    subst h
    simpa [AV.fillL, RelL] using hr
  | t :: ts, vs, xs, r, us, h, hr => by
    cases vs with
    | nil => simp only [AV.coeL, reduceCtorEq] at h
    | cons v vs =>
      simp only [AV.coeL, Option.bind_eq_some_iff, Option.map_eq_some_iff] at h
      obtain ⟨x, h1, y, h2, rfl⟩ := h
      simp only [RelL] at hr
      obtain ⟨u, us', rfl, hu, hus⟩ := hr
      obtain ⟨e1, e2⟩ := AV.coe_ok T t v x (y ++ r) u h1 hu
      obtain ⟨e3, e4⟩ := AV.coeL_ok T ts vs y r us' h2 hus
      simp only [AV.fillL, List.append_assoc, e1, RelL]
      exact ⟨e3, u, us', rfl, e2, e4⟩
end
end Go.Proofs.YtnjofponcdcfcaaDoor.Ab
/- The temporaries of a function as a tree over the bits of their numbers: a place that was never set holds .unk. -/
set_option linter.unusedVariables false
set_option linter.all false
namespace Go.Proofs.YtnjofponcdcfcaaDoor.Ab

/-- n made a literal before it goes on: the kernel computes with numbers only in closed terms. -/
def forceN {α : Type} (n : Nat) (k : Nat → α) : α := match n with | 0 => k 0 | m + 1 => k (m + 1)
theorem forceN_eq {α : Type} {n : Nat} {k : Nat → α} : forceN n k = k n := by cases n <;> rfl

inductive Tr where
  | nil
  | node (v : AV) (l r : Tr)

def Tr.get : Tr → Nat → AV
  | .nil, _ => .unk
  | .node v l r, i => bif Nat.beq i 0 then v else bif Nat.beq (Nat.mod i 2) 1 then l.get (Nat.div i 2) else r.get (Nat.div (Nat.sub i 1) 2)

def Tr.top : Tr → AV | .nil => .unk | .node v _ _ => v
def Tr.lft : Tr → Tr | .nil => .nil | .node _ l _ => l
def Tr.rgt : Tr → Tr | .nil => .nil | .node _ _ r => r

/-- Set; f is more than the number. -/
def Tr.set : Nat → Tr → Nat → AV → Tr
  | 0, t, _, _ => t
  | f + 1, t, i, v => bif Nat.beq i 0 then .node v t.lft t.rgt else bif Nat.beq (Nat.mod i 2) 1 then .node t.top (Tr.set f t.lft (Nat.div i 2) v) t.rgt else .node t.top t.lft (Tr.set f t.rgt (Nat.div (Nat.sub i 1) 2) v)

/-- The tree of a function, below n; the place i of this part is the place a*i+b of the whole. -/
def Tr.gen (g : Nat → AV) (n : Nat) : Nat → Nat → Nat → Tr
  | 0, _, _ => .nil
  | f + 1, a, b => bif Nat.ble n b then .nil else .node (g b) (Tr.gen g n f (Nat.mul 2 a) (Nat.add a b)) (Tr.gen g n f (Nat.mul 2 a) (Nat.add (Nat.mul 2 a) b))

def Tr.all (p : Nat → AV → Bool) : Tr → Nat → Nat → Bool
  | .nil, _, _ => true
  | .node v l r, a, b => p b v && (l.all p (Nat.mul 2 a) (Nat.add a b) && r.all p (Nat.mul 2 a) (Nat.add (Nat.mul 2 a) b))

theorem beq_false {a b : Nat} (h : a ≠ b) : Nat.beq a b = false := by
  cases hb : Nat.beq a b with
  | false => rfl
  | true => exact absurd (Nat.eq_of_beq_eq_true hb) h

theorem Tr.get_node {v : AV} {l r : Tr} {i : Nat} : (Tr.node v l r).get i = if i = 0 then v else if i % 2 = 1 then l.get (i / 2) else r.get ((i - 1) / 2) := by
  show (bif Nat.beq i 0 then v else bif Nat.beq (Nat.mod i 2) 1 then l.get (Nat.div i 2) else r.get (Nat.div (Nat.sub i 1) 2)) = _
  by_cases h : i = 0
  · subst h; rfl
  · rw [beq_false h, if_neg h, cond_false]
    by_cases h2 : i % 2 = 1
    · rw [if_pos h2, show Nat.mod i 2 = 1 from h2]; rfl
    · rw [if_neg h2, beq_false (show Nat.mod i 2 ≠ 1 from h2)]; rfl

theorem Tr.get_parts (t : Tr) (i : Nat) : t.get i = if i = 0 then t.top else if i % 2 = 1 then t.lft.get (i / 2) else t.rgt.get ((i - 1) / 2) := by
  cases t with
  | nil => simp [Tr.get, Tr.top, Tr.lft, Tr.rgt]
  | node v l r => exact Tr.get_node

theorem Tr.get_set : ∀ {f : Nat} {t : Tr} {i : Nat} {v : AV} {j : Nat}, i < f → (Tr.set f t i v).get j = if j = i then v else t.get j
  | 0, _, i, _, _, h => by omega
  | f + 1, t, i, v, j, h => by
    show (bif Nat.beq i 0 then Tr.node v t.lft t.rgt else bif Nat.beq (Nat.mod i 2) 1 then .node t.top (Tr.set f t.lft (Nat.div i 2) v) t.rgt else .node t.top t.lft (Tr.set f t.rgt (Nat.div (Nat.sub i 1) 2) v)).get j = _
    by_cases h0 : i = 0
    · subst h0
      rw [show Nat.beq 0 0 = true from rfl, cond_true, Tr.get_node, Tr.get_parts t j]
      split <;> rfl
    · rw [beq_false h0, cond_false]
      by_cases h2 : i % 2 = 1
      · rw [show Nat.mod i 2 = 1 from h2, show Nat.beq 1 1 = true from rfl, cond_true, Tr.get_node, Tr.get_set (show Nat.div i 2 < f by show i / 2 < f; omega), Tr.get_parts t j]
        by_cases hj : j = 0
        · rw [if_pos hj, if_pos hj, if_neg (by omega)]
        · rw [if_neg hj, if_neg hj]
          by_cases hj2 : j % 2 = 1
          · rw [if_pos hj2, if_pos hj2]
            by_cases e : j = i
            · rw [if_pos e, if_pos (by rw [e]; rfl)]
            · rw [if_neg e]; exact if_neg (show ¬ j / 2 = i / 2 by omega)
          · rw [if_neg hj2, if_neg hj2, if_neg (by omega)]
      · rw [beq_false (show Nat.mod i 2 ≠ 1 from h2), cond_false, Tr.get_node, Tr.get_set (show Nat.div (Nat.sub i 1) 2 < f by show (i - 1) / 2 < f; omega), Tr.get_parts t j]
        by_cases hj : j = 0
        · rw [if_pos hj, if_pos hj, if_neg (by omega)]
        · rw [if_neg hj, if_neg hj]
          by_cases hj2 : j % 2 = 1
          · rw [if_pos hj2, if_pos hj2, if_neg (by omega)]
          · rw [if_neg hj2, if_neg hj2]
            by_cases e : j = i
            · rw [if_pos e, if_pos (by rw [e]; rfl)]
            · rw [if_neg e]; exact if_neg (show ¬ (j - 1) / 2 = (i - 1) / 2 by omega)

theorem Tr.get_gen {g : Nat → AV} {n : Nat} : ∀ {f a b i : Nat}, i < f → a * i + b < n → (Tr.gen g n f a b).get i = g (a * i + b)
  | 0, _, _, i, h, _ => by omega
  | f + 1, a, b, i, h, hn => by
    show (bif Nat.ble n b then Tr.nil else .node (g b) (Tr.gen g n f (Nat.mul 2 a) (Nat.add a b)) (Tr.gen g n f (Nat.mul 2 a) (Nat.add (Nat.mul 2 a) b))).get i = _
    have hb : Nat.ble n b = false := by
      cases hh : Nat.ble n b with
      | false => rfl
      | true => have := Nat.le_of_ble_eq_true hh; omega
    rw [hb, cond_false, Tr.get_node]
    by_cases h0 : i = 0
    · rw [if_pos h0, h0]; simp
    · rw [if_neg h0]
      by_cases h2 : i % 2 = 1
      · have e : (2 * a) * (i / 2) + (a + b) = a * i + b := by
          have : i = 2 * (i / 2) + 1 := by omega
          calc (2 * a) * (i / 2) + (a + b) = a * (2 * (i / 2) + 1) + b := by rw [Nat.mul_add, ← Nat.mul_assoc, Nat.mul_comm a 2]; omega
            _ = a * i + b := by rw [← this]
        rw [if_pos h2]
        have := Tr.get_gen (g := g) (n := n) (f := f) (a := 2 * a) (b := a + b) (i := i / 2) (by omega) (by rw [e]; exact hn)
        rw [e] at this
        exact this
      · have e : (2 * a) * ((i - 1) / 2) + (2 * a + b) = a * i + b := by
          have : i = 2 * ((i - 1) / 2) + 2 := by omega
          calc (2 * a) * ((i - 1) / 2) + (2 * a + b) = a * (2 * ((i - 1) / 2) + 2) + b := by rw [Nat.mul_add, ← Nat.mul_assoc, Nat.mul_comm a 2]; omega
            _ = a * i + b := by rw [← this]
        rw [if_neg h2]
        have := Tr.get_gen (g := g) (n := n) (f := f) (a := 2 * a) (b := 2 * a + b) (i := (i - 1) / 2) (by omega) (by rw [e]; exact hn)
        rw [e] at this
        exact this

theorem Tr.all_get {p : Nat → AV → Bool} : ∀ {t : Tr} {a b : Nat}, t.all p a b = true → ∀ i, t.get i = .unk ∨ p (a * i + b) (t.get i) = true
  | .nil, _, _, _, i => .inl rfl
  | .node v l r, a, b, h, i => by
    simp only [Tr.all, Bool.and_eq_true] at h
    obtain ⟨h1, h2, h3⟩ := h
    rw [Tr.get_node]
    by_cases h0 : i = 0
    · rw [if_pos h0, h0]; right; simpa using h1
    · rw [if_neg h0]
      by_cases hi : i % 2 = 1
      · rw [if_pos hi]
        have e : (2 * a) * (i / 2) + (a + b) = a * i + b := by
          have : i = 2 * (i / 2) + 1 := by omega
          calc (2 * a) * (i / 2) + (a + b) = a * (2 * (i / 2) + 1) + b := by rw [Nat.mul_add, ← Nat.mul_assoc, Nat.mul_comm a 2]; omega
            _ = a * i + b := by rw [← this]
        have := Tr.all_get h2 (i / 2)
        rw [show Nat.mul 2 a * (i / 2) + Nat.add a b = a * i + b from e] at this
        exact this
      · rw [if_neg hi]
        have e : (2 * a) * ((i - 1) / 2) + (2 * a + b) = a * i + b := by
          have : i = 2 * ((i - 1) / 2) + 2 := by omega
          calc (2 * a) * ((i - 1) / 2) + (2 * a + b) = a * (2 * ((i - 1) / 2) + 2) + b := by rw [Nat.mul_add, ← Nat.mul_assoc, Nat.mul_comm a 2]; omega
            _ = a * i + b := by rw [← this]
        have := Tr.all_get h3 ((i - 1) / 2)
        rw [show Nat.mul 2 a * ((i - 1) / 2) + Nat.add (Nat.mul 2 a) b = a * i + b from e] at this
        exact this

/-- The temporaries. -/
structure TMap where
  length : Nat
  tr : Tr
instance : Inhabited TMap := ⟨⟨0, .nil⟩⟩

def TMap.get? (m : TMap) (t : Nat) : Option AV := forceN m.length fun n => bif Nat.blt t n then some (m.tr.get t) else none
instance : GetElem? TMap Nat AV (fun m t => t < m.length) where
  getElem m t _ := m.tr.get t
  getElem? m t := m.get? t
def TMap.getD (m : TMap) (t : Nat) (d : AV) : AV := (m.get? t).getD d
def TMap.set (m : TMap) (t : Nat) (v : AV) : TMap := forceN m.length fun n => ⟨n, Tr.set (t + 1) m.tr t v⟩
def TMap.mapIdx (g : Nat → AV → AV) (m : TMap) : TMap := forceN m.length fun n => ⟨n, Tr.gen (fun t => g t (m.tr.get t)) n n 1 0⟩
def TMap.all (m : TMap) (p : AV → Bool) : Bool := m.tr.all (fun _ v => p v) 1 0
def TMap.allI (m : TMap) (p : Nat → AV → Bool) : Bool := m.tr.all p 1 0
def TMap.ofL (l : List AV) (n : Nat) : TMap := forceN l.length fun k => ⟨k + (n - k), Tr.gen (fun t => l.getD t .unk) k k 1 0⟩

theorem TMap.get?_eq {m : TMap} {t : Nat} : m[t]? = if t < m.length then some (m.tr.get t) else none := by
  show forceN m.length (fun n => bif Nat.blt t n then some (m.tr.get t) else none) = _
  rw [forceN_eq]
  by_cases h : t < m.length
  · rw [if_pos h, show Nat.blt t m.length = true from Nat.ble_eq_true_of_le h]; rfl
  · rw [if_neg h]
    cases hh : Nat.blt t m.length with
    | false => rfl
    | true => exact absurd (Nat.le_of_ble_eq_true hh) h

theorem TMap.getElem?_lt {m : TMap} {t : Nat} {v : AV} (h : m[t]? = some v) : t < m.length := by
  rw [TMap.get?_eq] at h
  split at h
  · assumption
  · cases h
theorem TMap.getElem?_none {m : TMap} {t : Nat} (h : m.length ≤ t) : m[t]? = none := by
  rw [TMap.get?_eq, if_neg (by omega)]
theorem TMap.getElem?_some {m : TMap} {t : Nat} (h : t < m.length) : m[t]? = some (m.tr.get t) := by rw [TMap.get?_eq, if_pos h]
@[simp] theorem TMap.length_set {m : TMap} {t : Nat} {v : AV} : (m.set t v).length = m.length := by unfold TMap.set; rw [forceN_eq]
@[simp] theorem TMap.length_mapIdx {m : TMap} {g : Nat → AV → AV} : (m.mapIdx g).length = m.length := by unfold TMap.mapIdx; rw [forceN_eq]
theorem TMap.getElem?_set {m : TMap} {t u : Nat} {v : AV} : (m.set t v)[u]? = if u = t ∧ t < m.length then some v else m[u]? := by
  rw [TMap.get?_eq, TMap.get?_eq, TMap.length_set]
  unfold TMap.set
  rw [forceN_eq]
  simp only
  rw [Tr.get_set (by omega)]
  by_cases e : u = t
  · subst e
    by_cases h : u < m.length <;> simp [h]
  · simp [e]
theorem TMap.getElem?_set_self {m : TMap} {t : Nat} {v : AV} (h : t < m.length) : (m.set t v)[t]? = some v := by rw [TMap.getElem?_set, if_pos ⟨rfl, h⟩]
theorem TMap.getElem?_set_ne {m : TMap} {t u : Nat} {v : AV} (h : t ≠ u) : (m.set t v)[u]? = m[u]? := by rw [TMap.getElem?_set, if_neg (fun e => h e.1.symm)]
theorem TMap.getElem?_mapIdx {m : TMap} {g : Nat → AV → AV} {t : Nat} : (m.mapIdx g)[t]? = (m[t]?).map (g t) := by
  rw [TMap.get?_eq, TMap.get?_eq, TMap.length_mapIdx]
  by_cases h : t < m.length
  · rw [if_pos h, if_pos h]
    simp only [TMap.mapIdx]
    rw [forceN_eq, Tr.get_gen h (by omega)]; simp
  · rw [if_neg h, if_neg h]; rfl
theorem TMap.all_at {m : TMap} {p : AV → Bool} (hu : p .unk = true) (h : m.all p = true) {t : Nat} {v : AV} (hv : m[t]? = some v) : p v = true := by
  have hl := TMap.getElem?_lt hv
  rw [TMap.getElem?_some hl] at hv
  cases hv
  rcases Tr.all_get h t with e | e
  · rw [e]; exact hu
  · exact e
theorem TMap.allI_at {m : TMap} {p : Nat → AV → Bool} (hu : ∀ t, p t .unk = true) (h : m.allI p = true) {t : Nat} {v : AV} (hv : m[t]? = some v) : p t v = true := by
  have hl := TMap.getElem?_lt hv
  rw [TMap.getElem?_some hl] at hv
  cases hv
  rcases Tr.all_get h t with e | e
  · rw [e]; exact hu t
  · simpa using e
theorem TMap.length_ofL {l : List AV} {n : Nat} : (TMap.ofL l n).length = l.length + (n - l.length) := by unfold TMap.ofL; rw [forceN_eq]
theorem TMap.getElem?_ofL {l : List AV} {n t : Nat} : (TMap.ofL l n)[t]? = if t < l.length + (n - l.length) then some (l.getD t .unk) else none := by
  rw [TMap.get?_eq]
  unfold TMap.ofL
  rw [forceN_eq]
  simp only
  split
  · congr 1
    by_cases h2 : t < l.length
    · rw [Tr.get_gen h2 (by omega)]; simp
    · have : ∀ (g : Nat → AV) (N f a b i : Nat), N ≤ a * i + b → a ≠ 0 → (Tr.gen g N f a b).get i = .unk := by
        intro g N f
        induction f with
        | zero => intro a b i _ _; rfl
        | succ f ih =>
          intro a b i hN ha
          show (bif Nat.ble N b then Tr.nil else .node (g b) (Tr.gen g N f (Nat.mul 2 a) (Nat.add a b)) (Tr.gen g N f (Nat.mul 2 a) (Nat.add (Nat.mul 2 a) b))).get i = _
          cases hh : Nat.ble N b with
          | true => rfl
          | false =>
            rw [cond_false, Tr.get_node]
            have hb : ¬ N ≤ b := fun h => by rw [Nat.ble_eq_true_of_le h] at hh; cases hh
            have h0 : i ≠ 0 := by rintro rfl; simp at hN; exact hb hN
            rw [if_neg h0]
            by_cases hi : i % 2 = 1
            · rw [if_pos hi]
              refine ih _ _ _ ?_ (show 2 * a ≠ 0 by omega)
              show N ≤ (2 * a) * (i / 2) + (a + b)
              have : i = 2 * (i / 2) + 1 := by omega
              have e : (2 * a) * (i / 2) + (a + b) = a * (2 * (i / 2) + 1) + b := by rw [Nat.mul_add, ← Nat.mul_assoc, Nat.mul_comm a 2]; omega
              rw [e, ← this]; exact hN
            · rw [if_neg hi]
              refine ih _ _ _ ?_ (show 2 * a ≠ 0 by omega)
              show N ≤ (2 * a) * ((i - 1) / 2) + (2 * a + b)
              have : i = 2 * ((i - 1) / 2) + 2 := by omega
              have e : (2 * a) * ((i - 1) / 2) + (2 * a + b) = a * (2 * ((i - 1) / 2) + 2) + b := by rw [Nat.mul_add, ← Nat.mul_assoc, Nat.mul_comm a 2]; omega
              rw [e, ← this]; exact hN
      rw [this _ _ _ _ _ _ (by omega) (by omega)]
      rw [List.getD_eq_getElem?_getD, List.getElem?_eq_none (by omega)]
      rfl
  · rfl
end Go.Proofs.YtnjofponcdcfcaaDoor.Ab
/- Closures made, the room of no slice, zeros behind no slice. -/
set_option linter.unusedVariables false
set_option linter.all false
namespace Go.Proofs.YtnjofponcdcfcaaDoor.Ab
open Go.RowKit

theorem RowsOk.drew {base n : Nat} {w0 : Start} {w : World} {X : Cx} (H : RowsOk base w0 n X w) : RowsOk base w0 n X w.drew :=
  { H with heap := H.heap, keeps := H.keeps.drew, hb := H.hb, fresh := H.fresh }

/-- append(nil, make([]E, k)...): whether it goes well, its row. -/
def qAppMake (P : Program) (t t' : TypeId) (k : Int) : Option (Bool × Row) :=
  match P.underlying t, P.underlying t' with
  | some (.slice e), some (.int _) => match shOf P 20 e, zeroAV P e, P.info? e with
    | some s, some zs, some i => if 0 < s.size ∧ i.size = s.size ∧ zs.length = s.size ∧ 0 < i.bytes then
        match ofCells s zs with
        | some (x, []) => some (sAnd (sLt 0 k) (sLe (k * (i.bytes : Int)) 140737488355328), .arr 0 s (List.replicate k.toNat x))
        | _ => none
      else none
    | _, _, _ => none
  | _, _ => none

theorem appMake_ok {P : Program} {base n : Nat} {w0 : Start} {w : World} {X : Cx} (H : RowsOk base w0 n X w) {id : Nat} (hid : n ≤ id) (hno : X.rows.get id = none) {t t' ty : TypeId} {k : Int} {ki : IntKind} {ok : Bool} {row : Row}
    (h : qAppMake P t t' k = some (ok, row)) (hok : ok = true) : ∃ v w', (Builtin.append_ #[t, t'] ty #[.slice none 0 0, .int ki k]).run P w = .ok v w' ∧ QPost X w id (.own id 0) (some row) v w' := by
  unfold qAppMake at h
  split at h
  · rename_i e ki' ht ht'
    split at h
    · rename_i s zs i hs hz hi
      split at h
      · rename_i hc
        obtain ⟨h0, h1, h2, hb0⟩ := hc
        split at h
        · rename_i x hx
          simp only [Option.some.injEq, Prod.mk.injEq] at h
          obtain ⟨h3, rfl⟩ := h
          subst h3
          simp only [Bool.and_eq_true, decide_eq_true_eq] at hok
          obtain ⟨g1, g2⟩ := hok
          obtain ⟨z, hzr, hzrel, _, i', hi', hiz, hzs⟩ := zeroAV_run (X := X) (w := w) hz
          rw [hi] at hi'
          cases hi'
          obtain ⟨v1, v2, hv, hD, hr2⟩ := ofCells_den (X := X) s zs x [] z.cells.toList hx hzrel
          have hv2 : v2 = [] := by simpa [RelL] using hr2
          subst hv2
          rw [List.append_nil] at hv
          have hzsz : z.cells.size = s.size := by rw [hzs, h1]
          generalize hm : k.toNat = m at *
          have hk : k = (m : Int) := by omega
          subst hk
          have hmb : m * i.bytes ≤ 140737488355328 := by
            have : ((m * i.bytes : Nat) : Int) ≤ 140737488355328 := by rw [Int.natCast_mul]; exact g2
            omega
          have hmle : m ≤ m * i.bytes := Nat.le_mul_of_pos_right _ hb0
          have hzc : ∀ c : Nat, (Builtin.zeroCells z.cells c).toList = (List.replicate c z.cells.toList).flatten := by
            intro c
            have := rep_cells z.cells (by omega) c
            simp only [Builtin.zeroCells, Array.toList_map, Array.toList_range]
            exact this
          have hge := grownCap_ge w m 0 e
          generalize hgc : grownCap w m 0 e = gc at *
          let out : Array Value := Builtin.zeroCells z.cells m ++ Builtin.zeroCells z.cells (gc - m)
          have hpost := arr_post (id := id) (xs := List.replicate m x) (vs := out) (cap := gc) H.drew hid hno e (allD_rep (D := Den X.F X.heap s) (hv ▸ hD) m)
            ⟨(List.replicate (gc - m) z.cells.toList).flatten, by simp only [out, Array.toList_append, hzc]⟩ (by
              have e1 : ∀ c, (Builtin.zeroCells z.cells c).size = c * s.size := fun c => by simp [Builtin.zeroCells, hzsz]
              simp only [out, Array.size_append, e1]
              rw [← Nat.add_mul]
              rw [show m + (gc - m) = gc by omega]) (by rw [List.length_replicate]; omega)
          rw [List.length_replicate] at hpost
          refine ⟨.slice (some ⟨w.drew.heap.size, 0, none⟩) m gc, { w.drew with heap := w.drew.heap.push (.cells out e) }, ?_, ?_⟩
          rotate_left
          · obtain ⟨F', loc, p1, p2⟩ := hpost
            exact ⟨F', loc, ((Below.refl w.heap.size w).drew).trans p1, p2⟩
          · have w1 : IntKind.wrap .i64 (m : Int) = m := by unfold IntKind.wrap; simp [IntKind.signed, IntKind.bits]; omega
            have t1 : ¬ ((m : Int) < 0) := by omega
            have t2 : ¬ ((281474976710656 : Int) < (m : Int) * (i.bytes : Int)) := by rw [← Int.natCast_mul]; omega
            have t3 : ¬ (9223372036854775807 < (m : Int)) := by omega
            have hm0 : m ≠ 0 := by omega
            have t4 : ¬ (281474976710656 < Builtin.nextslicecap m 0 * i.bytes) := by rw [nextslicecap_zero (by omega)]; omega
            have hs0 : s.size ≠ 0 := by omega
            have hms : m * s.size ≠ 0 := Nat.mul_ne_zero hm0 hs0
            simp [Builtin.append_, run_underlying ht, run_underlying ht', sizeOf, typeInfo, zeroValue, hi, hiz, asInt, asIntOf, w1, t1, t2, t3, t4, hms, hm0, hs0, h1, Question.forced, run_firstCells_none, newRow, out]
            have hgc' : (Question.appendCap m 0 e).cut (w.tape w.drawn (Question.appendCap m 0 e)) = gc := hgc
            rw [hgc']
            exact ⟨rfl, rfl⟩
        · cases h
      · cases h
    · cases h
  · cases h
end Go.Proofs.YtnjofponcdcfcaaDoor.Ab
