/- The words of a verified reading of Go code as plain functions: shapes, plain data, plain values, and what it means that a Go value in memory reads as one. -/
import Derived.Tactics
import Derived.Orders
import Derived.LoopN
import Derived.Below
import Derived.WalkKit
import Derived.BigFrame
import Derived.Laws.StructEq
import Derived.ChangeKeysEq
import Derived.BigCall
set_option linter.all false
namespace Go.Proofs.YtnjofponcdcfcaaDoor.Ab
open Go.RowKit

/-! ### Tests on numbers, and their like, under names of their own: what is not told apart by the text stays behind them -/
abbrev sAnd (a b : Bool) : Bool := a && b
abbrev sOr (a b : Bool) : Bool := a || b
abbrev sNot (a : Bool) : Bool := !a
abbrev sIf {α : Type} (c : Bool) (x y : α) : α := bif c then x else y
abbrev sLt (a b : Int) : Bool := decide (a < b)
abbrev sLe (a b : Int) : Bool := decide (a ≤ b)
abbrev sEq (a b : Int) : Bool := a == b
abbrev sNe (a b : Int) : Bool := a != b
abbrev sEqB (a b : Bool) : Bool := a == b
abbrev sSome {α : Type} (x : Option α) : Bool := x.isSome

/-- The shape of plain data. -/
inductive Sh where
  | unit | bool | int (k : IntKind) | str | sl (e : Sh) | arr (n : Nat) (e : Sh) | prod (a b : Sh)
  deriving DecidableEq

/-- The data of a shape. -/
@[reducible] def Sh.den : Sh → Type
  | .unit => Unit
  | .bool => Bool
  | .int _ => Int
  | .str => ByteArray
  | .sl e => List e.den
  | .arr _ e => List e.den
  | .prod a b => a.den × b.den

/-- How many cells it takes. -/
def Sh.size : Sh → Nat
  | .unit => 0
  | .prod a b => a.size + b.size
  | .arr n e => n * e.size
  | _ => 1

def Sh.dflt : (s : Sh) → s.den
  | .unit => ()
  | .bool => false
  | .int _ => (0 : Int)
  | .str => ByteArray.empty
  | .sl _ => []
  | .arr n e => List.replicate n e.dflt
  | .prod a b => (a.dflt, b.dflt)

instance (s : Sh) : Inhabited s.den := ⟨s.dflt⟩

/-- Plain values. -/
inductive AV where
  | unk
  | bool (b : Bool)
  | int (k : IntKind) (n : Int)
  | str (s : ByteArray)
  | nilp | nilf | nili | nils
  | dsl (e : Sh) (xs : List e.den)
  | dptr (s : Sh) (x : s.den) (off : Nat)
  | ptr (r off : Nat)
  | bsl (r off len cap : Nat)
  | eptr (r g i off : Nat)
  | osl (r g st len : Nat)
  | own (r g : Nat)
  | agg (cs : List AV)
  | tup (cs : List AV)
  | iface (t : TypeId) (v : AV)
  | clo (f : FuncId) (cs : List AV)
  | opt (c : Bool) (v : AV)
  | gopt (c : Bool) (v : AV)
  deriving Inhabited

/-- Memory of the call's own. -/
inductive Row where
  | box (cs : List AV)
  | arr (g : Nat) (s : Sh) (xs : List s.den)

abbrev Rows := List (Option Row)
def Rows.get (rs : Rows) (r : Nat) : Option Row := (rs[r]?).join

/-- From offset o on, block b holds these cells. -/
def cellsAt (h : Array Obj) (b o : Nat) (cs : List Value) : Prop :=
  ∃ c T fr, h[b]? = some (.cells c T fr) ∧ ∀ j, j < cs.length → c[o + j]? = cs[j]?

/-- Cells in a row read as the data of a list, one behind the other. -/
def AllD {α : Type} (D : α → List Value → Prop) : List α → List Value → Prop
  | [], cs => cs = []
  | x :: xs, cs => ∃ c1 c2, cs = c1 ++ c2 ∧ D x c1 ∧ AllD D xs c2

/-- These cells read as this datum; what they point to lies in blocks of F. -/
def Den (F : Nat → Prop) (h : Array Obj) : (s : Sh) → s.den → List Value → Prop
  | .unit, _, cs => cs = []
  | .bool, x, cs => cs = [.bool x]
  | .int k, x, cs => cs = [.int k x]
  | .str, x, cs => cs = [.string x]
  | .sl e, xs, cs => ∃ a cap, cs = [.slice a xs.length cap] ∧ xs.length ≤ cap ∧ (a = none → xs = [] ∧ cap = 0) ∧
      (∀ p, a = some p → (0 < xs.length → p.spot = none) ∧ ∀ i, (hi : i < xs.length) → F p.block ∧ ∃ es, cellsAt h p.block (p.off + i * e.size) es ∧ Den F h e xs[i] es)
  | .arr n e, xs, cs => xs.length = n ∧ AllD (Den F h e) xs cs
  | .prod a b, x, cs => ∃ c1 c2, cs = c1 ++ c2 ∧ Den F h a x.1 c1 ∧ Den F h b x.2 c2

/-- What a reading leans on. -/
structure Cx where
  F : Nat → Prop
  φ : Nat → Option (Nat × Nat)
  rows : Rows
  heap : Array Obj

mutual
def Rel (X : Cx) : AV → Value → Prop
  | .unk, _ => True
  | .bool b, v => v = .bool b
  | .int k n, v => v = .int k n
  | .str s, v => v = .string s
  | .nilp, v => v = .pointer none
  | .nilf, v => v = .nilFunc
  | .nili, v => v = .nilIface
  | .nils, v => v = .slice none 0 0
  | .dsl e xs, v => Den X.F X.heap (.sl e) xs [v]
  | .dptr s x off, v => ∃ b o cs, v = .pointer (some ⟨b, o + off, none⟩) ∧ X.F b ∧ cellsAt X.heap b o cs ∧ Den X.F X.heap s x cs
  | .ptr r off, v => ∀ cs, X.rows.get r = some (.box cs) → ∃ b, X.φ r = some (b, 0) ∧ v = .pointer (some ⟨b, off, none⟩)
  | .bsl r off len cap, v => ∀ cs, X.rows.get r = some (.box cs) → ∃ b, X.φ r = some (b, 0) ∧ v = .slice (some ⟨b, off, none⟩) len cap
  | .eptr r g i off, v => ∀ s xs, X.rows.get r = some (.arr g s xs) → i < xs.length ∧ ∃ b o, X.φ r = some (b, o) ∧ v = .pointer (some ⟨b, o + i * s.size + off, none⟩)
  | .osl r g st len, v => ∀ s xs, X.rows.get r = some (.arr g s xs) → st + len ≤ xs.length ∧
      ((X.φ r = none ∧ xs.length = 0 ∧ v = .slice none 0 0) ∨
       ∃ b o a cap, X.φ r = some (b, o) ∧ v = .slice (some a) len cap ∧ len ≤ cap ∧
        ((cap = 0 ∧ a.spot = none ∧ (st = 0 → a = ⟨b, o, none⟩)) ∨ (a = ⟨b, o + st * s.size, none⟩ ∧ ∀ c T fr, X.heap[b]? = some (.cells c T fr) → o + (st + cap) * s.size ≤ c.size)))
  | .own r g, v => ∀ s xs, X.rows.get r = some (.arr g s xs) →
      ((X.φ r = none ∧ xs.length = 0 ∧ v = .slice none 0 0) ∨
       ∃ b o cap, X.φ r = some (b, o) ∧ v = .slice (some ⟨b, o, none⟩) xs.length cap ∧ xs.length ≤ cap ∧ ∀ c T fr, X.heap[b]? = some (.cells c T fr) → o + cap * s.size ≤ c.size)
  | .agg cs, v => ∃ vs, v = .agg vs ∧ RelL X cs vs.toList
  | .tup cs, v => ∃ vs, v = .tuple vs ∧ RelL X cs vs.toList
  | .iface t a, v => ∃ u, v = .iface t u ∧ Rel X a u
  | .clo f cs, v => ∃ vs, v = .func (.func f) #[] vs ∧ RelL X cs vs.toList
  | .opt c a, v => c = true → Rel X a v
  | .gopt c a, v => (c = true → Rel X a v) ∧ (c = false → v = undef)
def RelL (X : Cx) : List AV → List Value → Prop
  | [], vs => vs = []
  | a :: as, vs => ∃ v r, vs = v :: r ∧ Rel X a v ∧ RelL X as r
end

/-- A row of memory of the call's own lies there. -/
def RowOk (X : Cx) (r : Nat) : Row → Prop
  | .box cs => ∀ b o, X.φ r = some (b, o) → o = 0 ∧ ∃ c T, X.heap[b]? = some (.cells c T (0, 0)) ∧ RelL X cs c.toList
  | .arr _ s xs => (X.φ r = none ∧ xs = []) ∨ ∃ b o c T, X.φ r = some (b, o) ∧ X.heap[b]? = some (.cells c T (0, 0)) ∧ o + xs.length * s.size ≤ c.size ∧
      ∀ i, (hi : i < xs.length) → ∃ es, cellsAt X.heap b (o + i * s.size) es ∧ Den X.F X.heap s xs[i] es

mutual
/-- All that a value points to satisfies. -/
def AV.all (p : Nat → Nat → Bool) : AV → Bool
  | .ptr r _ => p r 0
  | .bsl r _ _ _ => p r 0
  | .eptr r g _ _ => p r g
  | .osl r g _ _ => p r g
  | .own r g => p r g
  | .agg cs => AV.allL p cs
  | .tup cs => AV.allL p cs
  | .iface _ v => v.all p
  | .clo _ cs => AV.allL p cs
  | .opt _ v => v.all p
  | .gopt _ v => v.all p
  | _ => true
def AV.allL (p : Nat → Nat → Bool) : List AV → Bool
  | [] => true
  | a :: as => a.all p && AV.allL p as
end

/-- A number of a row that is no place to come. -/
def Rows.okid (rows : Rows) (n : Nat) (r : Nat) : Bool := decide (r < n) || (rows.get r).isSome

/-- Where a call began: the world, the blocks that hold its data. -/
structure Start where
  world : World
  F : Nat → Prop
  gv : List Value := []

/-- All memory of the call's own: each row lies there, in a block of its own from base on, none of them of F. -/
structure RowsOk (base : Nat) (w0 : Start) (n : Nat) (X : Cx) (w : World) : Prop where
  heap : X.heap = w.heap
  keeps : Below base w0.world w
  sub : ∀ b, X.F b → w0.F b ∨ base ≤ b
  hb : base ≤ w.heap.size
  fresh : ∀ b, X.F b → b < w.heap.size
  row : ∀ r x, X.rows.get r = some x → RowOk X r x
  own : ∀ r x b o, X.rows.get r = some x → X.φ r = some (b, o) → base ≤ b ∧ ¬ X.F b
  apart : ∀ r r' x x' b o b' o', X.rows.get r = some x → X.rows.get r' = some x' → X.φ r = some (b, o) → X.φ r' = some (b', o') → b = b' → r = r'
  refs : ∀ r cs, X.rows.get r = some (.box cs) → AV.allL (fun q _ => X.rows.okid n q) cs = true

/-! ### Plain lemmas -/
theorem AllD.length {α : Type} {D : α → List Value → Prop} {n : Nat} (hD : ∀ x cs, D x cs → cs.length = n) : ∀ (xs : List α) (cs : List Value), AllD D xs cs → cs.length = xs.length * n
  | [], cs, h => by cases h; simp
  | x :: xs, cs, h => by
    obtain ⟨c1, c2, rfl, h1, h2⟩ := h
    rw [List.length_append, hD _ _ h1, AllD.length hD xs c2 h2, List.length_cons, Nat.add_mul]; omega

theorem AllD.mono {α : Type} {D D' : α → List Value → Prop} (hD : ∀ x cs, D x cs → D' x cs) : ∀ (xs : List α) (cs : List Value), AllD D xs cs → AllD D' xs cs
  | [], _, h => h
  | _ :: xs, _, ⟨c1, c2, e, h1, h2⟩ => ⟨c1, c2, e, hD _ _ h1, AllD.mono hD xs c2 h2⟩

theorem Den.length {F : Nat → Prop} {h : Array Obj} : ∀ (s : Sh) (x : s.den) (cs : List Value), Den F h s x cs → cs.length = s.size
  | .unit, _, _, e => by rw [show _ = [] from e]; rfl
  | .bool, _, _, e => by rw [show _ = [_] from e]; rfl
  | .int _, _, _, e => by rw [show _ = [_] from e]; rfl
  | .str, _, _, e => by rw [show _ = [_] from e]; rfl
  | .sl _, _, _, ⟨_, _, e, _⟩ => by rw [e]; rfl
  | .arr n e, xs, cs, ⟨hl, h⟩ => by
    rw [AllD.length (fun x cs => Den.length e x cs) xs cs h, hl]; rfl
  | .prod a b, x, cs, ⟨c1, c2, e, h1, h2⟩ => by
    rw [e, List.length_append, Den.length a _ _ h1, Den.length b _ _ h2]; rfl

theorem cellsAt.mono {h h' : Array Obj} {b o : Nat} {cs : List Value} (e : h'[b]? = h[b]?) (H : cellsAt h b o cs) : cellsAt h' b o cs := by
  obtain ⟨c, T, fr, hc, hj⟩ := H
  exact ⟨c, T, fr, e.trans hc, hj⟩

theorem Den.mono {F F' : Nat → Prop} {h h' : Array Obj} (hF : ∀ b, F b → F' b) (hh : ∀ b, F b → h'[b]? = h[b]?) :
    ∀ (s : Sh) (x : s.den) (cs : List Value), Den F h s x cs → Den F' h' s x cs
  | .unit, _, _, e => e
  | .bool, _, _, e => e
  | .int _, _, _, e => e
  | .str, _, _, e => e
  | .sl e, xs, cs, ⟨a, cap, hc, hl, hn, hp⟩ => ⟨a, cap, hc, hl, hn, fun p ep => ⟨(hp p ep).1, fun i hi => by
      obtain ⟨hFb, es, hes, hd⟩ := (hp p ep).2 i hi
      exact ⟨hF _ hFb, es, hes.mono (hh _ hFb), Den.mono hF hh e _ _ hd⟩⟩⟩
  | .arr n e, xs, cs, ⟨hl, h⟩ => ⟨hl, AllD.mono (fun x cs => Den.mono hF hh e x cs) xs cs h⟩
  | .prod a b, x, cs, ⟨c1, c2, e, h1, h2⟩ => ⟨c1, c2, e, Den.mono hF hh a _ _ h1, Den.mono hF hh b _ _ h2⟩

theorem cellsAt.append {h : Array Obj} {b o : Nat} {c1 c2 : List Value} (H : cellsAt h b o (c1 ++ c2)) : cellsAt h b o c1 ∧ cellsAt h b (o + c1.length) c2 := by
  obtain ⟨c, T, fr, hc, hj⟩ := H
  refine ⟨⟨c, T, fr, hc, fun j hl => ?_⟩, ⟨c, T, fr, hc, fun j hl => ?_⟩⟩
  · rw [hj j (by rw [List.length_append]; omega), List.getElem?_append_left hl]
  · rw [show o + c1.length + j = o + (c1.length + j) by omega, hj _ (by rw [List.length_append]; omega), List.getElem?_append_right (by omega)]
    congr 1; omega

/-- The cells of a datum, as plain values. -/
def cellsOf : (s : Sh) → s.den → List AV
  | .unit, _ => []
  | .bool, x => [.bool x]
  | .int k, x => [.int k x]
  | .str, x => [.str x]
  | .sl e, x => [.dsl e x]
  | .arr n e, xs => (List.range n).flatMap fun i => cellsOf e (xs.getD i e.dflt)
  | .prod a b, x => cellsOf a x.1 ++ cellsOf b x.2

theorem RelL.append {X : Cx} : ∀ {as bs : List AV} {vs us : List Value}, RelL X as vs → RelL X bs us → RelL X (as ++ bs) (vs ++ us)
  | [], _, vs, us, h, h' => by rw [show vs = [] by simpa [RelL] using h]; simpa using h'
  | a :: as, bs, vs, us, h, h' => by
    obtain ⟨v, r, rfl, hv, hr⟩ : ∃ v r, vs = v :: r ∧ Rel X a v ∧ RelL X as r := by simpa [RelL] using h
    simp only [List.cons_append, RelL]
    exact ⟨v, r ++ us, rfl, hv, RelL.append hr h'⟩

theorem RelL.length {X : Cx} : ∀ {as : List AV} {vs : List Value}, RelL X as vs → vs.length = as.length
  | [], vs, h => by rw [show vs = [] by simpa [RelL] using h]; rfl
  | a :: as, vs, h => by
    obtain ⟨v, r, rfl, _, hr⟩ : ∃ v r, vs = v :: r ∧ Rel X a v ∧ RelL X as r := by simpa [RelL] using h
    simp [RelL.length hr]

theorem RelL.get {X : Cx} : ∀ {as : List AV} {vs : List Value} (i : Nat) (a : AV), RelL X as vs → as[i]? = some a → ∃ v, vs[i]? = some v ∧ Rel X a v
  | [], vs, i, a, h, e => by simp at e
  | b :: as, vs, i, a, h, e => by
    obtain ⟨v, r, rfl, hv, hr⟩ : ∃ v r, vs = v :: r ∧ Rel X b v ∧ RelL X as r := by simpa [RelL] using h
    cases i with
    | zero => simp at e; subst e; exact ⟨v, by simp, hv⟩
    | succ i => simpa using RelL.get i a hr (by simpa using e)

theorem RelL.drop {X : Cx} : ∀ {as : List AV} {vs : List Value} (n : Nat), RelL X as vs → RelL X (as.drop n) (vs.drop n)
  | _, _, 0, h => by simpa using h
  | [], vs, n + 1, h => by rw [show vs = [] by simpa [RelL] using h]; simp [RelL]
  | b :: as, vs, n + 1, h => by
    obtain ⟨v, r, rfl, hv, hr⟩ : ∃ v r, vs = v :: r ∧ Rel X b v ∧ RelL X as r := by simpa [RelL] using h
    simpa using RelL.drop n hr

theorem RelL.take {X : Cx} : ∀ {as : List AV} {vs : List Value} (n : Nat), RelL X as vs → RelL X (as.take n) (vs.take n)
  | _, _, 0, h => by simp [RelL]
  | [], vs, n + 1, h => by rw [show vs = [] by simpa [RelL] using h]; simp [RelL]
  | b :: as, vs, n + 1, h => by
    obtain ⟨v, r, rfl, hv, hr⟩ : ∃ v r, vs = v :: r ∧ Rel X b v ∧ RelL X as r := by simpa [RelL] using h
    simp only [List.take_succ_cons, RelL]
    exact ⟨v, _, rfl, hv, RelL.take n hr⟩

theorem AllD.split {α : Type} {D : α → List Value → Prop} : ∀ {xs : List α} {cs : List Value}, AllD D xs cs → ∃ css : List (List Value), cs = css.flatten ∧ css.length = xs.length ∧ ∀ i (h : i < xs.length) c, css[i]? = some c → D xs[i] c
  | [], cs, h => ⟨[], by simpa [AllD] using h, rfl, fun i h => by simp at h⟩
  | x :: xs, cs, ⟨c1, c2, e, h1, h2⟩ => by
    obtain ⟨css, e2, hl, hi⟩ := AllD.split h2
    refine ⟨c1 :: css, by simp [e, e2], by simp [hl], fun i h c hc => ?_⟩
    cases i with
    | zero => simp at hc; subst hc; simpa using h1
    | succ i => simpa using hi i (by simpa using h) c (by simpa using hc)

theorem relL_flatMap {X : Cx} {α : Type} (f : α → List AV) : ∀ (l : List α) (css : List (List Value)), l.length = css.length → (∀ (i : Nat) (a : α) (c : List Value), l[i]? = some a → css[i]? = some c → RelL X (f a) c) → RelL X (l.flatMap f) css.flatten
  | [], css, hl, _ => by
    cases css with
    | nil => simp [RelL]
    | cons _ _ => simp at hl
  | a :: l, css, hl, h => by
    cases css with
    | nil => simp at hl
    | cons c css =>
      simp only [List.flatMap_cons, List.flatten_cons]
      exact RelL.append (h 0 a c rfl rfl) (relL_flatMap f l css (by simpa using hl) fun i a' c' ha hc => h (i + 1) a' c' (by simpa using ha) (by simpa using hc))

theorem Den.rel {X : Cx} : ∀ (s : Sh) (x : s.den) (cs : List Value), Den X.F X.heap s x cs → RelL X (cellsOf s x) cs
  | .unit, _, _, e => by rw [show _ = [] from e]; simp [cellsOf, RelL]
  | .bool, _, _, e => by rw [show _ = [_] from e]; simp [cellsOf, RelL, Rel]
  | .int _, _, _, e => by rw [show _ = [_] from e]; simp [cellsOf, RelL, Rel]
  | .str, _, _, e => by rw [show _ = [_] from e]; simp [cellsOf, RelL, Rel]
  | .sl e, xs, cs, h => by
    obtain ⟨a, cap, hc, hr⟩ := h
    subst hc
    simp only [cellsOf, RelL, Rel]
    exact ⟨_, [], rfl, ⟨a, cap, rfl, hr⟩, rfl⟩
  | .arr n e, xs, cs, ⟨hl, h⟩ => by
    obtain ⟨css, rfl, hcl, hi⟩ := AllD.split h
    refine relL_flatMap _ _ _ (by simp [hcl, hl]) fun i a c ha hc => ?_
    have hin : i < n := by
      rcases Nat.lt_or_ge i n with h | h
      · exact h
      · rw [List.getElem?_eq_none (by simpa using h)] at ha; cases ha
    obtain rfl : i = a := by rw [List.getElem?_range hin] at ha; exact Option.some.inj ha
    have := hi i (by omega) c hc
    rw [show xs.getD i e.dflt = xs[i]'(by omega) by simp [List.getD, List.getElem?_eq_getElem (show i < xs.length by omega)]]
    exact Den.rel e _ _ this
  | .prod a b, x, cs, ⟨c1, c2, e, h1, h2⟩ => by
    subst e
    exact RelL.append (Den.rel a _ _ h1) (Den.rel b _ _ h2)

/-! ### What is read stays so -/
/-- What p lets through reads under X' as under X. -/
structure Stab (X X' : Cx) (p : Nat → Nat → Bool) : Prop where
  F : ∀ b, X.F b → X'.F b
  heap : ∀ b, X.F b → X'.heap[b]? = X.heap[b]?
  box : ∀ r g, p r g = true → ∀ cs', X'.rows.get r = some (.box cs') → (∃ cs, X.rows.get r = some (.box cs)) ∧ X'.φ r = X.φ r
  arr : ∀ r g, p r g = true → ∀ s xs', X'.rows.get r = some (.arr g s xs') → ∃ xs, X.rows.get r = some (.arr g s xs) ∧ xs'.length = xs.length ∧ X'.φ r = X.φ r ∧
    ∀ b o, X.φ r = some (b, o) → ∀ c' T' fr', X'.heap[b]? = some (.cells c' T' fr') → ∃ c T fr, X.heap[b]? = some (.cells c T fr) ∧ c.size = c'.size

mutual
theorem Rel.mono {X X' : Cx} {p : Nat → Nat → Bool} (S : Stab X X' p) : ∀ (a : AV) (v : Value), a.all p = true → Rel X a v → Rel X' a v
  | .unk, _, _, h => by simp [Rel]
  | .bool _, _, _, h => by simpa [Rel] using h
  | .int _ _, _, _, h => by simpa [Rel] using h
  | .str _, _, _, h => by simpa [Rel] using h
  | .nilp, _, _, h => by simpa [Rel] using h
  | .nilf, _, _, h => by simpa [Rel] using h
  | .nili, _, _, h => by simpa [Rel] using h
  | .nils, _, _, h => by simpa [Rel] using h
  | .dsl e xs, v, _, h => by
    simp only [Rel] at h ⊢
    exact Den.mono S.F S.heap (.sl e) xs [v] h
  | .dptr s x off, v, _, h => by
    simp only [Rel] at h ⊢
    obtain ⟨b, o, cs, e, hF, hc, hd⟩ := h
    exact ⟨b, o, cs, e, S.F _ hF, hc.mono (S.heap _ hF), Den.mono S.F S.heap s x cs hd⟩
  | .ptr r off, v, hp, h => by
    simp only [Rel] at h ⊢
    intro cs' hcs'
    obtain ⟨⟨cs, hcs⟩, hφ⟩ := S.box r 0 (by simpa [AV.all] using hp) cs' hcs'
    obtain ⟨b, hb, hv⟩ := h cs hcs
    exact ⟨b, hφ.trans hb, hv⟩
  | .bsl r off _ _, v, hp, h => by
    simp only [Rel] at h ⊢
    intro cs' hcs'
    obtain ⟨⟨cs, hcs⟩, hφ⟩ := S.box r 0 (by simpa [AV.all] using hp) cs' hcs'
    obtain ⟨b, hb, hv⟩ := h cs hcs
    exact ⟨b, hφ.trans hb, hv⟩
  | .eptr r g i off, v, hp, h => by
    simp only [Rel] at h ⊢
    intro s xs' hx'
    obtain ⟨xs, hx, hl, hφ, _⟩ := S.arr r g (by simpa [AV.all] using hp) s xs' hx'
    obtain ⟨hi, b, o, hb, hv⟩ := h s xs hx
    exact ⟨by omega, b, o, hφ.trans hb, hv⟩
  | .osl r g st len, v, hp, h => by
    simp only [Rel] at h ⊢
    intro s xs' hx'
    obtain ⟨xs, hx, hl, hφ, hsz⟩ := S.arr r g (by simpa [AV.all] using hp) s xs' hx'
    obtain ⟨hle, hcase⟩ := h s xs hx
    refine ⟨by omega, ?_⟩
    rcases hcase with ⟨h1, h0, h2⟩ | ⟨b, o, a, cap, h1, h2, h3, h4⟩
    · exact .inl ⟨hφ.trans h1, by omega, h2⟩
    · refine .inr ⟨b, o, a, cap, hφ.trans h1, h2, h3, ?_⟩
      rcases h4 with h4 | ⟨h4, h5⟩
      · exact .inl h4
      · refine .inr ⟨h4, fun c' T' fr' hc' => ?_⟩
        obtain ⟨c, T, fr, hc, hs⟩ := hsz b o h1 c' T' fr' hc'
        have := h5 c T fr hc
        omega
  | .own r g, v, hp, h => by
    simp only [Rel] at h ⊢
    intro s xs' hx'
    obtain ⟨xs, hx, hl, hφ, hsz⟩ := S.arr r g (by simpa [AV.all] using hp) s xs' hx'
    rcases h s xs hx with ⟨h1, h0, h2⟩ | ⟨b, o, cap, h1, h2, h3, h4⟩
    · exact .inl ⟨hφ.trans h1, by omega, h2⟩
    · refine .inr ⟨b, o, cap, hφ.trans h1, by rw [hl]; exact h2, by omega, fun c' T' fr' hc' => ?_⟩
      obtain ⟨c, T, fr, hc, hs⟩ := hsz b o h1 c' T' fr' hc'
      have := h4 c T fr hc
      omega
  | .agg cs, v, hp, h => by
    simp only [Rel] at h ⊢
    obtain ⟨vs, e, hr⟩ := h
    exact ⟨vs, e, RelL.mono S cs vs.toList (by simpa [AV.all] using hp) hr⟩
  | .tup cs, v, hp, h => by
    simp only [Rel] at h ⊢
    obtain ⟨vs, e, hr⟩ := h
    exact ⟨vs, e, RelL.mono S cs vs.toList (by simpa [AV.all] using hp) hr⟩
  | .iface t a, v, hp, h => by
    simp only [Rel] at h ⊢
    obtain ⟨u, e, hr⟩ := h
    exact ⟨u, e, Rel.mono S a u (by simpa [AV.all] using hp) hr⟩
  | .clo f cs, v, hp, h => by
    simp only [Rel] at h ⊢
    obtain ⟨vs, e, hr⟩ := h
    exact ⟨vs, e, RelL.mono S cs vs.toList (by simpa [AV.all] using hp) hr⟩
  | .opt c a, v, hp, h => by
    simp only [Rel] at h ⊢
    exact fun e => Rel.mono S a v (by simpa [AV.all] using hp) (h e)
  | .gopt c a, v, hp, h => by
    simp only [Rel] at h ⊢
    exact ⟨fun e => Rel.mono S a v (by simpa [AV.all] using hp) (h.1 e), h.2⟩
theorem RelL.mono {X X' : Cx} {p : Nat → Nat → Bool} (S : Stab X X' p) : ∀ (as : List AV) (vs : List Value), AV.allL p as = true → RelL X as vs → RelL X' as vs
  | [], _, _, h => by simpa [RelL] using h
  | a :: as, vs, hp, h => by
    simp only [RelL] at h ⊢
    obtain ⟨v, r, e, hv, hr⟩ := h
    simp only [AV.allL, Bool.and_eq_true] at hp
    exact ⟨v, r, e, Rel.mono S a v hp.1 hv, RelL.mono S as r hp.2 hr⟩
end

mutual
theorem AV.all_imp {p q : Nat → Nat → Bool} (h : ∀ r g, p r g = true → q r g = true) : ∀ a : AV, a.all p = true → a.all q = true
  | .unk, _ | .bool _, _ | .int _ _, _ | .str _, _ | .nilp, _ | .nilf, _ | .nili, _ | .nils, _ | .dsl _ _, _ | .dptr _ _ _, _ => rfl
  | .ptr r _, e | .bsl r _ _ _, e | .eptr r _ _ _, e | .osl r _ _ _, e | .own r _, e => by simp only [AV.all] at e ⊢; exact h _ _ e
  | .agg cs, e | .tup cs, e | .clo _ cs, e => by simp only [AV.all] at e ⊢; exact AV.allL_imp h cs e
  | .iface _ v, e | .opt _ v, e | .gopt _ v, e => by simp only [AV.all] at e ⊢; exact AV.all_imp h v e
theorem AV.allL_imp {p q : Nat → Nat → Bool} (h : ∀ r g, p r g = true → q r g = true) : ∀ as : List AV, AV.allL p as = true → AV.allL q as = true
  | [], _ => rfl
  | a :: as, e => by
    simp only [AV.allL, Bool.and_eq_true] at e ⊢
    exact ⟨AV.all_imp h a e.1, AV.allL_imp h as e.2⟩
end

/-! ### The rows grow -/
/-- A row laid at a free place. -/
def Rows.put (rows : Rows) (id : Nat) (x : Row) : Rows := (rows ++ List.replicate (id + 1 - rows.length) none).set id (some x)

theorem Rows.get_put (rows : Rows) (id : Nat) (x : Row) (r : Nat) : (rows.put id x).get r = if r = id then some x else rows.get r := by
  unfold Rows.put Rows.get
  by_cases h : r = id
  · subst h
    rw [List.getElem?_set_self (by simp; omega)]; simp
  · rw [List.getElem?_set_ne (by omega), if_neg h]
    by_cases hr : r < rows.length
    · rw [List.getElem?_append_left hr]
    · rw [List.getElem?_append_right (by omega), List.getElem?_eq_none (by omega : rows.length ≤ r)]
      by_cases h2 : r - rows.length < id + 1 - rows.length
      · rw [List.getElem?_replicate, if_pos h2]; rfl
      · rw [List.getElem?_replicate, if_neg h2]

theorem Rows.okid_put {rows : Rows} {n id : Nat} {x : Row} {r : Nat} (h : rows.okid n r = true) : (rows.put id x).okid n r = true := by
  unfold Rows.okid at h ⊢
  rw [Rows.get_put]
  by_cases e : r = id
  · simp [e]
  · simpa [e] using h

theorem Rows.okid_le {rows : Rows} {n m r : Nat} (hnm : n ≤ m) (h : rows.okid n r = true) : rows.okid m r = true := by
  unfold Rows.okid at h ⊢
  simp only [Bool.or_eq_true, decide_eq_true_eq] at h ⊢
  rcases h with h | h
  · exact .inl (by omega)
  · exact .inr h

theorem RowOk.mono {X X' : Cx} {p : Nat → Nat → Bool} (S : Stab X X' p) {r : Nat} (hφ : X'.φ r = X.φ r) (hb : ∀ b o, X.φ r = some (b, o) → X'.heap[b]? = X.heap[b]?) :
    ∀ x : Row, (∀ cs, x = .box cs → AV.allL p cs = true) → RowOk X r x → RowOk X' r x
  | .box cs, hp, h => by
    intro b o hbo
    rw [hφ] at hbo
    obtain ⟨ho, c, T, hc, hr⟩ := h b o hbo
    exact ⟨ho, c, T, (hb b o hbo).trans hc, RelL.mono S cs c.toList (hp cs rfl) hr⟩
  | .arr g s xs, _, h => by
    rcases h with ⟨h1, h2⟩ | ⟨b, o, c, T, h1, h2, h3, h4⟩
    · exact .inl ⟨hφ.trans h1, h2⟩
    · refine .inr ⟨b, o, c, T, hφ.trans h1, (hb b o h1).trans h2, h3, fun i hi => ?_⟩
      obtain ⟨es, he, hd⟩ := h4 i hi
      exact ⟨es, he.mono (hb b o h1), Den.mono S.F S.heap s _ _ hd⟩

/-- Where a row has a place, its block is there. -/
theorem RowOk.block {X : Cx} {r : Nat} {x : Row} (h : RowOk X r x) {b o : Nat} (hb : X.φ r = some (b, o)) : ∃ c T, X.heap[b]? = some (.cells c T (0, 0)) := by
  cases x with
  | box cs => obtain ⟨_, c, T, hc, _⟩ := h b o hb; exact ⟨c, T, hc⟩
  | arr g s xs =>
    rcases h with ⟨h1, _⟩ | ⟨b', o', c, T, h1, h2, _⟩
    · rw [h1] at hb; cases hb
    · rw [h1] at hb; cases hb; exact ⟨c, T, h2⟩

theorem RowsOk.lt {base n : Nat} {w0 : Start} {w : World} {X : Cx} (H : RowsOk base w0 n X w) {r b o : Nat} {x : Row} (hr : X.rows.get r = some x) (hb : X.φ r = some (b, o)) : b < w.heap.size := by
  obtain ⟨c, T, hc⟩ := (H.row r x hr).block hb
  rw [H.heap] at hc
  exact (Array.getElem?_eq_some_iff.1 hc).1

/-- The world has grown: no old block has turned. -/
theorem Stab.grow {base n : Nat} {w0 : Start} {w w' : World} {X : Cx} (H : RowsOk base w0 n X w) (hw : Below w.heap.size w w') {F' : Nat → Prop} (h1 : ∀ b, X.F b → F' b) :
    Stab X { X with F := F', heap := w'.heap } (fun _ _ => true) where
  F := h1
  heap b hb := by rw [H.heap]; exact hw.block b (H.fresh b hb)
  box r g _ cs' h := ⟨⟨cs', h⟩, rfl⟩
  arr r g _ s xs' h := ⟨xs', h, rfl, rfl, fun b o hb c' T' fr' hc' => by
    have hlt := H.lt h hb
    have e := hw.block b hlt
    rw [show w'.heap[b]? = some (Obj.cells c' T' fr') from hc'] at e
    exact ⟨c', T', fr', by rw [H.heap]; exact e.symm, rfl⟩⟩

theorem RowsOk.grow {base n : Nat} {w0 : Start} {w w' : World} {X : Cx} (H : RowsOk base w0 n X w) (hw : Below w.heap.size w w') {F' : Nat → Prop} (h1 : ∀ b, X.F b → F' b)
    (h2 : ∀ b, F' b → X.F b ∨ w.heap.size ≤ b) (h3 : ∀ b, F' b → b < w'.heap.size) : RowsOk base w0 n { X with F := F', heap := w'.heap } w' where
  heap := rfl
  keeps := H.keeps.trans (hw.mono H.hb)
  sub b hb := by
    rcases h2 b hb with h | h
    · exact H.sub b h
    · exact .inr (Nat.le_trans H.hb h)
  hb := Nat.le_trans H.hb hw.size
  fresh := h3
  row r x hr := by
    refine RowOk.mono (Stab.grow H hw h1) rfl (fun b o hb => ?_) x (fun cs e => ?_) (H.row r x hr)
    · rw [H.heap]; exact hw.block b (H.lt hr hb)
    · subst e
      exact AV.allL_imp (fun _ _ _ => rfl) cs (H.refs r cs hr)
  own r x b o hr hb := by
    have := H.own r x b o hr hb
    refine ⟨this.1, fun hF => ?_⟩
    rcases h2 b hF with h | h
    · exact this.2 h
    · have := H.lt hr hb; omega
  apart := H.apart
  refs := H.refs

/-- A new row. -/
def Cx.claim (X : Cx) (id : Nat) (x : Row) (loc : Option (Nat × Nat)) : Cx := { X with rows := X.rows.put id x, φ := fun r => if r = id then loc else X.φ r }

theorem Stab.claim {X : Cx} {n id : Nat} {x : Row} {loc : Option (Nat × Nat)} (hid : n ≤ id) (hno : X.rows.get id = none) : Stab X (X.claim id x loc) (fun r _ => X.rows.okid n r) := by
  have hne : ∀ r, X.rows.okid n r = true → r ≠ id := by
    intro r h e
    subst e
    unfold Rows.okid at h
    rw [hno] at h
    simp at h; omega
  refine ⟨fun _ h => h, fun _ _ => rfl, fun r g hp cs' h => ?_, fun r g hp s xs' h => ?_⟩
  · have := hne r hp
    rw [show (X.claim id x loc).rows.get r = X.rows.get r by simp [Cx.claim, Rows.get_put, this]] at h
    exact ⟨⟨cs', h⟩, by simp [Cx.claim, this]⟩
  · have := hne r hp
    rw [show (X.claim id x loc).rows.get r = X.rows.get r by simp [Cx.claim, Rows.get_put, this]] at h
    exact ⟨xs', h, rfl, by simp [Cx.claim, this], fun b o hb c' T' fr' hc' => ⟨c', T', fr', hc', rfl⟩⟩

theorem RowsOk.claim {base n : Nat} {w0 : Start} {w : World} {X : Cx} (H : RowsOk base w0 n X w) {id : Nat} {x : Row} {loc : Option (Nat × Nat)} (hid : n ≤ id) (hno : X.rows.get id = none)
    (hloc : ∀ b o, loc = some (b, o) → base ≤ b ∧ ¬ X.F b ∧ ∀ r y b' o', X.rows.get r = some y → X.φ r = some (b', o') → b' ≠ b)
    (hrow : RowOk (X.claim id x loc) id x) (hrefs : ∀ cs, x = .box cs → AV.allL (fun q _ => X.rows.okid n q) cs = true) :
    RowsOk base w0 n (X.claim id x loc) w where
  heap := H.heap
  keeps := H.keeps
  sub := H.sub
  hb := H.hb
  fresh := H.fresh
  row r y hr := by
    rw [Cx.claim, Rows.get_put] at hr
    by_cases e : r = id
    · subst e
      rw [if_pos rfl] at hr
      cases hr
      exact hrow
    · rw [if_neg e] at hr
      refine RowOk.mono (Stab.claim hid hno) (by simp [Cx.claim, e]) (fun _ _ _ => rfl) y (fun cs ec => ?_) (H.row r y hr)
      subst ec
      exact H.refs r cs hr
  own r y b o hr hb := by
    rw [Cx.claim, Rows.get_put] at hr
    simp only [Cx.claim] at hb
    by_cases e : r = id
    · rw [if_pos e] at hb
      exact ⟨(hloc b o hb).1, (hloc b o hb).2.1⟩
    · rw [if_neg e] at hr hb
      exact H.own r y b o hr hb
  apart r r' y y' b o b' o' hr hr' hb hb' e := by
    rw [Cx.claim, Rows.get_put] at hr hr'
    simp only [Cx.claim] at hb hb'
    by_cases h1 : r = id <;> by_cases h2 : r' = id
    · rw [h1, h2]
    · rw [if_pos h1] at hb
      rw [if_neg h2] at hr' hb'
      exact absurd e.symm ((hloc b o hb).2.2 r' y' b' o' hr' hb')
    · rw [if_neg h1] at hr hb
      rw [if_pos h2] at hb'
      exact absurd e ((hloc b' o' hb').2.2 r y b o hr hb)
    · rw [if_neg h1] at hr hb
      rw [if_neg h2] at hr' hb'
      exact H.apart r r' y y' b o b' o' hr hr' hb hb' e
  refs r cs hr := by
    rw [Cx.claim, Rows.get_put] at hr
    by_cases e : r = id
    · rw [if_pos e] at hr
      cases hr
      exact AV.allL_imp (fun _ _ h => Rows.okid_put h) cs (hrefs cs rfl)
    · rw [if_neg e] at hr
      exact AV.allL_imp (fun _ _ h => Rows.okid_put h) cs (H.refs r cs hr)

theorem RowsOk.le {base n m : Nat} {w0 : Start} {w : World} {X : Cx} (H : RowsOk base w0 n X w) (h : n ≤ m) : RowsOk base w0 m X w :=
  { H with refs := fun r cs hr => AV.allL_imp (fun _ _ hq => Rows.okid_le h hq) cs (H.refs r cs hr) }
/-- A package-level variable reads as this datum, and is no longer than that. -/
def GRel (X : Cx) (g : Nat) (s : Sh) (x : s.den) : Prop := Rel X (.dptr s x 0) (.pointer (some ⟨g, 0, none⟩)) ∧ ∃ c T fr, X.heap[g]? = some (.cells c T fr) ∧ c.size = s.size
theorem GRel.F {X : Cx} {g : Nat} {s : Sh} {x : s.den} (h : GRel X g s x) : X.F g := by
  obtain ⟨h, _⟩ := h
  simp only [Rel] at h
  obtain ⟨b, o, cs, e, hF, _⟩ := h
  cases e
  exact hF
theorem GRel.mono {X X' : Cx} {p : Nat → Nat → Bool} (S : Stab X X' p) {g : Nat} {s : Sh} {x : s.den} (h : GRel X g s x) : GRel X' g s x :=
  ⟨Rel.mono S (.dptr s x 0) _ rfl h.1, by rw [S.heap g h.F]; exact h.2⟩
end Go.Proofs.YtnjofponcdcfcaaDoor.Ab
/- The operations of the verified reading: what each makes of plain values, and that Go's operation makes the same of Go's values. -/
set_option linter.all false
namespace Go.Proofs.YtnjofponcdcfcaaDoor.Ab
open Go.RowKit

/-! ### Cells -/
/-- A plain value whose Go value takes one cell for sure. -/
def AV.solid (rows : Rows) : AV → Bool
  | .bool _ | .int _ _ | .str _ | .nilp | .nilf | .nili | .nils | .dsl _ _ | .dptr _ _ _ | .iface _ _ | .clo _ _ => true
  | .ptr r _ | .bsl r _ _ _ => match rows.get r with | some (.box _) => true | _ => false
  | .eptr r g _ _ | .osl r g _ _ | .own r g => match rows.get r with | some (.arr g' _ _) => g == g' | _ => false
  | _ => false

def cellsAV (rows : Rows) : AV → Option (List AV)
  | .agg cs => if cs.all (·.solid rows) then some cs else none
  | v => if v.solid rows then some [v] else none

theorem solid_one {X : Cx} {rows : Rows} (hX : X.rows = rows) : ∀ (a : AV) (v : Value), a.solid rows = true → Rel X a v → v.oneCell' = true := by
  subst hX
  intro a v hs h
  cases a <;> simp only [AV.solid, Bool.false_eq_true] at hs <;> simp only [Rel] at h
  case ptr r off =>
    split at hs
    · rename_i cs hr
      obtain ⟨b, _, rfl⟩ := h cs hr; rfl
    · cases hs
  case bsl r off _ _ =>
    split at hs
    · rename_i cs hr
      obtain ⟨b, _, rfl⟩ := h cs hr; rfl
    · cases hs
  case eptr r g i off =>
    split at hs
    · rename_i g' s xs hr
      obtain rfl : g = g' := by simpa using hs
      obtain ⟨_, b, o, _, rfl⟩ := h s xs hr; rfl
    · cases hs
  case osl r g st len =>
    split at hs
    · rename_i g' s xs hr
      obtain rfl : g = g' := by simpa using hs
      obtain ⟨_, h⟩ := h s xs hr
      rcases h with ⟨_, _, rfl⟩ | ⟨_, _, _, _, _, rfl, _⟩ <;> rfl
    · cases hs
  case own r g =>
    split at hs
    · rename_i g' s xs hr
      obtain rfl : g = g' := by simpa using hs
      rcases h s xs hr with ⟨_, _, rfl⟩ | ⟨_, _, _, _, rfl, _⟩ <;> rfl
    · cases hs
  case dsl e xs =>
    obtain ⟨a, cap, hc, _⟩ := h
    obtain rfl : v = _ := List.cons.inj hc |>.1
    rfl
  case dptr s x off => obtain ⟨b, o, cs, rfl, _⟩ := h; rfl
  case iface t a => obtain ⟨u, rfl, _⟩ := h; rfl
  case clo f cs => obtain ⟨vs, rfl, _⟩ := h; rfl
  all_goals subst h; rfl

theorem one_cells {v : Value} (h : v.oneCell' = true) : v.cells = #[v] := by cases v <;> first | rfl | cases h

theorem relL_one {X : Cx} {rows : Rows} (hX : X.rows = rows) : ∀ (as : List AV) (vs : List Value), as.all (·.solid rows) = true → RelL X as vs → ∀ v ∈ vs, v.oneCell' = true
  | [], vs, _, h, v, hv => by rw [show vs = [] by simpa [RelL] using h] at hv; cases hv
  | a :: as, vs, hs, h, v, hv => by
    obtain ⟨u, r, rfl, hu, hr⟩ : ∃ u r, vs = u :: r ∧ Rel X a u ∧ RelL X as r := by simpa [RelL] using h
    simp only [List.all_cons, Bool.and_eq_true] at hs
    rcases List.mem_cons.1 hv with rfl | hv
    · exact solid_one hX a v hs.1 hu
    · exact relL_one hX as r hs.2 hr v hv

theorem cellsAV_rel {X : Cx} {rows : Rows} (hX : X.rows = rows) {a : AV} {v : Value} {cs : List AV} (h : cellsAV rows a = some cs) (hr : Rel X a v) :
    RelL X cs v.cells.toList ∧ ∀ c ∈ v.cells.toList, c.oneCell' = true := by
  unfold cellsAV at h
  split at h
  · rename_i ds
    split at h
    · rename_i hs
      cases h
      simp only [Rel] at hr
      obtain ⟨vs, rfl, hr⟩ := hr
      exact ⟨hr, relL_one hX _ _ hs hr⟩
    · cases h
  · split at h
    · rename_i hs
      cases h
      have h1 := solid_one hX a v hs hr
      rw [one_cells h1]
      refine ⟨?_, by simpa using h1⟩
      simp only [RelL]
      exact ⟨v, [], rfl, hr, rfl⟩
    · cases h

def manyOf {α : Type} (f : List AV → Option (α × List AV)) : Nat → List AV → Option (List α × List AV)
  | 0, cs => some ([], cs)
  | n + 1, cs => (f cs).bind fun (x, cs) => (manyOf f n cs).bind fun (xs, cs) => some (x :: xs, cs)

/-- A datum out of cells. -/
def ofCells : (s : Sh) → List AV → Option (s.den × List AV)
  | .unit, cs => some ((), cs)
  | .bool, cs => match cs with | .bool b :: cs => some (b, cs) | _ => none
  | .int k, cs => match cs with | .int k' n :: cs => if k = k' then some (n, cs) else none | _ => none
  | .str, cs => match cs with | .str s :: cs => some (s, cs) | _ => none
  | .sl e, cs => match cs with | .dsl e' xs :: cs => (if h : e' = e then some (h ▸ xs, cs) else none) | .nils :: cs => some ([], cs) | _ => none
  | .arr n e, cs => manyOf (ofCells e) n cs
  | .prod a b, cs => (ofCells a cs).bind fun (x, cs) => (ofCells b cs).bind fun (y, cs) => some ((x, y), cs)

theorem manyOf_den {X : Cx} {α : Type} {f : List AV → Option (α × List AV)} {D : α → List Value → Prop} 
    (hf : ∀ cs x rest vs, f cs = some (x, rest) → RelL X cs vs → ∃ v1 v2, vs = v1 ++ v2 ∧ D x v1 ∧ RelL X rest v2) :
    ∀ (n : Nat) cs xs rest vs, manyOf f n cs = some (xs, rest) → RelL X cs vs → xs.length = n ∧ ∃ v1 v2, vs = v1 ++ v2 ∧ AllD D xs v1 ∧ RelL X rest v2
  | 0, cs, xs, rest, vs, h, hr => by
    simp only [manyOf, Option.some.injEq, Prod.mk.injEq] at h
    obtain ⟨rfl, rfl⟩ := h
    exact ⟨rfl, [], vs, rfl, rfl, hr⟩
  | n + 1, cs, xs, rest, vs, h, hr => by
    simp only [manyOf, Option.bind_eq_some_iff, Prod.exists] at h
    obtain ⟨x, cs1, h1, xs1, cs2, h2, h3⟩ := h
    simp only [Option.some.injEq, Prod.mk.injEq] at h3
    obtain ⟨rfl, rfl⟩ := h3
    obtain ⟨v1, v2, rfl, d1, r1⟩ := hf _ _ _ _ h1 hr
    obtain ⟨hl, v3, v4, rfl, d2, r2⟩ := manyOf_den hf n _ _ _ _ h2 r1
    exact ⟨by simp [hl], v1 ++ v3, v4, by simp, ⟨v1, v3, rfl, d1, d2⟩, r2⟩

theorem ofCells_den {X : Cx} : ∀ (s : Sh) (cs : List AV) (x : s.den) (rest : List AV) (vs : List Value), ofCells s cs = some (x, rest) → RelL X cs vs →
    ∃ v1 v2, vs = v1 ++ v2 ∧ Den X.F X.heap s x v1 ∧ RelL X rest v2
  | .unit, cs, x, rest, vs, h, hr => by
    simp only [ofCells, Option.some.injEq, Prod.mk.injEq] at h
    obtain ⟨_, rfl⟩ := h
    exact ⟨[], vs, rfl, rfl, hr⟩
  | .bool, cs, x, rest, vs, h, hr => by
    simp only [ofCells] at h
    split at h
    · simp only [Option.some.injEq, Prod.mk.injEq] at h
      obtain ⟨rfl, rfl⟩ := h
      simp only [RelL, Rel] at hr
      obtain ⟨v, r, rfl, rfl, hr⟩ := hr
      exact ⟨[_], r, rfl, rfl, hr⟩
    · cases h
  | .int k, cs, x, rest, vs, h, hr => by
    simp only [ofCells] at h
    split at h
    · split at h
      · rename_i e
        subst e
        simp only [Option.some.injEq, Prod.mk.injEq] at h
        obtain ⟨rfl, rfl⟩ := h
        simp only [RelL, Rel] at hr
        obtain ⟨v, r, rfl, rfl, hr⟩ := hr
        exact ⟨[_], r, rfl, rfl, hr⟩
      · cases h
    · cases h
  | .str, cs, x, rest, vs, h, hr => by
    simp only [ofCells] at h
    split at h
    · simp only [Option.some.injEq, Prod.mk.injEq] at h
      obtain ⟨rfl, rfl⟩ := h
      simp only [RelL, Rel] at hr
      obtain ⟨v, r, rfl, rfl, hr⟩ := hr
      exact ⟨[_], r, rfl, rfl, hr⟩
    · cases h
  | .sl e, cs, x, rest, vs, h, hr => by
    simp only [ofCells] at h
    split at h
    · split at h
      · rename_i e
        subst e
        simp only [Option.some.injEq, Prod.mk.injEq] at h
        obtain ⟨rfl, rfl⟩ := h
        simp only [RelL, Rel] at hr
        obtain ⟨v, r, rfl, hv, hr⟩ := hr
        exact ⟨[_], r, rfl, hv, hr⟩
      · cases h
    · simp only [Option.some.injEq, Prod.mk.injEq] at h
      obtain ⟨rfl, rfl⟩ := h
      simp only [RelL, Rel] at hr
      obtain ⟨v, r, rfl, rfl, hr⟩ := hr
      exact ⟨[_], r, rfl, ⟨none, 0, rfl, Nat.le_refl _, fun _ => ⟨rfl, rfl⟩, fun p hp => by cases hp⟩, hr⟩
    · cases h
  | .arr n e, cs, x, rest, vs, h, hr => by
    simp only [ofCells] at h
    obtain ⟨hl, v1, v2, e1, d, r⟩ := manyOf_den (fun cs x rest vs => ofCells_den e cs x rest vs) n cs x rest vs h hr
    exact ⟨v1, v2, e1, ⟨hl, d⟩, r⟩
  | .prod a b, cs, x, rest, vs, h, hr => by
    simp only [ofCells, Option.bind_eq_some_iff, Prod.exists] at h
    obtain ⟨x1, cs1, h1, x2, cs2, h2, h3⟩ := h
    simp only [Option.some.injEq, Prod.mk.injEq] at h3
    obtain ⟨rfl, rfl⟩ := h3
    obtain ⟨v1, v2, rfl, d1, r1⟩ := ofCells_den a _ _ _ _ h1 hr
    obtain ⟨v3, v4, rfl, d2, r2⟩ := ofCells_den b _ _ _ _ h2 r1
    exact ⟨v1 ++ v3, v4, by simp, ⟨v1, v3, rfl, d1, d2⟩, r2⟩

/-- The shape of a type. -/
def shOfL (f : TypeId → Option Sh) : List Field → Option Sh
  | [] => some .unit
  | x :: xs => (f x.type).bind fun a => (shOfL f xs).bind fun b => some (.prod a b)
def shOf (P : Program) : Nat → TypeId → Option Sh
  | 0, _ => none
  | d + 1, t => match P.underlying t with
    | some .bool => some .bool
    | some (.int k) => some (.int k)
    | some .string => some .str
    | some (.slice e) => (shOf P d e).map .sl
    | some (.array n e) => (shOf P d e).map (.arr n)
    | some (.struct fs) => shOfL (shOf P d) fs.toList
    | _ => none

/-! ### Loads -/
theorem cell?_of {w : World} {b o : Nat} {cs : List Value} (h : cellsAt w.heap b o cs) {j : Nat} {v : Value} (hv : cs[j]? = some v) : w.cell? ⟨b, o + j, none⟩ = some v := by
  obtain ⟨c, T, fr, hc, hj⟩ := h
  have hl : j < cs.length := by
    rcases Nat.lt_or_ge j cs.length with h | h
    · exact h
    · rw [List.getElem?_eq_none h] at hv; cases hv
  simp [World.cell?, hc, hj j hl, hv]

theorem addr_add (b o j : Nat) : (⟨b, o, none⟩ : Addr).add j = ⟨b, o + j, none⟩ := by
  unfold Addr.add; split <;> simp_all

def aggB (P : Program) (t : TypeId) : Option Bool := match P.underlying t with | some (.struct _) => some true | some (.array _ _) => some true | some _ => some false | none => none

theorem run_isAgg {P : Program} {t : TypeId} {b : Bool} (h : aggB P t = some b) (w : World) : (isAgg t).run P w = .ok b w := by
  unfold aggB at h
  unfold isAgg
  split at h <;> simp_all [run_underlying]

/-- What a load of type t takes out of cells. -/
def takeT (P : Program) (t : TypeId) (cs : List AV) (off : Nat) : Option AV :=
  match aggB P t, P.info? t with
  | some true, some i => if off + i.size ≤ cs.length then some (.agg ((cs.drop off).take i.size)) else none
  | some false, some _ => cs[off]?
  | _, _ => none

theorem run_loadVar_of {P : Program} {X : Cx} {w : World} {t : TypeId} {cs : List AV} {off b o : Nat} {vs : List Value} {a : AV}
    (h : takeT P t cs off = some a) (hr : RelL X cs vs) (hc : cellsAt w.heap b o vs) : ∃ v, (loadVar t ⟨b, o + off, none⟩).run P w = .ok v w ∧ Rel X a v := by
  have hlen := RelL.length hr
  unfold takeT at h
  split at h
  · rename_i i hagg hi
    split at h
    · rename_i hle
      cases h
      refine ⟨.agg ((vs.drop off).take i.size).toArray, ?_, ?_⟩
      · have hl : ((vs.drop off).take i.size).length = i.size := by simp; omega
        have hload := run_loadCells_list (P := P) w ⟨b, o + off, none⟩ ((vs.drop off).take i.size) (fun j v hv => by
          rw [addr_add, Nat.add_assoc]
          refine cell?_of hc ?_
          rw [List.getElem?_take] at hv
          split at hv
          · simpa using hv
          · cases hv)
        rw [hl] at hload
        simp [loadVar, run_isAgg hagg, sizeOf, typeInfo, hi, hload]
      · simp only [Rel]
        exact ⟨_, rfl, by simpa using RelL.take _ (RelL.drop _ hr)⟩
    · cases h
  · rename_i i hagg hi
    obtain ⟨v, hv, hrel⟩ := RelL.get off a hr h
    refine ⟨v, ?_, hrel⟩
    simp [loadVar, run_isAgg hagg, cell?_of hc hv]
  · cases h

/-- The cells behind a pointer, and where in them it points to. -/
def behind (rows : Rows) : AV → Option (List AV × Nat)
  | .ptr r off => match rows.get r with | some (.box cs) => some (cs, off) | _ => none
  | .dptr s x off => some (cellsOf s x, off)
  | .eptr r g i off => match rows.get r with | some (.arr g' s xs) => if g = g' then some (cellsOf s (xs.getD i s.dflt), off) else none | _ => none
  | _ => none

theorem behind_at {base n : Nat} {w0 : Start} {w : World} {X : Cx} (H : RowsOk base w0 n X w) {p : AV} {u : Value} {cs : List AV} {off : Nat} (h : behind X.rows p = some (cs, off)) (hr : Rel X p u) :
    ∃ b o vs, u = .pointer (some ⟨b, o + off, none⟩) ∧ RelL X cs vs ∧ cellsAt w.heap b o vs := by
  unfold behind at h
  split at h
  · rename_i r off'
    split at h
    · rename_i cs' hrow
      cases h
      simp only [Rel] at hr
      obtain ⟨b, hb, rfl⟩ := hr _ hrow
      obtain ⟨_, c, T, hc, hl⟩ := H.row r _ hrow b 0 hb
      exact ⟨b, 0, c.toList, by simp, hl, c, T, (0, 0), by rw [← H.heap]; exact hc, fun j _ => by simp⟩
    · cases h
  · rename_i s x off'
    cases h
    simp only [Rel] at hr
    obtain ⟨b, o, cs', rfl, _, hc, hd⟩ := hr
    exact ⟨b, o, cs', rfl, Den.rel s x cs' hd, by rw [← H.heap]; exact hc⟩
  · rename_i r g i off'
    split at h
    · rename_i g' s xs hrow
      split at h
      · rename_i e
        subst e
        cases h
        simp only [Rel] at hr
        obtain ⟨hi, b, o, hb, rfl⟩ := hr s xs hrow
        rcases H.row r _ hrow with ⟨h1, _⟩ | ⟨b', o', c, T, h1, h2, h3, h4⟩
        · rw [h1] at hb; cases hb
        · rw [h1] at hb; cases hb
          obtain ⟨es, he, hd⟩ := h4 i hi
          refine ⟨b, o + i * s.size, es, rfl, ?_, by rw [← H.heap]; exact he⟩
          rw [show xs.getD i s.dflt = xs[i] by simp [List.getD, List.getElem?_eq_getElem hi]]
          exact Den.rel s _ es hd
      · cases h
    · cases h
  · cases h

/-! ### Scalars -/
def iArith (op : BinOp) (k : IntKind) (x y : Int) : Option (Bool × Int) :=
  match op with
  | .add => some (true, k.wrap (x + y))
  | .sub => some (true, k.wrap (x - y))
  | .mul => some (true, k.wrap (x * y))
  | .quo => some (sNe y 0, k.wrap (x.tdiv y))
  | .rem => some (sNe y 0, x.tmod y)
  | .and => some (true, k.wrap ((BitVec.ofInt k.bits x &&& BitVec.ofInt k.bits y).toNat : Int))
  | .or => some (true, k.wrap ((BitVec.ofInt k.bits x ||| BitVec.ofInt k.bits y).toNat : Int))
  | .xor => some (true, k.wrap ((BitVec.ofInt k.bits x ^^^ BitVec.ofInt k.bits y).toNat : Int))
  | .andNot => some (true, k.wrap ((BitVec.ofInt k.bits x &&& ~~~BitVec.ofInt k.bits y).toNat : Int))
  | _ => none

def iShift (op : BinOp) (k : IntKind) (x y : Int) : Option (Bool × Int) :=
  match op with
  | .shl => some (sLe 0 y, k.wrap (x * 2 ^ min y.toNat k.bits))
  | .shr => some (sLe 0 y, x.fdiv (2 ^ min y.toNat k.bits))
  | _ => none

def iCmp (op : BinOp) (x y : Int) : Option Bool :=
  match op with
  | .eql => some (sEq x y)
  | .neq => some (sNe x y)
  | .lss => some (sLt x y)
  | .leq => some (sLe x y)
  | .gtr => some (sLt y x)
  | .geq => some (sLe y x)
  | _ => none

theorem bytes_toList (s : ByteArray) : s.toList = s.data.toList := by
  have key : ∀ (n i : Nat) (acc : List UInt8), s.size - i = n → ByteArray.toList.loop s i acc = acc.reverse ++ s.data.toList.drop i := by
    intro n
    induction n with
    | zero =>
      intro i acc h
      unfold ByteArray.toList.loop
      rw [if_neg (by omega), List.drop_eq_nil_of_le (by have : s.data.toList.length = s.size := rfl; omega)]
      simp
    | succ n ih =>
      intro i acc h
      unfold ByteArray.toList.loop
      have hi : i < s.size := by omega
      rw [if_pos hi, ih _ _ (by omega)]
      have hl : i < s.data.toList.length := by have : s.data.toList.length = s.size := rfl; omega
      rw [List.drop_eq_getElem_cons hl]
      have : s.get! i = s.data.toList[i] := by
        simp only [ByteArray.get!]
        rw [getElem!_pos s.data i (by simpa using hi)]
        simp
      rw [this]
      simp
  have := key s.size 0 [] (by omega)
  simpa [ByteArray.toList] using this

/-- Equal texts. -/
def bEq (x y : ByteArray) : Bool := x.data.toList == y.data.toList

abbrev bLt (x y : ByteArray) : Bool := Op.bytesLess x.data.toList y.data.toList

def sCmp (op : BinOp) (x y : ByteArray) : Option AV :=
  match op with
  | .add => some (.str (x ++ y))
  | .eql => some (.bool (bEq x y))
  | .neq => some (.bool (sNot (bEq x y)))
  | .lss => some (.bool (bLt x y))
  | .leq => some (.bool (sOr (bLt x y) (bEq x y)))
  | .gtr => some (.bool (sNot (sOr (bLt x y) (bEq x y))))
  | .geq => some (.bool (sNot (bLt x y)))
  | _ => none

/-- Equal data, for shapes without slices. -/
def denEq : (s : Sh) → Option (s.den → s.den → Bool)
  | .unit => some fun _ _ => true
  | .bool => some fun a b => a == b
  | .int _ => some fun (a b : Int) => a == b
  | .str => some fun (a b : ByteArray) => bEq a b
  | .prod a b => (denEq a).bind fun f => (denEq b).bind fun g => some fun x y => f x.1 y.1 && g x.2 y.2
  | _ => none

/-! ### Structs compared -/
def eqAVF (P : Program) (f : TypeId → AV → AV → Option Bool) (xs ys : List AV) : List Field → Option Bool
  | [] => some true
  | g :: gs =>
    if g.name ≠ "_" then (takeT P g.type xs g.offset).bind fun a => (takeT P g.type ys g.offset).bind fun b => (f g.type a b).bind fun r => (eqAVF P f xs ys gs).map fun r' => sAnd r r'
    else eqAVF P f xs ys gs
/-- Arrays compared, place by place. -/
def eqAVI (P : Program) (f : TypeId → AV → AV → Option Bool) (e : TypeId) (c : Nat) (xs ys : List AV) : List Nat → Option Bool
  | [] => some true
  | i :: is => (takeT P e xs (i * c)).bind fun a => (takeT P e ys (i * c)).bind fun b => (f e a b).bind fun r => (eqAVI P f e c xs ys is).map fun r' => sAnd r r'
/-- Whether values of a type are equal. -/
def eqAV (P : Program) : Nat → TypeId → AV → AV → Option Bool
  | 0, _, _, _ => none
  | d + 1, t, a, b => match P.underlying t, a, b with
    | some .bool, .bool x, .bool y => some (sEqB x y)
    | some (.int _), .int k x, .int k' y => if k = k' then some (sEq x y) else none
    | some .string, .str x, .str y => some (bEq x y)
    | some (.struct fs), .agg xs, .agg ys => if P.stoodInHeld t then none else eqAVF P (eqAV P d) xs ys fs.toList
    | some (.array n e), .agg xs, .agg ys => if (P.info? e).isSome then eqAVI P (eqAV P d) e (P.cellsOf e) xs ys (List.range n) else none
    | _, _, _ => none

theorem run_part_of {P : Program} {X : Cx} {w : World} {t : TypeId} {cs : List AV} {off : Nat} {vs : Array Value} {a : AV} (h : takeT P t cs off = some a) (hr : RelL X cs vs.toList) :
    ∃ v, (part t vs off).run P w = .ok v w ∧ Rel X a v := by
  have hlen := RelL.length hr
  unfold takeT at h
  split at h
  · rename_i i hagg hi
    split at h
    · rename_i hle
      cases h
      refine ⟨.agg (vs.extract off (off + i.size)), ?_, ?_⟩
      · simp [part, run_isAgg hagg, sizeOf, typeInfo, hi]
      · simp only [Rel]
        refine ⟨_, rfl, ?_⟩
        have e : (vs.extract off (off + i.size)).toList = (vs.toList.drop off).take i.size := by
          rw [Array.toList_extract, List.extract_eq_drop_take]
          congr 1
          omega
        rw [e]
        exact RelL.take _ (RelL.drop _ hr)
    · cases h
  · rename_i i hagg hi
    obtain ⟨v, hv, hrel⟩ := RelL.get off a hr h
    have hv' : vs[off]? = some v := by rw [← hv]; simp
    exact ⟨v, by simp [part, run_isAgg hagg, hv'], hrel⟩
  · cases h

theorem eqAVF_ok {P : Program} {X : Cx} {w : World} {f : TypeId → AV → AV → Option Bool} {D : Nat} (hf : ∀ t a b r va vb, f t a b = some r → Rel X a va → Rel X b vb → (Op.equalIn D t va vb).run P w = .ok r w)
    {xs ys : List AV} {vs us : Array Value} (hx : RelL X xs vs.toList) (hy : RelL X ys us.toList) : ∀ (fs : List Field) (r : Bool), eqAVF P f xs ys fs = some r → (Op.eqFields D vs us fs).run P w = .ok r w
  | [], r, h => by
    cases h
    rfl
  | g :: gs, r, h => by
    unfold eqAVF at h
    unfold Op.eqFields
    split at h
    · rename_i hn
      rw [if_pos hn]
      simp only [Option.bind_eq_some_iff, Option.map_eq_some_iff] at h
      obtain ⟨a, ha, b, hb, r1, h1, r2, h2, rfl⟩ := h
      obtain ⟨va, hva, hra⟩ := run_part_of (w := w) ha hx
      obtain ⟨vb, hvb, hrb⟩ := run_part_of (w := w) hb hy
      have h3 := hf _ _ _ _ _ _ h1 hra hrb
      have h4 := eqAVF_ok hf hx hy gs r2 h2
      rw [Sem.run_bind, hva, Result.andThen_ok, Sem.run_bind, hvb, Result.andThen_ok, Sem.run_bind, h3, Result.andThen_ok]
      cases r1
      · rfl
      · simpa [sAnd] using h4
    · rename_i hn
      rw [if_neg hn]
      exact eqAVF_ok hf hx hy gs r h

theorem eqAVI_ok {P : Program} {X : Cx} {w : World} {f : TypeId → AV → AV → Option Bool} {D : Nat} (hf : ∀ t a b r va vb, f t a b = some r → Rel X a va → Rel X b vb → (Op.equalIn D t va vb).run P w = .ok r w) {e : TypeId} {c : Nat}
    {xs ys : List AV} {vs us : Array Value} (hx : RelL X xs vs.toList) (hy : RelL X ys us.toList) : ∀ (is : List Nat) (r : Bool), eqAVI P f e c xs ys is = some r → (Op.eqItems D e c vs us is).run P w = .ok r w
  | [], r, h => by
    cases h
    rfl
  | i :: is, r, h => by
    simp only [eqAVI, Option.bind_eq_some_iff, Option.map_eq_some_iff] at h
    obtain ⟨a, ha, b, hb, r1, h1, r2, h2, rfl⟩ := h
    obtain ⟨va, hva, hra⟩ := run_part_of (w := w) ha hx
    obtain ⟨vb, hvb, hrb⟩ := run_part_of (w := w) hb hy
    have h3 := hf _ _ _ _ _ _ h1 hra hrb
    have h4 := eqAVI_ok hf hx hy is r2 h2
    unfold Op.eqItems
    rw [Sem.run_bind, hva, Result.andThen_ok, Sem.run_bind, hvb, Result.andThen_ok, Sem.run_bind, h3, Result.andThen_ok]
    cases r1
    · rfl
    · simpa [sAnd] using h4

theorem eqAV_ok {P : Program} {X : Cx} {w : World} : ∀ (d D : Nat) (t : TypeId) (a b : AV) (r : Bool) (va vb : Value), d ≤ D → eqAV P d t a b = some r → Rel X a va → Rel X b vb → (Op.equalIn D t va vb).run P w = .ok r w
  | 0, _, _, _, _, _, _, _, _, h, _, _ => by cases h
  | d + 1, 0, _, _, _, _, _, _, hd, _, _, _ => by omega
  | d + 1, D + 1, t, a, b, r, va, vb, hd, h, ha, hb => by
    unfold eqAV at h
    split at h
    · rename_i ht
      cases h
      simp only [Rel] at ha hb
      subst ha hb
      exact run_equalIn_bool' w D t _ _ ht
    · rename_i ht
      split at h
      · rename_i e
        subst e
        cases h
        simp only [Rel] at ha hb
        subst ha hb
        exact run_equalIn_int w D t _ _ _ _ ht
      · cases h
    · rename_i ht
      cases h
      simp only [Rel] at ha hb
      subst ha hb
      rw [run_equalIn_string w D t _ _ ht, ByteArray.toList_eq, ByteArray.toList_eq]
      rfl
    · rename_i fs xs ys ht
      split at h
      · cases h
      · rename_i hs
        simp only [Rel] at ha hb
        obtain ⟨vs, rfl, hx⟩ := ha
        obtain ⟨us, rfl, hy⟩ := hb
        have hfs : P.fieldsOf t = fs := by unfold Program.fieldsOf; rw [ht]
        rw [run_equalIn_struct w D t vs us (by rw [hfs]; exact ht) (by simpa using hs), hfs]
        exact eqAVF_ok (fun t a b r va vb h ha hb => eqAV_ok d D t a b r va vb (by omega) h ha hb) hx hy _ _ h
    · rename_i n e xs ys ht
      split at h
      · rename_i hi
        obtain ⟨i, hi⟩ := Option.isSome_iff_exists.1 hi
        simp only [Rel] at ha hb
        obtain ⟨vs, rfl, hx⟩ := ha
        obtain ⟨us, rfl, hy⟩ := hb
        rw [run_equalIn_array w D vs us ht hi]
        exact eqAVI_ok (fun t a b r va vb h ha hb => eqAV_ok d D t a b r va vb (by omega) h ha hb) hx hy _ _ h
      · cases h
    · cases h

def qBin (P : Program) (op : BinOp) (t : TypeId) : AV → AV → Option (Bool × AV)
  | .int k x, .int k' y =>
    match iShift op k x y with
    | some (ok, z) => some (ok, .int k z)
    | none => if k = k' then
        match iArith op k x y with
        | some (ok, z) => some (ok, .int k z)
        | none => (iCmp op x y).map fun b => (true, .bool b)
      else none
  | .str x, .str y => match op with
    | .add => some (sLe ((x.size + y.size : Nat) : Int) IntKind.i64.max, .str (x ++ y))
    | _ => (sCmp op x y).map fun v => (true, v)
  | .bool x, .bool y => match P.underlying t with
    | some .bool => match op with | .eql => some (true, .bool (sEqB x y)) | .neq => some (true, .bool (sNot (sEqB x y))) | _ => none
    | _ => none
  | .agg xs, .agg ys => match P.eqGuardType P.depth t with
    | false => match op with
      | .eql => (eqAV P 12 t (.agg xs) (.agg ys)).map fun b => (true, .bool b)
      | .neq => (eqAV P 12 t (.agg xs) (.agg ys)).map fun b => (true, .bool (sNot b))
      | _ => none
    | true => none
  | _, _ => none

theorem bin_ok {P : Program} {X : Cx} {w : World} {op : BinOp} {t : TypeId} {a b r : AV} {va vb : Value} {ok : Bool} (x y : Operand)
    (h : qBin P op t a b = some (ok, r)) (hok : ok = true) (ha : Rel X a va) (hb : Rel X b vb) :
    ∃ v, (do eqGuard op t x y va vb; binOp op t va vb : Sem Value).run P w = .ok v w ∧ Rel X r v := by
  unfold qBin at h
  split at h
  · rename_i k n k' m
    simp only [Rel] at ha hb
    subst ha hb
    have hg : (eqGuard op t x y (.int k n) (.int k' m)).run P w = .ok () w := by unfold eqGuard; cases op <;> rfl
    rw [Sem.run_bind, hg, Result.andThen_ok]
    split at h
    · rename_i ok' z hs
      cases h
      unfold iShift at hs
      cases op <;> simp only [Option.some.injEq, Prod.mk.injEq, reduceCtorEq] at hs <;> obtain ⟨h1, rfl⟩ := hs <;> rw [hok] at h1 <;> simp only [decide_eq_true_eq] at h1 <;>
        refine ⟨_, ?_, by simp only [Rel]; rfl⟩ <;> simp [binOp, Op.shift, show ¬ m < 0 by omega]
    · split at h
      · rename_i hs e
        subst e
        split at h
        · rename_i ok' z hz
          cases h
          unfold iArith at hz
          cases op <;> simp only [Option.some.injEq, Prod.mk.injEq, reduceCtorEq] at hz <;> obtain ⟨h1, rfl⟩ := hz <;> (try rw [hok] at h1) <;>
            refine ⟨_, ?_, by simp only [Rel]; rfl⟩ <;> simp_all [binOp, Op.intArith, Op.intDiv, Op.intBits]
        · rename_i hz
          simp only [Option.map_eq_some_iff, Prod.mk.injEq] at h
          obtain ⟨z, hc, _, rfl⟩ := h
          unfold iCmp at hc
          cases op <;> simp only [Option.some.injEq, reduceCtorEq] at hc <;> subst hc <;>
            refine ⟨_, ?_, by simp only [Rel]; rfl⟩ <;> simp [binOp, Op.intCmp]
      · cases h
  · rename_i s u
    simp only [Rel] at ha hb
    subst ha hb
    have hg : (eqGuard op t x y (.string s) (.string u)).run P w = .ok () w := by unfold eqGuard; cases op <;> rfl
    rw [Sem.run_bind, hg, Result.andThen_ok]
    split at h
    · cases h
      refine ⟨_, ?_, by simp only [Rel]; rfl⟩
      simp only [decide_eq_true_eq] at hok
      have hok' : ¬ (((s.size + u.size : Nat) : Int) > IntKind.i64.max) := by omega
      simp only [binOp, Op.stringOp, if_neg hok']
      rfl
    · simp only [Option.map_eq_some_iff, Prod.mk.injEq] at h
      obtain ⟨z, hc, _, rfl⟩ := h
      unfold sCmp at hc
      cases op <;> simp only [Option.some.injEq, reduceCtorEq] at hc <;> first | contradiction | (subst hc; refine ⟨_, ?_, by simp only [Rel]; rfl⟩; simp [binOp, Op.stringOp, bEq, bytes_toList])
  · rename_i p q
    simp only [Rel] at ha hb
    subst ha hb
    split at h
    · rename_i hu
      have hg : (eqGuard op t x y (.bool p) (.bool q)).run P w = .ok () w := by unfold eqGuard; cases op <;> rfl
      rw [Sem.run_bind, hg, Result.andThen_ok]
      have he : (Op.equal t (.bool p) (.bool q)).run P w = .ok (p == q) w := by
        show (Op.equalIn (9999 + 1) t (.bool p) (.bool q)).run P w = _
        rw [Op.equalIn, Sem.run_bind, run_underlying hu, Result.andThen_ok]
        rfl
      cases op <;> simp only [Option.some.injEq, Prod.mk.injEq, reduceCtorEq] at h <;> obtain ⟨_, rfl⟩ := h <;>
        refine ⟨_, ?_, by simp only [Rel]; rfl⟩ <;> simp [binOp, he]
    · cases h
  · rename_i xs ys
    split at h
    · rename_i hg
      have ha' := ha
      have hb' := hb
      simp only [Rel] at ha hb
      obtain ⟨vs, rfl, hx⟩ := ha
      obtain ⟨us, rfl, hy⟩ := hb
      rw [Sem.run_bind, run_eqGuard_agg w op t x y vs us hg, Result.andThen_ok]
      cases op <;> simp only [Option.map_eq_some_iff, Prod.mk.injEq, reduceCtorEq] at h <;> obtain ⟨b, h1, _, rfl⟩ := h
      · exact ⟨_, by rw [run_eql_struct w t vs us, eqAV_ok 12 10000 t _ _ b _ _ (by omega) h1 ha' hb']; rfl, by simp only [Rel]⟩
      · exact ⟨_, by rw [run_neq_struct w t vs us, eqAV_ok 12 10000 t _ _ b _ _ (by omega) h1 ha' hb']; rfl, by simp only [Rel, sNot]⟩
    · cases h
  · cases h

def qUn (op : UnOp) : AV → Option AV
  | .int k n => match op with
    | .neg => some (.int k (k.wrap (0 - n)))
    | .xor => some (.int k (k.wrap ((BitVec.ofInt k.bits (if k.signed then -1 else k.max) ^^^ BitVec.ofInt k.bits n).toNat : Int)))
    | _ => none
  | .bool b => match op with | .not => some (.bool (sNot b)) | _ => none
  | _ => none

theorem un_ok {P : Program} {X : Cx} {w : World} {op : UnOp} {a r : AV} {va : Value} (h : qUn op a = some r) (ha : Rel X a va) :
    ∃ v, (Op.unary op va).run P w = .ok v w ∧ Rel X r v := by
  unfold qUn at h
  split at h
  · simp only [Rel] at ha
    subst ha
    cases op <;> simp only [Option.some.injEq, reduceCtorEq] at h <;> subst h <;> exact ⟨_, rfl, by simp only [Rel]⟩
  · simp only [Rel] at ha
    subst ha
    cases op <;> simp only [Option.some.injEq, reduceCtorEq] at h <;> subst h <;> exact ⟨_, rfl, by simp only [Rel]⟩
  · cases h

def qConv (P : Program) (src dst : TypeId) : AV → Option AV
  | .int _ n => match P.underlying src, P.underlying dst with | some _, some (.int k) => some (.int k (k.wrap n)) | _, _ => none
  | .str s => match P.underlying src, P.underlying dst with | some _, some .string => some (.str s) | _, _ => none
  | _ => none

theorem conv_ok {P : Program} {X : Cx} {w : World} {src dst : TypeId} {a r : AV} {va : Value} (h : qConv P src dst a = some r) (ha : Rel X a va) :
    ∃ v, (convert src dst va).run P w = .ok v w ∧ Rel X r v := by
  unfold qConv at h
  split at h
  · simp only [Rel] at ha
    subst ha
    split at h
    · rename_i hs hd
      cases h
      refine ⟨_, ?_, by simp only [Rel]; rfl⟩
      simp only [convert, Sem.run_bind, run_underlying hs, run_underlying hd, Result.andThen_ok]
      rfl
    · cases h
  · simp only [Rel] at ha
    subst ha
    split at h
    · rename_i d hs hd
      cases h
      refine ⟨_, ?_, by simp only [Rel]; rfl⟩
      simp only [convert, Sem.run_bind, run_underlying hs, run_underlying hd, Result.andThen_ok]
      rfl
    · cases h
  · cases h

/-! ### Pointers -/
def AV.shift (k : Nat) : AV → AV
  | .ptr r off => .ptr r (off + k)
  | .dptr s x off => .dptr s x (off + k)
  | .eptr r g i off => .eptr r g i (off + k)
  | v => v

theorem shift_rel {X : Cx} {p : AV} {u : Value} {cs : List AV} {off : Nat} (k : Nat) (h : behind X.rows p = some (cs, off)) (hr : Rel X p u) :
    ∃ b q, u = .pointer (some ⟨b, q, none⟩) ∧ Rel X (p.shift k) (.pointer (some ⟨b, q + k, none⟩)) := by
  unfold behind at h
  split at h
  · split at h
    · rename_i hrow
      simp only [Rel] at hr
      obtain ⟨b, hb, rfl⟩ := hr _ hrow
      exact ⟨b, _, rfl, by simp only [AV.shift, Rel]; exact fun _ _ => ⟨b, hb, rfl⟩⟩
    · cases h
  · simp only [Rel] at hr
    obtain ⟨b, o, cs', rfl, h1, h2, h3⟩ := hr
    exact ⟨b, _, rfl, by simp only [AV.shift, Rel]; exact ⟨b, o, cs', by rw [Nat.add_assoc], h1, h2, h3⟩⟩
  · split at h
    · rename_i g i off' g' s xs hrow
      split at h
      · rename_i e
        subst e
        simp only [Rel] at hr
        obtain ⟨hi, b, o, hb, rfl⟩ := hr s xs hrow
        refine ⟨b, _, rfl, ?_⟩
        simp only [AV.shift, Rel]
        intro s' xs' hrow'
        rw [hrow] at hrow'
        obtain ⟨⟨⟩, hs, hx⟩ := Row.arr.inj (Option.some.inj hrow')
        subst hs
        cases hx
        exact ⟨hi, b, o, hb, by rw [Nat.add_assoc]⟩
      · cases h
    · cases h
  · cases h

/-- The address of a field. -/
def qField (P : Program) (rows : Rows) (s : TypeId) (f : Nat) (p : AV) : Option AV :=
  match P.underlying s with
  | some (.struct fs) => match fs[f]? with
    | some x => match P.info? x.type with
      | some i => if i.size = 0 then none else (behind rows p).map fun _ => p.shift x.offset
      | none => none
    | none => none
  | _ => none

theorem field_ok {P : Program} {X : Cx} {w : World} {s : TypeId} {f : Nat} {p r : AV} {u : Value} (h : qField P X.rows s f p = some r) (hr : Rel X p u) :
    ∃ v, (Instr.fieldAt s u f).run P w = .ok v w ∧ Rel X r v := by
  unfold qField at h
  split at h
  · rename_i fs hs
    split at h
    · rename_i x hx
      split at h
      · rename_i i hi
        split at h
        · cases h
        · rename_i hz
          simp only [Option.map_eq_some_iff] at h
          obtain ⟨⟨cs, off⟩, hb, rfl⟩ := h
          obtain ⟨b, q, rfl, hrel⟩ := shift_rel x.offset hb hr
          refine ⟨_, ?_, hrel⟩
          simp [Instr.fieldAt, run_underlying hs, hx, Instr.sureAddr, fieldPlace, sizeOf, typeInfo, hi, hz, addr_add]
      · cases h
    · cases h
  · cases h

/-! ### Slices and indexes -/
/-- How long a slice is. -/
def lenAV (rows : Rows) : AV → Option Nat
  | .nils => some 0
  | .dsl _ xs => some xs.length
  | .osl r g _ len => match rows.get r with | some (.arr g' _ _) => if g = g' then some len else none | _ => none
  | .own r g => match rows.get r with | some (.arr g' _ xs) => if g = g' then some xs.length else none | _ => none
  | .bsl r _ n _ => match rows.get r with | some (.box _) => some n | _ => none
  | _ => none

theorem lenAV_ok {X : Cx} {a : AV} {v : Value} {n : Nat} (h : lenAV X.rows a = some n) (hr : Rel X a v) : ∃ p cap, v = .slice p n cap := by
  unfold lenAV at h
  split at h
  · cases h; simp only [Rel] at hr; exact ⟨none, 0, hr⟩
  · cases h
    simp only [Rel] at hr
    obtain ⟨a, cap, hc, _⟩ := hr
    exact ⟨a, cap, List.cons.inj hc |>.1⟩
  · split at h
    · rename_i hrow
      split at h
      · rename_i e
        subst e
        cases h
        simp only [Rel] at hr
        obtain ⟨hle, hc⟩ := hr _ _ hrow
        rcases hc with ⟨h1, h0, rfl⟩ | ⟨b, o, a, cap, _, rfl, _⟩
        · exact ⟨none, 0, by rw [show n = 0 by omega]⟩
        · exact ⟨_, _, rfl⟩
      · cases h
    · cases h
  · split at h
    · rename_i hrow
      split at h
      · rename_i e
        subst e
        cases h
        simp only [Rel] at hr
        rcases hr _ _ hrow with ⟨h1, h0, rfl⟩ | ⟨b, o, cap, _, rfl, _⟩
        · exact ⟨none, 0, by rw [h0]⟩
        · exact ⟨_, _, rfl⟩
      · cases h
    · cases h
  · split at h
    · rename_i hrow
      cases h
      simp only [Rel] at hr
      obtain ⟨b, _, rfl⟩ := hr _ hrow
      exact ⟨_, _, rfl⟩
    · cases h
  · cases h

def sizeIs (P : Program) (t : TypeId) (n : Nat) : Bool := match P.info? t with | some i => i.size == n | none => false
theorem run_sizeOf {P : Program} {t : TypeId} {n : Nat} (h : sizeIs P t n = true) (w : World) : (sizeOf t).run P w = .ok n w := by
  unfold sizeIs at h
  split at h
  · rename_i i hi
    have : i.size = n := by simpa using h
    simp [sizeOf, typeInfo, hi, this]
  · cases h

/-- The array that lies in a datum from a cell on. -/
def subArr : (s : Sh) → s.den → Nat → Option ((n : Nat) × (e : Sh) × List e.den)
  | .arr n e, xs, 0 => some ⟨n, e, xs⟩
  | .prod a b, x, off => if off < a.size then subArr a x.1 off else subArr b x.2 (off - a.size)
  | _, _, _ => none

theorem subArr_den {F : Nat → Prop} {h : Array Obj} {b : Nat} : ∀ (s : Sh) (x : s.den) (off o : Nat) (cs : List Value) (n : Nat) (e : Sh) (xs : List e.den),
    subArr s x off = some ⟨n, e, xs⟩ → Den F h s x cs → cellsAt h b o cs → ∃ cs', Den F h (.arr n e) xs cs' ∧ cellsAt h b (o + off) cs'
  | .arr n e, x, 0, o, cs, n', e', xs, hs, hd, hc => by
    simp only [subArr, Option.some.injEq] at hs
    cases hs
    exact ⟨cs, hd, hc⟩
  | .prod a b', x, off, o, cs, n, e, xs, hs, hd, hc => by
    simp only [subArr] at hs
    obtain ⟨c1, c2, rfl, h1, h2⟩ := hd
    have hl := Den.length a _ _ h1
    split at hs
    · exact subArr_den a x.1 off o c1 n e xs hs h1 hc.append.1
    · obtain ⟨cs', hd', hc'⟩ := subArr_den b' x.2 (off - a.size) (o + c1.length) c2 n e xs hs h2 hc.append.2
      exact ⟨cs', hd', by rw [show o + off = o + c1.length + (off - a.size) by omega]; exact hc'⟩
  | .unit, _, _, _, _, _, _, _, hs, _, _ => by cases hs
  | .bool, _, _, _, _, _, _, _, hs, _, _ => by cases hs
  | .int _, _, _, _, _, _, _, _, hs, _, _ => by cases hs
  | .str, _, _, _, _, _, _, _, hs, _, _ => by cases hs
  | .sl _, _, _, _, _, _, _, _, hs, _, _ => by cases hs
  | .arr _ _, _, _ + 1, _, _, _, _, _, hs, _, _ => by cases hs

theorem allD_at {α : Type} {D : α → List Value → Prop} {n : Nat} {h : Array Obj} {b : Nat} (hD : ∀ x cs, D x cs → cs.length = n) : ∀ (xs : List α) (cs : List Value) (o i : Nat) (hi : i < xs.length),
    AllD D xs cs → cellsAt h b o cs → ∃ es, cellsAt h b (o + i * n) es ∧ D xs[i] es
  | [], _, _, _, hi, _, _ => by simp at hi
  | x :: xs, cs, o, i, hi, ⟨c1, c2, e, h1, h2⟩, hc => by
    subst e
    cases i with
    | zero => exact ⟨c1, by simpa using hc.append.1, h1⟩
    | succ i =>
      obtain ⟨es, he, hd⟩ := allD_at hD xs c2 (o + c1.length) i (by simpa using hi) h2 hc.append.2
      refine ⟨es, ?_, hd⟩
      rw [show o + (i + 1) * n = o + c1.length + i * n by rw [hD _ _ h1, Nat.add_mul]; omega]
      exact he

/-- The address of an element. -/
def qIndex (P : Program) (rows : Rows) (t : TypeId) (p : AV) (i : Int) : Option (Bool × AV) :=
  match P.underlying t with
  | some (.slice et) => match p with
    | .dsl e xs => if sizeIs P et e.size then some (sAnd (sLe 0 i) (sLt i xs.length), .dptr e (xs.getD i.toNat e.dflt) 0) else none
    | .osl r g st len => match rows.get r with
      | some (.arr g' s _) => if g = g' ∧ sizeIs P et s.size = true then some (sAnd (sLe 0 i) (sLt i len), .eptr r g (st + i.toNat) 0) else none
      | _ => none
    | .own r g => match rows.get r with
      | some (.arr g' s xs) => if g = g' ∧ sizeIs P et s.size = true then some (sAnd (sLe 0 i) (sLt i xs.length), .eptr r g i.toNat 0) else none
      | _ => none
    | .nils => (shOf P 20 et).map fun s => (false, .dptr s s.dflt 0)
    | .bsl r off n _ => match rows.get r with
      | some (.box _) => (P.info? et).map fun x => (sAnd (sLe 0 i) (sLt i n), .ptr r (off + i.toNat * x.size))
      | _ => none
    | _ => none
  | some (.array len et) => match p with
    | .ptr r off => match rows.get r with
      | some (.box _) => (P.info? et).map fun x => (sAnd (sLe 0 i) (sLt i len), .ptr r (off + i.toNat * x.size))
      | _ => none
    | .dptr s x off => match subArr s x off with
      | some ⟨n, e, xs⟩ => if n = len ∧ sizeIs P et e.size = true then some (sAnd (sLe 0 i) (sLt i n), .dptr e (xs.getD i.toNat e.dflt) 0) else none
      | none => none
    | _ => none
  | _ => none

theorem index_ok {P : Program} {base n : Nat} {w0 : Start} {w : World} {X : Cx} (H : RowsOk base w0 n X w) {t : TypeId} {p r : AV} {u : Value} {k : IntKind} {i : Int} {ok : Bool}
    (h : qIndex P X.rows t p i = some (ok, r)) (hok : ok = true) (hr : Rel X p u) : ∃ v, (Instr.indexAt t u (.int k i)).run P w = .ok v w ∧ Rel X r v := by
  have run : ∀ (len : Nat) (et : TypeId) (b o sz cap : Nat), P.underlying t = some (.slice et) → 0 ≤ i → i < len → sizeIs P et sz = true →
      (Instr.indexAt t (.slice (some ⟨b, o, none⟩) len cap) (.int k i)).run P w = .ok (.pointer (some ⟨b, o + i.toNat * sz, none⟩)) w := by
    intro len et b o sz cap ht h0 h1 hs
    simp [Instr.indexAt, asIntOf, run_underlying ht, h0, h1, run_sizeOf hs, addr_add]
  unfold qIndex at h
  split at h
  · rename_i et ht
    split at h
    · rename_i e xs
      split at h
      · rename_i hs
        cases h
        simp only [Bool.and_eq_true, decide_eq_true_eq] at hok
        simp only [Rel] at hr
        obtain ⟨a, cap, hc, hl, hn, hp⟩ := hr
        obtain rfl : u = _ := List.cons.inj hc |>.1
        cases a with
        | none => have := (hn rfl).1; subst this; simp at hok; omega
        | some p =>
          obtain ⟨hsp, he⟩ := hp p rfl
          have hi : i.toNat < xs.length := by omega
          have hsp := hsp (by omega)
          obtain ⟨b, o, sp⟩ := p
          cases hsp
          obtain ⟨hF, es, hes, hd⟩ := he i.toNat hi
          refine ⟨_, run xs.length et b o e.size cap ht hok.1 hok.2 hs, ?_⟩
          simp only [Rel]
          refine ⟨b, o + i.toNat * e.size, es, rfl, hF, hes, ?_⟩
          rw [show xs.getD i.toNat e.dflt = xs[i.toNat] by simp [List.getD, List.getElem?_eq_getElem hi]]
          exact hd
      · cases h
    · rename_i r' g st len
      split at h
      · rename_i g' s xs hrow
        split at h
        · rename_i e
          obtain ⟨e, hs⟩ := e
          subst e
          cases h
          simp only [Bool.and_eq_true, decide_eq_true_eq] at hok
          simp only [Rel] at hr
          obtain ⟨hle, hc⟩ := hr _ _ hrow
          rcases hc with ⟨_, h0, _⟩ | ⟨b, o, a, cap, hb, rfl, hcap, hcase⟩
          · omega
          · rcases hcase with h0 | ⟨rfl, hsz⟩
            · omega
            · refine ⟨_, run len et b _ s.size cap ht hok.1 hok.2 hs, ?_⟩
              simp only [Rel]
              intro s' xs' hrow'
              rw [hrow] at hrow'
              obtain ⟨⟨⟩, hs', hx⟩ := Row.arr.inj (Option.some.inj hrow')
              subst hs'
              cases hx
              exact ⟨by omega, b, o, hb, by rw [Nat.add_mul, ← Nat.add_assoc]; rfl⟩
        · cases h
      · cases h
    · rename_i r' g
      split at h
      · rename_i g' s xs hrow
        split at h
        · rename_i e
          obtain ⟨e, hs⟩ := e
          subst e
          cases h
          simp only [Bool.and_eq_true, decide_eq_true_eq] at hok
          simp only [Rel] at hr
          rcases hr _ _ hrow with ⟨_, h0, _⟩ | ⟨b, o, cap, hb, rfl, hcap, hsz⟩
          · omega
          · refine ⟨_, run xs.length et b _ s.size cap ht hok.1 hok.2 hs, ?_⟩
            simp only [Rel]
            intro s' xs' hrow'
            rw [hrow] at hrow'
            obtain ⟨⟨⟩, hs', hx⟩ := Row.arr.inj (Option.some.inj hrow')
            subst hs'
            cases hx
            exact ⟨by omega, b, o, hb, rfl⟩
        · cases h
      · cases h
    · simp only [Option.map_eq_some_iff, Prod.mk.injEq] at h
      obtain ⟨_, _, rfl, _⟩ := h
      cases hok
    · rename_i r off n cap
      split at h
      · rename_i cs hrow
        simp only [Option.map_eq_some_iff, Prod.mk.injEq] at h
        obtain ⟨x, hx, rfl, rfl⟩ := h
        simp only [Bool.and_eq_true, decide_eq_true_eq] at hok
        simp only [Rel] at hr
        obtain ⟨b, hb, rfl⟩ := hr _ hrow
        have hs : sizeIs P et x.size = true := by unfold sizeIs; rw [hx]; simp
        refine ⟨.pointer (some ⟨b, off + i.toNat * x.size, none⟩), run n et b off x.size cap ht hok.1 hok.2 hs, ?_⟩
        simp only [Rel]
        intro cs' _
        exact ⟨b, hb, rfl⟩
      · cases h
    · cases h
  · rename_i len et ht
    split at h
    · rename_i r off
      split at h
      · rename_i cs hrow
        simp only [Option.map_eq_some_iff, Prod.mk.injEq] at h
        obtain ⟨x, hx, rfl, rfl⟩ := h
        simp only [Bool.and_eq_true, decide_eq_true_eq] at hok
        simp only [Rel] at hr
        obtain ⟨b, hb, rfl⟩ := hr _ hrow
        have hs : sizeIs P et x.size = true := by unfold sizeIs; rw [hx]; simp
        refine ⟨.pointer (some ⟨b, off + i.toNat * x.size, none⟩), ?_, ?_⟩
        · simp [Instr.indexAt, asIntOf, run_underlying ht, hok.1, hok.2, run_sizeOf hs, addr_add, Instr.sureAddr]
        · simp only [Rel]
          intro cs' _
          exact ⟨b, hb, rfl⟩
      · cases h
    · rename_i s x off
      split at h
      · rename_i m e xs hsub
        split at h
        · rename_i hc
          obtain ⟨rfl, hs⟩ := hc
          cases h
          simp only [Bool.and_eq_true, decide_eq_true_eq] at hok
          simp only [Rel] at hr
          obtain ⟨b, o, cs, rfl, hF, hcs, hd⟩ := hr
          obtain ⟨cs', ⟨hl, hd'⟩, hc'⟩ := subArr_den s x off o cs m e xs hsub hd hcs
          have hi : i.toNat < xs.length := by omega
          obtain ⟨es, hes, hde⟩ := allD_at (fun x cs => Den.length e x cs) xs cs' (o + off) i.toNat hi hd' hc'
          refine ⟨.pointer (some ⟨b, o + off + i.toNat * e.size, none⟩), ?_, ?_⟩
          · simp [Instr.indexAt, asIntOf, run_underlying ht, hok.1, hok.2, run_sizeOf hs, addr_add, Instr.sureAddr]
          · simp only [Rel]
            refine ⟨b, o + off + i.toNat * e.size, es, rfl, hF, hes, ?_⟩
            rw [show xs.getD i.toNat e.dflt = xs[i.toNat] by simp [List.getD, List.getElem?_eq_getElem hi]]
            exact hde
        · cases h
      · cases h
    · cases h
  · cases h
end Go.Proofs.YtnjofponcdcfcaaDoor.Ab
set_option linter.unusedVariables false
set_option linter.all false
namespace Go.Proofs.YtnjofponcdcfcaaDoor.Ab
open Go.RowKit

/-- A bound of a slice expression. -/
def bndAV : Option AV → Option (Option Int)
  | none => some none
  | some (.int _ n) => some (some n)
  | _ => none

def bndOk (lo hi : Option Int) (len : Nat) : Bool :=
  let h := hi.getD len
  let l := lo.getD 0
  sAnd (sAnd (sLe 0 l) (sLe l h)) (sLe h len)

def cutL {α : Type} (lo hi : Option Int) (xs : List α) : List α :=
  match lo, hi with
  | none, none => xs
  | some l, none => xs.drop l.toNat
  | none, some h => xs.take h.toNat
  | some l, some h => (xs.take h.toNat).drop l.toNat

def qSlice (P : Program) (rows : Rows) (t : TypeId) (x : AV) (lo hi : Option Int) : Option (Bool × AV) :=
  match P.underlying t with
  | some .string => match x with
    | .str s => some (bndOk lo hi s.size, .str (s.extract (lo.getD 0).toNat (hi.getD s.size).toNat))
    | _ => none
  | some (.slice et) => match x with
    | .dsl e xs => if sizeIs P et e.size then some (bndOk lo hi xs.length, .dsl e (cutL lo hi xs)) else none
    | .osl r g st len => match rows.get r with
      | some (.arr g' s _) => if g = g' ∧ sizeIs P et s.size = true then some (bndOk lo hi len, .osl r g (st + (lo.getD 0).toNat) ((hi.getD len).toNat - (lo.getD 0).toNat)) else none
      | _ => none
    | .own r g => match rows.get r with
      | some (.arr g' s xs) => if g = g' ∧ sizeIs P et s.size = true then some (bndOk lo hi xs.length, .osl r g (lo.getD 0).toNat ((hi.getD xs.length).toNat - (lo.getD 0).toNat)) else none
      | _ => none
    | .nils => if (P.info? et).isSome then some (bndOk lo hi 0, .nils) else none
    | _ => none
  | some (.array n et) => match x, lo with
    | .ptr r off, none => match rows.get r with
      | some (.box _) => if (P.info? et).isSome ∧ 0 < n then some (bndOk none hi n, .bsl r off (hi.getD n).toNat n) else none
      | _ => none
    | _, _ => none
  | _ => none

theorem cutL_eq {α : Type} (lo hi : Option Int) (xs : List α) : cutL lo hi xs = (xs.take (hi.getD xs.length).toNat).drop (lo.getD 0).toNat := by
  cases lo <;> cases hi <;> simp [cutL]

/-- A bound's Go value. -/
def BndRel (a : Option AV) (v : Option Value) : Prop := (a = none ∧ v = none) ∨ ∃ k n, a = some (.int k n) ∧ v = some (.int k n)

theorem bounds_run {P : Program} {w : World} {la ha : Option AV} {lv hv : Option Value} {lo hi : Option Int} {isSl : Bool} {len cap : Nat} (hl : BndRel la lv) (hh : BndRel ha hv)
    (h1 : bndAV la = some lo) (h2 : bndAV ha = some hi) (hok : bndOk lo hi len = true) (hcap : len ≤ cap) :
    (Instr.sliceBounds isSl len cap lv hv none).run P w = .ok ((lo.getD 0).toNat, (hi.getD len).toNat, cap) w := by
  simp only [bndOk, Bool.and_eq_true, decide_eq_true_eq] at hok
  rcases hl with ⟨rfl, rfl⟩ | ⟨k, n, rfl, rfl⟩ <;> rcases hh with ⟨rfl, rfl⟩ | ⟨k', m, rfl, rfl⟩ <;> simp only [bndAV, Option.some.injEq] at h1 h2 <;> subst h1 h2 <;> simp only [Option.getD_some, Option.getD_none] at hok ⊢
  · simp [Instr.sliceBounds]
  · simp [Instr.sliceBounds, Instr.sliceBound, asIntOf, show 0 ≤ m by omega, show m ≤ (cap : Int) by omega]
  · simp [Instr.sliceBounds, Instr.sliceBound, asIntOf, show 0 ≤ n by omega, show n ≤ (len : Int) by omega]
  · simp [Instr.sliceBounds, Instr.sliceBound, asIntOf, show 0 ≤ m by omega, show m ≤ (cap : Int) by omega, show 0 ≤ n by omega, show n ≤ max m 0 by omega]

theorem slice_ok {P : Program} {X : Cx} {w : World} {t : TypeId} {a r : AV} {u : Value} {la ha : Option AV} {lv hv : Option Value} {lo hi : Option Int} {ok : Bool}
    (hl : BndRel la lv) (hh : BndRel ha hv) (h1 : bndAV la = some lo) (h2 : bndAV ha = some hi)
    (h : qSlice P X.rows t a lo hi = some (ok, r)) (hok : ok = true) (hr : Rel X a u) : ∃ v, (Instr.sliceAt t u lv hv none).run P w = .ok v w ∧ Rel X r v := by
  have hbd : ∀ len, bndOk lo hi len = true → 0 ≤ lo.getD 0 ∧ lo.getD 0 ≤ hi.getD len ∧ hi.getD (len : Int) ≤ len := by
    intro len h
    simp only [bndOk, Bool.and_eq_true, decide_eq_true_eq] at h
    exact ⟨h.1.1, h.1.2, h.2⟩
  have run : ∀ (et : TypeId) (p : Option Addr) (len cap sz : Nat), P.underlying t = some (.slice et) → bndOk lo hi len = true → len ≤ cap → sizeIs P et sz = true →
      (Instr.sliceAt t (.slice p len cap) lv hv none).run P w =
        .ok (.slice (if cap = (lo.getD 0).toNat then p else p.map (·.add ((lo.getD 0).toNat * sz))) ((hi.getD len).toNat - (lo.getD 0).toNat) (cap - (lo.getD 0).toNat)) w := by
    intro et p len cap sz ht hb hc hs
    simp [Instr.sliceAt, run_underlying ht, Instr.slice, bounds_run hl hh h1 h2 hb hc, run_sizeOf hs]
  unfold qSlice at h
  split at h
  · rename_i ht
    split at h
    · rename_i s
      cases h
      simp only [Rel] at hr
      subst hr
      refine ⟨_, ?_, by simp only [Rel]; rfl⟩
      simp [Instr.sliceAt, run_underlying ht, Instr.slice, bounds_run hl hh h1 h2 hok (Nat.le_refl _)]
    · cases h
  · rename_i et ht
    split at h
    · rename_i e xs
      split at h
      · rename_i hs
        cases h
        obtain ⟨b1, b2, b3⟩ := hbd _ hok
        simp only [Rel] at hr
        obtain ⟨p, cap, hc, hlen, hn, hp⟩ := hr
        obtain rfl : u = _ := List.cons.inj hc |>.1
        refine ⟨_, run et p xs.length cap e.size ht hok hlen hs, ?_⟩
        simp only [Rel]
        have hcl : (cutL lo hi xs).length = (hi.getD xs.length).toNat - (lo.getD 0).toNat := by rw [cutL_eq]; simp; omega
        refine ⟨_, _, by rw [hcl], by rw [hcl]; omega, ?_, ?_⟩
        · intro e0
          have hpn : p = none := by
            split at e0
            · exact e0
            · cases p with
              | none => rfl
              | some p => cases e0
          obtain ⟨h0, h0'⟩ := hn hpn
          subst h0
          exact ⟨by rw [cutL_eq]; simp, by omega⟩
        · intro q hq
          cases p with
          | none => split at hq <;> cases hq
          | some p =>
            obtain ⟨hsp, he⟩ := hp p rfl
            rcases Nat.eq_zero_or_pos xs.length with h0 | h0
            · exact ⟨fun hc => by omega, fun i hi' => by omega⟩
            have hsp := hsp h0
            obtain ⟨b, o, sp⟩ := p
            cases hsp
            split at hq
            · rename_i hcl0
              cases hq
              exact ⟨fun _ => rfl, fun i hi' => by omega⟩
            · cases hq
              simp only [addr_add]
              refine ⟨fun _ => trivial, fun i hi' => ?_⟩
              rw [hcl] at hi'
              have hi2 : (lo.getD 0).toNat + i < xs.length := by omega
              obtain ⟨hF, es, hes, hd⟩ := he _ hi2
              refine ⟨hF, es, ?_, ?_⟩
              · rw [Nat.add_mul] at hes
                simpa [Nat.add_assoc] using hes
              · rw [show (cutL lo hi xs)[i]'(by omega) = xs[(lo.getD 0).toNat + i] by simp [cutL_eq]]
                exact hd
      · cases h
    · rename_i r' g st len
      split at h
      · rename_i g' s xs hrow
        split at h
        · rename_i e
          obtain ⟨e, hs⟩ := e
          subst e
          cases h
          obtain ⟨b1, b2, b3⟩ := hbd _ hok
          simp only [Rel] at hr
          obtain ⟨hle, hc⟩ := hr _ _ hrow
          rcases hc with ⟨hφ, h0, rfl⟩ | ⟨b, o, a, cap, hb, rfl, hcap, hcase⟩
          · have hl0 : len = 0 := by omega
            subst hl0
            refine ⟨_, run et none 0 0 s.size ht hok (Nat.le_refl _) hs, ?_⟩
            simp only [Rel]
            intro s' xs' hrow'
            rw [hrow] at hrow'
            obtain ⟨⟨⟩, hs', hx⟩ := Row.arr.inj (Option.some.inj hrow')
            subst hs'
            cases hx
            refine ⟨by omega, .inl ⟨hφ, h0, ?_⟩⟩
            congr 1
            · split <;> rfl
            · have : (0 : Int).toNat = 0 := rfl
              simp only [Int.natCast_zero] at b3 b2
              simp only [Int.natCast_zero]
              omega
            · omega
          · refine ⟨_, run et (some a) len cap s.size ht hok hcap hs, ?_⟩
            simp only [Rel]
            intro s' xs' hrow'
            rw [hrow] at hrow'
            obtain ⟨⟨⟩, hs', hx⟩ := Row.arr.inj (Option.some.inj hrow')
            subst hs'
            cases hx
            refine ⟨by omega, .inr ?_⟩
            by_cases hcl : cap = (lo.getD 0).toNat
            · exact ⟨b, o, a, _, hb, by rw [if_pos hcl], by omega, .inl ⟨by omega, by rcases hcase with h0 | ⟨rfl, _⟩ <;> first | exact h0.2.1 | rfl, fun e => by
                rcases hcase with h0 | ⟨rfl, _⟩
                · exact h0.2.2 (by omega)
                · rw [show st = 0 by omega, Nat.zero_mul, Nat.add_zero]⟩⟩
            · refine ⟨b, o, a.add ((lo.getD 0).toNat * s.size), _, hb, by rw [if_neg hcl]; rfl, by omega, ?_⟩
              rcases hcase with h0 | ⟨rfl, hsz⟩
              · exact absurd h0.1 (by omega)
              · refine .inr ⟨by rw [addr_add, Nat.add_mul, Nat.add_assoc], fun c T fr hc => ?_⟩
                have := hsz c T fr hc
                rw [show st + (lo.getD 0).toNat + (cap - (lo.getD 0).toNat) = st + cap by omega]
                exact this
        · cases h
      · cases h
    · rename_i r' g
      split at h
      · rename_i g' s xs hrow
        split at h
        · rename_i e
          obtain ⟨e, hs⟩ := e
          subst e
          cases h
          obtain ⟨b1, b2, b3⟩ := hbd _ hok
          simp only [Rel] at hr
          rcases hr _ _ hrow with ⟨hφ, h0, rfl⟩ | ⟨b, o, cap, hb, rfl, hcap, hsz⟩
          · have hok' : bndOk lo hi 0 = true := by rw [← h0]; exact hok
            rw [h0] at b3 b2
            refine ⟨_, run et none 0 0 s.size ht hok' (Nat.le_refl _) hs, ?_⟩
            simp only [Rel]
            intro s' xs' hrow'
            rw [hrow] at hrow'
            obtain ⟨⟨⟩, hs', hx⟩ := Row.arr.inj (Option.some.inj hrow')
            subst hs'
            cases hx
            simp only [Int.natCast_zero] at b3 b2
            rw [h0]
            simp only [Int.natCast_zero]
            refine ⟨by omega, .inl ⟨hφ, trivial, ?_⟩⟩
            congr 1
            · split <;> rfl
            · omega
            · omega
          · refine ⟨_, run et _ xs.length cap s.size ht hok hcap hs, ?_⟩
            simp only [Rel]
            intro s' xs' hrow'
            rw [hrow] at hrow'
            obtain ⟨⟨⟩, hs', hx⟩ := Row.arr.inj (Option.some.inj hrow')
            subst hs'
            cases hx
            refine ⟨by omega, .inr ?_⟩
            by_cases hcl : cap = (lo.getD 0).toNat
            · exact ⟨b, o, _, _, hb, by rw [if_pos hcl], by omega, .inl ⟨by omega, rfl, fun _ => rfl⟩⟩
            · refine ⟨b, o, _, _, hb, by rw [if_neg hcl]; rfl, by omega, .inr ⟨by simp only [addr_add], fun c T fr hc => ?_⟩⟩
              have := hsz c T fr hc
              rw [show (lo.getD 0).toNat + (cap - (lo.getD 0).toNat) = cap by omega]
              exact this
        · cases h
      · cases h
    · split at h
      · rename_i hinfo
        cases h
        obtain ⟨b1, b2, b3⟩ := hbd _ hok
        simp only [Rel] at hr
        subst hr
        simp only [Int.natCast_zero] at b3 b2
        obtain ⟨i, hi'⟩ := Option.isSome_iff_exists.1 hinfo
        refine ⟨_, run et none 0 0 i.size ht hok (Nat.le_refl _) (by simp [sizeIs, hi']), ?_⟩
        simp only [Rel]
        congr 1
        · split <;> rfl
        · simp only [Int.natCast_zero]; omega
        · omega
      · cases h
    · cases h
  · rename_i n et ht
    split at h
    · rename_i r' off
      split at h
      · rename_i cs hrow
        split at h
        · rename_i hc
          obtain ⟨hi', hn⟩ := hc
          obtain ⟨inf, hinf⟩ := Option.isSome_iff_exists.1 hi'
          cases h
          simp only [Rel] at hr
          obtain ⟨b, hb, rfl⟩ := hr _ hrow
          have hs : sizeIs P et inf.size = true := by unfold sizeIs; rw [hinf]; simp
          refine ⟨.slice (some ⟨b, off, none⟩) (hi.getD n).toNat n, ?_, ?_⟩
          · simp only [Instr.sliceAt, Sem.run_bind, run_underlying ht, Result.andThen_ok]
            simp only [Instr.sureAddr, Sem.run_pure, Result.andThen_ok, bounds_run hl hh h1 h2 hok (Nat.le_refl _), run_sizeOf hs]
            simp only [Option.getD_none]
            rw [if_neg (by show n ≠ 0; omega)]
            simp [addr_add]
          · simp only [Rel]
            intro cs' _
            exact ⟨b, hb, rfl⟩
        · cases h
      · cases h
    · cases h
  · cases h
end Go.Proofs.YtnjofponcdcfcaaDoor.Ab
set_option linter.unusedVariables false
set_option linter.all false
namespace Go.Proofs.YtnjofponcdcfcaaDoor.Ab
open Go.RowKit

/-! ### What a quiet operation leaves -/
/-- The world has grown, maybe by a row of the call's own; the value reads. -/
def QPost (X : Cx) (w : World) (id : Nat) (v : AV) (new : Option Row) (val : Value) (w' : World) : Prop :=
  ∃ (F' : Nat → Prop) (loc : Option (Nat × Nat)), Below w.heap.size w w' ∧ (∀ b, X.F b → F' b) ∧ (∀ b, F' b → X.F b ∨ w.heap.size ≤ b) ∧ (∀ b, F' b → b < w'.heap.size) ∧
    match new with
    | none => Rel { X with F := F', heap := w'.heap } v val
    | some row => RowOk (Cx.claim { X with F := F', heap := w'.heap } id row loc) id row ∧ (∀ b o, loc = some (b, o) → w.heap.size ≤ b ∧ ¬ F' b) ∧
        Rel (Cx.claim { X with F := F', heap := w'.heap } id row loc) v val

theorem QPost.same {base n : Nat} {w0 : Start} {w : World} {X : Cx} (H : RowsOk base w0 n X w) {id : Nat} {v : AV} {val : Value} (h : Rel X v val) : QPost X w id v none val w := by
  refine ⟨X.F, none, Below.refl _ _, fun _ h => h, fun _ h => .inl h, H.fresh, ?_⟩
  have : ({ X with F := X.F, heap := w.heap } : Cx) = X := by rw [← H.heap]
  simp only [this]
  exact h

theorem below_push (w : World) (o : Obj) : Below w.heap.size w { w with heap := w.heap.push o } :=
  ⟨rfl, rfl, rfl, by simp, fun k hk => by simp [Array.getElem?_push, Nat.ne_of_lt hk]⟩

theorem cellsAt_push {h : Array Obj} {b o : Nat} {cs : List Value} {x : Obj} (H : cellsAt h b o cs) : cellsAt (h.push x) b o cs := by
  obtain ⟨c, T, fr, hc, hj⟩ := H
  have := (Array.getElem?_eq_some_iff.1 hc).1
  exact ⟨c, T, fr, by rw [Array.getElem?_push, if_neg (by omega)]; exact hc, hj⟩

/-- The world behind a new block. -/
theorem Stab.push {base n : Nat} {w0 : Start} {w : World} {X : Cx} (H : RowsOk base w0 n X w) (x : Obj) : Stab X { X with heap := w.heap.push x } (fun _ _ => true) :=
  Stab.grow (w' := { w with heap := w.heap.push x }) H (below_push w x) (F' := X.F) (fun _ h => h)

/-! ### Constants -/
def constAV : Value → Option AV
  | .bool b => some (.bool b)
  | .int k n => some (.int k n)
  | .string s => some (.str s)
  | .pointer none => some .nilp
  | .nilFunc => some .nilf
  | .nilIface => some .nili
  | .slice none 0 0 => some .nils
  | _ => none

theorem constAV_rel {X : Cx} {v : Value} {a : AV} (h : constAV v = some a) : Rel X a v := by
  unfold constAV at h
  split at h <;> cases h <;> simp [Rel]

theorem constAV_all {p : Nat → Nat → Bool} {v : Value} {a : AV} (h : constAV v = some a) : a.all p = true := by
  unfold constAV at h
  split at h <;> cases h <;> rfl

theorem constAV_solid {rows : Rows} {v : Value} {a : AV} (h : constAV v = some a) : a.solid rows = true := by
  unfold constAV at h
  split at h <;> cases h <;> rfl

def constL : List Value → Option (List AV)
  | [] => some []
  | v :: vs => (constAV v).bind fun a => (constL vs).bind fun as => some (a :: as)

theorem constL_rel {X : Cx} : ∀ {vs : List Value} {as : List AV}, constL vs = some as → RelL X as vs
  | [], as, h => by cases h; simp [RelL]
  | v :: vs, as, h => by
    simp only [constL, Option.bind_eq_some_iff] at h
    obtain ⟨a, h1, as', h2, h3⟩ := h
    cases h3
    simp only [RelL]
    exact ⟨v, vs, rfl, constAV_rel h1, constL_rel h2⟩

theorem constL_all {p : Nat → Nat → Bool} : ∀ {vs : List Value} {as : List AV}, constL vs = some as → AV.allL p as = true
  | [], as, h => by cases h; rfl
  | v :: vs, as, h => by
    simp only [constL, Option.bind_eq_some_iff] at h
    obtain ⟨a, h1, as', h2, h3⟩ := h
    cases h3
    simp only [AV.allL, Bool.and_eq_true]
    exact ⟨constAV_all h1, constL_all h2⟩

theorem constL_one : ∀ {vs : List Value} {as : List AV}, constL vs = some as → ∀ v ∈ vs, v.oneCell' = true
  | [], as, h, v, hv => by cases hv
  | u :: vs, as, h, v, hv => by
    simp only [constL, Option.bind_eq_some_iff] at h
    obtain ⟨a, h1, as', h2, h3⟩ := h
    rcases List.mem_cons.1 hv with rfl | hv
    · unfold constAV at h1
      split at h1 <;> first | rfl | cases h1
    · exact constL_one h2 v hv

/-- A constant, of one cell or a struct of such. -/
def constV : Value → Option AV
  | .agg cs => (constL cs.toList).map .agg
  | v => constAV v

theorem constV_rel {X : Cx} {v : Value} {a : AV} (h : constV v = some a) : Rel X a v := by
  unfold constV at h
  split at h
  · simp only [Option.map_eq_some_iff] at h
    obtain ⟨as, h, rfl⟩ := h
    simp only [Rel]
    exact ⟨_, rfl, constL_rel h⟩
  · exact constAV_rel h

theorem constV_all {p : Nat → Nat → Bool} {v : Value} {a : AV} (h : constV v = some a) : a.all p = true := by
  unfold constV at h
  split at h
  · simp only [Option.map_eq_some_iff] at h
    obtain ⟨as, h, rfl⟩ := h
    simp only [AV.all]
    exact constL_all h
  · exact constAV_all h

/-- The zero cells of a type. -/
def zeroAV (P : Program) (t : TypeId) : Option (List AV) :=
  match P.info? t with
  | some i => match i.zero with
    | some z => if z.cells.size = i.size then constL z.cells.toList else none
    | none => none
  | none => none

theorem zeroAV_run {P : Program} {X : Cx} {w : World} {t : TypeId} {as : List AV} (h : zeroAV P t = some as) :
    ∃ z, (zeroValue t).run P w = .ok z w ∧ RelL X as z.cells.toList ∧ (∀ v ∈ z.cells.toList, v.oneCell' = true) ∧ ∃ i, P.info? t = some i ∧ i.zero = some z ∧ z.cells.size = i.size := by
  unfold zeroAV at h
  split at h
  · rename_i i hi
    split at h
    · rename_i z hz
      split at h
      · rename_i hsz
        exact ⟨z, by simp [zeroValue, typeInfo, hi, hz], constL_rel h, constL_one h, i, hi, hz, hsz⟩
      · cases h
    · cases h
  · cases h

/-! ### New variables -/
theorem box_post {base n : Nat} {w0 : Start} {w : World} {X : Cx} (H : RowsOk base w0 n X w) {id : Nat} (hid : n ≤ id) (hno : X.rows.get id = none) {cs : List AV} {vs : Array Value} (t : TypeId)
    (hr : RelL X cs vs.toList) (hrefs : AV.allL (fun q _ => X.rows.okid n q) cs = true) :
    QPost X w id (.ptr id 0) (some (.box cs)) (.pointer (some ⟨w.heap.size, 0, none⟩)) { w with heap := w.heap.push (.cells vs t) } := by
  have hst := Stab.push H (.cells vs t (0, 0))
  refine ⟨X.F, some (w.heap.size, 0), below_push w _, fun _ h => h, fun _ h => .inl h, fun b hb => by have := H.fresh b hb; simp; omega, ?_, ?_, ?_⟩
  · intro b o hbo
    simp only [Cx.claim, if_true, Option.some.injEq, Prod.mk.injEq] at hbo
    obtain ⟨rfl, rfl⟩ := hbo
    refine ⟨rfl, vs, t, by simp [Cx.claim], ?_⟩
    have h1 : RelL { X with heap := w.heap.push (.cells vs t) } cs vs.toList := RelL.mono hst cs _ (AV.allL_imp (fun _ _ _ => rfl) cs hrefs) hr
    exact RelL.mono (Stab.claim (X := { X with heap := w.heap.push (.cells vs t) }) hid hno) cs _ hrefs h1
  · intro b o hbo
    cases hbo
    exact ⟨Nat.le_refl _, fun h => by have := H.fresh _ h; omega⟩
  · simp only [Rel]
    intro cs' h
    exact ⟨w.heap.size, by simp [Cx.claim], rfl⟩

/-! ### Filling -/
def splice {α : Type} (cells : List α) (off : Nat) (vs : List α) : List α := cells.take off ++ vs ++ cells.drop (off + vs.length)

theorem foldl_set (off : Nat) : ∀ (vs : List Value) (k : Nat) (cs : Array Value), off + k + vs.length ≤ cs.size →
    ((vs.zipIdx k).foldl (fun cs (c, j) => cs.setIfInBounds (off + j) c) cs).toList = splice cs.toList (off + k) vs
  | [], k, cs, h => by simp [splice]
  | v :: vs, k, cs, h => by
    simp only [List.zipIdx_cons, List.foldl_cons]
    simp only [List.length_cons] at h
    rw [foldl_set off vs (k + 1) _ (by simp; omega)]
    have e := list_seg_step cs.toList (off + k) v vs (by simp; omega)
    simpa [splice, Array.toList_setIfInBounds, Nat.add_assoc] using e

def fillAV (place : Nat → Option (Nat × Nat)) (cells : List AV) : List (Nat × List AV) → Option (List AV)
  | [] => some cells
  | (i, vs) :: rest => match place i with
    | none => none
    | some (off, size) => if vs.length = size ∧ off + vs.length ≤ cells.length then fillAV place (splice cells off vs) rest else none

theorem RelL.splice {X : Cx} {as bs : List AV} {vs us : List Value} (off : Nat) (h : RelL X as vs) (h' : RelL X bs us) : RelL X (splice as off bs) (splice vs off us) := by
  unfold Go.Proofs.YtnjofponcdcfcaaDoor.Ab.splice
  rw [RelL.length h']
  exact RelL.append (RelL.append (RelL.take _ h) h') (RelL.drop _ h)

/-- Parts: a number, and a value's cells. -/
inductive PartsRel (X : Cx) : List (Nat × List AV) → List (Nat × Value) → Prop
  | nil : PartsRel X [] []
  | cons (i : Nat) (cs : List AV) (v : Value) (ps : List (Nat × List AV)) (qs : List (Nat × Value)) : RelL X cs v.cells.toList → PartsRel X ps qs → PartsRel X ((i, cs) :: ps) ((i, v) :: qs)

theorem fill_ok {X : Cx} (place : Nat → Option (Nat × Nat)) : ∀ {ps : List (Nat × List AV)} {qs : List (Nat × Value)}, PartsRel X ps qs → ∀ {cells : List AV} {vals : Array Value} {r : List AV},
    RelL X cells vals.toList → fillAV place cells ps = some r → ∃ out, Instr.fill place vals qs = some out ∧ RelL X r out.toList
  | _, _, .nil, cells, vals, r, h, hf => by
    simp only [fillAV, Option.some.injEq] at hf
    subst hf
    exact ⟨vals, rfl, h⟩
  | _, _, .cons i cs v ps qs h1 h2, cells, vals, r, h, hf => by
    simp only [fillAV] at hf
    have hl := RelL.length h
    have hl1 := RelL.length h1
    split at hf
    · cases hf
    · rename_i off size hp
      split at hf
      · rename_i hc
        simp only [Array.length_toList] at hl hl1
        have hfold := foldl_set off v.cells.toList 0 vals (by simp; omega)
        obtain ⟨out, ho, hr⟩ := fill_ok place h2 (vals := (v.cells.toList.zipIdx.foldl (fun cs (c, j) => cs.setIfInBounds (off + j) c) vals)) (by rw [hfold]; exact RelL.splice _ h h1) hf
        refine ⟨out, ?_, hr⟩
        have e1 : ¬ (v.cells.size ≠ size || decide (off + v.cells.size > vals.size)) = true := by simp; omega
        simp only [Instr.fill, hp, if_neg e1]
        rw [← ho]
        congr 1
        rw [← Array.foldl_toList, Array.toList_zipIdx]
      · cases hf

/-! ### Structs and slices made of parts -/
def placesOf (P : Program) : List Field → Option (List (Nat × Nat))
  | [] => some []
  | f :: fs => match P.info? f.type with
    | some i => (placesOf P fs).map ((f.offset, i.size) :: ·)
    | none => none

theorem places_run {P : Program} {w : World} : ∀ {fs : List Field} {l : List (Nat × Nat)}, placesOf P fs = some l →
    (fs.mapM fun f => do pure (f.offset, ← sizeOf f.type) : Sem (List (Nat × Nat))).run P w = .ok l w
  | [], l, h => by cases h; rfl
  | f :: fs, l, h => by
    simp only [placesOf] at h
    split at h
    · rename_i i hi
      simp only [Option.map_eq_some_iff] at h
      obtain ⟨l', h, rfl⟩ := h
      have ih := places_run (P := P) (w := w) h
      rw [List.mapM_cons, Sem.run_bind]
      have h1 : (do pure (f.offset, ← sizeOf f.type) : Sem (Nat × Nat)).run P w = .ok (f.offset, i.size) w := by simp [sizeOf, typeInfo, hi]
      rw [h1, Result.andThen_ok, Sem.run_bind, ih]
      rfl
    · cases h

def qBuild (P : Program) (t : TypeId) (parts : List (Nat × List AV)) : Option AV :=
  match P.underlying t, zeroAV P t with
  | some (.struct fs), some zs => (placesOf P fs.toList).bind fun l => (fillAV (fun i => l[i]?) zs parts).map .agg
  | some (.array _ e), some zs => match P.info? e with
    | some i => (fillAV (fun k => some (k * i.size, i.size)) zs parts).map .agg
    | none => none
  | _, _ => none

theorem build_ok {P : Program} {X : Cx} {w : World} {t : TypeId} {ps : List (Nat × List AV)} {qs : Array (Nat × Value)} {r : AV} (h : qBuild P t ps = some r) (hp : PartsRel X ps qs.toList) :
    ∃ v, (Instr.build t qs).run P w = .ok v w ∧ Rel X r v := by
  unfold qBuild at h
  split at h
  · rename_i fs zs ht hz
    simp only [Option.bind_eq_some_iff, Option.map_eq_some_iff] at h
    obtain ⟨l, hl, cs, hf, rfl⟩ := h
    obtain ⟨z, hzr, hzrel, _⟩ := zeroAV_run (X := X) (w := w) hz
    obtain ⟨out, ho, hrel⟩ := fill_ok (X := X) (fun i => l[i]?) hp hzrel hf
    refine ⟨.agg out, ?_, by simp only [Rel]; exact ⟨out, rfl, hrel⟩⟩
    have hpl := places_run (P := P) (w := w) hl
    have : (fs.mapM fun f => do pure (f.offset, ← sizeOf f.type) : Sem (Array (Nat × Nat))).run P w = .ok l.toArray w := by
      rw [Array.mapM_eq_mapM_toList, Sem.run_map, hpl]; rfl
    simp only [Instr.build, Sem.run_bind, hzr, Result.andThen_ok, run_underlying ht, this]
    rw [show (fun x => l.toArray[x]?) = fun i => l[i]? by funext i; simp, ho]
    rfl
  · rename_i n e zs ht hz
    split at h
    · rename_i i hi
      simp only [Option.map_eq_some_iff] at h
      obtain ⟨cs, hf, rfl⟩ := h
      obtain ⟨z, hzr, hzrel, _⟩ := zeroAV_run (X := X) (w := w) hz
      obtain ⟨out, ho, hrel⟩ := fill_ok (X := X) (fun k => some (k * i.size, i.size)) hp hzrel hf
      refine ⟨.agg out, ?_, by simp only [Rel]; exact ⟨out, rfl, hrel⟩⟩
      simp [Instr.build, hzr, run_underlying ht, sizeOf, typeInfo, hi, ho]
    · cases h
  · cases h

/-- The cells of a new slice. -/
def flat0 (zs : List AV) (n : Nat) : List AV := (List.range n).map fun i => zs.getD (i % zs.length) .unk

theorem RelL.of_get {X : Cx} : ∀ {as : List AV} {vs : List Value}, as.length = vs.length → (∀ (i : Nat) (a : AV) (v : Value), as[i]? = some a → vs[i]? = some v → Rel X a v) → RelL X as vs
  | [], [], _, _ => by simp [RelL]
  | [], _ :: _, h, _ => by simp at h
  | _ :: _, [], h, _ => by simp at h
  | a :: as, v :: vs, h, hi => by
    simp only [RelL]
    exact ⟨v, vs, rfl, hi 0 a v rfl rfl, RelL.of_get (by simpa using h) fun i a' v' ha hv => hi (i + 1) a' v' (by simpa using ha) (by simpa using hv)⟩

theorem flat0_rel {X : Cx} {zs : List AV} {z : Array Value} (n : Nat) (h : RelL X zs z.toList) (hz : n ≠ 0 → zs ≠ []) :
    RelL X (flat0 zs n) ((Array.range n).map (fun i => z[i % z.size]!)).toList := by
  have hl := RelL.length h
  simp only [Array.length_toList] at hl
  refine RelL.of_get (by simp [flat0]) fun i a v ha hv => ?_
  simp only [flat0, List.getElem?_map, Option.map_eq_some_iff] at ha
  obtain ⟨j, hj, rfl⟩ := ha
  have hin : i < n := by
    rcases Nat.lt_or_ge i n with h | h
    · exact h
    · rw [List.getElem?_eq_none (by simpa using h)] at hj; cases hj
  obtain rfl : i = j := by rw [List.getElem?_range hin] at hj; exact Option.some.inj hj
  have hpos : 0 < zs.length := by have := hz (by omega); cases zs <;> simp_all
  have hm : i % zs.length < zs.length := Nat.mod_lt _ hpos
  have hza : zs[i % zs.length]? = some (zs.getD (i % zs.length) .unk) := by simp [List.getD, List.getElem?_eq_getElem hm]
  obtain ⟨u, hu, hrel⟩ := RelL.get _ _ h hza
  have : v = u := by
    simp only [Array.toList_map, Array.toList_range, List.getElem?_map, List.getElem?_range hin, Option.map_some, Option.some.injEq] at hv
    rw [← hv, hl]
    have hm' : i % zs.length < z.size := by omega
    rw [getElem!_pos z _ hm']
    simpa [Array.getElem?_toList, Array.getElem?_eq_getElem hm'] using hu
  rw [this]
  exact hrel

/-- A row of data that has just been laid into a new block. -/
theorem arr_post {base n : Nat} {w0 : Start} {w : World} {X : Cx} (H : RowsOk base w0 n X w) {id : Nat} (hid : n ≤ id) (hno : X.rows.get id = none) {s : Sh} {xs : List s.den} {vs : Array Value} (t : TypeId) {cap : Nat}
    {us : List Value} (hr : AllD (Den X.F X.heap s) xs us) (hpre : ∃ more, vs.toList = us ++ more) (hc : vs.size = cap * s.size) (hle : xs.length ≤ cap) :
    QPost X w id (.own id 0) (some (.arr 0 s xs)) (.slice (some ⟨w.heap.size, 0, none⟩) xs.length cap) { w with heap := w.heap.push (.cells vs t) } := by
  have hlt : ∀ b, X.F b → (w.heap.push (Obj.cells vs t))[b]? = X.heap[b]? := fun b hb => by
    rw [H.heap, Array.getElem?_push, if_neg (by have := H.fresh b hb; omega)]
  refine ⟨X.F, some (w.heap.size, 0), below_push w _, fun _ h => h, fun _ h => .inl h, fun b hb => by have := H.fresh b hb; simp; omega, ?_, ?_, ?_⟩
  · obtain ⟨more, hmore⟩ := hpre
    have hul := AllD.length (fun x cs => Den.length s x cs) xs us hr
    refine .inr ⟨w.heap.size, 0, vs, t, by simp [Cx.claim], by simp [Cx.claim], ?_, fun i hi => ?_⟩
    · rw [hc]
      simpa using Nat.mul_le_mul_right s.size hle
    · have hcells : cellsAt (w.heap.push (Obj.cells vs t)) w.heap.size 0 us := ⟨vs, t, (0, 0), by simp, fun j hj => by
        rw [← Array.getElem?_toList, hmore]
        rw [Nat.zero_add, List.getElem?_append_left hj]⟩
      obtain ⟨es, he, hd⟩ := allD_at (fun x cs => Den.length s x cs) xs us 0 i hi hr hcells
      exact ⟨es, he, Den.mono (fun _ h => h) hlt s _ _ hd⟩
  · intro b o hbo
    cases hbo
    exact ⟨Nat.le_refl _, fun h => by have := H.fresh _ h; omega⟩
  · simp only [Rel]
    intro s' xs' h
    rw [Cx.claim, Rows.get_put, if_pos rfl] at h
    obtain ⟨⟨⟩, hs', hx⟩ := Row.arr.inj (Option.some.inj h)
    subst hs'
    cases hx
    refine .inr ⟨w.heap.size, 0, cap, by simp [Cx.claim], rfl, hle, fun c T fr hc' => ?_⟩
    simp only [Cx.claim, Array.getElem?_push_size, Option.some.injEq, Obj.cells.injEq] at hc'
    obtain ⟨rfl, _⟩ := hc'
    omega

def qBuildSlice (P : Program) (t : TypeId) (len : Nat) (parts : List (Nat × List AV)) : Option Row :=
  match P.underlying t with
  | some (.slice e) => match shOf P 20 e, zeroAV P e with
    | some s, some zs => if sizeIs P e s.size ∧ zs.length = s.size ∧ 0 < s.size ∧ len * s.size ≤ 2 ^ 24 then
        (fillAV (fun i => some (i * s.size, s.size)) (flat0 zs (len * s.size)) parts).bind fun cs =>
          match manyOf (ofCells s) len cs with
          | some (xs, []) => some (.arr 0 s xs)
          | _ => none
      else none
    | _, _ => none
  | _ => none

theorem buildSlice_ok {P : Program} {base n : Nat} {w0 : Start} {w : World} {X : Cx} (H : RowsOk base w0 n X w) {id : Nat} (hid : n ≤ id) (hno : X.rows.get id = none) {t : TypeId} {len : Nat} {ps : List (Nat × List AV)} {qs : Array (Nat × Value)}
    {row : Row} (h : qBuildSlice P t len ps = some row) (hp : PartsRel X ps qs.toList) :
    ∃ v w', (Instr.buildSlice t len qs).run P w = .ok v w' ∧ QPost X w id (.own id 0) (some row) v w' := by
  unfold qBuildSlice at h
  split at h
  · rename_i e ht
    split at h
    · rename_i s zs hs hz
      split at h
      · rename_i hc
        obtain ⟨h1, h2, h3, h4⟩ := hc
        simp only [Option.bind_eq_some_iff] at h
        obtain ⟨cs, hf, hm⟩ := h
        split at hm
        · rename_i xs hx
          cases hm
          obtain ⟨z, hzr, hzrel, _, i, hi, hiz, hzs⟩ := zeroAV_run (X := X) (w := w) hz
          have hflat := flat0_rel (len * s.size) hzrel (fun _ h0 => by rw [h0] at h2; simp at h2; omega)
          obtain ⟨out, ho, hrel⟩ := fill_ok (X := X) (fun i => some (i * s.size, s.size)) hp hflat hf
          obtain ⟨hl, v1, v2, hv, hD, hr2⟩ := manyOf_den (X := X) (fun cs x rest vs => ofCells_den s cs x rest vs) len cs xs [] out.toList hx hrel
          have hv2 : v2 = [] := by simpa [RelL] using hr2
          subst hv2
          have hsz : out.size = len * s.size := by
            have := AllD.length (fun x cs => Den.length s x cs) xs v1 hD
            rw [← Array.length_toList, hv, List.append_nil, this, hl]
          have hzl := RelL.length hzrel
          refine ⟨.slice (some ⟨w.heap.size, 0, none⟩) len len, { w with heap := w.heap.push (.cells out e) }, ?_, ?_⟩
          rotate_left
          · have := arr_post (id := id) H hid hno e hD ⟨[], by rw [hv]⟩ (cap := len) hsz (by omega)
            rw [hl] at this
            exact this
          · have e1 : ¬ (len * s.size > 2 ^ 24) := by omega
            simp only [Instr.buildSlice, Sem.run_bind, run_underlying ht, Result.andThen_ok, run_sizeOf h1, if_neg e1]
            by_cases hn : len * s.size = 0
            · have hqs : Instr.fill (fun i => some (i * s.size, s.size)) ((Array.range 0).map (fun i => (#[] : Array Value)[i % (#[] : Array Value).size]!)) qs.toList = some out := by
                rw [← ho, hn]
                congr 1
                simp
              simp only [hn, if_true, Sem.run_bind, Sem.run_pure, Result.andThen_ok]
              rw [hqs]
              rfl
            · simp only [if_neg hn, Sem.run_bind, hzr, Result.andThen_ok, Sem.run_pure]
              rw [ho]
              rfl
        · cases hm
      · cases h
    · cases h
  · cases h
/-- A slice of references: its row is a box. -/
def qBuildRefs (P : Program) (rows : Rows) (n : Nat) (t : TypeId) (len : Nat) (parts : List (Nat × List AV)) : Option (List AV) :=
  match P.underlying t with
  | some (.slice e) => match zeroAV P e with
    | some zs => if sizeIs P e 1 = true ∧ zs.length = 1 ∧ len * 1 ≤ 2 ^ 24 then
        (fillAV (fun i => some (i * 1, 1)) (flat0 zs (len * 1)) parts).bind fun cs => if AV.allL (fun q _ => rows.okid n q) cs = true then some cs else none
      else none
    | _ => none
  | _ => none

theorem buildRefs_ok {P : Program} {base n : Nat} {w0 : Start} {w : World} {X : Cx} (H : RowsOk base w0 n X w) {id : Nat} (hid : n ≤ id) (hno : X.rows.get id = none) {t : TypeId} {len : Nat} {ps : List (Nat × List AV)} {qs : Array (Nat × Value)}
    {cs : List AV} (h : qBuildRefs P X.rows n t len ps = some cs) (hp : PartsRel X ps qs.toList) :
    ∃ v w', (Instr.buildSlice t len qs).run P w = .ok v w' ∧ QPost X w id (.bsl id 0 len len) (some (.box cs)) v w' := by
  unfold qBuildRefs at h
  split at h
  · rename_i e ht
    split at h
    · rename_i zs hz
      split at h
      · rename_i hc
        obtain ⟨h1, h2, h4⟩ := hc
        simp only [Option.bind_eq_some_iff] at h
        obtain ⟨cs', hf, hm⟩ := h
        split at hm
        · rename_i hrefs
          cases hm
          obtain ⟨z, hzr, hzrel, _, i, hi, hiz, hzs⟩ := zeroAV_run (X := X) (w := w) hz
          have hflat := flat0_rel (len * 1) hzrel (fun _ h0 => by rw [h0] at h2; simp at h2)
          obtain ⟨out, ho, hrel⟩ := fill_ok (X := X) (fun i => some (i * 1, 1)) hp hflat hf
          refine ⟨.slice (some ⟨w.heap.size, 0, none⟩) len len, { w with heap := w.heap.push (.cells out e) }, ?_, ?_⟩
          rotate_left
          · have hst := Stab.push H (.cells out e (0, 0))
            refine ⟨X.F, some (w.heap.size, 0), below_push w _, fun _ h => h, fun _ h => .inl h, fun b hb => by have := H.fresh b hb; simp; omega, ?_, ?_, ?_⟩
            · intro b o hbo
              simp only [Cx.claim, if_true, Option.some.injEq, Prod.mk.injEq] at hbo
              obtain ⟨rfl, rfl⟩ := hbo
              refine ⟨rfl, out, e, by simp [Cx.claim], ?_⟩
              have h1 : RelL { X with heap := w.heap.push (.cells out e) } cs out.toList := RelL.mono hst cs _ (AV.allL_imp (fun _ _ _ => rfl) cs hrefs) hrel
              exact RelL.mono (Stab.claim (X := { X with heap := w.heap.push (.cells out e) }) hid hno) cs _ hrefs h1
            · intro b o hbo
              cases hbo
              exact ⟨Nat.le_refl _, fun h => by have := H.fresh _ h; omega⟩
            · simp only [Rel]
              intro cs' h
              exact ⟨w.heap.size, by simp [Cx.claim], rfl⟩
          · have e1 : ¬ (len * 1 > 2 ^ 24) := by omega
            simp only [Instr.buildSlice, Sem.run_bind, run_underlying ht, Result.andThen_ok, run_sizeOf h1, if_neg e1]
            by_cases hn : len * 1 = 0
            · have hqs : Instr.fill (fun i => some (i * 1, 1)) ((Array.range 0).map (fun i => (#[] : Array Value)[i % (#[] : Array Value).size]!)) qs.toList = some out := by
                rw [← ho, hn]
                congr 1
                simp
              simp only [hn, if_true, Sem.run_bind, Sem.run_pure, Result.andThen_ok]
              rw [hqs]
              rfl
            · simp only [if_neg hn, Sem.run_bind, hzr, Result.andThen_ok, Sem.run_pure]
              rw [ho]
              rfl
        · cases hm
      · cases h
    · cases h
  · cases h
end Go.Proofs.YtnjofponcdcfcaaDoor.Ab
