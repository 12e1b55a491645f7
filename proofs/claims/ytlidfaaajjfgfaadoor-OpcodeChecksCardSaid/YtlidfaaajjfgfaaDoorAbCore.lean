/- The words of a verified reading of Go code as plain functions: shapes, plain data, plain values, and what it means that a Go value in memory reads as one. -/
import Derived.Tactics
import Derived.Orders
import Derived.LoopN
import Derived.Below
import Derived.WalkKit
set_option linter.all false
namespace Go.Proofs.YtlidfaaajjfgfaaDoor.Ab
open Go.RowKit

/-! ### Tests on numbers, and their like, under names of their own: what is not told apart by the text stays behind them -/
abbrev sAnd (a b : Bool) : Bool := a && b
abbrev sOr (a b : Bool) : Bool := a || b
abbrev sNot (a : Bool) : Bool := !a
abbrev sIf {α : Type} (c : Bool) (x y : α) : α := bif c then x else y
abbrev sLt (a b : Int) : Bool := decide (a < b)
abbrev sLe (a b : Int) : Bool := decide (a ≤ b)
abbrev sEq (a b : Int) : Bool := a == b
abbrev sNe (a b : Int) : Bool := a != b
abbrev sEqB (a b : Bool) : Bool := a == b
abbrev sSome {α : Type} (x : Option α) : Bool := x.isSome

/-- The shape of plain data. -/
inductive Sh where
  | unit | bool | int (k : IntKind) | str | sl (e : Sh) | arr (n : Nat) (e : Sh) | prod (a b : Sh)
  deriving DecidableEq

/-- The data of a shape. -/
@[reducible] def Sh.den : Sh → Type
  | .unit => Unit
  | .bool => Bool
  | .int _ => Int
  | .str => ByteArray
  | .sl e => List e.den
  | .arr _ e => List e.den
  | .prod a b => a.den × b.den

/-- How many cells it takes. -/
def Sh.size : Sh → Nat
  | .unit => 0
  | .prod a b => a.size + b.size
  | .arr n e => n * e.size
  | _ => 1

def Sh.dflt : (s : Sh) → s.den
  | .unit => ()
  | .bool => false
  | .int _ => (0 : Int)
  | .str => ByteArray.empty
  | .sl _ => []
  | .arr n e => List.replicate n e.dflt
  | .prod a b => (a.dflt, b.dflt)

instance (s : Sh) : Inhabited s.den := ⟨s.dflt⟩

/-- Plain values. -/
inductive AV where
  | unk
  | bool (b : Bool)
  | int (k : IntKind) (n : Int)
  | str (s : ByteArray)
  | nilp | nilf | nili | nils
  | dsl (e : Sh) (xs : List e.den)
  | dptr (s : Sh) (x : s.den) (off : Nat)
  | ptr (r off : Nat)
  | eptr (r g i off : Nat)
  | osl (r g st len : Nat)
  | own (r g : Nat)
  | agg (cs : List AV)
  | tup (cs : List AV)
  | iface (t : TypeId) (v : AV)
  | clo (f : FuncId) (cs : List AV)
  | opt (c : Bool) (v : AV)
  | gopt (c : Bool) (v : AV)
  deriving Inhabited

/-- Memory of the call's own. -/
inductive Row where
  | box (cs : List AV)
  | arr (g : Nat) (s : Sh) (xs : List s.den)

abbrev Rows := List (Option Row)
def Rows.get (rs : Rows) (r : Nat) : Option Row := (rs[r]?).join

/-- From offset o on, block b holds these cells. -/
def cellsAt (h : Array Obj) (b o : Nat) (cs : List Value) : Prop :=
  ∃ c T fr, h[b]? = some (.cells c T fr) ∧ ∀ j, j < cs.length → c[o + j]? = cs[j]?

/-- Cells in a row read as the data of a list, one behind the other. -/
def AllD {α : Type} (D : α → List Value → Prop) : List α → List Value → Prop
  | [], cs => cs = []
  | x :: xs, cs => ∃ c1 c2, cs = c1 ++ c2 ∧ D x c1 ∧ AllD D xs c2

/-- These cells read as this datum; what they point to lies in blocks of F. -/
def Den (F : Nat → Prop) (h : Array Obj) : (s : Sh) → s.den → List Value → Prop
  | .unit, _, cs => cs = []
  | .bool, x, cs => cs = [.bool x]
  | .int k, x, cs => cs = [.int k x]
  | .str, x, cs => cs = [.string x]
  | .sl e, xs, cs => ∃ a cap, cs = [.slice a xs.length cap] ∧ xs.length ≤ cap ∧ (a = none → xs = [] ∧ cap = 0) ∧
      (∀ p, a = some p → (0 < xs.length → p.spot = none) ∧ ∀ i, (hi : i < xs.length) → F p.block ∧ ∃ es, cellsAt h p.block (p.off + i * e.size) es ∧ Den F h e xs[i] es)
  | .arr n e, xs, cs => xs.length = n ∧ AllD (Den F h e) xs cs
  | .prod a b, x, cs => ∃ c1 c2, cs = c1 ++ c2 ∧ Den F h a x.1 c1 ∧ Den F h b x.2 c2

/-- What a reading leans on. -/
structure Cx where
  F : Nat → Prop
  φ : Nat → Option (Nat × Nat)
  rows : Rows
  heap : Array Obj

mutual
def Rel (X : Cx) : AV → Value → Prop
  | .unk, _ => True
  | .bool b, v => v = .bool b
  | .int k n, v => v = .int k n
  | .str s, v => v = .string s
  | .nilp, v => v = .pointer none
  | .nilf, v => v = .nilFunc
  | .nili, v => v = .nilIface
  | .nils, v => v = .slice none 0 0
  | .dsl e xs, v => Den X.F X.heap (.sl e) xs [v]
  | .dptr s x off, v => ∃ b o cs, v = .pointer (some ⟨b, o + off, none⟩) ∧ X.F b ∧ cellsAt X.heap b o cs ∧ Den X.F X.heap s x cs
  | .ptr r off, v => ∀ cs, X.rows.get r = some (.box cs) → ∃ b, X.φ r = some (b, 0) ∧ v = .pointer (some ⟨b, off, none⟩)
  | .eptr r g i off, v => ∀ s xs, X.rows.get r = some (.arr g s xs) → i < xs.length ∧ ∃ b o, X.φ r = some (b, o) ∧ v = .pointer (some ⟨b, o + i * s.size + off, none⟩)
  | .osl r g st len, v => ∀ s xs, X.rows.get r = some (.arr g s xs) → st + len ≤ xs.length ∧
      ((X.φ r = none ∧ xs.length = 0 ∧ v = .slice none 0 0) ∨
       ∃ b o a cap, X.φ r = some (b, o) ∧ v = .slice (some a) len cap ∧ len ≤ cap ∧
        ((cap = 0 ∧ a.spot = none) ∨ (a = ⟨b, o + st * s.size, none⟩ ∧ ∀ c T fr, X.heap[b]? = some (.cells c T fr) → o + (st + cap) * s.size ≤ c.size)))
  | .own r g, v => ∀ s xs, X.rows.get r = some (.arr g s xs) →
      ((X.φ r = none ∧ xs.length = 0 ∧ v = .slice none 0 0) ∨
       ∃ b o cap, X.φ r = some (b, o) ∧ v = .slice (some ⟨b, o, none⟩) xs.length cap ∧ xs.length ≤ cap ∧ ∀ c T fr, X.heap[b]? = some (.cells c T fr) → o + cap * s.size ≤ c.size)
  | .agg cs, v => ∃ vs, v = .agg vs ∧ RelL X cs vs.toList
  | .tup cs, v => ∃ vs, v = .tuple vs ∧ RelL X cs vs.toList
  | .iface t a, v => ∃ u, v = .iface t u ∧ Rel X a u
  | .clo f cs, v => ∃ vs, v = .func (.func f) #[] vs ∧ RelL X cs vs.toList
  | .opt c a, v => c = true → Rel X a v
  | .gopt c a, v => (c = true → Rel X a v) ∧ (c = false → v = undef)
def RelL (X : Cx) : List AV → List Value → Prop
  | [], vs => vs = []
  | a :: as, vs => ∃ v r, vs = v :: r ∧ Rel X a v ∧ RelL X as r
end

/-- A row of memory of the call's own lies there. -/
def RowOk (X : Cx) (r : Nat) : Row → Prop
  | .box cs => ∀ b o, X.φ r = some (b, o) → o = 0 ∧ ∃ c T, X.heap[b]? = some (.cells c T (0, 0)) ∧ RelL X cs c.toList
  | .arr _ s xs => (X.φ r = none ∧ xs = []) ∨ ∃ b o c T, X.φ r = some (b, o) ∧ X.heap[b]? = some (.cells c T (0, 0)) ∧ o + xs.length * s.size ≤ c.size ∧
      ∀ i, (hi : i < xs.length) → ∃ es, cellsAt X.heap b (o + i * s.size) es ∧ Den X.F X.heap s xs[i] es

mutual
/-- All that a value points to satisfies. -/
def AV.all (p : Nat → Nat → Bool) : AV → Bool
  | .ptr r _ => p r 0
  | .eptr r g _ _ => p r g
  | .osl r g _ _ => p r g
  | .own r g => p r g
  | .agg cs => AV.allL p cs
  | .tup cs => AV.allL p cs
  | .iface _ v => v.all p
  | .clo _ cs => AV.allL p cs
  | .opt _ v => v.all p
  | .gopt _ v => v.all p
  | _ => true
def AV.allL (p : Nat → Nat → Bool) : List AV → Bool
  | [] => true
  | a :: as => a.all p && AV.allL p as
end

/-- A number of a row that is no place to come. -/
def Rows.okid (rows : Rows) (n : Nat) (r : Nat) : Bool := decide (r < n) || (rows.get r).isSome

/-- Where a call began: the world, the blocks that hold its data. -/
structure Start where
  world : World
  F : Nat → Prop

/-- All memory of the call's own: each row lies there, in a block of its own from base on, none of them of F. -/
structure RowsOk (base : Nat) (w0 : Start) (n : Nat) (X : Cx) (w : World) : Prop where
  heap : X.heap = w.heap
  keeps : Below base w0.world w
  sub : ∀ b, X.F b → w0.F b ∨ base ≤ b
  hb : base ≤ w.heap.size
  fresh : ∀ b, X.F b → b < w.heap.size
  row : ∀ r x, X.rows.get r = some x → RowOk X r x
  own : ∀ r x b o, X.rows.get r = some x → X.φ r = some (b, o) → base ≤ b ∧ ¬ X.F b
  apart : ∀ r r' x x' b o b' o', X.rows.get r = some x → X.rows.get r' = some x' → X.φ r = some (b, o) → X.φ r' = some (b', o') → b = b' → r = r'
  refs : ∀ r cs, X.rows.get r = some (.box cs) → AV.allL (fun q _ => X.rows.okid n q) cs = true

/-! ### Plain lemmas -/
theorem AllD.length {α : Type} {D : α → List Value → Prop} {n : Nat} (hD : ∀ x cs, D x cs → cs.length = n) : ∀ (xs : List α) (cs : List Value), AllD D xs cs → cs.length = xs.length * n
  | [], cs, h => by cases h; simp
  | x :: xs, cs, h => by
    obtain ⟨c1, c2, rfl, h1, h2⟩ := h
    rw [List.length_append, hD _ _ h1, AllD.length hD xs c2 h2, List.length_cons, Nat.add_mul]; omega

theorem AllD.mono {α : Type} {D D' : α → List Value → Prop} (hD : ∀ x cs, D x cs → D' x cs) : ∀ (xs : List α) (cs : List Value), AllD D xs cs → AllD D' xs cs
  | [], _, h => h
  | _ :: xs, _, ⟨c1, c2, e, h1, h2⟩ => ⟨c1, c2, e, hD _ _ h1, AllD.mono hD xs c2 h2⟩

theorem Den.length {F : Nat → Prop} {h : Array Obj} : ∀ (s : Sh) (x : s.den) (cs : List Value), Den F h s x cs → cs.length = s.size
  | .unit, _, _, e => by rw [show _ = [] from e]; rfl
  | .bool, _, _, e => by rw [show _ = [_] from e]; rfl
  | .int _, _, _, e => by rw [show _ = [_] from e]; rfl
  | .str, _, _, e => by rw [show _ = [_] from e]; rfl
  | .sl _, _, _, ⟨_, _, e, _⟩ => by rw [e]; rfl
  | .arr n e, xs, cs, ⟨hl, h⟩ => by
    rw [AllD.length (fun x cs => Den.length e x cs) xs cs h, hl]; rfl
  | .prod a b, x, cs, ⟨c1, c2, e, h1, h2⟩ => by
    rw [e, List.length_append, Den.length a _ _ h1, Den.length b _ _ h2]; rfl

theorem cellsAt.mono {h h' : Array Obj} {b o : Nat} {cs : List Value} (e : h'[b]? = h[b]?) (H : cellsAt h b o cs) : cellsAt h' b o cs := by
  obtain ⟨c, T, fr, hc, hj⟩ := H
  exact ⟨c, T, fr, e.trans hc, hj⟩

theorem Den.mono {F F' : Nat → Prop} {h h' : Array Obj} (hF : ∀ b, F b → F' b) (hh : ∀ b, F b → h'[b]? = h[b]?) :
    ∀ (s : Sh) (x : s.den) (cs : List Value), Den F h s x cs → Den F' h' s x cs
  | .unit, _, _, e => e
  | .bool, _, _, e => e
  | .int _, _, _, e => e
  | .str, _, _, e => e
  | .sl e, xs, cs, ⟨a, cap, hc, hl, hn, hp⟩ => ⟨a, cap, hc, hl, hn, fun p ep => ⟨(hp p ep).1, fun i hi => by
      obtain ⟨hFb, es, hes, hd⟩ := (hp p ep).2 i hi
      exact ⟨hF _ hFb, es, hes.mono (hh _ hFb), Den.mono hF hh e _ _ hd⟩⟩⟩
  | .arr n e, xs, cs, ⟨hl, h⟩ => ⟨hl, AllD.mono (fun x cs => Den.mono hF hh e x cs) xs cs h⟩
  | .prod a b, x, cs, ⟨c1, c2, e, h1, h2⟩ => ⟨c1, c2, e, Den.mono hF hh a _ _ h1, Den.mono hF hh b _ _ h2⟩

theorem cellsAt.append {h : Array Obj} {b o : Nat} {c1 c2 : List Value} (H : cellsAt h b o (c1 ++ c2)) : cellsAt h b o c1 ∧ cellsAt h b (o + c1.length) c2 := by
  obtain ⟨c, T, fr, hc, hj⟩ := H
  refine ⟨⟨c, T, fr, hc, fun j hl => ?_⟩, ⟨c, T, fr, hc, fun j hl => ?_⟩⟩
  · rw [hj j (by rw [List.length_append]; omega), List.getElem?_append_left hl]
  · rw [show o + c1.length + j = o + (c1.length + j) by omega, hj _ (by rw [List.length_append]; omega), List.getElem?_append_right (by omega)]
    congr 1; omega

/-- The cells of a datum, as plain values. -/
def cellsOf : (s : Sh) → s.den → List AV
  | .unit, _ => []
  | .bool, x => [.bool x]
  | .int k, x => [.int k x]
  | .str, x => [.str x]
  | .sl e, x => [.dsl e x]
  | .arr n e, xs => (List.range n).flatMap fun i => cellsOf e (xs.getD i e.dflt)
  | .prod a b, x => cellsOf a x.1 ++ cellsOf b x.2

theorem RelL.append {X : Cx} : ∀ {as bs : List AV} {vs us : List Value}, RelL X as vs → RelL X bs us → RelL X (as ++ bs) (vs ++ us)
  | [], _, vs, us, h, h' => by rw [show vs = [] by simpa [RelL] using h]; simpa using h'
  | a :: as, bs, vs, us, h, h' => by
    obtain ⟨v, r, rfl, hv, hr⟩ : ∃ v r, vs = v :: r ∧ Rel X a v ∧ RelL X as r := by simpa [RelL] using h
    simp only [List.cons_append, RelL]
    exact ⟨v, r ++ us, rfl, hv, RelL.append hr h'⟩

theorem RelL.length {X : Cx} : ∀ {as : List AV} {vs : List Value}, RelL X as vs → vs.length = as.length
  | [], vs, h => by rw [show vs = [] by simpa [RelL] using h]; rfl
  | a :: as, vs, h => by
    obtain ⟨v, r, rfl, _, hr⟩ : ∃ v r, vs = v :: r ∧ Rel X a v ∧ RelL X as r := by simpa [RelL] using h
    simp [RelL.length hr]

theorem RelL.get {X : Cx} : ∀ {as : List AV} {vs : List Value} (i : Nat) (a : AV), RelL X as vs → as[i]? = some a → ∃ v, vs[i]? = some v ∧ Rel X a v
  | [], vs, i, a, h, e => by simp at e
  | b :: as, vs, i, a, h, e => by
    obtain ⟨v, r, rfl, hv, hr⟩ : ∃ v r, vs = v :: r ∧ Rel X b v ∧ RelL X as r := by simpa [RelL] using h
    cases i with
    | zero => simp at e; subst e; exact ⟨v, by simp, hv⟩
    | succ i => simpa using RelL.get i a hr (by simpa using e)

theorem RelL.drop {X : Cx} : ∀ {as : List AV} {vs : List Value} (n : Nat), RelL X as vs → RelL X (as.drop n) (vs.drop n)
  | _, _, 0, h => by simpa using h
  | [], vs, n + 1, h => by rw [show vs = [] by simpa [RelL] using h]; simp [RelL]
  | b :: as, vs, n + 1, h => by
    obtain ⟨v, r, rfl, hv, hr⟩ : ∃ v r, vs = v :: r ∧ Rel X b v ∧ RelL X as r := by simpa [RelL] using h
    simpa using RelL.drop n hr

theorem RelL.take {X : Cx} : ∀ {as : List AV} {vs : List Value} (n : Nat), RelL X as vs → RelL X (as.take n) (vs.take n)
  | _, _, 0, h => by simp [RelL]
  | [], vs, n + 1, h => by rw [show vs = [] by simpa [RelL] using h]; simp [RelL]
  | b :: as, vs, n + 1, h => by
    obtain ⟨v, r, rfl, hv, hr⟩ : ∃ v r, vs = v :: r ∧ Rel X b v ∧ RelL X as r := by simpa [RelL] using h
    simp only [List.take_succ_cons, RelL]
    exact ⟨v, _, rfl, hv, RelL.take n hr⟩

theorem AllD.split {α : Type} {D : α → List Value → Prop} : ∀ {xs : List α} {cs : List Value}, AllD D xs cs → ∃ css : List (List Value), cs = css.flatten ∧ css.length = xs.length ∧ ∀ i (h : i < xs.length) c, css[i]? = some c → D xs[i] c
  | [], cs, h => ⟨[], by simpa [AllD] using h, rfl, fun i h => by simp at h⟩
  | x :: xs, cs, ⟨c1, c2, e, h1, h2⟩ => by
    obtain ⟨css, e2, hl, hi⟩ := AllD.split h2
    refine ⟨c1 :: css, by simp [e, e2], by simp [hl], fun i h c hc => ?_⟩
    cases i with
    | zero => simp at hc; subst hc; simpa using h1
    | succ i => simpa using hi i (by simpa using h) c (by simpa using hc)

theorem relL_flatMap {X : Cx} {α : Type} (f : α → List AV) : ∀ (l : List α) (css : List (List Value)), l.length = css.length → (∀ (i : Nat) (a : α) (c : List Value), l[i]? = some a → css[i]? = some c → RelL X (f a) c) → RelL X (l.flatMap f) css.flatten
  | [], css, hl, _ => by
    cases css with
    | nil => simp [RelL]
    | cons _ _ => simp at hl
  | a :: l, css, hl, h => by
    cases css with
    | nil => simp at hl
    | cons c css =>
      simp only [List.flatMap_cons, List.flatten_cons]
      exact RelL.append (h 0 a c rfl rfl) (relL_flatMap f l css (by simpa using hl) fun i a' c' ha hc => h (i + 1) a' c' (by simpa using ha) (by simpa using hc))

theorem Den.rel {X : Cx} : ∀ (s : Sh) (x : s.den) (cs : List Value), Den X.F X.heap s x cs → RelL X (cellsOf s x) cs
  | .unit, _, _, e => by rw [show _ = [] from e]; simp [cellsOf, RelL]
  | .bool, _, _, e => by rw [show _ = [_] from e]; simp [cellsOf, RelL, Rel]
  | .int _, _, _, e => by rw [show _ = [_] from e]; simp [cellsOf, RelL, Rel]
  | .str, _, _, e => by rw [show _ = [_] from e]; simp [cellsOf, RelL, Rel]
  | .sl e, xs, cs, h => by
    obtain ⟨a, cap, hc, hr⟩ := h
    subst hc
    simp only [cellsOf, RelL, Rel]
    exact ⟨_, [], rfl, ⟨a, cap, rfl, hr⟩, rfl⟩
  | .arr n e, xs, cs, ⟨hl, h⟩ => by
    obtain ⟨css, rfl, hcl, hi⟩ := AllD.split h
    refine relL_flatMap _ _ _ (by simp [hcl, hl]) fun i a c ha hc => ?_
    have hin : i < n := by
      rcases Nat.lt_or_ge i n with h | h
      · exact h
      · rw [List.getElem?_eq_none (by simpa using h)] at ha; cases ha
    obtain rfl : i = a := by rw [List.getElem?_range hin] at ha; exact Option.some.inj ha
    have := hi i (by omega) c hc
    rw [show xs.getD i e.dflt = xs[i]'(by omega) by simp [List.getD, List.getElem?_eq_getElem (show i < xs.length by omega)]]
    exact Den.rel e _ _ this
  | .prod a b, x, cs, ⟨c1, c2, e, h1, h2⟩ => by
    subst e
    exact RelL.append (Den.rel a _ _ h1) (Den.rel b _ _ h2)

/-! ### What is read stays so -/
/-- What p lets through reads under X' as under X. -/
structure Stab (X X' : Cx) (p : Nat → Nat → Bool) : Prop where
  F : ∀ b, X.F b → X'.F b
  heap : ∀ b, X.F b → X'.heap[b]? = X.heap[b]?
  box : ∀ r g, p r g = true → ∀ cs', X'.rows.get r = some (.box cs') → (∃ cs, X.rows.get r = some (.box cs)) ∧ X'.φ r = X.φ r
  arr : ∀ r g, p r g = true → ∀ s xs', X'.rows.get r = some (.arr g s xs') → ∃ xs, X.rows.get r = some (.arr g s xs) ∧ xs'.length = xs.length ∧ X'.φ r = X.φ r ∧
    ∀ b o, X.φ r = some (b, o) → ∀ c' T' fr', X'.heap[b]? = some (.cells c' T' fr') → ∃ c T fr, X.heap[b]? = some (.cells c T fr) ∧ c.size = c'.size

mutual
theorem Rel.mono {X X' : Cx} {p : Nat → Nat → Bool} (S : Stab X X' p) : ∀ (a : AV) (v : Value), a.all p = true → Rel X a v → Rel X' a v
  | .unk, _, _, h => by simp [Rel]
  | .bool _, _, _, h => by simpa [Rel] using h
  | .int _ _, _, _, h => by simpa [Rel] using h
  | .str _, _, _, h => by simpa [Rel] using h
  | .nilp, _, _, h => by simpa [Rel] using h
  | .nilf, _, _, h => by simpa [Rel] using h
  | .nili, _, _, h => by simpa [Rel] using h
  | .nils, _, _, h => by simpa [Rel] using h
  | .dsl e xs, v, _, h => by
    simp only [Rel] at h ⊢
    exact Den.mono S.F S.heap (.sl e) xs [v] h
  | .dptr s x off, v, _, h => by
    simp only [Rel] at h ⊢
    obtain ⟨b, o, cs, e, hF, hc, hd⟩ := h
    exact ⟨b, o, cs, e, S.F _ hF, hc.mono (S.heap _ hF), Den.mono S.F S.heap s x cs hd⟩
  | .ptr r off, v, hp, h => by
    simp only [Rel] at h ⊢
    intro cs' hcs'
    obtain ⟨⟨cs, hcs⟩, hφ⟩ := S.box r 0 (by simpa [AV.all] using hp) cs' hcs'
    obtain ⟨b, hb, hv⟩ := h cs hcs
    exact ⟨b, hφ.trans hb, hv⟩
  | .eptr r g i off, v, hp, h => by
    simp only [Rel] at h ⊢
    intro s xs' hx'
    obtain ⟨xs, hx, hl, hφ, _⟩ := S.arr r g (by simpa [AV.all] using hp) s xs' hx'
    obtain ⟨hi, b, o, hb, hv⟩ := h s xs hx
    exact ⟨by omega, b, o, hφ.trans hb, hv⟩
  | .osl r g st len, v, hp, h => by
    simp only [Rel] at h ⊢
    intro s xs' hx'
    obtain ⟨xs, hx, hl, hφ, hsz⟩ := S.arr r g (by simpa [AV.all] using hp) s xs' hx'
    obtain ⟨hle, hcase⟩ := h s xs hx
    refine ⟨by omega, ?_⟩
    rcases hcase with ⟨h1, h0, h2⟩ | ⟨b, o, a, cap, h1, h2, h3, h4⟩
    · exact .inl ⟨hφ.trans h1, by omega, h2⟩
    · refine .inr ⟨b, o, a, cap, hφ.trans h1, h2, h3, ?_⟩
      rcases h4 with h4 | ⟨h4, h5⟩
      · exact .inl h4
      · refine .inr ⟨h4, fun c' T' fr' hc' => ?_⟩
        obtain ⟨c, T, fr, hc, hs⟩ := hsz b o h1 c' T' fr' hc'
        have := h5 c T fr hc
        omega
  | .own r g, v, hp, h => by
    simp only [Rel] at h ⊢
    intro s xs' hx'
    obtain ⟨xs, hx, hl, hφ, hsz⟩ := S.arr r g (by simpa [AV.all] using hp) s xs' hx'
    rcases h s xs hx with ⟨h1, h0, h2⟩ | ⟨b, o, cap, h1, h2, h3, h4⟩
    · exact .inl ⟨hφ.trans h1, by omega, h2⟩
    · refine .inr ⟨b, o, cap, hφ.trans h1, by rw [hl]; exact h2, by omega, fun c' T' fr' hc' => ?_⟩
      obtain ⟨c, T, fr, hc, hs⟩ := hsz b o h1 c' T' fr' hc'
      have := h4 c T fr hc
      omega
  | .agg cs, v, hp, h => by
    simp only [Rel] at h ⊢
    obtain ⟨vs, e, hr⟩ := h
    exact ⟨vs, e, RelL.mono S cs vs.toList (by simpa [AV.all] using hp) hr⟩
  | .tup cs, v, hp, h => by
    simp only [Rel] at h ⊢
    obtain ⟨vs, e, hr⟩ := h
    exact ⟨vs, e, RelL.mono S cs vs.toList (by simpa [AV.all] using hp) hr⟩
  | .iface t a, v, hp, h => by
    simp only [Rel] at h ⊢
    obtain ⟨u, e, hr⟩ := h
    exact ⟨u, e, Rel.mono S a u (by simpa [AV.all] using hp) hr⟩
  | .clo f cs, v, hp, h => by
    simp only [Rel] at h ⊢
    obtain ⟨vs, e, hr⟩ := h
    exact ⟨vs, e, RelL.mono S cs vs.toList (by simpa [AV.all] using hp) hr⟩
  | .opt c a, v, hp, h => by
    simp only [Rel] at h ⊢
    exact fun e => Rel.mono S a v (by simpa [AV.all] using hp) (h e)
  | .gopt c a, v, hp, h => by
    simp only [Rel] at h ⊢
    exact ⟨fun e => Rel.mono S a v (by simpa [AV.all] using hp) (h.1 e), h.2⟩
theorem RelL.mono {X X' : Cx} {p : Nat → Nat → Bool} (S : Stab X X' p) : ∀ (as : List AV) (vs : List Value), AV.allL p as = true → RelL X as vs → RelL X' as vs
  | [], _, _, h => by simpa [RelL] using h
  | a :: as, vs, hp, h => by
    simp only [RelL] at h ⊢
    obtain ⟨v, r, e, hv, hr⟩ := h
    simp only [AV.allL, Bool.and_eq_true] at hp
    exact ⟨v, r, e, Rel.mono S a v hp.1 hv, RelL.mono S as r hp.2 hr⟩
end

mutual
theorem AV.all_imp {p q : Nat → Nat → Bool} (h : ∀ r g, p r g = true → q r g = true) : ∀ a : AV, a.all p = true → a.all q = true
  | .unk, _ | .bool _, _ | .int _ _, _ | .str _, _ | .nilp, _ | .nilf, _ | .nili, _ | .nils, _ | .dsl _ _, _ | .dptr _ _ _, _ => rfl
  | .ptr r _, e | .eptr r _ _ _, e | .osl r _ _ _, e | .own r _, e => by simp only [AV.all] at e ⊢; exact h _ _ e
  | .agg cs, e | .tup cs, e | .clo _ cs, e => by simp only [AV.all] at e ⊢; exact AV.allL_imp h cs e
  | .iface _ v, e | .opt _ v, e | .gopt _ v, e => by simp only [AV.all] at e ⊢; exact AV.all_imp h v e
theorem AV.allL_imp {p q : Nat → Nat → Bool} (h : ∀ r g, p r g = true → q r g = true) : ∀ as : List AV, AV.allL p as = true → AV.allL q as = true
  | [], _ => rfl
  | a :: as, e => by
    simp only [AV.allL, Bool.and_eq_true] at e ⊢
    exact ⟨AV.all_imp h a e.1, AV.allL_imp h as e.2⟩
end

/-! ### The rows grow -/
/-- A row laid at a free place. -/
def Rows.put (rows : Rows) (id : Nat) (x : Row) : Rows := (rows ++ List.replicate (id + 1 - rows.length) none).set id (some x)

theorem Rows.get_put (rows : Rows) (id : Nat) (x : Row) (r : Nat) : (rows.put id x).get r = if r = id then some x else rows.get r := by
  unfold Rows.put Rows.get
  by_cases h : r = id
  · subst h
    rw [List.getElem?_set_self (by simp; omega)]; simp
  · rw [List.getElem?_set_ne (by omega), if_neg h]
    by_cases hr : r < rows.length
    · rw [List.getElem?_append_left hr]
    · rw [List.getElem?_append_right (by omega), List.getElem?_eq_none (by omega : rows.length ≤ r)]
      by_cases h2 : r - rows.length < id + 1 - rows.length
      · rw [List.getElem?_replicate, if_pos h2]; rfl
      · rw [List.getElem?_replicate, if_neg h2]

theorem Rows.okid_put {rows : Rows} {n id : Nat} {x : Row} {r : Nat} (h : rows.okid n r = true) : (rows.put id x).okid n r = true := by
  unfold Rows.okid at h ⊢
  rw [Rows.get_put]
  by_cases e : r = id
  · simp [e]
  · simpa [e] using h

theorem Rows.okid_le {rows : Rows} {n m r : Nat} (hnm : n ≤ m) (h : rows.okid n r = true) : rows.okid m r = true := by
  unfold Rows.okid at h ⊢
  simp only [Bool.or_eq_true, decide_eq_true_eq] at h ⊢
  rcases h with h | h
  · exact .inl (by omega)
  · exact .inr h

theorem RowOk.mono {X X' : Cx} {p : Nat → Nat → Bool} (S : Stab X X' p) {r : Nat} (hφ : X'.φ r = X.φ r) (hb : ∀ b o, X.φ r = some (b, o) → X'.heap[b]? = X.heap[b]?) :
    ∀ x : Row, (∀ cs, x = .box cs → AV.allL p cs = true) → RowOk X r x → RowOk X' r x
  | .box cs, hp, h => by
    intro b o hbo
    rw [hφ] at hbo
    obtain ⟨ho, c, T, hc, hr⟩ := h b o hbo
    exact ⟨ho, c, T, (hb b o hbo).trans hc, RelL.mono S cs c.toList (hp cs rfl) hr⟩
  | .arr g s xs, _, h => by
    rcases h with ⟨h1, h2⟩ | ⟨b, o, c, T, h1, h2, h3, h4⟩
    · exact .inl ⟨hφ.trans h1, h2⟩
    · refine .inr ⟨b, o, c, T, hφ.trans h1, (hb b o h1).trans h2, h3, fun i hi => ?_⟩
      obtain ⟨es, he, hd⟩ := h4 i hi
      exact ⟨es, he.mono (hb b o h1), Den.mono S.F S.heap s _ _ hd⟩

/-- Where a row has a place, its block is there. -/
theorem RowOk.block {X : Cx} {r : Nat} {x : Row} (h : RowOk X r x) {b o : Nat} (hb : X.φ r = some (b, o)) : ∃ c T, X.heap[b]? = some (.cells c T (0, 0)) := by
  cases x with
  | box cs => obtain ⟨_, c, T, hc, _⟩ := h b o hb; exact ⟨c, T, hc⟩
  | arr g s xs =>
    rcases h with ⟨h1, _⟩ | ⟨b', o', c, T, h1, h2, _⟩
    · rw [h1] at hb; cases hb
    · rw [h1] at hb; cases hb; exact ⟨c, T, h2⟩

theorem RowsOk.lt {base n : Nat} {w0 : Start} {w : World} {X : Cx} (H : RowsOk base w0 n X w) {r b o : Nat} {x : Row} (hr : X.rows.get r = some x) (hb : X.φ r = some (b, o)) : b < w.heap.size := by
  obtain ⟨c, T, hc⟩ := (H.row r x hr).block hb
  rw [H.heap] at hc
  exact (Array.getElem?_eq_some_iff.1 hc).1

/-- The world has grown: no old block has turned. -/
theorem Stab.grow {base n : Nat} {w0 : Start} {w w' : World} {X : Cx} (H : RowsOk base w0 n X w) (hw : Below w.heap.size w w') {F' : Nat → Prop} (h1 : ∀ b, X.F b → F' b) :
    Stab X { X with F := F', heap := w'.heap } (fun _ _ => true) where
  F := h1
  heap b hb := by rw [H.heap]; exact hw.block b (H.fresh b hb)
  box r g _ cs' h := ⟨⟨cs', h⟩, rfl⟩
  arr r g _ s xs' h := ⟨xs', h, rfl, rfl, fun b o hb c' T' fr' hc' => by
    have hlt := H.lt h hb
    have e := hw.block b hlt
    rw [show w'.heap[b]? = some (Obj.cells c' T' fr') from hc'] at e
    exact ⟨c', T', fr', by rw [H.heap]; exact e.symm, rfl⟩⟩

theorem RowsOk.grow {base n : Nat} {w0 : Start} {w w' : World} {X : Cx} (H : RowsOk base w0 n X w) (hw : Below w.heap.size w w') {F' : Nat → Prop} (h1 : ∀ b, X.F b → F' b)
    (h2 : ∀ b, F' b → X.F b ∨ w.heap.size ≤ b) (h3 : ∀ b, F' b → b < w'.heap.size) : RowsOk base w0 n { X with F := F', heap := w'.heap } w' where
  heap := rfl
  keeps := H.keeps.trans (hw.mono H.hb)
  sub b hb := by
    rcases h2 b hb with h | h
    · exact H.sub b h
    · exact .inr (Nat.le_trans H.hb h)
  hb := Nat.le_trans H.hb hw.size
  fresh := h3
  row r x hr := by
    refine RowOk.mono (Stab.grow H hw h1) rfl (fun b o hb => ?_) x (fun cs e => ?_) (H.row r x hr)
    · rw [H.heap]; exact hw.block b (H.lt hr hb)
    · subst e
      exact AV.allL_imp (fun _ _ _ => rfl) cs (H.refs r cs hr)
  own r x b o hr hb := by
    have := H.own r x b o hr hb
    refine ⟨this.1, fun hF => ?_⟩
    rcases h2 b hF with h | h
    · exact this.2 h
    · have := H.lt hr hb; omega
  apart := H.apart
  refs := H.refs

/-- A new row. -/
def Cx.claim (X : Cx) (id : Nat) (x : Row) (loc : Option (Nat × Nat)) : Cx := { X with rows := X.rows.put id x, φ := fun r => if r = id then loc else X.φ r }

theorem Stab.claim {X : Cx} {n id : Nat} {x : Row} {loc : Option (Nat × Nat)} (hid : n ≤ id) (hno : X.rows.get id = none) : Stab X (X.claim id x loc) (fun r _ => X.rows.okid n r) := by
  have hne : ∀ r, X.rows.okid n r = true → r ≠ id := by
    intro r h e
    subst e
    unfold Rows.okid at h
    rw [hno] at h
    simp at h; omega
  refine ⟨fun _ h => h, fun _ _ => rfl, fun r g hp cs' h => ?_, fun r g hp s xs' h => ?_⟩
  · have := hne r hp
    rw [show (X.claim id x loc).rows.get r = X.rows.get r by simp [Cx.claim, Rows.get_put, this]] at h
    exact ⟨⟨cs', h⟩, by simp [Cx.claim, this]⟩
  · have := hne r hp
    rw [show (X.claim id x loc).rows.get r = X.rows.get r by simp [Cx.claim, Rows.get_put, this]] at h
    exact ⟨xs', h, rfl, by simp [Cx.claim, this], fun b o hb c' T' fr' hc' => ⟨c', T', fr', hc', rfl⟩⟩

theorem RowsOk.claim {base n : Nat} {w0 : Start} {w : World} {X : Cx} (H : RowsOk base w0 n X w) {id : Nat} {x : Row} {loc : Option (Nat × Nat)} (hid : n ≤ id) (hno : X.rows.get id = none)
    (hloc : ∀ b o, loc = some (b, o) → base ≤ b ∧ ¬ X.F b ∧ ∀ r y b' o', X.rows.get r = some y → X.φ r = some (b', o') → b' ≠ b)
    (hrow : RowOk (X.claim id x loc) id x) (hrefs : ∀ cs, x = .box cs → AV.allL (fun q _ => X.rows.okid n q) cs = true) :
    RowsOk base w0 n (X.claim id x loc) w where
  heap := H.heap
  keeps := H.keeps
  sub := H.sub
  hb := H.hb
  fresh := H.fresh
  row r y hr := by
    rw [Cx.claim, Rows.get_put] at hr
    by_cases e : r = id
    · subst e
      rw [if_pos rfl] at hr
      cases hr
      exact hrow
    · rw [if_neg e] at hr
      refine RowOk.mono (Stab.claim hid hno) (by simp [Cx.claim, e]) (fun _ _ _ => rfl) y (fun cs ec => ?_) (H.row r y hr)
      subst ec
      exact H.refs r cs hr
  own r y b o hr hb := by
    rw [Cx.claim, Rows.get_put] at hr
    simp only [Cx.claim] at hb
    by_cases e : r = id
    · rw [if_pos e] at hb
      exact ⟨(hloc b o hb).1, (hloc b o hb).2.1⟩
    · rw [if_neg e] at hr hb
      exact H.own r y b o hr hb
  apart r r' y y' b o b' o' hr hr' hb hb' e := by
    rw [Cx.claim, Rows.get_put] at hr hr'
    simp only [Cx.claim] at hb hb'
    by_cases h1 : r = id <;> by_cases h2 : r' = id
    · rw [h1, h2]
    · rw [if_pos h1] at hb
      rw [if_neg h2] at hr' hb'
      exact absurd e.symm ((hloc b o hb).2.2 r' y' b' o' hr' hb')
    · rw [if_neg h1] at hr hb
      rw [if_pos h2] at hb'
      exact absurd e ((hloc b' o' hb').2.2 r y b o hr hb)
    · rw [if_neg h1] at hr hb
      rw [if_neg h2] at hr' hb'
      exact H.apart r r' y y' b o b' o' hr hr' hb hb' e
  refs r cs hr := by
    rw [Cx.claim, Rows.get_put] at hr
    by_cases e : r = id
    · rw [if_pos e] at hr
      cases hr
      exact AV.allL_imp (fun _ _ h => Rows.okid_put h) cs (hrefs cs rfl)
    · rw [if_neg e] at hr
      exact AV.allL_imp (fun _ _ h => Rows.okid_put h) cs (H.refs r cs hr)

theorem RowsOk.le {base n m : Nat} {w0 : Start} {w : World} {X : Cx} (H : RowsOk base w0 n X w) (h : n ≤ m) : RowsOk base w0 m X w :=
  { H with refs := fun r cs hr => AV.allL_imp (fun _ _ hq => Rows.okid_le h hq) cs (H.refs r cs hr) }
end Go.Proofs.YtlidfaaajjfgfaaDoor.Ab
