/- The operations of the verified reading: what each makes of plain values, and that Go's operation makes the same of Go's values. -/
import Derived.Test.YtlidfaaajjfgfaaDoorAbCore
import Derived.BigFrame
set_option linter.all false
namespace Go.Proofs.YtlidfaaajjfgfaaDoor.Ab
open Go.RowKit

/-! ### Cells -/
/-- A plain value whose Go value takes one cell for sure. -/
def AV.solid (rows : Rows) : AV → Bool
  | .bool _ | .int _ _ | .str _ | .nilp | .nilf | .nili | .nils | .dsl _ _ | .dptr _ _ _ | .iface _ _ | .clo _ _ => true
  | .ptr r _ => match rows.get r with | some (.box _) => true | _ => false
  | .eptr r g _ _ | .osl r g _ _ | .own r g => match rows.get r with | some (.arr g' _ _) => g == g' | _ => false
  | _ => false

def cellsAV (rows : Rows) : AV → Option (List AV)
  | .agg cs => if cs.all (·.solid rows) then some cs else none
  | v => if v.solid rows then some [v] else none

theorem solid_one {X : Cx} {rows : Rows} (hX : X.rows = rows) : ∀ (a : AV) (v : Value), a.solid rows = true → Rel X a v → v.oneCell' = true := by
  subst hX
  intro a v hs h
  cases a <;> simp only [AV.solid, Bool.false_eq_true] at hs <;> simp only [Rel] at h
  case ptr r off =>
    split at hs
    · rename_i cs hr
      obtain ⟨b, _, rfl⟩ := h cs hr; rfl
    · cases hs
  case eptr r g i off =>
    split at hs
    · rename_i g' s xs hr
      obtain rfl : g = g' := by simpa using hs
      obtain ⟨_, b, o, _, rfl⟩ := h s xs hr; rfl
    · cases hs
  case osl r g st len =>
    split at hs
    · rename_i g' s xs hr
      obtain rfl : g = g' := by simpa using hs
      obtain ⟨_, h⟩ := h s xs hr
      rcases h with ⟨_, _, rfl⟩ | ⟨_, _, _, _, _, rfl, _⟩ <;> rfl
    · cases hs
  case own r g =>
    split at hs
    · rename_i g' s xs hr
      obtain rfl : g = g' := by simpa using hs
      rcases h s xs hr with ⟨_, _, rfl⟩ | ⟨_, _, _, _, rfl, _⟩ <;> rfl
    · cases hs
  case dsl e xs =>
    obtain ⟨a, cap, hc, _⟩ := h
    obtain rfl : v = _ := List.cons.inj hc |>.1
    rfl
  case dptr s x off => obtain ⟨b, o, cs, rfl, _⟩ := h; rfl
  case iface t a => obtain ⟨u, rfl, _⟩ := h; rfl
  case clo f cs => obtain ⟨vs, rfl, _⟩ := h; rfl
  all_goals subst h; rfl

theorem one_cells {v : Value} (h : v.oneCell' = true) : v.cells = #[v] := by cases v <;> first | rfl | cases h

theorem relL_one {X : Cx} {rows : Rows} (hX : X.rows = rows) : ∀ (as : List AV) (vs : List Value), as.all (·.solid rows) = true → RelL X as vs → ∀ v ∈ vs, v.oneCell' = true
  | [], vs, _, h, v, hv => by rw [show vs = [] by simpa [RelL] using h] at hv; cases hv
  | a :: as, vs, hs, h, v, hv => by
    obtain ⟨u, r, rfl, hu, hr⟩ : ∃ u r, vs = u :: r ∧ Rel X a u ∧ RelL X as r := by simpa [RelL] using h
    simp only [List.all_cons, Bool.and_eq_true] at hs
    rcases List.mem_cons.1 hv with rfl | hv
    · exact solid_one hX a v hs.1 hu
    · exact relL_one hX as r hs.2 hr v hv

theorem cellsAV_rel {X : Cx} {rows : Rows} (hX : X.rows = rows) {a : AV} {v : Value} {cs : List AV} (h : cellsAV rows a = some cs) (hr : Rel X a v) :
    RelL X cs v.cells.toList ∧ ∀ c ∈ v.cells.toList, c.oneCell' = true := by
  unfold cellsAV at h
  split at h
  · rename_i ds
    split at h
    · rename_i hs
      cases h
      simp only [Rel] at hr
      obtain ⟨vs, rfl, hr⟩ := hr
      exact ⟨hr, relL_one hX _ _ hs hr⟩
    · cases h
  · split at h
    · rename_i hs
      cases h
      have h1 := solid_one hX a v hs hr
      rw [one_cells h1]
      refine ⟨?_, by simpa using h1⟩
      simp only [RelL]
      exact ⟨v, [], rfl, hr, rfl⟩
    · cases h

def manyOf {α : Type} (f : List AV → Option (α × List AV)) : Nat → List AV → Option (List α × List AV)
  | 0, cs => some ([], cs)
  | n + 1, cs => (f cs).bind fun (x, cs) => (manyOf f n cs).bind fun (xs, cs) => some (x :: xs, cs)

/-- A datum out of cells. -/
def ofCells : (s : Sh) → List AV → Option (s.den × List AV)
  | .unit, cs => some ((), cs)
  | .bool, cs => match cs with | .bool b :: cs => some (b, cs) | _ => none
  | .int k, cs => match cs with | .int k' n :: cs => if k = k' then some (n, cs) else none | _ => none
  | .str, cs => match cs with | .str s :: cs => some (s, cs) | _ => none
  | .sl e, cs => match cs with | .dsl e' xs :: cs => (if h : e' = e then some (h ▸ xs, cs) else none) | .nils :: cs => some ([], cs) | _ => none
  | .arr n e, cs => manyOf (ofCells e) n cs
  | .prod a b, cs => (ofCells a cs).bind fun (x, cs) => (ofCells b cs).bind fun (y, cs) => some ((x, y), cs)

theorem manyOf_den {X : Cx} {α : Type} {f : List AV → Option (α × List AV)} {D : α → List Value → Prop} 
    (hf : ∀ cs x rest vs, f cs = some (x, rest) → RelL X cs vs → ∃ v1 v2, vs = v1 ++ v2 ∧ D x v1 ∧ RelL X rest v2) :
    ∀ (n : Nat) cs xs rest vs, manyOf f n cs = some (xs, rest) → RelL X cs vs → xs.length = n ∧ ∃ v1 v2, vs = v1 ++ v2 ∧ AllD D xs v1 ∧ RelL X rest v2
  | 0, cs, xs, rest, vs, h, hr => by
    simp only [manyOf, Option.some.injEq, Prod.mk.injEq] at h
    obtain ⟨rfl, rfl⟩ := h
    exact ⟨rfl, [], vs, rfl, rfl, hr⟩
  | n + 1, cs, xs, rest, vs, h, hr => by
    simp only [manyOf, Option.bind_eq_some_iff, Prod.exists] at h
    obtain ⟨x, cs1, h1, xs1, cs2, h2, h3⟩ := h
    simp only [Option.some.injEq, Prod.mk.injEq] at h3
    obtain ⟨rfl, rfl⟩ := h3
    obtain ⟨v1, v2, rfl, d1, r1⟩ := hf _ _ _ _ h1 hr
    obtain ⟨hl, v3, v4, rfl, d2, r2⟩ := manyOf_den hf n _ _ _ _ h2 r1
    exact ⟨by simp [hl], v1 ++ v3, v4, by simp, ⟨v1, v3, rfl, d1, d2⟩, r2⟩

theorem ofCells_den {X : Cx} : ∀ (s : Sh) (cs : List AV) (x : s.den) (rest : List AV) (vs : List Value), ofCells s cs = some (x, rest) → RelL X cs vs →
    ∃ v1 v2, vs = v1 ++ v2 ∧ Den X.F X.heap s x v1 ∧ RelL X rest v2
  | .unit, cs, x, rest, vs, h, hr => by
    simp only [ofCells, Option.some.injEq, Prod.mk.injEq] at h
    obtain ⟨_, rfl⟩ := h
    exact ⟨[], vs, rfl, rfl, hr⟩
  | .bool, cs, x, rest, vs, h, hr => by
    simp only [ofCells] at h
    split at h
    · simp only [Option.some.injEq, Prod.mk.injEq] at h
      obtain ⟨rfl, rfl⟩ := h
      simp only [RelL, Rel] at hr
      obtain ⟨v, r, rfl, rfl, hr⟩ := hr
      exact ⟨[_], r, rfl, rfl, hr⟩
    · cases h
  | .int k, cs, x, rest, vs, h, hr => by
    simp only [ofCells] at h
    split at h
    · split at h
      · rename_i e
        subst e
        simp only [Option.some.injEq, Prod.mk.injEq] at h
        obtain ⟨rfl, rfl⟩ := h
        simp only [RelL, Rel] at hr
        obtain ⟨v, r, rfl, rfl, hr⟩ := hr
        exact ⟨[_], r, rfl, rfl, hr⟩
      · cases h
    · cases h
  | .str, cs, x, rest, vs, h, hr => by
    simp only [ofCells] at h
    split at h
    · simp only [Option.some.injEq, Prod.mk.injEq] at h
      obtain ⟨rfl, rfl⟩ := h
      simp only [RelL, Rel] at hr
      obtain ⟨v, r, rfl, rfl, hr⟩ := hr
      exact ⟨[_], r, rfl, rfl, hr⟩
    · cases h
  | .sl e, cs, x, rest, vs, h, hr => by
    simp only [ofCells] at h
    split at h
    · split at h
      · rename_i e
        subst e
        simp only [Option.some.injEq, Prod.mk.injEq] at h
        obtain ⟨rfl, rfl⟩ := h
        simp only [RelL, Rel] at hr
        obtain ⟨v, r, rfl, hv, hr⟩ := hr
        exact ⟨[_], r, rfl, hv, hr⟩
      · cases h
    · simp only [Option.some.injEq, Prod.mk.injEq] at h
      obtain ⟨rfl, rfl⟩ := h
      simp only [RelL, Rel] at hr
      obtain ⟨v, r, rfl, rfl, hr⟩ := hr
      exact ⟨[_], r, rfl, ⟨none, 0, rfl, Nat.le_refl _, fun _ => ⟨rfl, rfl⟩, fun p hp => by cases hp⟩, hr⟩
    · cases h
  | .arr n e, cs, x, rest, vs, h, hr => by
    simp only [ofCells] at h
    obtain ⟨hl, v1, v2, e1, d, r⟩ := manyOf_den (fun cs x rest vs => ofCells_den e cs x rest vs) n cs x rest vs h hr
    exact ⟨v1, v2, e1, ⟨hl, d⟩, r⟩
  | .prod a b, cs, x, rest, vs, h, hr => by
    simp only [ofCells, Option.bind_eq_some_iff, Prod.exists] at h
    obtain ⟨x1, cs1, h1, x2, cs2, h2, h3⟩ := h
    simp only [Option.some.injEq, Prod.mk.injEq] at h3
    obtain ⟨rfl, rfl⟩ := h3
    obtain ⟨v1, v2, rfl, d1, r1⟩ := ofCells_den a _ _ _ _ h1 hr
    obtain ⟨v3, v4, rfl, d2, r2⟩ := ofCells_den b _ _ _ _ h2 r1
    exact ⟨v1 ++ v3, v4, by simp, ⟨v1, v3, rfl, d1, d2⟩, r2⟩

/-- The shape of a type. -/
def shOfL (f : TypeId → Option Sh) : List Field → Option Sh
  | [] => some .unit
  | x :: xs => (f x.type).bind fun a => (shOfL f xs).bind fun b => some (.prod a b)
def shOf (P : Program) : Nat → TypeId → Option Sh
  | 0, _ => none
  | d + 1, t => match P.underlying t with
    | some .bool => some .bool
    | some (.int k) => some (.int k)
    | some .string => some .str
    | some (.slice e) => (shOf P d e).map .sl
    | some (.array n e) => (shOf P d e).map (.arr n)
    | some (.struct fs) => shOfL (shOf P d) fs.toList
    | _ => none

/-! ### Loads -/
theorem cell?_of {w : World} {b o : Nat} {cs : List Value} (h : cellsAt w.heap b o cs) {j : Nat} {v : Value} (hv : cs[j]? = some v) : w.cell? ⟨b, o + j, none⟩ = some v := by
  obtain ⟨c, T, fr, hc, hj⟩ := h
  have hl : j < cs.length := by
    rcases Nat.lt_or_ge j cs.length with h | h
    · exact h
    · rw [List.getElem?_eq_none h] at hv; cases hv
  simp [World.cell?, hc, hj j hl, hv]

theorem addr_add (b o j : Nat) : (⟨b, o, none⟩ : Addr).add j = ⟨b, o + j, none⟩ := by
  unfold Addr.add; split <;> simp_all

def aggB (P : Program) (t : TypeId) : Option Bool := match P.underlying t with | some (.struct _) => some true | some (.array _ _) => some true | some _ => some false | none => none

theorem run_isAgg {P : Program} {t : TypeId} {b : Bool} (h : aggB P t = some b) (w : World) : (isAgg t).run P w = .ok b w := by
  unfold aggB at h
  unfold isAgg
  split at h <;> simp_all [run_underlying]

/-- What a load of type t takes out of cells. -/
def takeT (P : Program) (t : TypeId) (cs : List AV) (off : Nat) : Option AV :=
  match aggB P t, P.info? t with
  | some true, some i => if off + i.size ≤ cs.length then some (.agg ((cs.drop off).take i.size)) else none
  | some false, some _ => cs[off]?
  | _, _ => none

theorem run_loadVar_of {P : Program} {X : Cx} {w : World} {t : TypeId} {cs : List AV} {off b o : Nat} {vs : List Value} {a : AV}
    (h : takeT P t cs off = some a) (hr : RelL X cs vs) (hc : cellsAt w.heap b o vs) : ∃ v, (loadVar t ⟨b, o + off, none⟩).run P w = .ok v w ∧ Rel X a v := by
  have hlen := RelL.length hr
  unfold takeT at h
  split at h
  · rename_i i hagg hi
    split at h
    · rename_i hle
      cases h
      refine ⟨.agg ((vs.drop off).take i.size).toArray, ?_, ?_⟩
      · have hl : ((vs.drop off).take i.size).length = i.size := by simp; omega
        have hload := run_loadCells_list (P := P) w ⟨b, o + off, none⟩ ((vs.drop off).take i.size) (fun j v hv => by
          rw [addr_add, Nat.add_assoc]
          refine cell?_of hc ?_
          rw [List.getElem?_take] at hv
          split at hv
          · simpa using hv
          · cases hv)
        rw [hl] at hload
        simp [loadVar, run_isAgg hagg, sizeOf, typeInfo, hi, hload]
      · simp only [Rel]
        exact ⟨_, rfl, by simpa using RelL.take _ (RelL.drop _ hr)⟩
    · cases h
  · rename_i i hagg hi
    obtain ⟨v, hv, hrel⟩ := RelL.get off a hr h
    refine ⟨v, ?_, hrel⟩
    simp [loadVar, run_isAgg hagg, cell?_of hc hv]
  · cases h

/-- The cells behind a pointer, and where in them it points to. -/
def behind (rows : Rows) : AV → Option (List AV × Nat)
  | .ptr r off => match rows.get r with | some (.box cs) => some (cs, off) | _ => none
  | .dptr s x off => some (cellsOf s x, off)
  | .eptr r g i off => match rows.get r with | some (.arr g' s xs) => if g = g' then some (cellsOf s (xs.getD i s.dflt), off) else none | _ => none
  | _ => none

theorem behind_at {base n : Nat} {w0 : Start} {w : World} {X : Cx} (H : RowsOk base w0 n X w) {p : AV} {u : Value} {cs : List AV} {off : Nat} (h : behind X.rows p = some (cs, off)) (hr : Rel X p u) :
    ∃ b o vs, u = .pointer (some ⟨b, o + off, none⟩) ∧ RelL X cs vs ∧ cellsAt w.heap b o vs := by
  unfold behind at h
  split at h
  · rename_i r off'
    split at h
    · rename_i cs' hrow
      cases h
      simp only [Rel] at hr
      obtain ⟨b, hb, rfl⟩ := hr _ hrow
      obtain ⟨_, c, T, hc, hl⟩ := H.row r _ hrow b 0 hb
      exact ⟨b, 0, c.toList, by simp, hl, c, T, (0, 0), by rw [← H.heap]; exact hc, fun j _ => by simp⟩
    · cases h
  · rename_i s x off'
    cases h
    simp only [Rel] at hr
    obtain ⟨b, o, cs', rfl, _, hc, hd⟩ := hr
    exact ⟨b, o, cs', rfl, Den.rel s x cs' hd, by rw [← H.heap]; exact hc⟩
  · rename_i r g i off'
    split at h
    · rename_i g' s xs hrow
      split at h
      · rename_i e
        subst e
        cases h
        simp only [Rel] at hr
        obtain ⟨hi, b, o, hb, rfl⟩ := hr s xs hrow
        rcases H.row r _ hrow with ⟨h1, _⟩ | ⟨b', o', c, T, h1, h2, h3, h4⟩
        · rw [h1] at hb; cases hb
        · rw [h1] at hb; cases hb
          obtain ⟨es, he, hd⟩ := h4 i hi
          refine ⟨b, o + i * s.size, es, rfl, ?_, by rw [← H.heap]; exact he⟩
          rw [show xs.getD i s.dflt = xs[i] by simp [List.getD, List.getElem?_eq_getElem hi]]
          exact Den.rel s _ es hd
      · cases h
    · cases h
  · cases h

/-! ### Scalars -/
def iArith (op : BinOp) (k : IntKind) (x y : Int) : Option (Bool × Int) :=
  match op with
  | .add => some (true, k.wrap (x + y))
  | .sub => some (true, k.wrap (x - y))
  | .mul => some (true, k.wrap (x * y))
  | .quo => some (sNe y 0, k.wrap (x.tdiv y))
  | .rem => some (sNe y 0, x.tmod y)
  | .and => some (true, k.wrap ((BitVec.ofInt k.bits x &&& BitVec.ofInt k.bits y).toNat : Int))
  | .or => some (true, k.wrap ((BitVec.ofInt k.bits x ||| BitVec.ofInt k.bits y).toNat : Int))
  | .xor => some (true, k.wrap ((BitVec.ofInt k.bits x ^^^ BitVec.ofInt k.bits y).toNat : Int))
  | .andNot => some (true, k.wrap ((BitVec.ofInt k.bits x &&& ~~~BitVec.ofInt k.bits y).toNat : Int))
  | _ => none

def iShift (op : BinOp) (k : IntKind) (x y : Int) : Option (Bool × Int) :=
  match op with
  | .shl => some (sLe 0 y, k.wrap (x * 2 ^ min y.toNat k.bits))
  | .shr => some (sLe 0 y, x.fdiv (2 ^ min y.toNat k.bits))
  | _ => none

def iCmp (op : BinOp) (x y : Int) : Option Bool :=
  match op with
  | .eql => some (sEq x y)
  | .neq => some (sNe x y)
  | .lss => some (sLt x y)
  | .leq => some (sLe x y)
  | .gtr => some (sLt y x)
  | .geq => some (sLe y x)
  | _ => none

theorem bytes_toList (s : ByteArray) : s.toList = s.data.toList := by
  have key : ∀ (n i : Nat) (acc : List UInt8), s.size - i = n → ByteArray.toList.loop s i acc = acc.reverse ++ s.data.toList.drop i := by
    intro n
    induction n with
    | zero =>
      intro i acc h
      unfold ByteArray.toList.loop
      rw [if_neg (by omega), List.drop_eq_nil_of_le (by have : s.data.toList.length = s.size := rfl; omega)]
      simp
    | succ n ih =>
      intro i acc h
      unfold ByteArray.toList.loop
      have hi : i < s.size := by omega
      rw [if_pos hi, ih _ _ (by omega)]
      have hl : i < s.data.toList.length := by have : s.data.toList.length = s.size := rfl; omega
      rw [List.drop_eq_getElem_cons hl]
      have : s.get! i = s.data.toList[i] := by
        simp only [ByteArray.get!]
        rw [getElem!_pos s.data i (by simpa using hi)]
        simp
      rw [this]
      simp
  have := key s.size 0 [] (by omega)
  simpa [ByteArray.toList] using this

/-- Equal texts. -/
def bEq (x y : ByteArray) : Bool := x.data.toList == y.data.toList

abbrev bLt (x y : ByteArray) : Bool := Op.bytesLess x.data.toList y.data.toList

def sCmp (op : BinOp) (x y : ByteArray) : Option AV :=
  match op with
  | .add => some (.str (x ++ y))
  | .eql => some (.bool (bEq x y))
  | .neq => some (.bool (sNot (bEq x y)))
  | .lss => some (.bool (bLt x y))
  | .leq => some (.bool (sOr (bLt x y) (bEq x y)))
  | .gtr => some (.bool (sNot (sOr (bLt x y) (bEq x y))))
  | .geq => some (.bool (sNot (bLt x y)))
  | _ => none

/-- Equal data, for shapes without slices. -/
def denEq : (s : Sh) → Option (s.den → s.den → Bool)
  | .unit => some fun _ _ => true
  | .bool => some fun a b => a == b
  | .int _ => some fun (a b : Int) => a == b
  | .str => some fun (a b : ByteArray) => bEq a b
  | .prod a b => (denEq a).bind fun f => (denEq b).bind fun g => some fun x y => f x.1 y.1 && g x.2 y.2
  | _ => none

def qBin (P : Program) (op : BinOp) (t : TypeId) : AV → AV → Option (Bool × AV)
  | .int k x, .int k' y =>
    match iShift op k x y with
    | some (ok, z) => some (ok, .int k z)
    | none => if k = k' then
        match iArith op k x y with
        | some (ok, z) => some (ok, .int k z)
        | none => (iCmp op x y).map fun b => (true, .bool b)
      else none
  | .str x, .str y => match op with
    | .add => some (sLe ((x.size + y.size : Nat) : Int) IntKind.i64.max, .str (x ++ y))
    | _ => (sCmp op x y).map fun v => (true, v)
  | .bool x, .bool y => match P.underlying t with
    | some .bool => match op with | .eql => some (true, .bool (sEqB x y)) | .neq => some (true, .bool (sNot (sEqB x y))) | _ => none
    | _ => none
  | _, _ => none

theorem bin_ok {P : Program} {X : Cx} {w : World} {op : BinOp} {t : TypeId} {a b r : AV} {va vb : Value} {ok : Bool} (x y : Operand)
    (h : qBin P op t a b = some (ok, r)) (hok : ok = true) (ha : Rel X a va) (hb : Rel X b vb) :
    ∃ v, (do eqGuard op t x y va vb; binOp op t va vb : Sem Value).run P w = .ok v w ∧ Rel X r v := by
  unfold qBin at h
  split at h
  · rename_i k n k' m
    simp only [Rel] at ha hb
    subst ha hb
    have hg : (eqGuard op t x y (.int k n) (.int k' m)).run P w = .ok () w := by unfold eqGuard; cases op <;> rfl
    rw [Sem.run_bind, hg, Result.andThen_ok]
    split at h
    · rename_i ok' z hs
      cases h
      unfold iShift at hs
      cases op <;> simp only [Option.some.injEq, Prod.mk.injEq, reduceCtorEq] at hs <;> obtain ⟨h1, rfl⟩ := hs <;> rw [hok] at h1 <;> simp only [decide_eq_true_eq] at h1 <;>
        refine ⟨_, ?_, by simp only [Rel]; rfl⟩ <;> simp [binOp, Op.shift, show ¬ m < 0 by omega]
    · split at h
      · rename_i hs e
        subst e
        split at h
        · rename_i ok' z hz
          cases h
          unfold iArith at hz
          cases op <;> simp only [Option.some.injEq, Prod.mk.injEq, reduceCtorEq] at hz <;> obtain ⟨h1, rfl⟩ := hz <;> (try rw [hok] at h1) <;>
            refine ⟨_, ?_, by simp only [Rel]; rfl⟩ <;> simp_all [binOp, Op.intArith, Op.intDiv, Op.intBits]
        · rename_i hz
          simp only [Option.map_eq_some_iff, Prod.mk.injEq] at h
          obtain ⟨z, hc, _, rfl⟩ := h
          unfold iCmp at hc
          cases op <;> simp only [Option.some.injEq, reduceCtorEq] at hc <;> subst hc <;>
            refine ⟨_, ?_, by simp only [Rel]; rfl⟩ <;> simp [binOp, Op.intCmp]
      · cases h
  · rename_i s u
    simp only [Rel] at ha hb
    subst ha hb
    have hg : (eqGuard op t x y (.string s) (.string u)).run P w = .ok () w := by unfold eqGuard; cases op <;> rfl
    rw [Sem.run_bind, hg, Result.andThen_ok]
    split at h
    · cases h
      refine ⟨_, ?_, by simp only [Rel]; rfl⟩
      simp only [decide_eq_true_eq] at hok
      have hok' : ¬ (((s.size + u.size : Nat) : Int) > IntKind.i64.max) := by omega
      simp only [binOp, Op.stringOp, if_neg hok']
      rfl
    · simp only [Option.map_eq_some_iff, Prod.mk.injEq] at h
      obtain ⟨z, hc, _, rfl⟩ := h
      unfold sCmp at hc
      cases op <;> simp only [Option.some.injEq, reduceCtorEq] at hc <;> first | contradiction | (subst hc; refine ⟨_, ?_, by simp only [Rel]; rfl⟩; simp [binOp, Op.stringOp, bEq, bytes_toList])
  · rename_i p q
    simp only [Rel] at ha hb
    subst ha hb
    split at h
    · rename_i hu
      have hg : (eqGuard op t x y (.bool p) (.bool q)).run P w = .ok () w := by unfold eqGuard; cases op <;> rfl
      rw [Sem.run_bind, hg, Result.andThen_ok]
      have he : (Op.equal t (.bool p) (.bool q)).run P w = .ok (p == q) w := by
        show (Op.equalIn (9999 + 1) t (.bool p) (.bool q)).run P w = _
        rw [Op.equalIn, Sem.run_bind, run_underlying hu, Result.andThen_ok]
        rfl
      cases op <;> simp only [Option.some.injEq, Prod.mk.injEq, reduceCtorEq] at h <;> obtain ⟨_, rfl⟩ := h <;>
        refine ⟨_, ?_, by simp only [Rel]; rfl⟩ <;> simp [binOp, he]
    · cases h
  · cases h

def qUn (op : UnOp) : AV → Option AV
  | .int k n => match op with
    | .neg => some (.int k (k.wrap (0 - n)))
    | .xor => some (.int k (k.wrap ((BitVec.ofInt k.bits (if k.signed then -1 else k.max) ^^^ BitVec.ofInt k.bits n).toNat : Int)))
    | _ => none
  | .bool b => match op with | .not => some (.bool (sNot b)) | _ => none
  | _ => none

theorem un_ok {P : Program} {X : Cx} {w : World} {op : UnOp} {a r : AV} {va : Value} (h : qUn op a = some r) (ha : Rel X a va) :
    ∃ v, (Op.unary op va).run P w = .ok v w ∧ Rel X r v := by
  unfold qUn at h
  split at h
  · simp only [Rel] at ha
    subst ha
    cases op <;> simp only [Option.some.injEq, reduceCtorEq] at h <;> subst h <;> exact ⟨_, rfl, by simp only [Rel]⟩
  · simp only [Rel] at ha
    subst ha
    cases op <;> simp only [Option.some.injEq, reduceCtorEq] at h <;> subst h <;> exact ⟨_, rfl, by simp only [Rel]⟩
  · cases h

def qConv (P : Program) (src dst : TypeId) : AV → Option AV
  | .int _ n => match P.underlying src, P.underlying dst with | some _, some (.int k) => some (.int k (k.wrap n)) | _, _ => none
  | .str s => match P.underlying src, P.underlying dst with | some _, some .string => some (.str s) | _, _ => none
  | _ => none

theorem conv_ok {P : Program} {X : Cx} {w : World} {src dst : TypeId} {a r : AV} {va : Value} (h : qConv P src dst a = some r) (ha : Rel X a va) :
    ∃ v, (convert src dst va).run P w = .ok v w ∧ Rel X r v := by
  unfold qConv at h
  split at h
  · simp only [Rel] at ha
    subst ha
    split at h
    · rename_i hs hd
      cases h
      refine ⟨_, ?_, by simp only [Rel]; rfl⟩
      simp only [convert, Sem.run_bind, run_underlying hs, run_underlying hd, Result.andThen_ok]
      rfl
    · cases h
  · simp only [Rel] at ha
    subst ha
    split at h
    · rename_i d hs hd
      cases h
      refine ⟨_, ?_, by simp only [Rel]; rfl⟩
      simp only [convert, Sem.run_bind, run_underlying hs, run_underlying hd, Result.andThen_ok]
      rfl
    · cases h
  · cases h

/-! ### Pointers -/
def AV.shift (k : Nat) : AV → AV
  | .ptr r off => .ptr r (off + k)
  | .dptr s x off => .dptr s x (off + k)
  | .eptr r g i off => .eptr r g i (off + k)
  | v => v

theorem shift_rel {X : Cx} {p : AV} {u : Value} {cs : List AV} {off : Nat} (k : Nat) (h : behind X.rows p = some (cs, off)) (hr : Rel X p u) :
    ∃ b q, u = .pointer (some ⟨b, q, none⟩) ∧ Rel X (p.shift k) (.pointer (some ⟨b, q + k, none⟩)) := by
  unfold behind at h
  split at h
  · split at h
    · rename_i hrow
      simp only [Rel] at hr
      obtain ⟨b, hb, rfl⟩ := hr _ hrow
      exact ⟨b, _, rfl, by simp only [AV.shift, Rel]; exact fun _ _ => ⟨b, hb, rfl⟩⟩
    · cases h
  · simp only [Rel] at hr
    obtain ⟨b, o, cs', rfl, h1, h2, h3⟩ := hr
    exact ⟨b, _, rfl, by simp only [AV.shift, Rel]; exact ⟨b, o, cs', by rw [Nat.add_assoc], h1, h2, h3⟩⟩
  · split at h
    · rename_i g i off' g' s xs hrow
      split at h
      · rename_i e
        subst e
        simp only [Rel] at hr
        obtain ⟨hi, b, o, hb, rfl⟩ := hr s xs hrow
        refine ⟨b, _, rfl, ?_⟩
        simp only [AV.shift, Rel]
        intro s' xs' hrow'
        rw [hrow] at hrow'
        obtain ⟨⟨⟩, hs, hx⟩ := Row.arr.inj (Option.some.inj hrow')
        subst hs
        cases hx
        exact ⟨hi, b, o, hb, by rw [Nat.add_assoc]⟩
      · cases h
    · cases h
  · cases h

/-- The address of a field. -/
def qField (P : Program) (rows : Rows) (s : TypeId) (f : Nat) (p : AV) : Option AV :=
  match P.underlying s with
  | some (.struct fs) => match fs[f]? with
    | some x => match P.info? x.type with
      | some i => if i.size = 0 then none else (behind rows p).map fun _ => p.shift x.offset
      | none => none
    | none => none
  | _ => none

theorem field_ok {P : Program} {X : Cx} {w : World} {s : TypeId} {f : Nat} {p r : AV} {u : Value} (h : qField P X.rows s f p = some r) (hr : Rel X p u) :
    ∃ v, (Instr.fieldAt s u f).run P w = .ok v w ∧ Rel X r v := by
  unfold qField at h
  split at h
  · rename_i fs hs
    split at h
    · rename_i x hx
      split at h
      · rename_i i hi
        split at h
        · cases h
        · rename_i hz
          simp only [Option.map_eq_some_iff] at h
          obtain ⟨⟨cs, off⟩, hb, rfl⟩ := h
          obtain ⟨b, q, rfl, hrel⟩ := shift_rel x.offset hb hr
          refine ⟨_, ?_, hrel⟩
          simp [Instr.fieldAt, run_underlying hs, hx, Instr.sureAddr, fieldPlace, sizeOf, typeInfo, hi, hz, addr_add]
      · cases h
    · cases h
  · cases h

/-! ### Slices and indexes -/
/-- How long a slice is. -/
def lenAV (rows : Rows) : AV → Option Nat
  | .nils => some 0
  | .dsl _ xs => some xs.length
  | .osl r g _ len => match rows.get r with | some (.arr g' _ _) => if g = g' then some len else none | _ => none
  | .own r g => match rows.get r with | some (.arr g' _ xs) => if g = g' then some xs.length else none | _ => none
  | _ => none

theorem lenAV_ok {X : Cx} {a : AV} {v : Value} {n : Nat} (h : lenAV X.rows a = some n) (hr : Rel X a v) : ∃ p cap, v = .slice p n cap := by
  unfold lenAV at h
  split at h
  · cases h; simp only [Rel] at hr; exact ⟨none, 0, hr⟩
  · cases h
    simp only [Rel] at hr
    obtain ⟨a, cap, hc, _⟩ := hr
    exact ⟨a, cap, List.cons.inj hc |>.1⟩
  · split at h
    · rename_i hrow
      split at h
      · rename_i e
        subst e
        cases h
        simp only [Rel] at hr
        obtain ⟨hle, hc⟩ := hr _ _ hrow
        rcases hc with ⟨h1, h0, rfl⟩ | ⟨b, o, a, cap, _, rfl, _⟩
        · exact ⟨none, 0, by rw [show n = 0 by omega]⟩
        · exact ⟨_, _, rfl⟩
      · cases h
    · cases h
  · split at h
    · rename_i hrow
      split at h
      · rename_i e
        subst e
        cases h
        simp only [Rel] at hr
        rcases hr _ _ hrow with ⟨h1, h0, rfl⟩ | ⟨b, o, cap, _, rfl, _⟩
        · exact ⟨none, 0, by rw [h0]⟩
        · exact ⟨_, _, rfl⟩
      · cases h
    · cases h
  · cases h

def sizeIs (P : Program) (t : TypeId) (n : Nat) : Bool := match P.info? t with | some i => i.size == n | none => false
theorem run_sizeOf {P : Program} {t : TypeId} {n : Nat} (h : sizeIs P t n = true) (w : World) : (sizeOf t).run P w = .ok n w := by
  unfold sizeIs at h
  split at h
  · rename_i i hi
    have : i.size = n := by simpa using h
    simp [sizeOf, typeInfo, hi, this]
  · cases h

/-- The array that lies in a datum from a cell on. -/
def subArr : (s : Sh) → s.den → Nat → Option ((n : Nat) × (e : Sh) × List e.den)
  | .arr n e, xs, 0 => some ⟨n, e, xs⟩
  | .prod a b, x, off => if off < a.size then subArr a x.1 off else subArr b x.2 (off - a.size)
  | _, _, _ => none

theorem subArr_den {F : Nat → Prop} {h : Array Obj} {b : Nat} : ∀ (s : Sh) (x : s.den) (off o : Nat) (cs : List Value) (n : Nat) (e : Sh) (xs : List e.den),
    subArr s x off = some ⟨n, e, xs⟩ → Den F h s x cs → cellsAt h b o cs → ∃ cs', Den F h (.arr n e) xs cs' ∧ cellsAt h b (o + off) cs'
  | .arr n e, x, 0, o, cs, n', e', xs, hs, hd, hc => by
    simp only [subArr, Option.some.injEq] at hs
    cases hs
    exact ⟨cs, hd, hc⟩
  | .prod a b', x, off, o, cs, n, e, xs, hs, hd, hc => by
    simp only [subArr] at hs
    obtain ⟨c1, c2, rfl, h1, h2⟩ := hd
    have hl := Den.length a _ _ h1
    split at hs
    · exact subArr_den a x.1 off o c1 n e xs hs h1 hc.append.1
    · obtain ⟨cs', hd', hc'⟩ := subArr_den b' x.2 (off - a.size) (o + c1.length) c2 n e xs hs h2 hc.append.2
      exact ⟨cs', hd', by rw [show o + off = o + c1.length + (off - a.size) by omega]; exact hc'⟩
  | .unit, _, _, _, _, _, _, _, hs, _, _ => by cases hs
  | .bool, _, _, _, _, _, _, _, hs, _, _ => by cases hs
  | .int _, _, _, _, _, _, _, _, hs, _, _ => by cases hs
  | .str, _, _, _, _, _, _, _, hs, _, _ => by cases hs
  | .sl _, _, _, _, _, _, _, _, hs, _, _ => by cases hs
  | .arr _ _, _, _ + 1, _, _, _, _, _, hs, _, _ => by cases hs

theorem allD_at {α : Type} {D : α → List Value → Prop} {n : Nat} {h : Array Obj} {b : Nat} (hD : ∀ x cs, D x cs → cs.length = n) : ∀ (xs : List α) (cs : List Value) (o i : Nat) (hi : i < xs.length),
    AllD D xs cs → cellsAt h b o cs → ∃ es, cellsAt h b (o + i * n) es ∧ D xs[i] es
  | [], _, _, _, hi, _, _ => by simp at hi
  | x :: xs, cs, o, i, hi, ⟨c1, c2, e, h1, h2⟩, hc => by
    subst e
    cases i with
    | zero => exact ⟨c1, by simpa using hc.append.1, h1⟩
    | succ i =>
      obtain ⟨es, he, hd⟩ := allD_at hD xs c2 (o + c1.length) i (by simpa using hi) h2 hc.append.2
      refine ⟨es, ?_, hd⟩
      rw [show o + (i + 1) * n = o + c1.length + i * n by rw [hD _ _ h1, Nat.add_mul]; omega]
      exact he

/-- The address of an element. -/
def qIndex (P : Program) (rows : Rows) (t : TypeId) (p : AV) (i : Int) : Option (Bool × AV) :=
  match P.underlying t with
  | some (.slice et) => match p with
    | .dsl e xs => if sizeIs P et e.size then some (sAnd (sLe 0 i) (sLt i xs.length), .dptr e (xs.getD i.toNat e.dflt) 0) else none
    | .osl r g st len => match rows.get r with
      | some (.arr g' s _) => if g = g' ∧ sizeIs P et s.size = true then some (sAnd (sLe 0 i) (sLt i len), .eptr r g (st + i.toNat) 0) else none
      | _ => none
    | .own r g => match rows.get r with
      | some (.arr g' s xs) => if g = g' ∧ sizeIs P et s.size = true then some (sAnd (sLe 0 i) (sLt i xs.length), .eptr r g i.toNat 0) else none
      | _ => none
    | _ => none
  | some (.array len et) => match p with
    | .dptr s x off => match subArr s x off with
      | some ⟨n, e, xs⟩ => if n = len ∧ sizeIs P et e.size = true then some (sAnd (sLe 0 i) (sLt i n), .dptr e (xs.getD i.toNat e.dflt) 0) else none
      | none => none
    | _ => none
  | _ => none

theorem index_ok {P : Program} {base n : Nat} {w0 : Start} {w : World} {X : Cx} (H : RowsOk base w0 n X w) {t : TypeId} {p r : AV} {u : Value} {k : IntKind} {i : Int} {ok : Bool}
    (h : qIndex P X.rows t p i = some (ok, r)) (hok : ok = true) (hr : Rel X p u) : ∃ v, (Instr.indexAt t u (.int k i)).run P w = .ok v w ∧ Rel X r v := by
  have run : ∀ (len : Nat) (et : TypeId) (b o sz cap : Nat), P.underlying t = some (.slice et) → 0 ≤ i → i < len → sizeIs P et sz = true →
      (Instr.indexAt t (.slice (some ⟨b, o, none⟩) len cap) (.int k i)).run P w = .ok (.pointer (some ⟨b, o + i.toNat * sz, none⟩)) w := by
    intro len et b o sz cap ht h0 h1 hs
    simp [Instr.indexAt, asIntOf, run_underlying ht, h0, h1, run_sizeOf hs, addr_add]
  unfold qIndex at h
  split at h
  · rename_i et ht
    split at h
    · rename_i e xs
      split at h
      · rename_i hs
        cases h
        simp only [Bool.and_eq_true, decide_eq_true_eq] at hok
        simp only [Rel] at hr
        obtain ⟨a, cap, hc, hl, hn, hp⟩ := hr
        obtain rfl : u = _ := List.cons.inj hc |>.1
        cases a with
        | none => have := (hn rfl).1; subst this; simp at hok; omega
        | some p =>
          obtain ⟨hsp, he⟩ := hp p rfl
          have hi : i.toNat < xs.length := by omega
          have hsp := hsp (by omega)
          obtain ⟨b, o, sp⟩ := p
          cases hsp
          obtain ⟨hF, es, hes, hd⟩ := he i.toNat hi
          refine ⟨_, run xs.length et b o e.size cap ht hok.1 hok.2 hs, ?_⟩
          simp only [Rel]
          refine ⟨b, o + i.toNat * e.size, es, rfl, hF, hes, ?_⟩
          rw [show xs.getD i.toNat e.dflt = xs[i.toNat] by simp [List.getD, List.getElem?_eq_getElem hi]]
          exact hd
      · cases h
    · rename_i r' g st len
      split at h
      · rename_i g' s xs hrow
        split at h
        · rename_i e
          obtain ⟨e, hs⟩ := e
          subst e
          cases h
          simp only [Bool.and_eq_true, decide_eq_true_eq] at hok
          simp only [Rel] at hr
          obtain ⟨hle, hc⟩ := hr _ _ hrow
          rcases hc with ⟨_, h0, _⟩ | ⟨b, o, a, cap, hb, rfl, hcap, hcase⟩
          · omega
          · rcases hcase with h0 | ⟨rfl, hsz⟩
            · omega
            · refine ⟨_, run len et b _ s.size cap ht hok.1 hok.2 hs, ?_⟩
              simp only [Rel]
              intro s' xs' hrow'
              rw [hrow] at hrow'
              obtain ⟨⟨⟩, hs', hx⟩ := Row.arr.inj (Option.some.inj hrow')
              subst hs'
              cases hx
              exact ⟨by omega, b, o, hb, by rw [Nat.add_mul, ← Nat.add_assoc]; rfl⟩
        · cases h
      · cases h
    · rename_i r' g
      split at h
      · rename_i g' s xs hrow
        split at h
        · rename_i e
          obtain ⟨e, hs⟩ := e
          subst e
          cases h
          simp only [Bool.and_eq_true, decide_eq_true_eq] at hok
          simp only [Rel] at hr
          rcases hr _ _ hrow with ⟨_, h0, _⟩ | ⟨b, o, cap, hb, rfl, hcap, hsz⟩
          · omega
          · refine ⟨_, run xs.length et b _ s.size cap ht hok.1 hok.2 hs, ?_⟩
            simp only [Rel]
            intro s' xs' hrow'
            rw [hrow] at hrow'
            obtain ⟨⟨⟩, hs', hx⟩ := Row.arr.inj (Option.some.inj hrow')
            subst hs'
            cases hx
            exact ⟨by omega, b, o, hb, rfl⟩
        · cases h
      · cases h
    · cases h
  · rename_i len et ht
    split at h
    · rename_i s x off
      split at h
      · rename_i m e xs hsub
        split at h
        · rename_i hc
          obtain ⟨rfl, hs⟩ := hc
          cases h
          simp only [Bool.and_eq_true, decide_eq_true_eq] at hok
          simp only [Rel] at hr
          obtain ⟨b, o, cs, rfl, hF, hcs, hd⟩ := hr
          obtain ⟨cs', ⟨hl, hd'⟩, hc'⟩ := subArr_den s x off o cs m e xs hsub hd hcs
          have hi : i.toNat < xs.length := by omega
          obtain ⟨es, hes, hde⟩ := allD_at (fun x cs => Den.length e x cs) xs cs' (o + off) i.toNat hi hd' hc'
          refine ⟨.pointer (some ⟨b, o + off + i.toNat * e.size, none⟩), ?_, ?_⟩
          · simp [Instr.indexAt, asIntOf, run_underlying ht, hok.1, hok.2, run_sizeOf hs, addr_add, Instr.sureAddr]
          · simp only [Rel]
            refine ⟨b, o + off + i.toNat * e.size, es, rfl, hF, hes, ?_⟩
            rw [show xs.getD i.toNat e.dflt = xs[i.toNat] by simp [List.getD, List.getElem?_eq_getElem hi]]
            exact hde
        · cases h
      · cases h
    · cases h
  · cases h
end Go.Proofs.YtlidfaaajjfgfaaDoor.Ab
