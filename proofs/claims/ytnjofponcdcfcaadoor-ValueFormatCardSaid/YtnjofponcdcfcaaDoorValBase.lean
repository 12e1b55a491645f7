/- The value layer's program: its package tables, lanes and values as plain data. No conditions. -/
import Derived.Test.YtnjofponcdcfcaaDoorAbTurn
import Derived.Test.YtnjofponcdcfcaaDoorProg
set_option linter.all false
namespace Go.Proofs.YtnjofponcdcfcaaDoor
open Go Ab
set_option maxRecDepth 100000
/-- The powers of ten, a table of the library's. -/
def pow10L : List Int := [1, 10, 100, 1000, 10000, 100000, 1000000, 10000000, 100000000, 1000000000, 10000000000, 100000000000, 1000000000000, 10000000000000, 100000000000000, 1000000000000000, 10000000000000000, 100000000000000000, 1000000000000000000, 10000000000000000000]
abbrev i64S : Sh := .int .i64
abbrev laneS : Sh := .prod i64S (.prod .bool (.prod .bool .unit))
abbrev valS : Sh := .prod i64S (.prod i64S (.prod (.arr 4 laneS) .unit))
noncomputable def Gw : Globs := fun g =>
  if g = 0 then some ⟨laneS, (0, true, false, ())⟩ else if g = 1 then some ⟨laneS, (0, false, true, ())⟩ else if g = 2 then some ⟨.arr 5 (.int .i64), [0, 1, 8, 32, 64]⟩ else if g = 3 then some ⟨.arr 20 (.int .u64), pow10L⟩ else none
noncomputable abbrev gX (x : XTab) (o : Opt := {}) : Fx := gXP Tryd.prog Gw x o
noncomputable abbrev E0 : Env := E0P Tryd.prog Gw
abbrev XOk (x : XTab) : Prop := XOkP Tryd.prog Gw x
theorem ent {f : Nat} {fn : Func} (hf : Tryd.prog.funcs[f]? = some fn) (hn : (fn.name == "runtime.NumGoroutine") = false) (hb : fn.body.isNone = false) : Enters Tryd.prog f := fun args w => enter_of hf hn hb args w
structure Lane where
  n : Int
  p : Bool
  u : Bool
structure Val where
  t : Int
  o : Int
  a : Lane
  b : Lane
  c : Lane
  d : Lane
def laneA (l : Lane) : AV := .agg [.int .i64 l.n, .bool l.p, .bool l.u]
def valA (v : Val) : AV := .agg [.int .i64 v.t, .int .i64 v.o, .int .i64 v.a.n, .bool v.a.p, .bool v.a.u, .int .i64 v.b.n, .bool v.b.p, .bool v.b.u, .int .i64 v.c.n, .bool v.c.p, .bool v.c.u, .int .i64 v.d.n, .bool v.d.p, .bool v.d.u]
def asLane : AV → Option Lane
  | .agg [.int .i64 n, .bool p, .bool u] => some ⟨n, p, u⟩
  | _ => none
theorem asLane_eq {a : AV} {l : Lane} (h : asLane a = some l) : a = laneA l := by
  unfold asLane at h
  split at h
  · cases h; rfl
  · cases h
def asCells : List AV → Option (List (Int ⊕ Bool))
  | [] => some []
  | .int .i64 n :: r => (asCells r).map (.inl n :: ·)
  | .bool b :: r => (asCells r).map (.inr b :: ·)
  | _ => none
def ofCells' : List (Int ⊕ Bool) → List AV
  | [] => []
  | .inl n :: r => .int .i64 n :: ofCells' r
  | .inr b :: r => .bool b :: ofCells' r
theorem asCells_eq : ∀ {l : List AV} {m}, asCells l = some m → l = ofCells' m
  | [], m, h => by cases h; rfl
  | a :: r, m, h => by
    unfold asCells at h
    split at h
    · rename_i e; cases e
    · rename_i n r' e
      cases e
      simp only [Option.map_eq_some_iff] at h
      obtain ⟨m', h, rfl⟩ := h
      rw [asCells_eq h]; rfl
    · rename_i n r' e
      cases e
      simp only [Option.map_eq_some_iff] at h
      obtain ⟨m', h, rfl⟩ := h
      rw [asCells_eq h]; rfl
    · cases h
def asVal : AV → Option Val
  | .agg l => (asCells l).bind fun m => match m with
    | [.inl t, .inl o, .inl n0, .inr p0, .inr u0, .inl n1, .inr p1, .inr u1, .inl n2, .inr p2, .inr u2, .inl n3, .inr p3, .inr u3] => some ⟨t, o, ⟨n0, p0, u0⟩, ⟨n1, p1, u1⟩, ⟨n2, p2, u2⟩, ⟨n3, p3, u3⟩⟩
    | _ => none
  | _ => none
theorem asVal_eq {a : AV} {v : Val} (h : asVal a = some v) : a = valA v := by
  unfold asVal at h
  split at h
  · simp only [Option.bind_eq_some_iff] at h
    obtain ⟨m, hm, h⟩ := h
    rw [asCells_eq hm]
    split at h
    · cases h; rfl
    · cases h
  · cases h
theorem asVal_valA (v : Val) : asVal (valA v) = some v := rfl
def bitsOf (t : Int) : Int := if t = 1 then 1 else if t = 2 then 8 else if t = 3 then 32 else if t = 4 then 64 else 0
theorem bits_cases (t : Int) : bitsOf t = 0 ∨ bitsOf t = 1 ∨ bitsOf t = 8 ∨ bitsOf t = 32 ∨ bitsOf t = 64 := by
  unfold bitsOf
  repeat' split
  all_goals simp
end Go.Proofs.YtnjofponcdcfcaaDoor
/- Types of values: lanes, lane types, integer types, their bits. No conditions. -/
set_option linter.all false
namespace Go.Proofs.YtnjofponcdcfcaaDoor
open Go Ab
set_option maxRecDepth 100000
theorem sLt_true {a b : Int} (h : a < b) : sLt a b = true := decide_eq_true h
theorem sLt_false {a b : Int} (h : ¬ a < b) : sLt a b = false := decide_eq_false h
theorem sLe_true {a b : Int} (h : a ≤ b) : sLe a b = true := decide_eq_true h
theorem sLe_false {a b : Int} (h : ¬ a ≤ b) : sLe a b = false := decide_eq_false h
theorem sEq_true {a b : Int} (h : a = b) : sEq a b = true := by subst h; simp [sEq]
theorem sEq_false {a b : Int} (h : ¬ a = b) : sEq a b = false := by simpa [sEq] using h
theorem sNe_false {a b : Int} (h : a = b) : sNe a b = false := by subst h; simp [sNe]
theorem sNe_true {a b : Int} (h : ¬ a = b) : sNe a b = true := by simpa [sNe] using h
/-- No type that has values. -/
structure Oth (t : Int) : Prop where
  h : t < 1 ∨ 7 < t
theorem Oth.e {t : Int} (o : Oth t) (k : Int) (h : 1 ≤ k ∧ k ≤ 7) : sEq t k = false := sEq_false (by have := o.h; omega)
theorem typ (t : Int) : t = 1 ∨ t = 2 ∨ t = 3 ∨ t = 4 ∨ t = 5 ∨ t = 6 ∨ t = 7 ∨ Oth t := by
  by_cases h : t < 1 ∨ 7 < t
  · exact .inr (.inr (.inr (.inr (.inr (.inr (.inr ⟨h⟩))))))
  · omega
theorem Oth.g {t : Int} (o : Oth t) : sIf (sLe 1 t) (sLe t 4) false = false := by
  rcases o.h with h | h
  · rw [sLe_false (by omega), sI5]
  · rw [sLe_true (show 1 ≤ t by omega), sI4, sLe_false (by omega)]
def nlV (t : Int) : Int := if t = 1 ∨ t = 2 ∨ t = 3 ∨ t = 4 ∨ t = 5 then 1 else if t = 6 then 2 else if t = 7 then 4 else 0
def intV (t : Int) : Bool := sIf (sLe 1 t) (sLe t 4) false
def widV (t : Int) : Bool := sIf (sLe 2 t) (sLe t 4) false
def ltV (t : Int) : Int := if t = 5 then 4 else if t = 6 ∨ t = 7 then 3 else t
theorem Oth.nl {t : Int} (o : Oth t) : nlV t = 0 := by
  have := o.h
  unfold nlV
  rw [if_neg (by omega), if_neg (by omega), if_neg (by omega)]
theorem Oth.lt {t : Int} (o : Oth t) : ltV t = t := by
  have := o.h
  unfold ltV
  rw [if_neg (by omega), if_neg (by omega)]
theorem Oth.bits {t : Int} (o : Oth t) : bitsOf t = 0 := by
  have := o.h
  unfold bitsOf
  rw [if_neg (by omega), if_neg (by omega), if_neg (by omega), if_neg (by omega)]
theorem xf15 (t : Int) : exFn (gX { }) Tryd.f15 [AV.int IntKind.i64 t] = (
 let q0 : Tg := Tg.mix (sEq t 1) Tg.n (Tg.mix (sEq t 2) Tg.n (Tg.mix (sEq t 3) Tg.n (Tg.mix (sEq t 4) Tg.n Tg.n)));
  let q1 : Bool := sIf (sEq t 1) (sEq t 1) (sIf (sEq t 2) (sEq t 2) (sIf (sEq t 3) (sEq t 3) (sIf (sEq t 4) (sEq t 4) (sEq t 5))));
  let q2 : Bool := (Tg.block 0 (q0.thenN (Tg.mix q1 Tg.r (Tg.mix (sEq t 6) Tg.r (Tg.mix (sEq t 7) Tg.r Tg.n))))).isN;
  some
  (sAnd true
      (sIf true
        (sAnd
          (sAnd true
            (sIf true
              (sAnd
                (sAnd true
                  (sIf true
                    (sAnd true
                      (sIf (sEq t 1) true
                        (sAnd true
                          (sIf true
                            (sAnd true
                              (sIf (sEq t 2) true
                                (sAnd true
                                  (sIf true
                                    (sAnd true
                                      (sIf (sEq t 3) true
                                        (sAnd true (sIf true (sAnd true (sIf (sEq t 4) true true)) true))))
                                    true))))
                            true))))
                    true))
                (sIf q0.isN
                  (sAnd true
                    (sIf q1 true
                      (sAnd true
                        (sIf true
                          (sAnd true
                            (sIf (sEq t 6) true (sAnd true (sIf true (sAnd true (sIf (sEq t 7) true true)) true))))
                          true))))
                  true))
              true))
          (sIf q2 true true))
        true),
    AV.int IntKind.i64 (sIf q2 0 (sIf q1 1 (sIf (sEq t 6) 2 4))))) := by kernel_rfl

theorem xf28 (t : Int) : exFn (gX { }) Tryd.f28 [AV.int IntKind.i64 t] = (
 some
  (sAnd true
      (sIf true
        (sAnd
          (sAnd true
            (sAnd true
              (sAnd true
                (sAnd (sOr (sNot (sLe 1 t)) true)
                  (sAnd (sOr (sNot (sLe 1 t)) (sAnd (sAnd (sLe 1 t) true) true))
                    (sAnd (sAnd true (sIf (sLe 1 t) (sLe 1 t) true)) true))))))
          true)
        true),
    AV.bool (sIf (sLe 1 t) (sLe t 4) false))) := by kernel_rfl

theorem xf33 (t : Int) : exFn (gX { }) Tryd.f33 [AV.int IntKind.i64 t] = (
 some
  (sAnd true
      (sIf true
        (sAnd
          (sAnd true
            (sAnd true
              (sAnd true
                (sAnd (sOr (sNot (sLe 1 t)) true)
                  (sAnd (sOr (sNot (sLe 1 t)) (sAnd (sAnd (sLe 1 t) true) true))
                    (sAnd (sAnd true (sIf (sLe 1 t) (sLe 1 t) true)) true))))))
          true)
        true),
    AV.bool (sIf (sLe 1 t) (sLe t 4) false))) := by kernel_rfl

theorem xf32 (t : Int) : exFn (gX { }) Tryd.f32 [AV.int IntKind.i64 t] = (
 let q0 : Tg := Tg.mix (sEq t 6) Tg.n Tg.n;
  let q1 : Bool := sIf (sEq t 6) (sEq t 6) (sEq t 7);
  let q2 : Bool := (Tg.block 0 (Tg.mix (sEq t 5) Tg.r (q0.thenN (Tg.mix q1 Tg.r Tg.n)))).isN;
  some
  (sAnd true
      (sIf true
        (sAnd
          (sAnd true
            (sIf true
              (sAnd true
                (sIf true
                  (sAnd true
                    (sIf (sEq t 5) true
                      (sAnd (sAnd true (sIf true (sAnd true (sIf (sEq t 6) true true)) true))
                        (sIf q0.isN (sAnd true (sIf q1 true true)) true))))
                  true))
              true))
          (sIf q2 true true))
        true),
    AV.int IntKind.i64 (sIf q2 t (sIf (sEq t 5) 4 3)))) := by kernel_rfl

theorem xf34 (t : Int) : exFn (gX { }) Tryd.f34 [AV.int IntKind.i64 t] = (
 let q0 : Bool := (Tg.mix (sEq t 5) Tg.r Tg.n).isN;
  let q1 : Bool := sNot (sNot (sEq t 6));
  let q2 : Bool := sIf (sEq t 6) true (sEq t 7);
  let q3 : Bool := (Tg.mix q2 Tg.r Tg.n).isN;
  some
  (sAnd true
      (sIf true
        (sAnd (sAnd true (sIf true (sAnd true (sIf (sEq t 5) true true)) true))
          (sIf q0
            (sAnd
              (sAnd
                (sAnd true
                  (sAnd true
                    (sAnd true
                      (sAnd (sOr q1 true)
                        (sAnd (sOr q1 (sAnd (sAnd (sNot (sEq t 6)) true) true))
                          (sAnd (sAnd true (sIf (sEq t 6) true (sNot (sEq t 6)))) true))))))
                (sIf true (sAnd true (sIf q2 true true)) true))
              (sIf q3 true true))
            true))
        true),
    AV.int IntKind.i64 (sIf q0 (sIf q3 t 3) 4))) := by kernel_rfl

theorem xf55 (t : Int) : exFn (gX { }) Tryd.f55 [AV.int IntKind.i64 t] = (
 let q0 : Bool := sNot (sNot (sLt t 0));
  let q1 : Bool := sIf (sLt t 0) true (sLe 5 t);
  let q2 : Bool := (Tg.mix q1 Tg.r Tg.n).isN;
  some
  (sAnd true
      (sIf true
        (sAnd
          (sAnd
            (sAnd true
              (sAnd true
                (sAnd true
                  (sAnd (sOr q0 true)
                    (sAnd (sOr q0 (sAnd (sAnd (sNot (sLt t 0)) true) true))
                      (sAnd (sAnd true (sIf (sLt t 0) true (sNot (sLt t 0)))) true))))))
            (sIf true (sAnd true (sIf q1 true true)) true))
          (sIf q2 (sAnd (sAnd true (sAnd (sAnd true (sAnd (sLe 0 t) (sLt t ↑5))) true)) true) true))
        true),
    AV.int IntKind.i64 (sIf q2 ([0, 1, 8, 32, 64].getD t.toNat (Sh.int IntKind.i64).dflt) 0))) := by kernel_rfl

theorem xf46 (t : Int) : exFn (gX { }) Tryd.f46 [AV.int IntKind.i64 t] = (
 let q0 : Bool := (Tg.block 0 (Tg.mix (sEq t 1) Tg.r (Tg.mix (sEq t 2) Tg.r (Tg.mix (sEq t 3) Tg.r (Tg.mix (sEq t 4) Tg.r Tg.n))))).isN;
  some
  (sAnd true
      (sIf true
        (sAnd
          (sAnd true
            (sIf true
              (sAnd true
                (sIf true
                  (sAnd true
                    (sIf (sEq t 1) true
                      (sAnd true
                        (sIf true
                          (sAnd true
                            (sIf (sEq t 2) true
                              (sAnd true
                                (sIf true
                                  (sAnd true
                                    (sIf (sEq t 3) true
                                      (sAnd true (sIf true (sAnd true (sIf (sEq t 4) true true)) true))))
                                  true))))
                          true))))
                  true))
              true))
          (sIf q0 true true))
        true),
    AV.int IntKind.i64 (sIf q0 0 (sIf (sEq t 1) 1 (sIf (sEq t 2) 8 (sIf (sEq t 3) 32 64)))))) := by kernel_rfl

theorem xf58 (t : Int) : exFn (gX { }) Tryd.f58 [AV.int IntKind.i64 t] = (
 some
  (sAnd true
      (sIf true
        (sAnd
          (sAnd true
            (sAnd true
              (sAnd true
                (sAnd (sOr (sNot (sLe 2 t)) true)
                  (sAnd (sOr (sNot (sLe 2 t)) (sAnd (sAnd (sLe 2 t) true) true))
                    (sAnd (sAnd true (sIf (sLe 2 t) (sLe 2 t) true)) true))))))
          true)
        true),
    AV.bool (sIf (sLe 2 t) (sLe t 4) false))) := by kernel_rfl

def xm15 : List AV → Option (Bool × AV)
  | [.int .i64 t] => some (true, .int .i64 (nlV t))
  | _ => none
def xm28 : List AV → Option (Bool × AV)
  | [.int .i64 t] => some (true, .bool (intV t))
  | _ => none
def xm32 : List AV → Option (Bool × AV)
  | [.int .i64 t] => some (true, .int .i64 (ltV t))
  | _ => none
def xm55 : List AV → Option (Bool × AV)
  | [.int .i64 t] => some (true, .int .i64 (bitsOf t))
  | _ => none
def xm58 : List AV → Option (Bool × AV)
  | [.int .i64 t] => some (true, .bool (widV t))
  | _ => none
theorem nat15 (t : Int) : exFn (gX {}) Tryd.f15 [.int .i64 t] = some (true, .int .i64 (nlV t)) := by
  rw [xf15]
  rcases typ t with h | h | h | h | h | h | h | h
  rotate_right
  · rw [h.e 1 (by omega), h.e 2 (by omega), h.e 3 (by omega), h.e 4 (by omega), h.e 5 (by omega), h.e 6 (by omega), h.e 7 (by omega), h.nl]; rfl
  all_goals (subst h; rfl)
theorem bool1 (a b : Bool) : (sAnd true (sIf true (sAnd (sAnd true (sAnd true (sAnd true (sAnd (sOr (sNot a) true) (sAnd (sOr (sNot a) (sAnd (sAnd a true) true)) (sAnd (sAnd true (sIf a a true)) true)))))) true) true)) = true := by cases a <;> rfl
theorem nat28 (t : Int) : exFn (gX {}) Tryd.f28 [.int .i64 t] = some (true, .bool (intV t)) := by
  rw [xf28, bool1 (sLe 1 t) true]; rfl
theorem nat33 (t : Int) : exFn (gX {}) Tryd.f33 [.int .i64 t] = some (true, .bool (intV t)) := by
  rw [xf33, bool1 (sLe 1 t) true]; rfl
theorem nat58 (t : Int) : exFn (gX {}) Tryd.f58 [.int .i64 t] = some (true, .bool (widV t)) := by
  rw [xf58, bool1 (sLe 2 t) true]; rfl
theorem nat32 (t : Int) : exFn (gX {}) Tryd.f32 [.int .i64 t] = some (true, .int .i64 (ltV t)) := by
  rw [xf32]
  rcases typ t with h | h | h | h | h | h | h | h
  rotate_right
  · rw [h.e 5 (by omega), h.e 6 (by omega), h.e 7 (by omega), h.lt]; rfl
  all_goals (subst h; rfl)
theorem nat34 (t : Int) : exFn (gX {}) Tryd.f34 [.int .i64 t] = some (true, .int .i64 (ltV t)) := by
  rw [xf34]
  rcases typ t with h | h | h | h | h | h | h | h
  rotate_right
  · rw [h.e 5 (by omega), h.e 6 (by omega), h.e 7 (by omega), h.lt]; rfl
  all_goals (subst h; rfl)
theorem nat46 (t : Int) : exFn (gX {}) Tryd.f46 [.int .i64 t] = some (true, .int .i64 (bitsOf t)) := by
  rw [xf46]
  rcases typ t with h | h | h | h | h | h | h | h
  rotate_right
  · rw [h.e 1 (by omega), h.e 2 (by omega), h.e 3 (by omega), h.e 4 (by omega), h.bits]; rfl
  all_goals (subst h; rfl)
theorem nat55 (t : Int) : exFn (gX {}) Tryd.f55 [.int .i64 t] = some (true, .int .i64 (bitsOf t)) := by
  rw [xf55]
  by_cases h0 : t = 0
  · subst h0; rfl
  rcases typ t with h | h | h | h | h | h | h | h
  rotate_right
  · rw [h.bits]
    rcases h.h with h | h
    · rw [sLt_true (show t < 0 by omega)]; rfl
    · rw [sLt_false (show ¬ t < 0 by omega), sLe_true (show (5 : Int) ≤ t by omega)]; rfl
  all_goals (subst h; rfl)
section
variable (hm : Tryd.prog.follows .mixedOrders = true)
include hm
theorem xk15 : KOk E0 15 xm15 := XOkP.nil.read hm Tryd.func15 (ent Tryd.func15 (by decide) (by rfl)) {} (by
  intro xs r h
  unfold xm15 at h
  split at h
  · cases h; exact nat15 _
  · cases h)
theorem xk28 : KOk E0 28 xm28 := XOkP.nil.read hm Tryd.func28 (ent Tryd.func28 (by decide) (by rfl)) {} (by
  intro xs r h
  unfold xm28 at h
  split at h
  · cases h; exact nat28 _
  · cases h)
theorem xk33 : KOk E0 33 xm28 := XOkP.nil.read hm Tryd.func33 (ent Tryd.func33 (by decide) (by rfl)) {} (by
  intro xs r h
  unfold xm28 at h
  split at h
  · cases h; exact nat33 _
  · cases h)
theorem xk32 : KOk E0 32 xm32 := XOkP.nil.read hm Tryd.func32 (ent Tryd.func32 (by decide) (by rfl)) {} (by
  intro xs r h
  unfold xm32 at h
  split at h
  · cases h; exact nat32 _
  · cases h)
theorem xk34 : KOk E0 34 xm32 := XOkP.nil.read hm Tryd.func34 (ent Tryd.func34 (by decide) (by rfl)) {} (by
  intro xs r h
  unfold xm32 at h
  split at h
  · cases h; exact nat34 _
  · cases h)
theorem xk55 : KOk E0 55 xm55 := XOkP.nil.read hm Tryd.func55 (ent Tryd.func55 (by decide) (by rfl)) {} (by
  intro xs r h
  unfold xm55 at h
  split at h
  · cases h; exact nat55 _
  · cases h)
theorem xk46 : KOk E0 46 xm55 := XOkP.nil.read hm Tryd.func46 (ent Tryd.func46 (by decide) (by rfl)) {} (by
  intro xs r h
  unfold xm55 at h
  split at h
  · cases h; exact nat46 _
  · cases h)
theorem xk58 : KOk E0 58 xm58 := XOkP.nil.read hm Tryd.func58 (ent Tryd.func58 (by decide) (by rfl)) {} (by
  intro xs r h
  unfold xm58 at h
  split at h
  · cases h; exact nat58 _
  · cases h)
noncomputable def a1 : XTab := { k := [(15, xm15), (28, xm28), (33, xm28), (32, xm32), (34, xm32), (55, xm55), (46, xm55), (58, xm58)] }
theorem ak1 : XOk a1 := ((((((((XOkP.nil.consK (xk58 hm)).consK (xk46 hm)).consK (xk55 hm)).consK (xk34 hm)).consK (xk32 hm)).consK (xk33 hm)).consK (xk28 hm)).consK (xk15 hm))
end
end Go.Proofs.YtnjofponcdcfcaaDoor
/- Wrapped integers, their lowest bits. No conditions. -/
set_option linter.all false
namespace Go.Proofs.YtnjofponcdcfcaaDoor
open Go Ab
set_option maxRecDepth 100000
def okImm (n : Int) : Bool := decide (-9223372036854775808 ≤ n ∧ n ≤ 9223372036854775807)
def uV (t n : Int) : Int := if bitsOf t = 0 then 0 else if bitsOf t = 1 then n % 2 else if bitsOf t = 8 then n % 256 else if bitsOf t = 32 then n % 4294967296 else n % 18446744073709551616
def wV (t n : Int) : Int := if bitsOf t = 0 then 0 else if bitsOf t = 1 then n % 2 else if bitsOf t = 8 then (n + 128) % 256 - 128 else if bitsOf t = 32 then (n + 2147483648) % 4294967296 - 2147483648 else (n + 9223372036854775808) % 18446744073709551616 - 9223372036854775808
def araV (t : Int) : Bool := sIf (sIf (widV t) true (sEq t 6)) true (sEq t 7)
theorem wrap_u64 (n : Int) : IntKind.wrap .u64 n = n % 18446744073709551616 := by
  unfold IntKind.wrap
  simp [IntKind.signed, IntKind.bits]
theorem wrap_i (n : Int) : IntKind.wrap .i64 n = (n + 9223372036854775808) % 18446744073709551616 - 9223372036854775808 := by
  unfold IntKind.wrap
  simp [IntKind.signed, IntKind.bits]
  try omega
theorem fdiv_pow (a : Int) {k : Int} (h : 0 ≤ k) : a.fdiv k = a / k := Int.fdiv_eq_ediv_of_nonneg a h
theorem tmod_pos {a k : Int} (h : 0 ≤ a) : a.tmod k = a % k := Int.tmod_eq_emod_of_nonneg h
theorem and_one (n : Int) : ((BitVec.ofInt 64 n &&& BitVec.ofInt 64 1).toNat : Int) = n % 2 := by
  rw [BitVec.toNat_and, BitVec.toNat_ofInt, BitVec.toNat_ofInt]
  have e : (1 % ((2 ^ 64 : Nat) : Int)).toNat = 1 := by decide
  rw [e, Nat.and_one_is_mod]
  have : ((2 ^ 64 : Nat) : Int) = 18446744073709551616 := rfl
  omega
theorem xf16 (t : Int) : exFn (gX a1) Tryd.f16 [AV.int IntKind.i64 t] = (
 let q0 : Bool := sIf (intV t) true (sEq t 5);
  let q1 : Bool := (Tg.mix q0 Tg.r Tg.n).isN;
  let q2 : Bool := (Tg.mix (sEq t 6) Tg.r Tg.n).isN;
  let q3 : Bool := (Tg.mix (sEq t 7) Tg.r Tg.n).isN;
  some
  (sAnd true
      (sIf true
        (sAnd
          (sAnd
            (sAnd true
              (sAnd true
                (sAnd true
                  (sAnd (sOr (sNot (sNot (intV t))) true)
                    (sAnd (sOr (sNot (sNot (intV t))) (sAnd (sAnd (sNot (intV t)) true) true))
                      (sAnd (sAnd true (sIf (intV t) true (sNot (intV t)))) true))))))
            (sIf true (sAnd true (sIf q0 true true)) true))
          (sIf q1
            (sAnd (sAnd true (sIf true (sAnd true (sIf (sEq t 6) true true)) true))
              (sIf q2 (sAnd (sAnd true (sIf true (sAnd true (sIf (sEq t 7) true true)) true)) (sIf q3 true true)) true))
            true))
        true),
    AV.int IntKind.i64 (sIf q1 (sIf q2 (sIf q3 0 4) 2) 1))) := by kernel_rfl

theorem xf57 (t : Int) : exFn (gX a1) Tryd.f57 [AV.int IntKind.i64 t] = (
 let q0 : Bool := sIf (widV t) true (sEq t 6);
  let q1 : Bool := sNot q0;
  let q2 : Bool := sNot q1;
  some
  (sAnd true
      (sIf true
        (sAnd
          (sAnd true
            (sAnd true
              (sAnd true
                (sAnd (sOr (sNot (sNot (widV t))) true)
                  (sAnd (sOr (sNot (sNot (widV t))) (sAnd (sAnd (sNot (widV t)) true) true))
                    (sAnd (sAnd true (sIf (widV t) true (sNot (widV t))))
                      (sAnd true
                        (sAnd (sOr q2 true)
                          (sAnd (sOr q2 (sAnd (sAnd q1 true) true)) (sAnd (sAnd true (sIf q0 true q1)) true))))))))))
          true)
        true),
    AV.bool (sIf q0 true (sEq t 7)))) := by kernel_rfl

theorem xf31 (t : Int) (n : Int) : exFn (gX a1) Tryd.f31 [AV.int IntKind.i64 t, AV.int IntKind.i64 n] = (
 let q0 : Int := IntKind.i64.wrap (64 - bitsOf t);
  let q1 : Bool := sAnd true (sLe 0 q0);
  let q2 : Int := 2 ^ min q0.toNat 64;
  some
  (sAnd true
      (sIf true
        (sAnd true
          (sIf true
            (sAnd true
              (sIf true
                (sAnd true
                  (sIf true
                    (sAnd true
                      (sIf (sEq (bitsOf t) 0) true
                        (sAnd true
                          (sIf true
                            (sAnd true
                              (sIf (sEq (bitsOf t) 1) true
                                (sAnd
                                  (sAnd true (sAnd true (sAnd true (sAnd q1 (sAnd true (sAnd true (sAnd q1 true)))))))
                                  true)))
                            true))))
                    true))
                true))
            true))
        true),
    AV.int IntKind.i64
      (sIf (sEq (bitsOf t) 0) 0
        (sIf (sEq (bitsOf t) 1) (IntKind.i64.wrap ↑(BitVec.ofInt 64 n &&& BitVec.ofInt 64 1).toNat)
          ((IntKind.i64.wrap (n * q2)).fdiv q2))))) := by kernel_rfl

theorem xf45 (t : Int) (n : Int) : exFn (gX a1) Tryd.f45 [AV.int IntKind.i64 t, AV.int IntKind.i64 n] = (
 let q0 : Bool := (Tg.block 0 (Tg.mix (sEq (bitsOf t) 1) Tg.r (Tg.mix (sEq (bitsOf t) 8) Tg.r (Tg.mix (sEq (bitsOf t) 32) Tg.r (Tg.mix (sEq (bitsOf t) 64) Tg.r Tg.n))))).isN;
  some
  (sAnd true
      (sIf true
        (sAnd true
          (sIf true
            (sAnd
              (sAnd true
                (sIf true
                  (sAnd true
                    (sIf true
                      (sAnd true
                        (sIf (sEq (bitsOf t) 1) true
                          (sAnd true
                            (sIf true
                              (sAnd true
                                (sIf (sEq (bitsOf t) 8) true
                                  (sAnd true
                                    (sIf true
                                      (sAnd true
                                        (sIf (sEq (bitsOf t) 32) true
                                          (sAnd true (sIf true (sAnd true (sIf (sEq (bitsOf t) 64) true true)) true))))
                                      true))))
                              true))))
                      true))
                  true))
              (sIf q0 true true))
            true))
        true),
    AV.int IntKind.u64
      (sIf q0 0
        (sIf (sEq (bitsOf t) 1) ((IntKind.u64.wrap n).tmod 2)
          (sIf (sEq (bitsOf t) 8) ((IntKind.u64.wrap n).tmod 256)
            (sIf (sEq (bitsOf t) 32) ((IntKind.u64.wrap n).tmod 4294967296) (IntKind.u64.wrap n))))))) := by kernel_rfl

theorem nat16 (t : Int) : exFn (gX a1) Tryd.f16 [.int .i64 t] = some (true, .int .i64 (nlV t)) := by
  rw [xf16]
  rcases typ t with h | h | h | h | h | h | h | h
  rotate_right
  · rw [show intV t = false from h.g, h.e 5 (by omega), h.e 6 (by omega), h.e 7 (by omega), h.nl]; rfl
  all_goals (subst h; rfl)
theorem nat57 (t : Int) : exFn (gX a1) Tryd.f57 [.int .i64 t] = some (true, .bool (araV t)) := by
  rw [xf57]
  unfold araV
  cases widV t <;> cases sEq t 6 <;> rfl
theorem nat31 (t n : Int) (h : okImm n = true) : exFn (gX a1) Tryd.f31 [.int .i64 t, .int .i64 n] = some (true, .int .i64 (wV t n)) := by
  have h := of_decide_eq_true h
  rw [xf31]
  unfold wV
  rcases bits_cases t with b | b | b | b | b <;> rw [b]
  · rfl
  · have e : IntKind.i64.wrap ((BitVec.ofInt 64 n &&& BitVec.ofInt 64 1).toNat : Int) = n % 2 := by rw [and_one, wrap_i]; omega
    simp only [e]
    rfl
  · have e : (IntKind.i64.wrap (n * 2 ^ min (IntKind.i64.wrap (64 - 8)).toNat 64)).fdiv (2 ^ min (IntKind.i64.wrap (64 - 8)).toNat 64) = (n + 128) % 256 - 128 := by
      rw [show min (IntKind.i64.wrap (64 - 8)).toNat 64 = 56 from rfl, show (2 : Int) ^ 56 = 72057594037927936 from rfl, fdiv_pow _ (by decide), wrap_i]
      omega
    simp only [e]
    rfl
  · have e : (IntKind.i64.wrap (n * 2 ^ min (IntKind.i64.wrap (64 - 32)).toNat 64)).fdiv (2 ^ min (IntKind.i64.wrap (64 - 32)).toNat 64) = (n + 2147483648) % 4294967296 - 2147483648 := by
      rw [show min (IntKind.i64.wrap (64 - 32)).toNat 64 = 32 from rfl, show (2 : Int) ^ 32 = 4294967296 from rfl, fdiv_pow _ (by decide), wrap_i]
      omega
    simp only [e]
    rfl
  · have e : (IntKind.i64.wrap (n * 2 ^ min (IntKind.i64.wrap (64 - 64)).toNat 64)).fdiv (2 ^ min (IntKind.i64.wrap (64 - 64)).toNat 64) = (n + 9223372036854775808) % 18446744073709551616 - 9223372036854775808 := by
      rw [show min (IntKind.i64.wrap (64 - 64)).toNat 64 = 0 from rfl, show (2 : Int) ^ 0 = 1 from rfl, fdiv_pow _ (by decide), wrap_i]
      omega
    simp only [e]
    rfl
theorem nat45 (t n : Int) : exFn (gX a1) Tryd.f45 [.int .i64 t, .int .i64 n] = some (true, .int .u64 (uV t n)) := by
  rw [xf45]
  unfold uV
  have hu : 0 ≤ n % 18446744073709551616 := Int.emod_nonneg _ (by decide)
  have e0 : IntKind.u64.wrap n = n % 18446744073709551616 := wrap_u64 n
  have e1 : (n % 18446744073709551616).tmod 2 = n % 2 := by rw [tmod_pos hu]; omega
  have e2 : (n % 18446744073709551616).tmod 256 = n % 256 := by rw [tmod_pos hu]; omega
  have e3 : (n % 18446744073709551616).tmod 4294967296 = n % 4294967296 := by rw [tmod_pos hu]; omega
  simp only [e0, e1, e2, e3]
  rcases bits_cases t with b | b | b | b | b <;> rw [b] <;> rfl
def xm57 : List AV → Option (Bool × AV)
  | [.int .i64 t] => some (true, .bool (araV t))
  | _ => none
def xm31 : List AV → Option (Bool × AV)
  | [.int .i64 t, .int .i64 n] => some (okImm n, .int .i64 (wV t n))
  | _ => none
def xm45 : List AV → Option (Bool × AV)
  | [.int .i64 t, .int .i64 n] => some (true, .int .u64 (uV t n))
  | _ => none
section
variable (hm : Tryd.prog.follows .mixedOrders = true)
include hm
theorem xk16 : KOk E0 16 xm15 := (ak1 hm).read hm Tryd.func16 (ent Tryd.func16 (by decide) (by rfl)) {} (by
  intro xs r h
  unfold xm15 at h
  split at h
  · cases h; exact nat16 _
  · cases h)
theorem xk57 : KOk E0 57 xm57 := (ak1 hm).read hm Tryd.func57 (ent Tryd.func57 (by decide) (by rfl)) {} (by
  intro xs r h
  unfold xm57 at h
  split at h
  · cases h; exact nat57 _
  · cases h)
theorem xk31 : KOk E0 31 xm31 := (ak1 hm).read hm Tryd.func31 (ent Tryd.func31 (by decide) (by rfl)) {} (by
  intro xs r h
  unfold xm31 at h
  split at h
  · simp only [Option.some.injEq, Prod.mk.injEq] at h
    obtain ⟨h, rfl⟩ := h
    exact nat31 _ _ h
  · cases h)
theorem xk45 : KOk E0 45 xm45 := (ak1 hm).read hm Tryd.func45 (ent Tryd.func45 (by decide) (by rfl)) {} (by
  intro xs r h
  unfold xm45 at h
  split at h
  · cases h; exact nat45 _ _
  · cases h)
end
noncomputable def a2 : XTab := { a1 with k := (16, xm15) :: (57, xm57) :: (31, xm31) :: (45, xm45) :: a1.k }
theorem ak2 (hm : Tryd.prog.follows .mixedOrders = true) : XOk a2 := (((((ak1 hm).consK (xk45 hm)).consK (xk31 hm)).consK (xk57 hm)).consK (xk16 hm))
end Go.Proofs.YtnjofponcdcfcaaDoor
