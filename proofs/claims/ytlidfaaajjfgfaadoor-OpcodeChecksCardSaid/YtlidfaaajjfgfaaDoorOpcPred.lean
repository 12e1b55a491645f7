/- The predicates of types, program and reference, in natural form. No conditions. -/
import Derived.Test.YtlidfaaajjfgfaaDoorOpcTab2
set_option linter.all false
namespace Go.Proofs.YtlidfaaajjfgfaaDoor
open Go Ab
set_option maxRecDepth 100000
def integ (t : Int) : Bool := decide (1 ≤ t ∧ t ≤ 4)
def wideT (t : Int) : Bool := decide (2 ≤ t ∧ t ≤ 4)
def anyT (t : Int) : Bool := decide (1 ≤ t ∧ t ≤ 7)
def vecT (t : Int) : Bool := decide (t = 6 ∨ t = 7)
def cellT (t : Int) : Bool := decide (2 ≤ t ∧ t ≤ 7)
def bitsOf (t : Int) : Int := if t = 1 then 1 else if t = 2 then 8 else if t = 3 then 32 else if t = 4 then 64 else 0
theorem nf40 (t : Int) : exFn (gN uA) Tryd.f40 [AV.int IntKind.i64 t] = some (sAnd (sAnd (sOr (sNot (sLe 1 t)) true) (sAnd (sOr (sNot (sLe 1 t)) (sAnd (sAnd (sLe 1 t) true) true)) (sAnd (sIf (sLe 1 t) (sLe 1 t) true) true))) true, AV.bool (sIf (sLe 1 t) (sLe t 4) false)) := by kernel_rfl
theorem nat40 (t : Int) : exFn (gN uA) Tryd.f40 [.int .i64 t] = some (true, .bool (integ t)) := by
  rw [nf40]
  by_cases h1 : (1 : Int) ≤ t <;> by_cases h2 : t ≤ 4 <;> simp [sAnd, sOr, sNot, sIf, sLe, integ, h1, h2]
def n40 : List AV → Option (Bool × AV)
  | [.int .i64 t] => some (true, .bool (integ t))
  | _ => none
noncomputable def b40 : Tab := (40, n40) :: uA
theorem bk40 (hm : Tryd.prog.follows .mixedOrders = true) : TabOk b40 := (ukA hm).cons (TabOk.readW (ukA hm) hm Tryd.func40 (by decide) (by rfl) (by
  intro xs r h
  unfold n40 at h
  split at h
  · cases h; exact nat40 _
  · cases h))
theorem nf41 (t : Int) : exFn (gN uA) Tryd.f41 [AV.int IntKind.i64 t] = some (sAnd (sAnd (sOr (sNot (sLe 1 t)) true) (sAnd (sOr (sNot (sLe 1 t)) (sAnd (sAnd (sLe 1 t) true) true)) (sAnd (sIf (sLe 1 t) (sLe 1 t) true) true))) true, AV.bool (sIf (sLe 1 t) (sLe t 7) false)) := by kernel_rfl
theorem nat41 (t : Int) : exFn (gN uA) Tryd.f41 [.int .i64 t] = some (true, .bool (anyT t)) := by
  rw [nf41]
  by_cases h1 : (1 : Int) ≤ t <;> by_cases h2 : t ≤ 7 <;> simp [sAnd, sOr, sNot, sIf, sLe, anyT, h1, h2]
def n41 : List AV → Option (Bool × AV)
  | [.int .i64 t] => some (true, .bool (anyT t))
  | _ => none
noncomputable def b41 : Tab := (41, n41) :: b40
theorem bk41 (hm : Tryd.prog.follows .mixedOrders = true) : TabOk b41 := (bk40 hm).cons (TabOk.readW (ukA hm) hm Tryd.func41 (by decide) (by rfl) (by
  intro xs r h
  unfold n41 at h
  split at h
  · cases h; exact nat41 _
  · cases h))
theorem nf43 (t : Int) : exFn (gN uA) Tryd.f43 [AV.int IntKind.i64 t] = some (sAnd (sAnd (sOr (sNot (sLe 2 t)) true) (sAnd (sOr (sNot (sLe 2 t)) (sAnd (sAnd (sLe 2 t) true) true)) (sAnd (sIf (sLe 2 t) (sLe 2 t) true) true))) true, AV.bool (sIf (sLe 2 t) (sLe t 4) false)) := by kernel_rfl
theorem nat43 (t : Int) : exFn (gN uA) Tryd.f43 [.int .i64 t] = some (true, .bool (wideT t)) := by
  rw [nf43]
  by_cases h1 : (2 : Int) ≤ t <;> by_cases h2 : t ≤ 4 <;> simp [sAnd, sOr, sNot, sIf, sLe, wideT, h1, h2]
def n43 : List AV → Option (Bool × AV)
  | [.int .i64 t] => some (true, .bool (wideT t))
  | _ => none
noncomputable def b43 : Tab := (43, n43) :: b41
theorem bk43 (hm : Tryd.prog.follows .mixedOrders = true) : TabOk b43 := (bk41 hm).cons (TabOk.readW (ukA hm) hm Tryd.func43 (by decide) (by rfl) (by
  intro xs r h
  unfold n43 at h
  split at h
  · cases h; exact nat43 _
  · cases h))
theorem nf44 (t : Int) : exFn (gN uA) Tryd.f44 [AV.int IntKind.i64 t] = some (sAnd (sAnd (sOr (sNot (sNot (sEq t 6))) true) (sAnd (sOr (sNot (sNot (sEq t 6))) (sAnd (sAnd (sNot (sEq t 6)) true) true)) (sAnd (sIf (sEq t 6) true (sNot (sEq t 6))) true))) true, AV.bool (sIf (sEq t 6) true (sEq t 7))) := by kernel_rfl
theorem nat44 (t : Int) : exFn (gN uA) Tryd.f44 [.int .i64 t] = some (true, .bool (vecT t)) := by
  rw [nf44]
  by_cases h1 : t = 6
  · subst h1; rfl
  by_cases h2 : t = 7
  · subst h2; rfl
  have e1 : (t == 6) = false := by simpa using h1
  have e2 : (t == 7) = false := by simpa using h2
  simp [sAnd, sOr, sNot, sIf, sEq, vecT, h1, h2, e1, e2]
def n44 : List AV → Option (Bool × AV)
  | [.int .i64 t] => some (true, .bool (vecT t))
  | _ => none
noncomputable def b44 : Tab := (44, n44) :: b43
theorem bk44 (hm : Tryd.prog.follows .mixedOrders = true) : TabOk b44 := (bk43 hm).cons (TabOk.readW (ukA hm) hm Tryd.func44 (by decide) (by rfl) (by
  intro xs r h
  unfold n44 at h
  split at h
  · cases h; exact nat44 _
  · cases h))
theorem nf45 (t : Int) : exFn (gN uA) Tryd.f45 [AV.int IntKind.i64 t] = some (true, AV.bool (sLt 0 (Prod.snd (accOf t)))) := by kernel_rfl
theorem nat45 (t : Int) : exFn (gN uA) Tryd.f45 [.int .i64 t] = some (true, .bool (cellT t)) := by
  rw [nf45]
  by_cases h : 2 ≤ t ∧ t ≤ 7
  · have : t = 2 ∨ t = 3 ∨ t = 4 ∨ t = 5 ∨ t = 6 ∨ t = 7 := by omega
    rcases this with rfl | rfl | rfl | rfl | rfl | rfl <;> rfl
  · have h2 : ¬ t = 2 := by omega
    have h3 : ¬ t = 3 := by omega
    have h4 : ¬ t = 4 := by omega
    have h5 : ¬ t = 5 := by omega
    have h6 : ¬ t = 6 := by omega
    have h7 : ¬ t = 7 := by omega
    simp only [accOf, cellT, h2, h3, h4, h5, h6, h7, h, sLt]
    simp
def n45 : List AV → Option (Bool × AV)
  | [.int .i64 t] => some (true, .bool (cellT t))
  | _ => none
noncomputable def b45 : Tab := (45, n45) :: b44
theorem bk45 (hm : Tryd.prog.follows .mixedOrders = true) : TabOk b45 := (bk44 hm).cons (TabOk.readW (ukA hm) hm Tryd.func45 (by decide) (by rfl) (by
  intro xs r h
  unfold n45 at h
  split at h
  · cases h; exact nat45 _
  · cases h))
theorem nf49 (t : Int) : exFn (gN uA) Tryd.f49 [AV.int IntKind.i64 t] = some (sAnd (sAnd (sOr (sNot (sLe 1 t)) true) (sAnd (sOr (sNot (sLe 1 t)) (sAnd (sAnd (sLe 1 t) true) true)) (sAnd (sIf (sLe 1 t) (sLe 1 t) true) true))) true, AV.bool (sIf (sLe 1 t) (sLe t 7) false)) := by kernel_rfl
theorem nat49 (t : Int) : exFn (gN uA) Tryd.f49 [.int .i64 t] = some (true, .bool (anyT t)) := by
  rw [nf49]
  by_cases h1 : (1 : Int) ≤ t <;> by_cases h2 : t ≤ 7 <;> simp [sAnd, sOr, sNot, sIf, sLe, anyT, h1, h2]
def n49 : List AV → Option (Bool × AV)
  | [.int .i64 t] => some (true, .bool (anyT t))
  | _ => none
noncomputable def b49 : Tab := (49, n49) :: b45
theorem bk49 (hm : Tryd.prog.follows .mixedOrders = true) : TabOk b49 := (bk45 hm).cons (TabOk.readW (ukA hm) hm Tryd.func49 (by decide) (by rfl) (by
  intro xs r h
  unfold n49 at h
  split at h
  · cases h; exact nat49 _
  · cases h))
theorem nf50 (t : Int) : exFn (gN uA) Tryd.f50 [AV.int IntKind.i64 t] = some (sAnd (sAnd (sOr (sNot (sNot (sEq t 2))) true) (sAnd (sOr (sNot (sNot (sEq t 2))) (sAnd (sAnd (sNot (sEq t 2)) true) true)) (sAnd (sIf (sEq t 2) true (sNot (sEq t 2))) (sAnd (sOr (sNot (sNot (sIf (sEq t 2) true (sEq t 3)))) true) (sAnd (sOr (sNot (sNot (sIf (sEq t 2) true (sEq t 3)))) (sAnd (sAnd (sNot (sIf (sEq t 2) true (sEq t 3))) true) true)) (sAnd (sIf (sIf (sEq t 2) true (sEq t 3)) true (sNot (sIf (sEq t 2) true (sEq t 3)))) true)))))) true, AV.bool (sIf (sIf (sEq t 2) true (sEq t 3)) true (sEq t 4))) := by kernel_rfl
theorem nat50 (t : Int) : exFn (gN uA) Tryd.f50 [.int .i64 t] = some (true, .bool (wideT t)) := by
  rw [nf50]
  by_cases h2 : t = 2
  · subst h2; rfl
  by_cases h3 : t = 3
  · subst h3; rfl
  by_cases h4 : t = 4
  · subst h4; rfl
  have e2 : (t == 2) = false := by simpa using h2
  have e3 : (t == 3) = false := by simpa using h3
  have e4 : (t == 4) = false := by simpa using h4
  have hn : ¬ (2 ≤ t ∧ t ≤ 4) := by omega
  simp only [sAnd, sOr, sNot, sIf, sEq, wideT, e2, e3, e4, decide_eq_false hn]
  rfl
def n50 : List AV → Option (Bool × AV)
  | [.int .i64 t] => some (true, .bool (wideT t))
  | _ => none
noncomputable def b50 : Tab := (50, n50) :: b49
theorem bk50 (hm : Tryd.prog.follows .mixedOrders = true) : TabOk b50 := (bk49 hm).cons (TabOk.readW (ukA hm) hm Tryd.func50 (by decide) (by rfl) (by
  intro xs r h
  unfold n50 at h
  split at h
  · cases h; exact nat50 _
  · cases h))
theorem nf48 (t : Int) : exFn (gN b50) Tryd.f48 [AV.int IntKind.i64 t] = some (sAnd (sAnd (sOr (sNot (sNot (sEq t 1))) true) (sAnd (sOr (sNot (sNot (sEq t 1))) (sAnd (sAnd (sNot (sEq t 1)) true) true)) (sAnd (sIf (sEq t 1) true (sNot (sEq t 1))) true))) true, AV.bool (sIf (sEq t 1) true (wideT t))) := by kernel_rfl
theorem nat48 (t : Int) : exFn (gN b50) Tryd.f48 [.int .i64 t] = some (true, .bool (integ t)) := by
  rw [nf48]
  by_cases h1 : t = 1
  · subst h1; rfl
  by_cases h2 : t = 2
  · subst h2; rfl
  by_cases h3 : t = 3
  · subst h3; rfl
  by_cases h4 : t = 4
  · subst h4; rfl
  have e1 : (t == 1) = false := by simpa using h1
  have e2 : (t == 2) = false := by simpa using h2
  have e3 : (t == 3) = false := by simpa using h3
  have e4 : (t == 4) = false := by simpa using h4
  have hn : ¬ (1 ≤ t ∧ t ≤ 4) := by omega
  have hw : wideT t = false := decide_eq_false (by omega)
  simp only [sAnd, sOr, sNot, sIf, sEq, integ, hw, e1, decide_eq_false hn]
  rfl
def n48 : List AV → Option (Bool × AV)
  | [.int .i64 t] => some (true, .bool (integ t))
  | _ => none
noncomputable def b48 : Tab := (48, n48) :: b50
theorem bk48 (hm : Tryd.prog.follows .mixedOrders = true) : TabOk b48 := (bk50 hm).cons (TabOk.readW (bk50 hm) hm Tryd.func48 (by decide) (by rfl) (by
  intro xs r h
  unfold n48 at h
  split at h
  · cases h; exact nat48 _
  · cases h))
theorem nf51 (t : Int) : exFn (gN uA) Tryd.f51 [AV.int IntKind.i64 t] = some (sAnd (sIf (sEq t 1) true (sIf (sEq t 2) true (sIf (sEq t 3) true (sIf (sEq t 4) true true)))) (sIf (Tg.isN (Tg.block 0 (Tg.mix (sEq t 1) Tg.r (Tg.mix (sEq t 2) Tg.r (Tg.mix (sEq t 3) Tg.r (Tg.mix (sEq t 4) Tg.r Tg.n)))))) true true), AV.int IntKind.i64 (sIf (Tg.isN (Tg.block 0 (Tg.mix (sEq t 1) Tg.r (Tg.mix (sEq t 2) Tg.r (Tg.mix (sEq t 3) Tg.r (Tg.mix (sEq t 4) Tg.r Tg.n)))))) 0 (sIf (sEq t 1) 1 (sIf (sEq t 2) 8 (sIf (sEq t 3) 32 64))))) := by kernel_rfl
theorem nat51 (t : Int) : exFn (gN uA) Tryd.f51 [.int .i64 t] = some (true, .int .i64 (bitsOf t)) := by
  rw [nf51]
  by_cases h1 : t = 1
  · subst h1; rfl
  by_cases h2 : t = 2
  · subst h2; rfl
  by_cases h3 : t = 3
  · subst h3; rfl
  by_cases h4 : t = 4
  · subst h4; rfl
  have e1 : (t == 1) = false := by simpa using h1
  have e2 : (t == 2) = false := by simpa using h2
  have e3 : (t == 3) = false := by simpa using h3
  have e4 : (t == 4) = false := by simpa using h4
  simp only [sAnd, sIf, sEq, bitsOf, e1, e2, e3, e4, if_neg h1, if_neg h2, if_neg h3, if_neg h4]
  rfl
def n51 : List AV → Option (Bool × AV)
  | [.int .i64 t] => some (true, .int .i64 (bitsOf t))
  | _ => none
noncomputable def b51 : Tab := (51, n51) :: b48
theorem bk51 (hm : Tryd.prog.follows .mixedOrders = true) : TabOk b51 := (bk48 hm).cons (TabOk.readW (ukA hm) hm Tryd.func51 (by decide) (by rfl) (by
  intro xs r h
  unfold n51 at h
  split at h
  · cases h; exact nat51 _
  · cases h))
theorem nf53 (t : Int) : exFn (gN uA) Tryd.f53 [AV.int IntKind.i64 t] = some (sAnd (sAnd (sAnd (sOr (sNot (sNot (sLt t 0))) true) (sAnd (sOr (sNot (sNot (sLt t 0))) (sAnd (sAnd (sNot (sLt t 0)) true) true)) (sAnd (sIf (sLt t 0) true (sNot (sLt t 0))) true))) (sIf (sIf (sLt t 0) true (sLe 5 t)) true true)) (sIf (Tg.isN (Tg.mix (sIf (sLt t 0) true (sLe 5 t)) Tg.r Tg.n)) (sAnd (sAnd (sAnd (sLe 0 t) (sLt t ↑5)) true) true) true), AV.int IntKind.i64 (sIf (Tg.isN (Tg.mix (sIf (sLt t 0) true (sLe 5 t)) Tg.r Tg.n)) (List.getD [0, 1, 8, 32, 64] (Int.toNat t) (Sh.dflt (Sh.int IntKind.i64))) 0)) := by kernel_rfl
theorem nat53 (t : Int) : exFn (gN uA) Tryd.f53 [.int .i64 t] = some (true, .int .i64 (bitsOf t)) := by
  rw [nf53]
  by_cases h0 : t < 0
  · have h1 : ¬ t = 1 := by omega
    have h2 : ¬ t = 2 := by omega
    have h3 : ¬ t = 3 := by omega
    have h4 : ¬ t = 4 := by omega
    simp only [sAnd, sOr, sNot, sIf, sLt, decide_eq_true h0, bitsOf, if_neg h1, if_neg h2, if_neg h3, if_neg h4]
    rfl
  by_cases h5 : 5 ≤ t
  · have h1 : ¬ t = 1 := by omega
    have h2 : ¬ t = 2 := by omega
    have h3 : ¬ t = 3 := by omega
    have h4 : ¬ t = 4 := by omega
    simp only [sAnd, sOr, sNot, sIf, sLt, sLe, decide_eq_false h0, decide_eq_true h5, bitsOf, if_neg h1, if_neg h2, if_neg h3, if_neg h4]
    rfl
  have : t = 0 ∨ t = 1 ∨ t = 2 ∨ t = 3 ∨ t = 4 := by omega
  rcases this with rfl | rfl | rfl | rfl | rfl <;> rfl
def n53 : List AV → Option (Bool × AV)
  | [.int .i64 t] => some (true, .int .i64 (bitsOf t))
  | _ => none
noncomputable def b53 : Tab := (53, n53) :: b51
theorem bk53 (hm : Tryd.prog.follows .mixedOrders = true) : TabOk b53 := (bk51 hm).cons (TabOk.readW (ukA hm) hm Tryd.func53 (by decide) (by rfl) (by
  intro xs r h
  unfold n53 at h
  split at h
  · cases h; exact nat53 _
  · cases h))
end Go.Proofs.YtlidfaaajjfgfaaDoor
