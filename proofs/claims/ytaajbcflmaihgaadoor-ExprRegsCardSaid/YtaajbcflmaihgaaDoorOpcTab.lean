/- The natural forms as contracts. No conditions. -/
import Derived.Test.YtaajbcflmaihgaaDoorOpcNat
set_option linter.all false
namespace Go.Proofs.YtaajbcflmaihgaaDoor
open Go Ab
def n13 : List AV → Option (Bool × AV)
  | [.int .i64 op] => some (true, .str (nameOf op))
  | _ => none
noncomputable def u13 : Tab := (35, n13) :: t29
theorem uk13 (hm : Tryd.prog.follows .mixedOrders = true) : TabOk u13 := (ok29 hm).cons (TabOk.readW (ok29 hm) hm Tryd.func35 (by decide) (by rfl) (by
  intro xs r h
  unfold n13 at h
  split at h
  · cases h; exact nat13 _
  · cases h))
def n14 : List AV → Option (Bool × AV)
  | [.int .i64 op] => some (true, .str (nameOf op))
  | _ => none
noncomputable def u14 : Tab := (38, n14) :: u13
theorem uk14 (hm : Tryd.prog.follows .mixedOrders = true) : TabOk u14 := (uk13 hm).cons (TabOk.readW (ok29 hm) hm Tryd.func38 (by decide) (by rfl) (by
  intro xs r h
  unfold n14 at h
  split at h
  · cases h; exact nat14 _
  · cases h))
def n15 : List AV → Option (Bool × AV)
  | [.int .i64 t] => some (true, .str (typeName t))
  | _ => none
noncomputable def u15 : Tab := (36, n15) :: u14
theorem uk15 (hm : Tryd.prog.follows .mixedOrders = true) : TabOk u15 := (uk14 hm).cons (TabOk.readW (ok29 hm) hm Tryd.func36 (by decide) (by rfl) (by
  intro xs r h
  unfold n15 at h
  split at h
  · cases h; exact nat15 _
  · cases h))
def n16 : List AV → Option (Bool × AV)
  | [.int .i64 t] => some (true, .str (typeName t))
  | _ => none
noncomputable def u16 : Tab := (39, n16) :: u15
theorem uk16 (hm : Tryd.prog.follows .mixedOrders = true) : TabOk u16 := (uk15 hm).cons (TabOk.readW (ok29 hm) hm Tryd.func39 (by decide) (by rfl) (by
  intro xs r h
  unfold n16 at h
  split at h
  · cases h; exact nat16 _
  · cases h))
def n11 : List AV → Option (Bool × AV)
  | [.int .i64 t] => some (true, .tup [.int .i64 (accOf t).1, .int .i64 (accOf t).2])
  | _ => none
noncomputable def u11 : Tab := (70, n11) :: u16
theorem uk11 (hm : Tryd.prog.follows .mixedOrders = true) : TabOk u11 := (uk16 hm).cons (TabOk.readW (ok29 hm) hm Tryd.func70 (by decide) (by rfl) (by
  intro xs r h
  unfold n11 at h
  split at h
  · cases h; exact nat11 _
  · cases h))
def n12 : List AV → Option (Bool × AV)
  | [.int .i64 t] => some (true, .tup [.int .i64 (accOf t).1, .int .i64 (accOf t).2])
  | _ => none
noncomputable def u12 : Tab := (75, n12) :: u11
theorem uk12 (hm : Tryd.prog.follows .mixedOrders = true) : TabOk u12 := (uk11 hm).cons (TabOk.readW (ok29 hm) hm Tryd.func75 (by decide) (by rfl) (by
  intro xs r h
  unfold n12 at h
  split at h
  · cases h; exact nat12 _
  · cases h))
def n17 : List AV → Option (Bool × AV)
  | [.int .i64 op] => some (true, .bool (pureOp op))
  | _ => none
noncomputable def u17 : Tab := (62, n17) :: u12
theorem uk17 (hm : Tryd.prog.follows .mixedOrders = true) : TabOk u17 := (uk12 hm).cons (TabOk.readW (ok29 hm) hm Tryd.func62 (by decide) (by rfl) (by
  intro xs r h
  unfold n17 at h
  split at h
  · cases h; exact nat17 _
  · cases h))
def n18 : List AV → Option (Bool × AV)
  | [.int .i64 op] => some (true, .bool (pureOp op))
  | _ => none
noncomputable def u18 : Tab := (51, n18) :: u17
theorem uk18 (hm : Tryd.prog.follows .mixedOrders = true) : TabOk u18 := (uk17 hm).cons (TabOk.readW (ok29 hm) hm Tryd.func51 (by decide) (by rfl) (by
  intro xs r h
  unfold n18 at h
  split at h
  · cases h; exact nat18 _
  · cases h))
end Go.Proofs.YtaajbcflmaihgaaDoor
/- Speculatable operations in natural form, and the table of the contracts of names and classifications. No conditions. -/
set_option linter.all false
namespace Go.Proofs.YtaajbcflmaihgaaDoor
open Go Ab
set_option maxRecDepth 100000
def specOp (op : Int) : Bool := pureOp op && decide (op ≠ 14) && decide (op ≠ 15)
theorem nf19 (op : Int) : exFn (gN u18) Tryd.f42 [AV.int IntKind.i64 op] =
 some
  (sAnd
      (sAnd (sOr (sNot (pureOp op)) true)
        (sAnd (sOr (sNot (pureOp op)) (sAnd (sAnd (pureOp op) true) true))
          (sAnd (sIf (pureOp op) (pureOp op) true)
            (sAnd (sOr (sNot (sIf (pureOp op) (sNe op 14) false)) true)
              (sAnd
                (sOr (sNot (sIf (pureOp op) (sNe op 14) false))
                  (sAnd (sAnd (sIf (pureOp op) (sNe op 14) false) true) true))
                (sAnd (sIf (sIf (pureOp op) (sNe op 14) false) (sIf (pureOp op) (sNe op 14) false) true) true))))))
      true,
    AV.bool (sIf (sIf (pureOp op) (sNe op 14) false) (sNe op 15) false)) := by kernel_rfl

theorem nf20 (op : Int) : exFn (gN u18) Tryd.f30 [AV.int IntKind.i64 op] =
 some
  (sAnd
      (sAnd (sOr (sNot (pureOp op)) true)
        (sAnd (sOr (sNot (pureOp op)) (sAnd (sAnd (pureOp op) true) true))
          (sAnd (sIf (pureOp op) (pureOp op) true)
            (sAnd (sOr (sNot (sIf (pureOp op) (sNe op 14) false)) true)
              (sAnd
                (sOr (sNot (sIf (pureOp op) (sNe op 14) false))
                  (sAnd (sAnd (sIf (pureOp op) (sNe op 14) false) true) true))
                (sAnd (sIf (sIf (pureOp op) (sNe op 14) false) (sIf (pureOp op) (sNe op 14) false) true) true))))))
      true,
    AV.bool (sIf (sIf (pureOp op) (sNe op 14) false) (sNe op 15) false)) := by kernel_rfl

theorem nat19 (op : Int) : exFn (gN u18) Tryd.f42 [.int .i64 op] = some (true, .bool (specOp op)) := by
  rw [nf19]
  by_cases h1 : op = 14
  · subst h1; rfl
  by_cases h2 : op = 15
  · subst h2; rfl
  have e1 : (op != 14) = true := by simpa using h1
  have e2 : (op != 15) = true := by simpa using h2
  cases h : pureOp op <;> simp [specOp, sAnd, sOr, sNot, sIf, sNe, e1, e2, h, h1, h2]
theorem nat20 (op : Int) : exFn (gN u18) Tryd.f30 [.int .i64 op] = some (true, .bool (specOp op)) := by
  rw [nf20]
  by_cases h1 : op = 14
  · subst h1; rfl
  by_cases h2 : op = 15
  · subst h2; rfl
  have e1 : (op != 14) = true := by simpa using h1
  have e2 : (op != 15) = true := by simpa using h2
  cases h : pureOp op <;> simp [specOp, sAnd, sOr, sNot, sIf, sNe, e1, e2, h, h1, h2]
def n19 : List AV → Option (Bool × AV)
  | [.int .i64 op] => some (true, .bool (specOp op))
  | _ => none
noncomputable def u19 : Tab := (42, n19) :: u18
theorem uk19 (hm : Tryd.prog.follows .mixedOrders = true) : TabOk u19 := (uk18 hm).cons (TabOk.readW (uk18 hm) hm Tryd.func42 (by decide) (by rfl) (by
  intro xs r h
  unfold n19 at h
  split at h
  · cases h; exact nat19 _
  · cases h))
def n20 : List AV → Option (Bool × AV)
  | [.int .i64 op] => some (true, .bool (specOp op))
  | _ => none
noncomputable def u20 : Tab := (30, n20) :: u19
theorem uk20 (hm : Tryd.prog.follows .mixedOrders = true) : TabOk u20 := (uk19 hm).cons (TabOk.readW (uk18 hm) hm Tryd.func30 (by decide) (by rfl) (by
  intro xs r h
  unfold n20 at h
  split at h
  · cases h; exact nat20 _
  · cases h))
noncomputable def uA : Tab := u20
theorem ukA (hm : Tryd.prog.follows .mixedOrders = true) : TabOk uA := uk20 hm
end Go.Proofs.YtaajbcflmaihgaaDoor
/- The predicates of types, program and reference, in natural form. No conditions. -/
set_option linter.all false
namespace Go.Proofs.YtaajbcflmaihgaaDoor
open Go Ab
set_option maxRecDepth 100000
def integ (t : Int) : Bool := decide (1 ≤ t ∧ t ≤ 4)
def wideT (t : Int) : Bool := decide (2 ≤ t ∧ t ≤ 4)
def anyT (t : Int) : Bool := decide (1 ≤ t ∧ t ≤ 7)
def vecT (t : Int) : Bool := decide (t = 6 ∨ t = 7)
def cellT (t : Int) : Bool := decide (2 ≤ t ∧ t ≤ 7)
def bitsOf (t : Int) : Int := if t = 1 then 1 else if t = 2 then 8 else if t = 3 then 32 else if t = 4 then 64 else 0
theorem nf40 (t : Int) : exFn (gN uA) Tryd.f63 [AV.int IntKind.i64 t] = some (sAnd (sAnd (sOr (sNot (sLe 1 t)) true) (sAnd (sOr (sNot (sLe 1 t)) (sAnd (sAnd (sLe 1 t) true) true)) (sAnd (sIf (sLe 1 t) (sLe 1 t) true) true))) true, AV.bool (sIf (sLe 1 t) (sLe t 4) false)) := by kernel_rfl
theorem nat40 (t : Int) : exFn (gN uA) Tryd.f63 [.int .i64 t] = some (true, .bool (integ t)) := by
  rw [nf40]
  by_cases h1 : (1 : Int) ≤ t <;> by_cases h2 : t ≤ 4 <;> simp [sAnd, sOr, sNot, sIf, sLe, integ, h1, h2]
def n40 : List AV → Option (Bool × AV)
  | [.int .i64 t] => some (true, .bool (integ t))
  | _ => none
noncomputable def b40 : Tab := (63, n40) :: uA
theorem bk40 (hm : Tryd.prog.follows .mixedOrders = true) : TabOk b40 := (ukA hm).cons (TabOk.readW (ukA hm) hm Tryd.func63 (by decide) (by rfl) (by
  intro xs r h
  unfold n40 at h
  split at h
  · cases h; exact nat40 _
  · cases h))
theorem nf41 (t : Int) : exFn (gN uA) Tryd.f64 [AV.int IntKind.i64 t] = some (sAnd (sAnd (sOr (sNot (sLe 1 t)) true) (sAnd (sOr (sNot (sLe 1 t)) (sAnd (sAnd (sLe 1 t) true) true)) (sAnd (sIf (sLe 1 t) (sLe 1 t) true) true))) true, AV.bool (sIf (sLe 1 t) (sLe t 7) false)) := by kernel_rfl
theorem nat41 (t : Int) : exFn (gN uA) Tryd.f64 [.int .i64 t] = some (true, .bool (anyT t)) := by
  rw [nf41]
  by_cases h1 : (1 : Int) ≤ t <;> by_cases h2 : t ≤ 7 <;> simp [sAnd, sOr, sNot, sIf, sLe, anyT, h1, h2]
def n41 : List AV → Option (Bool × AV)
  | [.int .i64 t] => some (true, .bool (anyT t))
  | _ => none
noncomputable def b41 : Tab := (64, n41) :: b40
theorem bk41 (hm : Tryd.prog.follows .mixedOrders = true) : TabOk b41 := (bk40 hm).cons (TabOk.readW (ukA hm) hm Tryd.func64 (by decide) (by rfl) (by
  intro xs r h
  unfold n41 at h
  split at h
  · cases h; exact nat41 _
  · cases h))
theorem nf43 (t : Int) : exFn (gN uA) Tryd.f66 [AV.int IntKind.i64 t] = some (sAnd (sAnd (sOr (sNot (sLe 2 t)) true) (sAnd (sOr (sNot (sLe 2 t)) (sAnd (sAnd (sLe 2 t) true) true)) (sAnd (sIf (sLe 2 t) (sLe 2 t) true) true))) true, AV.bool (sIf (sLe 2 t) (sLe t 4) false)) := by kernel_rfl
theorem nat43 (t : Int) : exFn (gN uA) Tryd.f66 [.int .i64 t] = some (true, .bool (wideT t)) := by
  rw [nf43]
  by_cases h1 : (2 : Int) ≤ t <;> by_cases h2 : t ≤ 4 <;> simp [sAnd, sOr, sNot, sIf, sLe, wideT, h1, h2]
def n43 : List AV → Option (Bool × AV)
  | [.int .i64 t] => some (true, .bool (wideT t))
  | _ => none
noncomputable def b43 : Tab := (66, n43) :: b41
theorem bk43 (hm : Tryd.prog.follows .mixedOrders = true) : TabOk b43 := (bk41 hm).cons (TabOk.readW (ukA hm) hm Tryd.func66 (by decide) (by rfl) (by
  intro xs r h
  unfold n43 at h
  split at h
  · cases h; exact nat43 _
  · cases h))
theorem nf44 (t : Int) : exFn (gN uA) Tryd.f67 [AV.int IntKind.i64 t] = some (sAnd (sAnd (sOr (sNot (sNot (sEq t 6))) true) (sAnd (sOr (sNot (sNot (sEq t 6))) (sAnd (sAnd (sNot (sEq t 6)) true) true)) (sAnd (sIf (sEq t 6) true (sNot (sEq t 6))) true))) true, AV.bool (sIf (sEq t 6) true (sEq t 7))) := by kernel_rfl
theorem nat44 (t : Int) : exFn (gN uA) Tryd.f67 [.int .i64 t] = some (true, .bool (vecT t)) := by
  rw [nf44]
  by_cases h1 : t = 6
  · subst h1; rfl
  by_cases h2 : t = 7
  · subst h2; rfl
  have e1 : (t == 6) = false := by simpa using h1
  have e2 : (t == 7) = false := by simpa using h2
  simp [sAnd, sOr, sNot, sIf, sEq, vecT, h1, h2, e1, e2]
def n44 : List AV → Option (Bool × AV)
  | [.int .i64 t] => some (true, .bool (vecT t))
  | _ => none
noncomputable def b44 : Tab := (67, n44) :: b43
theorem bk44 (hm : Tryd.prog.follows .mixedOrders = true) : TabOk b44 := (bk43 hm).cons (TabOk.readW (ukA hm) hm Tryd.func67 (by decide) (by rfl) (by
  intro xs r h
  unfold n44 at h
  split at h
  · cases h; exact nat44 _
  · cases h))
theorem nf45 (t : Int) : exFn (gN uA) Tryd.f68 [AV.int IntKind.i64 t] = some (true, AV.bool (sLt 0 (Prod.snd (accOf t)))) := by kernel_rfl
theorem nat45 (t : Int) : exFn (gN uA) Tryd.f68 [.int .i64 t] = some (true, .bool (cellT t)) := by
  rw [nf45]
  by_cases h : 2 ≤ t ∧ t ≤ 7
  · have : t = 2 ∨ t = 3 ∨ t = 4 ∨ t = 5 ∨ t = 6 ∨ t = 7 := by omega
    rcases this with rfl | rfl | rfl | rfl | rfl | rfl <;> rfl
  · have h2 : ¬ t = 2 := by omega
    have h3 : ¬ t = 3 := by omega
    have h4 : ¬ t = 4 := by omega
    have h5 : ¬ t = 5 := by omega
    have h6 : ¬ t = 6 := by omega
    have h7 : ¬ t = 7 := by omega
    simp only [accOf, cellT, h2, h3, h4, h5, h6, h7, h, sLt]
    simp
def n45 : List AV → Option (Bool × AV)
  | [.int .i64 t] => some (true, .bool (cellT t))
  | _ => none
noncomputable def b45 : Tab := (68, n45) :: b44
theorem bk45 (hm : Tryd.prog.follows .mixedOrders = true) : TabOk b45 := (bk44 hm).cons (TabOk.readW (ukA hm) hm Tryd.func68 (by decide) (by rfl) (by
  intro xs r h
  unfold n45 at h
  split at h
  · cases h; exact nat45 _
  · cases h))
theorem nf49 (t : Int) : exFn (gN uA) Tryd.f95 [AV.int IntKind.i64 t] = some (sAnd (sAnd (sOr (sNot (sLe 1 t)) true) (sAnd (sOr (sNot (sLe 1 t)) (sAnd (sAnd (sLe 1 t) true) true)) (sAnd (sIf (sLe 1 t) (sLe 1 t) true) true))) true, AV.bool (sIf (sLe 1 t) (sLe t 7) false)) := by kernel_rfl
theorem nat49 (t : Int) : exFn (gN uA) Tryd.f95 [.int .i64 t] = some (true, .bool (anyT t)) := by
  rw [nf49]
  by_cases h1 : (1 : Int) ≤ t <;> by_cases h2 : t ≤ 7 <;> simp [sAnd, sOr, sNot, sIf, sLe, anyT, h1, h2]
def n49 : List AV → Option (Bool × AV)
  | [.int .i64 t] => some (true, .bool (anyT t))
  | _ => none
noncomputable def b49 : Tab := (95, n49) :: b45
theorem bk49 (hm : Tryd.prog.follows .mixedOrders = true) : TabOk b49 := (bk45 hm).cons (TabOk.readW (ukA hm) hm Tryd.func95 (by decide) (by rfl) (by
  intro xs r h
  unfold n49 at h
  split at h
  · cases h; exact nat49 _
  · cases h))
theorem nf50 (t : Int) : exFn (gN uA) Tryd.f96 [AV.int IntKind.i64 t] = some (sAnd (sAnd (sOr (sNot (sNot (sEq t 2))) true) (sAnd (sOr (sNot (sNot (sEq t 2))) (sAnd (sAnd (sNot (sEq t 2)) true) true)) (sAnd (sIf (sEq t 2) true (sNot (sEq t 2))) (sAnd (sOr (sNot (sNot (sIf (sEq t 2) true (sEq t 3)))) true) (sAnd (sOr (sNot (sNot (sIf (sEq t 2) true (sEq t 3)))) (sAnd (sAnd (sNot (sIf (sEq t 2) true (sEq t 3))) true) true)) (sAnd (sIf (sIf (sEq t 2) true (sEq t 3)) true (sNot (sIf (sEq t 2) true (sEq t 3)))) true)))))) true, AV.bool (sIf (sIf (sEq t 2) true (sEq t 3)) true (sEq t 4))) := by kernel_rfl
theorem nat50 (t : Int) : exFn (gN uA) Tryd.f96 [.int .i64 t] = some (true, .bool (wideT t)) := by
  rw [nf50]
  by_cases h2 : t = 2
  · subst h2; rfl
  by_cases h3 : t = 3
  · subst h3; rfl
  by_cases h4 : t = 4
  · subst h4; rfl
  have e2 : (t == 2) = false := by simpa using h2
  have e3 : (t == 3) = false := by simpa using h3
  have e4 : (t == 4) = false := by simpa using h4
  have hn : ¬ (2 ≤ t ∧ t ≤ 4) := by omega
  simp only [sAnd, sOr, sNot, sIf, sEq, wideT, e2, e3, e4, decide_eq_false hn]
  rfl
def n50 : List AV → Option (Bool × AV)
  | [.int .i64 t] => some (true, .bool (wideT t))
  | _ => none
noncomputable def b50 : Tab := (96, n50) :: b49
theorem bk50 (hm : Tryd.prog.follows .mixedOrders = true) : TabOk b50 := (bk49 hm).cons (TabOk.readW (ukA hm) hm Tryd.func96 (by decide) (by rfl) (by
  intro xs r h
  unfold n50 at h
  split at h
  · cases h; exact nat50 _
  · cases h))
theorem nf48 (t : Int) : exFn (gN b50) Tryd.f94 [AV.int IntKind.i64 t] = some (sAnd (sAnd (sOr (sNot (sNot (sEq t 1))) true) (sAnd (sOr (sNot (sNot (sEq t 1))) (sAnd (sAnd (sNot (sEq t 1)) true) true)) (sAnd (sIf (sEq t 1) true (sNot (sEq t 1))) true))) true, AV.bool (sIf (sEq t 1) true (wideT t))) := by kernel_rfl
theorem nat48 (t : Int) : exFn (gN b50) Tryd.f94 [.int .i64 t] = some (true, .bool (integ t)) := by
  rw [nf48]
  by_cases h1 : t = 1
  · subst h1; rfl
  by_cases h2 : t = 2
  · subst h2; rfl
  by_cases h3 : t = 3
  · subst h3; rfl
  by_cases h4 : t = 4
  · subst h4; rfl
  have e1 : (t == 1) = false := by simpa using h1
  have e2 : (t == 2) = false := by simpa using h2
  have e3 : (t == 3) = false := by simpa using h3
  have e4 : (t == 4) = false := by simpa using h4
  have hn : ¬ (1 ≤ t ∧ t ≤ 4) := by omega
  have hw : wideT t = false := decide_eq_false (by omega)
  simp only [sAnd, sOr, sNot, sIf, sEq, integ, hw, e1, decide_eq_false hn]
  rfl
def n48 : List AV → Option (Bool × AV)
  | [.int .i64 t] => some (true, .bool (integ t))
  | _ => none
noncomputable def b48 : Tab := (94, n48) :: b50
theorem bk48 (hm : Tryd.prog.follows .mixedOrders = true) : TabOk b48 := (bk50 hm).cons (TabOk.readW (bk50 hm) hm Tryd.func94 (by decide) (by rfl) (by
  intro xs r h
  unfold n48 at h
  split at h
  · cases h; exact nat48 _
  · cases h))
theorem nf51 (t : Int) : exFn (gN uA) Tryd.f97 [AV.int IntKind.i64 t] = some (sAnd (sIf (sEq t 1) true (sIf (sEq t 2) true (sIf (sEq t 3) true (sIf (sEq t 4) true true)))) (sIf (Tg.isN (Tg.block 0 (Tg.mix (sEq t 1) Tg.r (Tg.mix (sEq t 2) Tg.r (Tg.mix (sEq t 3) Tg.r (Tg.mix (sEq t 4) Tg.r Tg.n)))))) true true), AV.int IntKind.i64 (sIf (Tg.isN (Tg.block 0 (Tg.mix (sEq t 1) Tg.r (Tg.mix (sEq t 2) Tg.r (Tg.mix (sEq t 3) Tg.r (Tg.mix (sEq t 4) Tg.r Tg.n)))))) 0 (sIf (sEq t 1) 1 (sIf (sEq t 2) 8 (sIf (sEq t 3) 32 64))))) := by kernel_rfl
theorem nat51 (t : Int) : exFn (gN uA) Tryd.f97 [.int .i64 t] = some (true, .int .i64 (bitsOf t)) := by
  rw [nf51]
  by_cases h1 : t = 1
  · subst h1; rfl
  by_cases h2 : t = 2
  · subst h2; rfl
  by_cases h3 : t = 3
  · subst h3; rfl
  by_cases h4 : t = 4
  · subst h4; rfl
  have e1 : (t == 1) = false := by simpa using h1
  have e2 : (t == 2) = false := by simpa using h2
  have e3 : (t == 3) = false := by simpa using h3
  have e4 : (t == 4) = false := by simpa using h4
  simp only [sAnd, sIf, sEq, bitsOf, e1, e2, e3, e4, if_neg h1, if_neg h2, if_neg h3, if_neg h4]
  rfl
def n51 : List AV → Option (Bool × AV)
  | [.int .i64 t] => some (true, .int .i64 (bitsOf t))
  | _ => none
noncomputable def b51 : Tab := (97, n51) :: b48
theorem bk51 (hm : Tryd.prog.follows .mixedOrders = true) : TabOk b51 := (bk48 hm).cons (TabOk.readW (ukA hm) hm Tryd.func97 (by decide) (by rfl) (by
  intro xs r h
  unfold n51 at h
  split at h
  · cases h; exact nat51 _
  · cases h))
theorem nf53 (t : Int) : exFn (gN uA) Tryd.f93 [AV.int IntKind.i64 t] = some (sAnd (sAnd (sAnd (sOr (sNot (sNot (sLt t 0))) true) (sAnd (sOr (sNot (sNot (sLt t 0))) (sAnd (sAnd (sNot (sLt t 0)) true) true)) (sAnd (sIf (sLt t 0) true (sNot (sLt t 0))) true))) (sIf (sIf (sLt t 0) true (sLe 5 t)) true true)) (sIf (Tg.isN (Tg.mix (sIf (sLt t 0) true (sLe 5 t)) Tg.r Tg.n)) (sAnd (sAnd (sAnd (sLe 0 t) (sLt t ↑5)) true) true) true), AV.int IntKind.i64 (sIf (Tg.isN (Tg.mix (sIf (sLt t 0) true (sLe 5 t)) Tg.r Tg.n)) (List.getD [0, 1, 8, 32, 64] (Int.toNat t) (Sh.dflt (Sh.int IntKind.i64))) 0)) := by kernel_rfl
theorem nat53 (t : Int) : exFn (gN uA) Tryd.f93 [.int .i64 t] = some (true, .int .i64 (bitsOf t)) := by
  rw [nf53]
  by_cases h0 : t < 0
  · have h1 : ¬ t = 1 := by omega
    have h2 : ¬ t = 2 := by omega
    have h3 : ¬ t = 3 := by omega
    have h4 : ¬ t = 4 := by omega
    simp only [sAnd, sOr, sNot, sIf, sLt, decide_eq_true h0, bitsOf, if_neg h1, if_neg h2, if_neg h3, if_neg h4]
    rfl
  by_cases h5 : 5 ≤ t
  · have h1 : ¬ t = 1 := by omega
    have h2 : ¬ t = 2 := by omega
    have h3 : ¬ t = 3 := by omega
    have h4 : ¬ t = 4 := by omega
    simp only [sAnd, sOr, sNot, sIf, sLt, sLe, decide_eq_false h0, decide_eq_true h5, bitsOf, if_neg h1, if_neg h2, if_neg h3, if_neg h4]
    rfl
  have : t = 0 ∨ t = 1 ∨ t = 2 ∨ t = 3 ∨ t = 4 := by omega
  rcases this with rfl | rfl | rfl | rfl | rfl <;> rfl
def n53 : List AV → Option (Bool × AV)
  | [.int .i64 t] => some (true, .int .i64 (bitsOf t))
  | _ => none
noncomputable def b53 : Tab := (93, n53) :: b51
theorem bk53 (hm : Tryd.prog.follows .mixedOrders = true) : TabOk b53 := (bk51 hm).cons (TabOk.readW (ukA hm) hm Tryd.func93 (by decide) (by rfl) (by
  intro xs r h
  unfold n53 at h
  split at h
  · cases h; exact nat53 _
  · cases h))
end Go.Proofs.YtaajbcflmaihgaaDoor
/- The shapes of instructions, functions and modules. -/
set_option linter.all false
namespace Go.Proofs.YtaajbcflmaihgaaDoor
open Go Ab
abbrev i64S : Sh := .int .i64
abbrev insS : Sh := .prod i64S (.prod i64S (.prod i64S (.prod (.sl i64S) (.prod i64S (.prod i64S (.prod i64S (.prod .bool .unit)))))))
abbrev edgS : Sh := .prod i64S (.prod (.sl i64S) .unit)
abbrev terS : Sh := .prod i64S (.prod (.sl i64S) (.prod (.sl i64S) (.prod (.sl edgS) (.prod i64S .unit))))
abbrev blkS : Sh := .prod (.sl i64S) (.prod (.sl insS) (.prod terS .unit))
abbrev funS : Sh := .prod .str (.prod (.sl i64S) (.prod i64S (.prod (.sl i64S) (.prod (.sl blkS) .unit))))
abbrev gloS : Sh := .prod .str (.prod i64S (.prod i64S (.prod (.sl i64S) (.prod .bool .unit))))
abbrev modS : Sh := .prod (.sl gloS) (.prod (.sl funS) .unit)
/-- The arguments of the layer's functions. -/
abbrev insA (op ty dst : Int) (args : List Int) (imm sym elem : Int) (nw : Bool) : AV := .agg [.int .i64 op, .int .i64 ty, .int .i64 dst, .dsl i64S args, .int .i64 imm, .int .i64 sym, .int .i64 elem, .bool nw]
abbrev funA (nm : ByteArray) (ps : List Int) (res : Int) (regs : List Int) (bl : List blkS.den) : AV := .agg [.str nm, .dsl i64S ps, .int .i64 res, .dsl i64S regs, .dsl blkS bl]
abbrev modA (gs : List gloS.den) (fs : List funS.den) : AV := .agg [.dsl gloS gs, .dsl funS fs]
/-- A length that a machine bears. -/
def okLen (n : Nat) : Bool := Nat.ble n 9223372036854775807
def leLen (a b : Nat) : Bool := Nat.ble a b
def castL {e s : Sh} (h : e = s) (x : List e.den) : List s.den := h ▸ x
/-- Arguments of a known form, read back. -/
def asInts : AV → Option (List Int)
  | .dsl e x => if h : e = .int .i64 then some (castL h x) else none
  | _ => none
theorem asInts_eq {a : AV} {l : List Int} (h : asInts a = some l) : a = .dsl i64S l := by
  unfold asInts at h
  split at h
  · split at h
    · rename_i e; subst e; cases h; rfl
    · cases h
  · cases h
def asIns : AV → Option (Int × Int × Int × List Int × Int × Int × Int × Bool)
  | .agg [.int .i64 op, .int .i64 ty, .int .i64 dst, l, .int .i64 imm, .int .i64 sym, .int .i64 elem, .bool nw] => (asInts l).map fun args => (op, ty, dst, args, imm, sym, elem, nw)
  | _ => none
theorem asIns_eq {a : AV} {t : Int × Int × Int × List Int × Int × Int × Int × Bool} (h : asIns a = some t) : a = insA t.1 t.2.1 t.2.2.1 t.2.2.2.1 t.2.2.2.2.1 t.2.2.2.2.2.1 t.2.2.2.2.2.2.1 t.2.2.2.2.2.2.2 := by
  unfold asIns at h
  split at h
  · simp only [Option.map_eq_some_iff] at h
    obtain ⟨args, h1, rfl⟩ := h
    rw [asInts_eq h1]
  · cases h
def asMod : AV → Option (List gloS.den × List funS.den)
  | .agg [.dsl e1 x1, .dsl e2 x2] => if h1 : e1 = gloS then if h2 : e2 = funS then some (castL h1 x1, castL h2 x2) else none else none
  | _ => none
theorem asMod_eq {a : AV} {t : List gloS.den × List funS.den} (h : asMod a = some t) : a = modA t.1 t.2 := by
  unfold asMod at h
  split at h
  · split at h
    · split at h
      · rename_i h1 h2; subst h1; subst h2; cases h; rfl
      · cases h
    · cases h
  · cases h
def asFun : AV → Option (ByteArray × List Int × Int × List Int × List blkS.den)
  | .agg [.str nm, l, .int .i64 res, r, .dsl e x] => (asInts l).bind fun ps => (asInts r).bind fun regs => if h : e = blkS then some (nm, ps, res, regs, castL h x) else none
  | _ => none
theorem asFun_eq {a : AV} {t : ByteArray × List Int × Int × List Int × List blkS.den} (h : asFun a = some t) : a = funA t.1 t.2.1 t.2.2.1 t.2.2.2.1 t.2.2.2.2 := by
  unfold asFun at h
  split at h
  · simp only [Option.bind_eq_some_iff] at h
    obtain ⟨ps, h1, regs, h2, h⟩ := h
    split at h
    · rename_i e; subst e; cases h; rw [asInts_eq h1, asInts_eq h2]; rfl
    · cases h
  · cases h
end Go.Proofs.YtaajbcflmaihgaaDoor
/- The check that all operands have one type, and the wrap of an integer, in natural form. No conditions. -/
set_option linter.all false
namespace Go.Proofs.YtaajbcflmaihgaaDoor
open Go Ab
set_option maxRecDepth 100000
noncomputable def s42_0 (args : List Int) (t : Int) : List Sc → Bool × Bool × List Sc := fun xs => (sAnd (sIf (sLt (Sc.toI (hd xs)) ↑(List.length args)) true true) (sIf (Tg.isN (Tg.mix (sLt (Sc.toI (hd xs)) ↑(List.length args)) Tg.n (Tg.x 0))) (sAnd (sAnd (sAnd (sAnd (sLe 0 (Sc.toI (hd xs))) (sLt (Sc.toI (hd xs)) ↑(List.length args))) true) (sIf (sNe (List.getD args (Int.toNat (Sc.toI (hd xs))) (Sh.dflt (Sh.int IntKind.i64))) t) true true)) (sIf (Tg.isN (Tg.block 1 (Tg.mix (sNe (List.getD args (Int.toNat (Sc.toI (hd xs))) (Sh.dflt (Sh.int IntKind.i64))) t) Tg.r Tg.n))) true true)) true), Tg.isN (Tg.thenN (Tg.mix (sLt (Sc.toI (hd xs)) ↑(List.length args)) Tg.n (Tg.x 0)) (Tg.thenN (Tg.block 1 (Tg.mix (sNe (List.getD args (Int.toNat (Sc.toI (hd xs))) (Sh.dflt (Sh.int IntKind.i64))) t) Tg.r Tg.n)) Tg.n)), [Sc.i (IntKind.wrap IntKind.i64 (Sc.toI (hd xs) + 1))])
noncomputable def L42_0 (args : List Int) (t : Int) : List Sc := Option.getD (whileW (s42_0 args t) [Sc.i 0]) [Sc.i 0]
theorem nf42 (args : List Int) (t : Int) : exFn (gN b53) Tryd.f65 [AV.dsl i64S args, AV.int IntKind.i64 t] = some (sAnd (sAnd (sSome (whileW (s42_0 args t) [Sc.i 0])) (sAnd (sIf (sLt (Sc.toI (hd (L42_0 args t))) ↑(List.length args)) true true) (sIf (Tg.isN (Tg.mix (sLt (Sc.toI (hd (L42_0 args t))) ↑(List.length args)) Tg.n (Tg.x 0))) (sAnd (sAnd (sAnd (sAnd (sLe 0 (Sc.toI (hd (L42_0 args t)))) (sLt (Sc.toI (hd (L42_0 args t))) ↑(List.length args))) true) (sIf (sNe (List.getD args (Int.toNat (Sc.toI (hd (L42_0 args t)))) (Sh.dflt (Sh.int IntKind.i64))) t) true true)) (sIf (Tg.isN (Tg.block 1 (Tg.mix (sNe (List.getD args (Int.toNat (Sc.toI (hd (L42_0 args t)))) (Sh.dflt (Sh.int IntKind.i64))) t) Tg.r Tg.n))) true true)) true))) (sIf (Tg.isN (Tg.block 0 (Tg.thenN (Tg.mix (sLt (Sc.toI (hd (L42_0 args t))) ↑(List.length args)) Tg.n (Tg.x 0)) (Tg.thenN (Tg.block 1 (Tg.mix (sNe (List.getD args (Int.toNat (Sc.toI (hd (L42_0 args t)))) (Sh.dflt (Sh.int IntKind.i64))) t) Tg.r Tg.n)) Tg.n)))) true true), AV.bool (sIf (Tg.isN (Tg.block 0 (Tg.thenN (Tg.mix (sLt (Sc.toI (hd (L42_0 args t))) ↑(List.length args)) Tg.n (Tg.x 0)) (Tg.thenN (Tg.block 1 (Tg.mix (sNe (List.getD args (Int.toNat (Sc.toI (hd (L42_0 args t)))) (Sh.dflt (Sh.int IntKind.i64))) t) Tg.r Tg.n)) Tg.n)))) true false)) := by kernel_rfl
theorem nf47 (t : Int) (n : Int) : exFn (gN b53) Tryd.f71 [AV.int IntKind.i64 t, AV.int IntKind.i64 n] = some (sIf (sEq (bitsOf t) 0) true (sIf (sEq (bitsOf t) 1) true (sAnd (sAnd (sLe 0 (IntKind.wrap IntKind.i64 (64 - bitsOf t))) (sAnd (sLe 0 (IntKind.wrap IntKind.i64 (64 - bitsOf t))) true)) true)), AV.int IntKind.i64 (sIf (sEq (bitsOf t) 0) 0 (sIf (sEq (bitsOf t) 1) (IntKind.wrap IntKind.i64 ↑(BitVec.toNat (BitVec.ofInt 64 n &&& BitVec.ofInt 64 1))) (Int.fdiv (IntKind.wrap IntKind.i64 (n * 2 ^ min (Int.toNat (IntKind.wrap IntKind.i64 (64 - bitsOf t))) 64)) (2 ^ min (Int.toNat (IntKind.wrap IntKind.i64 (64 - bitsOf t))) 64))))) := by kernel_rfl
abbrev bigL : Nat := 9223372036854775807
theorem wrapL {j : Nat} (h : j < bigL) : IntKind.wrap .i64 ((j : Int) + 1) = ((j + 1 : Nat) : Int) := by
  rw [wrap_i64 (by omega) (by unfold bigL at h; omega)]
  rfl
def sameV (args : List Int) (t : Int) : Bool := decide (args.findIdx (fun a => sNe a t) = args.length)
theorem run42 (args : List Int) (t : Int) (hb : args.length ≤ bigL) : whileW (s42_0 args t) [Sc.i 0] = some [Sc.i ((args.findIdx (fun a => sNe a t) : Nat) : Int)] := by
  have hle : args.findIdx (fun a => sNe a t) ≤ args.length := List.findIdx_le_length
  refine whileW_upto (fun i => [Sc.i (i : Int)]) (args.findIdx (fun a => sNe a t)) rfl (fun j hj => ?_) ?_ ?_
  · obtain ⟨h1, h2⟩ := runTail (d := (0 : Int)) hj
    simp only [s42_0, hd_cons, Sc.toI_i, Int.toNat_natCast, wrapL (show j < bigL by omega)]
    have h2 : sNe (args.getD j (Sh.dflt (Sh.int IntKind.i64))) t = false := h2
    rw [h2]
    simp [sAnd, sIf, sLe, sLt, show (j : Int) < (args.length : Int) by omega]
  · simp only [s42_0, hd_cons, Sc.toI_i, Int.toNat_natCast]
    simp [sAnd, sIf, sLe, sLt]
  · by_cases hl : args.findIdx (fun a => sNe a t) < args.length
    · have h2 : sNe (args.getD (args.findIdx (fun a => sNe a t)) (Sh.dflt (Sh.int IntKind.i64))) t = true := runEnd (d := (0 : Int)) hl
      simp only [s42_0, hd_cons, Sc.toI_i, Int.toNat_natCast, h2]
      simp [sAnd, sIf, sLe, sLt]
    · simp [s42_0, sAnd, sIf, sLe, sLt, show ¬ ((args.findIdx (fun a => sNe a t) : Nat) : Int) < (args.length : Int) by omega]
theorem nat42 (args : List Int) (t : Int) (hb : args.length ≤ bigL) : exFn (gN b53) Tryd.f65 [.dsl i64S args, .int .i64 t] = some (true, .bool (sameV args t)) := by
  have hle : args.findIdx (fun a => sNe a t) ≤ args.length := List.findIdx_le_length
  rw [nf42]
  have hL : L42_0 args t = [Sc.i ((args.findIdx (fun a => sNe a t) : Nat) : Int)] := by unfold L42_0; rw [run42 args t hb]; rfl
  rw [hL, run42 args t hb]
  by_cases hl : args.findIdx (fun a => sNe a t) < args.length
  · have h2 : sNe (args.getD (args.findIdx (fun a => sNe a t)) (Sh.dflt (Sh.int IntKind.i64))) t = true := runEnd (d := (0 : Int)) hl
    simp only [hd_cons, Sc.toI_i, Int.toNat_natCast, h2]
    simp [sAnd, sIf, sLe, sLt, sameV, show ((args.findIdx (fun a => sNe a t) : Nat) : Int) < (args.length : Int) by omega, show ¬ (args.findIdx (fun a => sNe a t) = args.length) by omega]
  · simp [sAnd, sIf, sLe, sLt, sameV, show ¬ ((args.findIdx (fun a => sNe a t) : Nat) : Int) < (args.length : Int) by omega, show args.findIdx (fun a => sNe a t) = args.length by omega]
def wrapV (t n : Int) : Int := sIf (sEq (bitsOf t) 0) 0 (sIf (sEq (bitsOf t) 1) (IntKind.wrap IntKind.i64 ↑(BitVec.toNat (BitVec.ofInt 64 n &&& BitVec.ofInt 64 1))) (Int.fdiv (IntKind.wrap IntKind.i64 (n * 2 ^ min (Int.toNat (IntKind.wrap IntKind.i64 (64 - bitsOf t))) 64)) (2 ^ min (Int.toNat (IntKind.wrap IntKind.i64 (64 - bitsOf t))) 64)))
theorem bits_cases (t : Int) : bitsOf t = 0 ∨ bitsOf t = 1 ∨ bitsOf t = 8 ∨ bitsOf t = 32 ∨ bitsOf t = 64 := by
  unfold bitsOf
  repeat' split
  all_goals simp
theorem nat47 (t n : Int) : exFn (gN b53) Tryd.f71 [.int .i64 t, .int .i64 n] = some (true, .int .i64 (wrapV t n)) := by
  rw [nf47]
  unfold wrapV
  rcases bits_cases t with h | h | h | h | h <;> rw [h] <;> rfl
def n42 : List AV → Option (Bool × AV)
  | [.dsl (.int .i64) args, .int .i64 t] => some (okLen args.length, .bool (sameV args t))
  | _ => none
def n47 : List AV → Option (Bool × AV)
  | [.int .i64 t, .int .i64 n] => some (true, .int .i64 (wrapV t n))
  | _ => none
noncomputable def b42 : Tab := (65, n42) :: b53
noncomputable def b47 : Tab := (71, n47) :: b42
theorem bk42 (hm : Tryd.prog.follows .mixedOrders = true) : TabOk b42 := (bk53 hm).cons (TabOk.readW (bk53 hm) hm Tryd.func65 (by decide) (by rfl) (by
  intro xs r h
  unfold n42 at h
  split at h
  · simp only [Option.some.injEq, Prod.mk.injEq] at h
    obtain ⟨h1, rfl⟩ := h
    exact nat42 _ _ (Nat.le_of_ble_eq_true h1)
  · cases h))
theorem bk47 (hm : Tryd.prog.follows .mixedOrders = true) : TabOk b47 := (bk42 hm).cons (TabOk.readW (bk53 hm) hm Tryd.func71 (by decide) (by rfl) (by
  intro xs r h
  unfold n47 at h
  split at h
  · cases h; exact nat47 _ _
  · cases h))
end Go.Proofs.YtaajbcflmaihgaaDoor
/- The check of a call's types, in natural form. No conditions. -/
set_option linter.all false
namespace Go.Proofs.YtaajbcflmaihgaaDoor
open Go Ab
set_option maxRecDepth 100000
noncomputable def s46_0 (sym : Int) (args : List Int) (fs : List (Sh.den funS)) : List Sc → Bool × Bool × List Sc := fun xs => let q0 : Sh.den (Sh.prod (Sh.sl (Sh.int IntKind.i64)) (Sh.prod (Sh.int IntKind.i64) (Sh.prod (Sh.sl (Sh.int IntKind.i64)) (Sh.prod (Sh.sl blkS) Sh.unit)))) := Prod.snd (List.getD fs (Int.toNat sym) (Sh.dflt funS));
  let q1 : List Int := Prod.fst q0;
  let q2 : Bool := sLt (Sc.toI (hd xs)) ↑(List.length q1);
  let q3 : Tg := Tg.mix q2 Tg.n (Tg.x 0);
  let q4 : Bool := sLe 0 (Sc.toI (hd xs));
  let q5 : Int := List.getD q1 (Int.toNat (Sc.toI (hd xs))) (0 : Int);
  let q6 : Bool := sLt q5 0;
  let q7 : Bool := sNot q6;
  let q8 : Bool := sNot q7;
  let q9 : Bool := sOr q8 true;
  let q10 : Bool := sOr q8 q7;
  let q11 : List Int := Prod.fst (Prod.snd (Prod.snd q0));
  let q12 : Int := ↑(List.length q11);
  let q13 : Bool := sIf q6 true (sLe q12 q5);
  let q14 : Bool := sNot q13;
  let q15 : Bool := sNot q14;
  let q16 : Bool := sOr q15 true;
  let q17 : Bool := sOr q15 q14;
  let q18 : Bool := sAnd q14 q14;
  let q19 : Bool := sIf q13 true (sNe (List.getD q11 (Int.toNat q5) (0 : Int)) (List.getD args (Int.toNat (Sc.toI (hd xs))) (0 : Int)));
  let q20 : Tg := Tg.block 1 (Tg.mix q19 Tg.r Tg.n); (sAnd (sIf q2 true true) (sIf (Tg.isN q3) (sAnd (sAnd (sAnd (sAnd q4 q2) true) (sAnd (sAnd (sAnd q9 (sAnd q9 (sAnd q10 (sAnd q10 (sAnd (sOr q8 (sAnd (sAnd q7 q7) true)) (sAnd (sIf q6 true q7) (sAnd q16 (sAnd q17 (sAnd q16 (sAnd (sOr q15 (sAnd q18 (sAnd (sLe 0 q5) (sLt q5 q12)))) (sAnd q17 (sAnd q16 (sAnd q16 (sAnd (sOr q15 (sAnd q18 (sAnd q4 (sLt (Sc.toI (hd xs)) ↑(List.length args))))) (sAnd q17 (sAnd (sOr q15 (sAnd q18 true)) (sAnd (sIf q13 true q14) true))))))))))))))))) true) (sIf q19 true true))) (sIf (Tg.isN q20) true true)) true), Tg.isN (Tg.thenN q3 (Tg.thenN q20 Tg.n)), [Sc.i (IntKind.wrap IntKind.i64 (Sc.toI (hd xs) + 1))])
noncomputable def L46_0 (sym : Int) (args : List Int) (fs : List (Sh.den funS)) : List Sc := Option.getD (whileW (s46_0 sym args fs) [Sc.i 0]) [Sc.i 0]
theorem nf46 (op : Int) (ty : Int) (dst : Int) (iargs : List Int) (imm : Int) (sym : Int) (elem : Int) (nw : Bool) (args : List Int) (gs : List (Sh.den gloS)) (fs : List (Sh.den funS)) : exFn (gN b53) Tryd.f69 [insA op ty dst iargs imm sym elem nw, AV.dsl (Sh.int IntKind.i64) args, modA gs fs] = (
  let q0 : Sh.den (Sh.prod (Sh.sl (Sh.int IntKind.i64)) (Sh.prod (Sh.int IntKind.i64) (Sh.prod (Sh.sl (Sh.int IntKind.i64)) (Sh.prod (Sh.sl blkS) Sh.unit)))) := Prod.snd (List.getD fs (Int.toNat sym) (Sh.dflt funS));
  let q1 : List Int := Prod.fst q0;
  let q2 : Bool := sLt (Sc.toI (hd (L46_0 sym args fs))) ↑(List.length q1);
  let q3 : Tg := Tg.mix q2 Tg.n (Tg.x 0);
  let q4 : Bool := sLe 0 (Sc.toI (hd (L46_0 sym args fs)));
  let q5 : Int := List.getD q1 (Int.toNat (Sc.toI (hd (L46_0 sym args fs)))) (0 : Int);
  let q6 : Bool := sLt q5 0;
  let q7 : Bool := sNot q6;
  let q8 : Bool := sNot q7;
  let q9 : Bool := sOr q8 true;
  let q10 : Bool := sOr q8 q7;
  let q11 : Sh.den (Sh.prod (Sh.int IntKind.i64) (Sh.prod (Sh.sl (Sh.int IntKind.i64)) (Sh.prod (Sh.sl blkS) Sh.unit))) := Prod.snd q0;
  let q12 : List Int := Prod.fst (Prod.snd q11);
  let q13 : Int := ↑(List.length q12);
  let q14 : Bool := sIf q6 true (sLe q13 q5);
  let q15 : Bool := sNot q14;
  let q16 : Bool := sNot q15;
  let q17 : Bool := sOr q16 true;
  let q18 : Bool := sOr q16 q15;
  let q19 : Bool := sAnd q15 q15;
  let q20 : Bool := sIf q14 true (sNe (List.getD q12 (Int.toNat q5) (0 : Int)) (List.getD args (Int.toNat (Sc.toI (hd (L46_0 sym args fs)))) (0 : Int)));
  let q21 : Tg := Tg.block 1 (Tg.mix q20 Tg.r Tg.n);
  let q22 : Bool := Tg.isN (Tg.block 0 (Tg.thenN q3 (Tg.thenN q21 Tg.n))); some (sAnd (sAnd (sAnd (sLe 0 sym) (sLt sym ↑(List.length fs))) true) (sAnd (sAnd (sSome (whileW (s46_0 sym args fs) [Sc.i 0])) (sAnd (sIf q2 true true) (sIf (Tg.isN q3) (sAnd (sAnd (sAnd (sAnd q4 q2) true) (sAnd (sAnd (sAnd q9 (sAnd q9 (sAnd q10 (sAnd q10 (sAnd (sOr q8 (sAnd (sAnd q7 q7) true)) (sAnd (sIf q6 true q7) (sAnd q17 (sAnd q18 (sAnd q17 (sAnd (sOr q16 (sAnd q19 (sAnd (sLe 0 q5) (sLt q5 q13)))) (sAnd q18 (sAnd q17 (sAnd q17 (sAnd (sOr q16 (sAnd q19 (sAnd q4 (sLt (Sc.toI (hd (L46_0 sym args fs))) ↑(List.length args))))) (sAnd q18 (sAnd (sOr q16 (sAnd q19 true)) (sAnd (sIf q14 true q15) true))))))))))))))))) true) (sIf q20 true true))) (sIf (Tg.isN q21) true true)) true))) (sIf q22 true true)), AV.bool (sIf q22 (sEq ty (Prod.fst q11)) false))) := by kernel_rfl
theorem sLe_eq (a b : Int) : sLe a b = sNot (sLt b a) := by
  unfold sLe sLt sNot
  by_cases h : a ≤ b
  · rw [decide_eq_true h, decide_eq_false (by omega)]; rfl
  · rw [decide_eq_false h, decide_eq_true (by omega)]; rfl
theorem sLt_true {a b : Int} (h : a < b) : sLt a b = true := decide_eq_true h
theorem sLt_false {a b : Int} (h : ¬ a < b) : sLt a b = false := decide_eq_false h
/-- The function that an instruction names. -/
abbrev fnAt (fs : List funS.den) (sym : Int) : funS.den := fs.getD sym.toNat (Sh.dflt funS)
def badP (sym : Int) (args : List Int) (fs : List funS.den) (j : Nat) : Bool :=
  sIf (sIf (sLt ((fnAt fs sym).2.1.getD j 0) 0) true (sLe ((fnAt fs sym).2.2.2.1.length : Int) ((fnAt fs sym).2.1.getD j 0))) true (sNe ((fnAt fs sym).2.2.2.1.getD ((fnAt fs sym).2.1.getD j 0).toNat 0) (args.getD j 0))
def badN (sym : Int) (args : List Int) (fs : List funS.den) : Nat := (List.range (fnAt fs sym).2.1.length).findIdx (badP sym args fs)
def calleeV (ty sym : Int) (args : List Int) (fs : List funS.den) : Bool := decide (badN sym args fs = (fnAt fs sym).2.1.length) && sEq ty (fnAt fs sym).2.2.1
theorem badN_le (sym : Int) (args : List Int) (fs : List funS.den) : badN sym args fs ≤ (fnAt fs sym).2.1.length := by
  have := @List.findIdx_le_length _ (badP sym args fs) (List.range (fnAt fs sym).2.1.length)
  simpa [badN] using this
theorem badN_lt {sym : Int} {args : List Int} {fs : List funS.den} {j : Nat} (h : j < badN sym args fs) : badP sym args fs j = false := by
  have h1 := badN_le sym args fs
  obtain ⟨h2, h3⟩ := runTail (d := 0) h
  rwa [List.getD_eq_getElem?_getD, List.getElem?_range (by omega)] at h3
theorem badN_at {sym : Int} {args : List Int} {fs : List funS.den} (h : badN sym args fs < (fnAt fs sym).2.1.length) : badP sym args fs (badN sym args fs) = true := by
  have h3 := runEnd (d := 0) (l := List.range (fnAt fs sym).2.1.length) (p := badP sym args fs) (by rw [List.length_range]; exact h)
  rwa [List.getD_eq_getElem?_getD, List.getElem?_range (by exact h)] at h3
theorem step46 (sym : Int) (args : List Int) (fs : List funS.den) (j : Nat) (hb : (fnAt fs sym).2.1.length ≤ bigL) (ha : (fnAt fs sym).2.1.length ≤ args.length) (hj : j < (fnAt fs sym).2.1.length) :
    s46_0 sym args fs [Sc.i (j : Int)] = (true, sNot (badP sym args fs j), [Sc.i ((j + 1 : Nat) : Int)]) := by
  have h1 : sLt (j : Int) ((fnAt fs sym).2.1.length : Int) = true := sLt_true (by omega)
  have h2 : sLt (j : Int) (args.length : Int) = true := sLt_true (by omega)
  have h3 : sLt (j : Int) 0 = false := sLt_false (by omega)
  simp only [s46_0, hd_cons, Sc.toI_i, Int.toNat_natCast, wrapL (show j < bigL by omega), badP, sLe_eq]
  rw [h1, h2, h3]
  generalize sLt (List.getD (fnAt fs sym).2.1 j 0) 0 = a
  generalize sLt (List.getD (fnAt fs sym).2.1 j 0) ((fnAt fs sym).2.2.2.1.length : Int) = b
  generalize sNe (List.getD (fnAt fs sym).2.2.2.1 (Int.toNat (List.getD (fnAt fs sym).2.1 j 0)) 0) (List.getD args j 0) = c
  cases a <;> cases b <;> cases c <;> rfl
theorem stop46 (sym : Int) (args : List Int) (fs : List funS.den) : s46_0 sym args fs [Sc.i ((fnAt fs sym).2.1.length : Int)] = (true, false, [Sc.i (IntKind.wrap .i64 (((fnAt fs sym).2.1.length : Int) + 1))]) := by
  have h1 : sLt ((fnAt fs sym).2.1.length : Int) ((fnAt fs sym).2.1.length : Int) = false := sLt_false (by omega)
  simp only [s46_0, hd_cons, Sc.toI_i, Int.toNat_natCast]
  rw [h1]
  rfl
theorem run46 (sym : Int) (args : List Int) (fs : List funS.den) (hb : (fnAt fs sym).2.1.length ≤ bigL) (ha : (fnAt fs sym).2.1.length ≤ args.length) : whileW (s46_0 sym args fs) [Sc.i 0] = some [Sc.i (badN sym args fs : Nat)] := by
  have hle := badN_le sym args fs
  refine whileW_upto (fun i => [Sc.i (i : Int)]) (badN sym args fs) rfl (fun j hj => ?_) ?_ ?_
  · show s46_0 sym args fs [Sc.i (j : Int)] = _
    rw [step46 sym args fs j hb ha (by omega), badN_lt hj]
    rfl
  · show (s46_0 sym args fs [Sc.i ((badN sym args fs : Nat) : Int)]).1 = true
    rcases Nat.lt_or_ge (badN sym args fs) (fnAt fs sym).2.1.length with h | h
    · rw [step46 sym args fs _ hb ha h]
    · rw [show badN sym args fs = (fnAt fs sym).2.1.length by omega, stop46]
  · show (s46_0 sym args fs [Sc.i ((badN sym args fs : Nat) : Int)]).2.1 = false
    rcases Nat.lt_or_ge (badN sym args fs) (fnAt fs sym).2.1.length with h | h
    · rw [step46 sym args fs _ hb ha h, badN_at h]; rfl
    · rw [show badN sym args fs = (fnAt fs sym).2.1.length by omega, stop46]
theorem nat46 (op ty dst : Int) (iargs : List Int) (imm sym elem : Int) (nw : Bool) (args : List Int) (gs : List gloS.den) (fs : List funS.den) (h0 : 0 ≤ sym) (h1 : sym < fs.length) (hb : (fnAt fs sym).2.1.length ≤ bigL) (ha : (fnAt fs sym).2.1.length ≤ args.length) :
    exFn (gN b53) Tryd.f69 [insA op ty dst iargs imm sym elem nw, AV.dsl (.int .i64) args, modA gs fs] = some (true, .bool (calleeV ty sym args fs)) := by
  rw [nf46]
  have hL : L46_0 sym args fs = [Sc.i (badN sym args fs : Nat)] := by unfold L46_0; rw [run46 sym args fs hb ha]; rfl
  rw [hL, run46 sym args fs hb ha]
  have hle := badN_le sym args fs
  have k0 : sLt sym 0 = false := sLt_false (by omega)
  have k1 : sLt sym (fs.length : Int) = true := sLt_true h1
  have k3 : sLt ((badN sym args fs : Nat) : Int) 0 = false := sLt_false (by omega)
  rcases Nat.lt_or_ge (badN sym args fs) (fnAt fs sym).2.1.length with h | h
  · have hq := badN_at h
    have k4 : sLt ((badN sym args fs : Nat) : Int) ((fnAt fs sym).2.1.length : Int) = true := sLt_true (by omega)
    have k5 : sLt ((badN sym args fs : Nat) : Int) (args.length : Int) = true := sLt_true (by omega)
    have k6 : decide (badN sym args fs = (fnAt fs sym).2.1.length) = false := decide_eq_false (by omega)
    simp only [hd_cons, Sc.toI_i, Int.toNat_natCast, sLe_eq, calleeV, k6]
    rw [k0, k1, k3, k4, k5]
    simp only [badP, sLe_eq] at hq
    revert hq
    generalize sLt (List.getD (fnAt fs sym).2.1 (badN sym args fs) 0) 0 = a
    generalize sLt (List.getD (fnAt fs sym).2.1 (badN sym args fs) 0) ((fnAt fs sym).2.2.2.1.length : Int) = b
    generalize sNe (List.getD (fnAt fs sym).2.2.2.1 (Int.toNat (List.getD (fnAt fs sym).2.1 (badN sym args fs) 0)) 0) (List.getD args (badN sym args fs) 0) = c
    cases a <;> cases b <;> cases c <;> intro hq <;> first | (exact absurd hq (by decide)) | rfl
  · have e : badN sym args fs = (fnAt fs sym).2.1.length := by omega
    have k6 : decide (badN sym args fs = (fnAt fs sym).2.1.length) = true := decide_eq_true e
    have k4 : sLt ((badN sym args fs : Nat) : Int) ((fnAt fs sym).2.1.length : Int) = false := sLt_false (by omega)
    simp only [hd_cons, Sc.toI_i, Int.toNat_natCast, sLe_eq, calleeV, k6, Bool.true_and]
    rw [k0, k1, k4]
    rfl
/-- The contract of the check of a call. -/
def n46 (xs : List AV) : Option (Bool × AV) :=
  match xs with
  | [a, b, c] => (asIns a).bind fun i => (asInts b).bind fun l => (asMod c).bind fun m =>
      some (sAnd (sLe 0 i.2.2.2.2.2.1) (sAnd (sLt i.2.2.2.2.2.1 (m.2.length : Int)) (sAnd (okLen (fnAt m.2 i.2.2.2.2.2.1).2.1.length) (leLen (fnAt m.2 i.2.2.2.2.2.1).2.1.length l.length))), .bool (calleeV i.2.1 i.2.2.2.2.2.1 l m.2))
  | _ => none
noncomputable def b46 : Tab := (69, n46) :: b47
theorem bk46 (hm : Tryd.prog.follows .mixedOrders = true) : TabOk b46 := (bk47 hm).cons (TabOk.readW (bk53 hm) hm Tryd.func69 (by decide) (by rfl) (by
  intro xs r h
  unfold n46 at h
  split at h
  · rename_i a b c
    simp only [Option.bind_eq_some_iff, Option.some.injEq, Prod.mk.injEq] at h
    obtain ⟨i, hi, l, hl, m, hm, h1, rfl⟩ := h
    simp only [sAnd, sLe, sLt, Bool.and_eq_true, decide_eq_true_eq] at h1
    obtain ⟨h1, h2, h3, h4⟩ := h1
    rw [asIns_eq hi, asInts_eq hl, asMod_eq hm]
    exact nat46 _ _ _ _ _ _ _ _ _ _ _ h1 h2 (Nat.le_of_ble_eq_true h3) (Nat.le_of_ble_eq_true h4)
  · cases h))
end Go.Proofs.YtaajbcflmaihgaaDoor
