/- Speculatable operations in natural form, and the table of the contracts of names and classifications. No conditions. -/
import Derived.Test.YtlidfaaajjfgfaaDoorOpcTab
import Derived.Test.YtlidfaaajjfgfaaDoorOpcAwake
set_option linter.all false
namespace Go.Proofs.YtlidfaaajjfgfaaDoor
open Go Ab
set_option maxRecDepth 100000
def specOp (op : Int) : Bool := pureOp op && decide (op ≠ 14) && decide (op ≠ 15)
theorem nf19 (op : Int) : exFn (gN u22) Tryd.f19 [AV.int IntKind.i64 op] =
 some
  (sAnd
      (sAnd (sOr (sNot (pureOp op)) true)
        (sAnd (sOr (sNot (pureOp op)) (sAnd (sAnd (pureOp op) true) true))
          (sAnd (sIf (pureOp op) (pureOp op) true)
            (sAnd (sOr (sNot (sIf (pureOp op) (sNe op 14) false)) true)
              (sAnd
                (sOr (sNot (sIf (pureOp op) (sNe op 14) false))
                  (sAnd (sAnd (sIf (pureOp op) (sNe op 14) false) true) true))
                (sAnd (sIf (sIf (pureOp op) (sNe op 14) false) (sIf (pureOp op) (sNe op 14) false) true) true))))))
      true,
    AV.bool (sIf (sIf (pureOp op) (sNe op 14) false) (sNe op 15) false)) := by kernel_rfl

theorem nf20 (op : Int) : exFn (gN u22) Tryd.f20 [AV.int IntKind.i64 op] =
 some
  (sAnd
      (sAnd (sOr (sNot (pureOp op)) true)
        (sAnd (sOr (sNot (pureOp op)) (sAnd (sAnd (pureOp op) true) true))
          (sAnd (sIf (pureOp op) (pureOp op) true)
            (sAnd (sOr (sNot (sIf (pureOp op) (sNe op 14) false)) true)
              (sAnd
                (sOr (sNot (sIf (pureOp op) (sNe op 14) false))
                  (sAnd (sAnd (sIf (pureOp op) (sNe op 14) false) true) true))
                (sAnd (sIf (sIf (pureOp op) (sNe op 14) false) (sIf (pureOp op) (sNe op 14) false) true) true))))))
      true,
    AV.bool (sIf (sIf (pureOp op) (sNe op 14) false) (sNe op 15) false)) := by kernel_rfl

theorem nat19 (op : Int) : exFn (gN u22) Tryd.f19 [.int .i64 op] = some (true, .bool (specOp op)) := by
  rw [nf19]
  by_cases h1 : op = 14
  · subst h1; rfl
  by_cases h2 : op = 15
  · subst h2; rfl
  have e1 : (op != 14) = true := by simpa using h1
  have e2 : (op != 15) = true := by simpa using h2
  cases h : pureOp op <;> simp [specOp, sAnd, sOr, sNot, sIf, sNe, e1, e2, h, h1, h2]
theorem nat20 (op : Int) : exFn (gN u22) Tryd.f20 [.int .i64 op] = some (true, .bool (specOp op)) := by
  rw [nf20]
  by_cases h1 : op = 14
  · subst h1; rfl
  by_cases h2 : op = 15
  · subst h2; rfl
  have e1 : (op != 14) = true := by simpa using h1
  have e2 : (op != 15) = true := by simpa using h2
  cases h : pureOp op <;> simp [specOp, sAnd, sOr, sNot, sIf, sNe, e1, e2, h, h1, h2]
def n19 : List AV → Option (Bool × AV)
  | [.int .i64 op] => some (true, .bool (specOp op))
  | _ => none
noncomputable def u19 : Tab := (19, n19) :: u22
theorem uk19 (hm : Tryd.prog.follows .mixedOrders = true) : TabOk u19 := (uk22 hm).cons (TabOk.readW (uk22 hm) hm Tryd.func19 (by decide) (by rfl) (by
  intro xs r h
  unfold n19 at h
  split at h
  · cases h; exact nat19 _
  · cases h))
def n20 : List AV → Option (Bool × AV)
  | [.int .i64 op] => some (true, .bool (specOp op))
  | _ => none
noncomputable def u20 : Tab := (20, n20) :: u19
theorem uk20 (hm : Tryd.prog.follows .mixedOrders = true) : TabOk u20 := (uk19 hm).cons (TabOk.readW (uk22 hm) hm Tryd.func20 (by decide) (by rfl) (by
  intro xs r h
  unfold n20 at h
  split at h
  · cases h; exact nat20 _
  · cases h))
noncomputable def uA : Tab := (23, n23) :: u20
theorem ukA (hm : Tryd.prog.follows .mixedOrders = true) : TabOk uA := (uk20 hm).cons (okA hm 23 n23 (by rfl))
end Go.Proofs.YtlidfaaajjfgfaaDoor
