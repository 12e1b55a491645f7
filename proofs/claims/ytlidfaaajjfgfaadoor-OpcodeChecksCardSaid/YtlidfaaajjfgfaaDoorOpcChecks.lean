/- The law OpcodeChecks, read with the natural forms of both checks, answers true. No conditions but the bound on a number in memory. -/
import Derived.Test.YtlidfaaajjfgfaaDoorOpcTab5
set_option linter.all false
namespace Go.Proofs.YtlidfaaajjfgfaaDoor
open Go Ab
set_option maxRecDepth 100000
theorem nf4 (op : Int) (ty : Int) (dst : Int) (iargs : List Int) (imm : Int) (sym : Int) (elem : Int) (nw : Bool) (fnm : ByteArray) (fps : List Int) (fres : Int) (regs : List Int) (fbl : List (Sh.den blkS)) (gs : List (Sh.den gloS)) (fs : List (Sh.den funS)) : exFn (gN e25T) Tryd.f4 [insA op ty dst iargs imm sym elem nw, funA fnm fps fres regs fbl, modA gs fs] = (
  let q0 : Bool := sLt 50 ↑(List.length iargs);
  let q1 : Bool := Tg.isN (Tg.mix q0 Tg.r Tg.n);
  let q2 : Int := chkV op ty dst iargs imm sym elem nw regs gs fs;
  let q3 : Bool := sEq q2 q2; some (sAnd true (sAnd (sAnd true (sAnd true (sIf q0 true true))) (sIf q1 (sAnd (sAnd (sAnd true (sAnd true (sAnd true (sAnd (sAnd true (len1000 (List.length iargs))) (sAnd true (sAnd true (sAnd true (sAnd (sAnd true (sAnd (len1000 (List.length iargs)) (okImm imm))) (sAnd true (sAnd true (sAnd (sOr (sNot q3) true) (sAnd (sAnd true (sIf q3 q3 true)) true)))))))))))) true) true) true)), AV.bool (sIf q1 (sIf q3 true false) true))) := by kernel_rfl
theorem checks_says {op ty dst imm sym elem : Int} {iargs regs : List Int} {nw : Bool} {gs : List gloS.den} {fs : List funS.den} {fnm : ByteArray} {fps : List Int} {fres : Int} {fbl : List blkS.den} (hi1 : -9223372036854775808 ≤ imm) (hi2 : imm ≤ 9223372036854775807) :
    exFn (gN e25T) Tryd.f4 [insA op ty dst iargs imm sym elem nw, funA fnm fps fres regs fbl, modA gs fs] = some (true, .bool true) := by
  rw [nf4]
  have hi : okImm imm = true := decide_eq_true ⟨hi1, hi2⟩
  have he : ∀ x : Int, sEq x x = true := fun x => by simp [sEq]
  by_cases h50 : 50 < iargs.length
  · have e0 : sLt 50 (iargs.length : Int) = true := sLt_true (by omega)
    simp only [e0, he]
    rfl
  · have e0 : sLt 50 (iargs.length : Int) = false := sLt_false (by omega)
    have e1 : len1000 iargs.length = true := Nat.ble_eq_true_of_le (by omega)
    simp only [e0, e1, hi, he]
    rfl
end Go.Proofs.YtlidfaaajjfgfaaDoor
