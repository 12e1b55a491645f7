/- The law ExprCheck answers true. No conditions but the bound on numbers in memory. -/
import Derived.Test.YtaajbcflmaihgaaDoorExpWorks
set_option linter.all false
namespace Go.Proofs.YtaajbcflmaihgaaDoor
open Go Ab
set_option maxRecDepth 100000
theorem xf3 (es : List Nod) (fnm : ByteArray) (fps : List Int) (fres : Int) (regs : List Int) (fbl : List blkS.den) (gs : List gloS.den) (fs : List funS.den) : exFn (gX w1) Tryd.f3 [AV.dsl nodS es, funA fnm fps fres regs fbl, modA gs fs] = (
 let q0 : Bool := (Tg.mix (bigV es regs gs fs) Tg.r Tg.n).isN;
  let q1 : Bool := sAnd true (sAnd true (sAnd true (sAnd (sAnd true (sAnd (len150 es.length) (wfNods es))) true)));
  let q2 : Bool := sEq (checkV regs gs fs es).fst (checkV regs gs fs es).fst;
  let q3 : Bool := sNot q2;
  let q4 : Bool := sOr q3 true;
  let q5 : Bool := sIf q2 (sEq (checkV regs gs fs es).snd (checkV regs gs fs es).snd) false;
  some
  (sAnd true
      (sIf true
        (sAnd (sAnd true (sIf true (sAnd true (sIf (bigV es regs gs fs) true true)) true))
          (sIf q0
            (sAnd q1
              (sIf true
                (sAnd q1
                  (sIf true
                    (sAnd
                      (sAnd true
                        (sAnd true
                          (sAnd true
                            (sAnd true
                              (sAnd q4
                                (sAnd q4
                                  (sAnd (sOr q3 (sAnd (sAnd q2 q2) true))
                                    (sAnd (sAnd true (sIf q2 q2 true))
                                      (sAnd true
                                        (sAnd (sOr (sNot q5) true) (sAnd (sAnd true (sIf q5 q5 true)) true)))))))))))
                      true)
                    true))
                true))
            true))
        true),
    AV.bool (sIf q0 (sIf q5 true false) true))) := by kernel_rfl
theorem bigV_len {es : List Nod} {regs : List Int} {gs : List gloS.den} {fs : List funS.den} (h : bigV es regs gs fs = false) : es.length ≤ 150 := by
  unfold bigV at h
  by_cases h1 : 150 < es.length
  · rw [sLt_true (show (150 : Int) < (es.length : Int) by omega)] at h
    exact absurd h (by simp [sIf])
  · omega
theorem sEq_self (x : Int) : sEq x x = true := by simp [sEq]
theorem check3 (es : List Nod) (fnm : ByteArray) (fps : List Int) (fres : Int) (regs : List Int) (fbl : List blkS.den) (gs : List gloS.den) (fs : List funS.den) (hwf : wfNods es = true) :
    exFn (gX w1) Tryd.f3 [AV.dsl nodS es, funA fnm fps fres regs fbl, modA gs fs] = some (true, .bool true) := by
  rw [xf3]
  by_cases hb : bigV es regs gs fs = true
  · rw [hb]; rfl
  · have hb : bigV es regs gs fs = false := by simpa using hb
    have hl : len150 es.length = true := Nat.ble_eq_true_of_le (bigV_len hb)
    simp only [hb, hl, hwf, sEq_self]
    rfl
end Go.Proofs.YtaajbcflmaihgaaDoor
