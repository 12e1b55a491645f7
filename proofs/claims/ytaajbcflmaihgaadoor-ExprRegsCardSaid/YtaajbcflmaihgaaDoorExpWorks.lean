/- The chapter's examples answer true. No conditions. -/
import Derived.Test.YtaajbcflmaihgaaDoorExpChkR
set_option linter.all false
namespace Go.Proofs.YtaajbcflmaihgaaDoor
open Go Ab
set_option maxRecDepth 100000
section
variable (hm : Tryd.prog.follows .mixedOrders = true)
noncomputable def z1 : XTab := { z0 with i := (53, exFnCI (gX z0) 20 Tryd.f53) :: z0.i }
include hm in
theorem zk1 : XOk z1 := (zk0 hm).consI ((zk0 hm).readCI hm Tryd.func53 (by decide) (by rfl) 20)
noncomputable def z2 : XTab := { z1 with i := (32, exFnCI (gX z1) 20 Tryd.f32) :: z1.i, k := (77, exFnC (gX z1) 20 Tryd.f77) :: (13, exFnC (gX z1) 20 Tryd.f13) :: (15, exFnC (gX z1) 20 Tryd.f15) :: (34, exFnC (gX z1) 20 Tryd.f34) :: z1.k }
include hm in
theorem zk2 : XOk z2 := (((((zk1 hm).consK ((zk1 hm).readC hm Tryd.func34 (by decide) (by rfl) 20 fun _ _ h => h)).consK ((zk1 hm).readC hm Tryd.func15 (by decide) (by rfl) 20 fun _ _ h => h)).consK
  ((zk1 hm).readC hm Tryd.func13 (by decide) (by rfl) 20 fun _ _ h => h)).consK ((zk1 hm).readC hm Tryd.func77 (by decide) (by rfl) 20 fun _ _ h => h)).consI ((zk1 hm).readCI hm Tryd.func32 (by decide) (by rfl) 20)
noncomputable def z3 : XTab := { z2 with j := (17, freshC (exFnCI (gX z2) 20 Tryd.f17)) :: z2.j, k := (54, exFnC (gX z2) 20 Tryd.f54) :: z2.k }
include hm in
theorem zk3 : XOk z3 := ((zk2 hm).consK ((zk2 hm).readC hm Tryd.func54 (by decide) (by rfl) 20 fun _ _ h => h)).consJ (IOk.fresh ((zk2 hm).readCI hm Tryd.func17 (by decide) (by rfl) 20))
noncomputable def z4 : XTab := { z3 with k := (33, exFnC (gX z3) 20 Tryd.f33) :: z3.k }
include hm in
theorem zk4 : XOk z4 := (zk3 hm).consK ((zk3 hm).readC hm Tryd.func33 (by decide) (by rfl) 20 fun _ _ h => h)
noncomputable def z5 : XTab := { z4 with k := (19, exFnC (gX z4) 20 Tryd.f19) :: z4.k }
include hm in
theorem zk5 : XOk z5 := (zk4 hm).consK ((zk4 hm).readC hm Tryd.func19 (by decide) (by rfl) 20 fun _ _ h => h)
theorem works_says : exFnC (gX z5) 20 Tryd.f9 [] = some (true, .bool true) := of_isTru (by kernel_rfl)
def xm9 : List AV → Option (Bool × AV)
  | [] => some (true, .bool true)
  | _ => none
include hm in
theorem xk9 : KOk E0 9 xm9 := (zk5 hm).readC hm Tryd.func9 (by decide) (by rfl) 20 (by
  intro xs r h
  match xs, h with
  | [], h => cases h; exact works_says
  | _ :: _, h => cases h)
end
end Go.Proofs.YtaajbcflmaihgaaDoor
/- The guard of the laws. No conditions. -/
set_option linter.all false
namespace Go.Proofs.YtaajbcflmaihgaaDoor
open Go Ab
set_option maxRecDepth 100000
noncomputable def w0 : XTab := { z0 with k := (9, xm9) :: z0.k }
theorem wk0 (hm : Tryd.prog.follows .mixedOrders = true) : XOk w0 := (zk0 hm).consK (xk9 hm)
theorem xf8 (es : List Nod) (fnm : ByteArray) (fps : List Int) (fres : Int) (regs : List Int) (fbl : List blkS.den) (gs : List gloS.den) (fs : List funS.den) : exFn (gX w0) Tryd.f8 [AV.dsl nodS es, funA fnm fps fres regs fbl, modA gs fs] = (
 let q0 : Bool := sLt 150 ↑es.length;
  let q1 : Bool := sNot q0;
  let q2 : Bool := sNot q1;
  let q3 : Bool := sOr q2 q1;
  let q4 : Bool := sIf q0 true (sLt 500 ↑regs.length);
  let q5 : Bool := sNot q4;
  let q6 : Bool := sNot q5;
  let q7 : Bool := sOr q6 q5;
  let q8 : Bool := sIf q4 true (sLt 100 ↑gs.length);
  let q9 : Bool := sNot q8;
  let q10 : Bool := sNot q9;
  let q11 : Bool := sOr q10 q9;
  some
  (sAnd true
      (sIf true
        (sAnd
          (sAnd true
            (sAnd true
              (sAnd true
                (sAnd true
                  (sAnd (sOr q2 true)
                    (sAnd q3
                      (sAnd q3
                        (sAnd (sOr q2 (sAnd (sAnd q1 true) true))
                          (sAnd (sAnd true (sIf q0 true q1))
                            (sAnd true
                              (sAnd (sOr q6 true)
                                (sAnd q7
                                  (sAnd q7
                                    (sAnd (sOr q6 (sAnd (sAnd q5 true) true))
                                      (sAnd (sAnd true (sIf q4 true q5))
                                        (sAnd true
                                          (sAnd (sOr q10 true)
                                            (sAnd q11
                                              (sAnd q11
                                                (sAnd (sOr q10 (sAnd (sAnd q9 true) true))
                                                  (sAnd (sAnd true (sIf q8 true q9)) true)))))))))))))))))))))
          true)
        true),
    AV.bool (sIf q8 true (sLt 100 ↑fs.length)))) := by kernel_rfl
/-- Larger than the laws go through. -/
def bigV (es : List Nod) (regs : List Int) (gs : List gloS.den) (fs : List funS.den) : Bool := sIf (sIf (sIf (sLt 150 es.length) true (sLt 500 regs.length)) true (sLt 100 gs.length)) true (sLt 100 fs.length)
theorem nat8x (es : List Nod) (fnm : ByteArray) (fps : List Int) (fres : Int) (regs : List Int) (fbl : List blkS.den) (gs : List gloS.den) (fs : List funS.den) :
    exFn (gX w0) Tryd.f8 [AV.dsl nodS es, funA fnm fps fres regs fbl, modA gs fs] = some (true, .bool (bigV es regs gs fs)) := by
  rw [xf8]
  unfold bigV
  generalize sLt 150 (es.length : Int) = a
  generalize sLt 500 (regs.length : Int) = b
  generalize sLt 100 (gs.length : Int) = c
  cases a <;> cases b <;> cases c <;> rfl
def xm8 (xs : List AV) : Option (Bool × AV) :=
  match xs with
  | [a, b, c] => (asNods a).bind fun es => (asFun b).bind fun f => (asMod c).bind fun m => some (true, .bool (bigV es f.2.2.2.1 m.1 m.2))
  | _ => none
noncomputable def w1 : XTab := { w0 with k := (8, preC (argsT Tryd.prog Tryd.f8) xm8) :: w0.k }
theorem wk1 (hm : Tryd.prog.follows .mixedOrders = true) : XOk w1 := (wk0 hm).consK (KOk.preC ((wk0 hm).read hm Tryd.func8 (by decide) (by rfl) (by
  intro xs r h
  unfold xm8 at h
  split at h
  · simp only [Option.bind_eq_some_iff, Option.some.injEq, Prod.mk.injEq] at h
    obtain ⟨es, he, f, hf, m, hm, -, rfl⟩ := h
    rw [asNods_eq he, asFun_eq hf, asMod_eq hm]
    exact nat8x _ _ _ _ _ _ _ _
  · cases h)) _)
end Go.Proofs.YtaajbcflmaihgaaDoor
