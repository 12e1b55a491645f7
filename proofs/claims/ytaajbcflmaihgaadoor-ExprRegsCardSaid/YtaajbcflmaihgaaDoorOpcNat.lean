/- The functions of names and classifications, program and reference, in natural form: both are the same functions. No conditions. -/
import Derived.Test.YtaajbcflmaihgaaDoorOpcChain
set_option linter.all false
namespace Go.Proofs.YtaajbcflmaihgaaDoor
open Go Ab
set_option maxRecDepth 100000
noncomputable def s7_0 (nm : ByteArray) : List Sc → Bool × Bool × List Sc := fun xs =>
  (sAnd (sIf (sLt (Sc.toI (hd xs)) ↑(List.length rowsL)) true true)
      (sIf (Tg.isN (Tg.mix (sLt (Sc.toI (hd xs)) ↑(List.length rowsL)) Tg.n (Tg.x 0)))
        (sAnd
          (sAnd (sAnd (sAnd (sLe 0 (Sc.toI (hd xs))) (sLt (Sc.toI (hd xs)) ↑(List.length rowsL))) true)
            (sIf
              (bEq
                (Prod.fst
                  (List.getD rowsL (Int.toNat (Sc.toI (hd xs)))
                    (Sh.dflt (Sh.prod Sh.str (Sh.prod (Sh.int IntKind.i64) Sh.unit)))))
                nm)
              true true))
          (sIf
            (Tg.isN
              (Tg.block 1
                (Tg.mix
                  (bEq
                    (Prod.fst
                      (List.getD rowsL (Int.toNat (Sc.toI (hd xs)))
                        (Sh.dflt (Sh.prod Sh.str (Sh.prod (Sh.int IntKind.i64) Sh.unit)))))
                    nm)
                  Tg.r Tg.n)))
            true true))
        true),
    Tg.isN
      (Tg.thenN (Tg.mix (sLt (Sc.toI (hd xs)) ↑(List.length rowsL)) Tg.n (Tg.x 0))
        (Tg.thenN
          (Tg.block 1
            (Tg.mix
              (bEq
                (Prod.fst
                  (List.getD rowsL (Int.toNat (Sc.toI (hd xs)))
                    (Sh.dflt (Sh.prod Sh.str (Sh.prod (Sh.int IntKind.i64) Sh.unit)))))
                nm)
              Tg.r Tg.n))
          Tg.n)),
    [Sc.i (IntKind.wrap IntKind.i64 (Sc.toI (hd xs) + 1))])
noncomputable def L7_0 (nm : ByteArray) : List Sc := Option.getD (whileW (s7_0 nm) [Sc.i 0]) [Sc.i 0]
noncomputable def s8_0 (nm : ByteArray) : List Sc → Bool × Bool × List Sc := fun xs =>
  (sAnd (sIf (sLt (Sc.toI (hd xs)) ↑(List.length opsL)) true true)
      (sIf (Tg.isN (Tg.mix (sLt (Sc.toI (hd xs)) ↑(List.length opsL)) Tg.n (Tg.x 0)))
        (sAnd
          (sAnd (sAnd (sAnd (sLe 0 (Sc.toI (hd xs))) (sLt (Sc.toI (hd xs)) ↑(List.length opsL))) true)
            (sAnd
              (sAnd (sOr (sNot (sLt 0 (Sc.toI (hd xs)))) true)
                (sAnd (sOr (sNot (sLt 0 (Sc.toI (hd xs)))) true)
                  (sAnd
                    (sOr (sNot (sLt 0 (Sc.toI (hd xs))))
                      (sAnd (sAnd (sLt 0 (Sc.toI (hd xs))) (sLt 0 (Sc.toI (hd xs)))) true))
                    (sAnd (sIf (sLt 0 (Sc.toI (hd xs))) (sLt 0 (Sc.toI (hd xs))) true) true))))
              (sIf
                (sIf (sLt 0 (Sc.toI (hd xs))) (bEq (List.getD opsL (Int.toNat (Sc.toI (hd xs))) (Sh.dflt Sh.str)) nm)
                  false)
                true true)))
          (sIf
            (Tg.isN
              (Tg.block 1
                (Tg.mix
                  (sIf (sLt 0 (Sc.toI (hd xs))) (bEq (List.getD opsL (Int.toNat (Sc.toI (hd xs))) (Sh.dflt Sh.str)) nm)
                    false)
                  Tg.r Tg.n)))
            true true))
        true),
    Tg.isN
      (Tg.thenN (Tg.mix (sLt (Sc.toI (hd xs)) ↑(List.length opsL)) Tg.n (Tg.x 0))
        (Tg.thenN
          (Tg.block 1
            (Tg.mix
              (sIf (sLt 0 (Sc.toI (hd xs))) (bEq (List.getD opsL (Int.toNat (Sc.toI (hd xs))) (Sh.dflt Sh.str)) nm)
                false)
              Tg.r Tg.n))
          Tg.n)),
    [Sc.i (IntKind.wrap IntKind.i64 (Sc.toI (hd xs) + 1))])
noncomputable def L8_0 (nm : ByteArray) : List Sc := Option.getD (whileW (s8_0 nm) [Sc.i 0]) [Sc.i 0]
noncomputable def s9_0 (nm : ByteArray) : List Sc → Bool × Bool × List Sc := fun xs =>
  (sAnd (sIf (sLt (Sc.toI (hd xs)) ↑(List.length typesL)) true true)
      (sIf (Tg.isN (Tg.mix (sLt (Sc.toI (hd xs)) ↑(List.length typesL)) Tg.n (Tg.x 0)))
        (sAnd
          (sAnd (sAnd (sAnd (sLe 0 (Sc.toI (hd xs))) (sLt (Sc.toI (hd xs)) ↑(List.length typesL))) true)
            (sIf (bEq (List.getD typesL (Int.toNat (Sc.toI (hd xs))) (Sh.dflt Sh.str)) nm) true true))
          (sIf
            (Tg.isN
              (Tg.block 1 (Tg.mix (bEq (List.getD typesL (Int.toNat (Sc.toI (hd xs))) (Sh.dflt Sh.str)) nm) Tg.r Tg.n)))
            true true))
        true),
    Tg.isN
      (Tg.thenN (Tg.mix (sLt (Sc.toI (hd xs)) ↑(List.length typesL)) Tg.n (Tg.x 0))
        (Tg.thenN
          (Tg.block 1 (Tg.mix (bEq (List.getD typesL (Int.toNat (Sc.toI (hd xs))) (Sh.dflt Sh.str)) nm) Tg.r Tg.n))
          Tg.n)),
    [Sc.i (IntKind.wrap IntKind.i64 (Sc.toI (hd xs) + 1))])
noncomputable def L9_0 (nm : ByteArray) : List Sc := Option.getD (whileW (s9_0 nm) [Sc.i 0]) [Sc.i 0]
noncomputable def s10_0 (nm : ByteArray) : List Sc → Bool × Bool × List Sc := fun xs =>
  (sAnd (sIf (sLt (Sc.toI (hd xs)) ↑(List.length typesL)) true true)
      (sIf (Tg.isN (Tg.mix (sLt (Sc.toI (hd xs)) ↑(List.length typesL)) Tg.n (Tg.x 0)))
        (sAnd
          (sAnd (sAnd (sAnd (sLe 0 (Sc.toI (hd xs))) (sLt (Sc.toI (hd xs)) ↑(List.length typesL))) true)
            (sIf (bEq (List.getD typesL (Int.toNat (Sc.toI (hd xs))) (Sh.dflt Sh.str)) nm) true true))
          (sIf
            (Tg.isN
              (Tg.block 1 (Tg.mix (bEq (List.getD typesL (Int.toNat (Sc.toI (hd xs))) (Sh.dflt Sh.str)) nm) Tg.r Tg.n)))
            true true))
        true),
    Tg.isN
      (Tg.thenN (Tg.mix (sLt (Sc.toI (hd xs)) ↑(List.length typesL)) Tg.n (Tg.x 0))
        (Tg.thenN
          (Tg.block 1 (Tg.mix (bEq (List.getD typesL (Int.toNat (Sc.toI (hd xs))) (Sh.dflt Sh.str)) nm) Tg.r Tg.n))
          Tg.n)),
    [Sc.i (IntKind.wrap IntKind.i64 (Sc.toI (hd xs) + 1))])
noncomputable def L10_0 (nm : ByteArray) : List Sc := Option.getD (whileW (s10_0 nm) [Sc.i 0]) [Sc.i 0]
theorem nf11 (op : Int) : exFn (gN t29) Tryd.f70 [AV.int IntKind.i64 op] =
 some
  (sAnd
      (sAnd (sIf (sEq op 2) true (sIf (sEq op 3) true (sIf (sEq op 4) true true)))
        (sIf (Tg.isN (Tg.mix (sEq op 2) Tg.n (Tg.mix (sEq op 3) Tg.n (Tg.mix (sEq op 4) Tg.n Tg.n))))
          (sIf (sIf (sEq op 2) (sEq op 2) (sIf (sEq op 3) (sEq op 3) (sIf (sEq op 4) (sEq op 4) (sEq op 5)))) true
            (sIf (sEq op 6) true (sIf (sEq op 7) true true)))
          true))
      (sIf
        (Tg.isN
          (Tg.block 0
            (Tg.thenN (Tg.mix (sEq op 2) Tg.n (Tg.mix (sEq op 3) Tg.n (Tg.mix (sEq op 4) Tg.n Tg.n)))
              (Tg.mix (sIf (sEq op 2) (sEq op 2) (sIf (sEq op 3) (sEq op 3) (sIf (sEq op 4) (sEq op 4) (sEq op 5))))
                Tg.r (Tg.mix (sEq op 6) Tg.r (Tg.mix (sEq op 7) Tg.r Tg.n))))))
        true true),
    AV.tup
      [AV.int IntKind.i64
          (sIf
            (Tg.isN
              (Tg.block 0
                (Tg.thenN (Tg.mix (sEq op 2) Tg.n (Tg.mix (sEq op 3) Tg.n (Tg.mix (sEq op 4) Tg.n Tg.n)))
                  (Tg.mix (sIf (sEq op 2) (sEq op 2) (sIf (sEq op 3) (sEq op 3) (sIf (sEq op 4) (sEq op 4) (sEq op 5))))
                    Tg.r (Tg.mix (sEq op 6) Tg.r (Tg.mix (sEq op 7) Tg.r Tg.n))))))
            0
            (sIf (sIf (sEq op 2) (sEq op 2) (sIf (sEq op 3) (sEq op 3) (sIf (sEq op 4) (sEq op 4) (sEq op 5)))) op
              (sIf (sEq op 6) 3 3))),
        AV.int IntKind.i64
          (sIf
            (Tg.isN
              (Tg.block 0
                (Tg.thenN (Tg.mix (sEq op 2) Tg.n (Tg.mix (sEq op 3) Tg.n (Tg.mix (sEq op 4) Tg.n Tg.n)))
                  (Tg.mix (sIf (sEq op 2) (sEq op 2) (sIf (sEq op 3) (sEq op 3) (sIf (sEq op 4) (sEq op 4) (sEq op 5))))
                    Tg.r (Tg.mix (sEq op 6) Tg.r (Tg.mix (sEq op 7) Tg.r Tg.n))))))
            0
            (sIf (sIf (sEq op 2) (sEq op 2) (sIf (sEq op 3) (sEq op 3) (sIf (sEq op 4) (sEq op 4) (sEq op 5)))) 1
              (sIf (sEq op 6) 2 4)))]) := by kernel_rfl

theorem nf12 (op : Int) : exFn (gN t29) Tryd.f75 [AV.int IntKind.i64 op] =
 some
  (sAnd
      (sAnd (sIf (sEq op 2) true (sIf (sEq op 3) true (sIf (sEq op 4) true true)))
        (sIf (Tg.isN (Tg.mix (sEq op 2) Tg.n (Tg.mix (sEq op 3) Tg.n (Tg.mix (sEq op 4) Tg.n Tg.n))))
          (sIf (sIf (sEq op 2) (sEq op 2) (sIf (sEq op 3) (sEq op 3) (sIf (sEq op 4) (sEq op 4) (sEq op 5)))) true
            (sIf (sEq op 6) true (sIf (sEq op 7) true true)))
          true))
      (sIf
        (Tg.isN
          (Tg.block 0
            (Tg.thenN (Tg.mix (sEq op 2) Tg.n (Tg.mix (sEq op 3) Tg.n (Tg.mix (sEq op 4) Tg.n Tg.n)))
              (Tg.mix (sIf (sEq op 2) (sEq op 2) (sIf (sEq op 3) (sEq op 3) (sIf (sEq op 4) (sEq op 4) (sEq op 5))))
                Tg.r (Tg.mix (sEq op 6) Tg.r (Tg.mix (sEq op 7) Tg.r Tg.n))))))
        true true),
    AV.tup
      [AV.int IntKind.i64
          (sIf
            (Tg.isN
              (Tg.block 0
                (Tg.thenN (Tg.mix (sEq op 2) Tg.n (Tg.mix (sEq op 3) Tg.n (Tg.mix (sEq op 4) Tg.n Tg.n)))
                  (Tg.mix (sIf (sEq op 2) (sEq op 2) (sIf (sEq op 3) (sEq op 3) (sIf (sEq op 4) (sEq op 4) (sEq op 5))))
                    Tg.r (Tg.mix (sEq op 6) Tg.r (Tg.mix (sEq op 7) Tg.r Tg.n))))))
            0
            (sIf (sIf (sEq op 2) (sEq op 2) (sIf (sEq op 3) (sEq op 3) (sIf (sEq op 4) (sEq op 4) (sEq op 5)))) op
              (sIf (sEq op 6) 3 3))),
        AV.int IntKind.i64
          (sIf
            (Tg.isN
              (Tg.block 0
                (Tg.thenN (Tg.mix (sEq op 2) Tg.n (Tg.mix (sEq op 3) Tg.n (Tg.mix (sEq op 4) Tg.n Tg.n)))
                  (Tg.mix (sIf (sEq op 2) (sEq op 2) (sIf (sEq op 3) (sEq op 3) (sIf (sEq op 4) (sEq op 4) (sEq op 5))))
                    Tg.r (Tg.mix (sEq op 6) Tg.r (Tg.mix (sEq op 7) Tg.r Tg.n))))))
            0
            (sIf (sIf (sEq op 2) (sEq op 2) (sIf (sEq op 3) (sEq op 3) (sIf (sEq op 4) (sEq op 4) (sEq op 5)))) 1
              (sIf (sEq op 6) 2 4)))]) := by kernel_rfl

theorem nf13 (op : Int) : exFn (gN t29) Tryd.f35 [AV.int IntKind.i64 op] =
 some
  (sAnd
      (sAnd
        (sAnd (sOr (sNot (sNot (sLt op 1))) true)
          (sAnd (sOr (sNot (sNot (sLt op 1))) true)
            (sAnd (sOr (sNot (sNot (sLt op 1))) (sNot (sLt op 1)))
              (sAnd (sOr (sNot (sNot (sLt op 1))) (sAnd (sAnd (sNot (sLt op 1)) (sNot (sLt op 1))) true))
                (sAnd (sIf (sLt op 1) true (sNot (sLt op 1))) true)))))
        (sIf (sIf (sLt op 1) true (sLt (↑(List.length rowsL)) op)) true true))
      (sIf (Tg.isN (Tg.mix (sIf (sLt op 1) true (sLt (↑(List.length rowsL)) op)) Tg.r Tg.n))
        (sAnd
          (sAnd
            (sAnd (sLe 0 (IntKind.wrap IntKind.i64 (op - 1)))
              (sLt (IntKind.wrap IntKind.i64 (op - 1)) ↑(List.length rowsL)))
            true)
          true)
        true),
    AV.str
      (sIf (Tg.isN (Tg.mix (sIf (sLt op 1) true (sLt (↑(List.length rowsL)) op)) Tg.r Tg.n))
        (Prod.fst
          (List.getD rowsL (Int.toNat (IntKind.wrap IntKind.i64 (op - 1)))
            (Sh.dflt (Sh.prod Sh.str (Sh.prod (Sh.int IntKind.i64) Sh.unit)))))
        (ByteArray.mk (Array.mk [])))) := by kernel_rfl

theorem nf14 (op : Int) : exFn (gN t29) Tryd.f38 [AV.int IntKind.i64 op] =
 some
  (sAnd
      (sAnd
        (sAnd (sOr (sNot (sNot (sLt op 1))) true)
          (sAnd (sOr (sNot (sNot (sLt op 1))) (sAnd (sAnd (sNot (sLt op 1)) true) true))
            (sAnd (sIf (sLt op 1) true (sNot (sLt op 1))) true)))
        (sIf (sIf (sLt op 1) true (sLt 33 op)) true true))
      (sIf (Tg.isN (Tg.mix (sIf (sLt op 1) true (sLt 33 op)) Tg.r Tg.n))
        (sAnd (sAnd (sAnd (sLe 0 op) (sLt op ↑(List.length opsL))) true) true) true),
    AV.str
      (sIf (Tg.isN (Tg.mix (sIf (sLt op 1) true (sLt 33 op)) Tg.r Tg.n))
        (List.getD opsL (Int.toNat op) (Sh.dflt Sh.str)) (ByteArray.mk (Array.mk [])))) := by kernel_rfl

theorem nf15 (op : Int) : exFn (gN t29) Tryd.f36 [AV.int IntKind.i64 op] =
 some
  (sAnd
      (sAnd
        (sAnd (sOr (sNot (sNot (sLt op 0))) true)
          (sAnd (sOr (sNot (sNot (sLt op 0))) true)
            (sAnd (sOr (sNot (sNot (sLt op 0))) (sNot (sLt op 0)))
              (sAnd (sOr (sNot (sNot (sLt op 0))) (sAnd (sAnd (sNot (sLt op 0)) (sNot (sLt op 0))) true))
                (sAnd (sIf (sLt op 0) true (sNot (sLt op 0))) true)))))
        (sIf (sIf (sLt op 0) true (sLe (↑(List.length typesL)) op)) true true))
      (sIf (Tg.isN (Tg.mix (sIf (sLt op 0) true (sLe (↑(List.length typesL)) op)) Tg.r Tg.n))
        (sAnd (sAnd (sAnd (sLe 0 op) (sLt op ↑(List.length typesL))) true) true) true),
    AV.str
      (sIf (Tg.isN (Tg.mix (sIf (sLt op 0) true (sLe (↑(List.length typesL)) op)) Tg.r Tg.n))
        (List.getD typesL (Int.toNat op) (Sh.dflt Sh.str)) (ByteArray.mk (Array.mk [])))) := by kernel_rfl

theorem nf16 (op : Int) : exFn (gN t29) Tryd.f39 [AV.int IntKind.i64 op] =
 some
  (sAnd
      (sAnd
        (sAnd (sOr (sNot (sNot (sLt op 0))) true)
          (sAnd (sOr (sNot (sNot (sLt op 0))) (sAnd (sAnd (sNot (sLt op 0)) true) true))
            (sAnd (sIf (sLt op 0) true (sNot (sLt op 0))) true)))
        (sIf (sIf (sLt op 0) true (sLt 7 op)) true true))
      (sIf (Tg.isN (Tg.mix (sIf (sLt op 0) true (sLt 7 op)) Tg.r Tg.n))
        (sAnd (sAnd (sAnd (sLe 0 op) (sLt op ↑(List.length typesL))) true) true) true),
    AV.str
      (sIf (Tg.isN (Tg.mix (sIf (sLt op 0) true (sLt 7 op)) Tg.r Tg.n))
        (List.getD typesL (Int.toNat op) (Sh.dflt Sh.str)) (ByteArray.mk (Array.mk [])))) := by kernel_rfl

theorem nf17 (op : Int) : exFn (gN t29) Tryd.f62 [AV.int IntKind.i64 op] =
 some
  (sAnd
      (sAnd
        (sIf (sEq op 3) true
          (sIf (sEq op 26) true (sIf (sEq op 28) true (sIf (sEq op 29) true (sIf (sEq op 30) true true)))))
        (sIf
          (Tg.isN
            (Tg.mix (sEq op 3) Tg.n
              (Tg.mix (sEq op 26) Tg.n
                (Tg.mix (sEq op 28) Tg.n (Tg.mix (sEq op 29) Tg.n (Tg.mix (sEq op 30) Tg.n Tg.n))))))
          (sIf
            (sIf (sEq op 3) (sEq op 3)
              (sIf (sEq op 26) (sEq op 26)
                (sIf (sEq op 28) (sEq op 28) (sIf (sEq op 29) (sEq op 29) (sIf (sEq op 30) (sEq op 30) (sEq op 31))))))
            true true)
          true))
      (sIf
        (Tg.isN
          (Tg.block 0
            (Tg.thenN
              (Tg.mix (sEq op 3) Tg.n
                (Tg.mix (sEq op 26) Tg.n
                  (Tg.mix (sEq op 28) Tg.n (Tg.mix (sEq op 29) Tg.n (Tg.mix (sEq op 30) Tg.n Tg.n)))))
              (Tg.mix
                (sIf (sEq op 3) (sEq op 3)
                  (sIf (sEq op 26) (sEq op 26)
                    (sIf (sEq op 28) (sEq op 28)
                      (sIf (sEq op 29) (sEq op 29) (sIf (sEq op 30) (sEq op 30) (sEq op 31))))))
                Tg.r Tg.n))))
        (sAnd
          (sAnd (sOr (sNot (sLe 1 op)) true)
            (sAnd (sOr (sNot (sLe 1 op)) (sAnd (sAnd (sLe 1 op) true) true))
              (sAnd (sIf (sLe 1 op) (sLe 1 op) true) true)))
          true)
        true),
    AV.bool
      (sIf
        (Tg.isN
          (Tg.block 0
            (Tg.thenN
              (Tg.mix (sEq op 3) Tg.n
                (Tg.mix (sEq op 26) Tg.n
                  (Tg.mix (sEq op 28) Tg.n (Tg.mix (sEq op 29) Tg.n (Tg.mix (sEq op 30) Tg.n Tg.n)))))
              (Tg.mix
                (sIf (sEq op 3) (sEq op 3)
                  (sIf (sEq op 26) (sEq op 26)
                    (sIf (sEq op 28) (sEq op 28)
                      (sIf (sEq op 29) (sEq op 29) (sIf (sEq op 30) (sEq op 30) (sEq op 31))))))
                Tg.r Tg.n))))
        (sIf (sLe 1 op) (sLe op 33) false) false)) := by kernel_rfl

theorem nf18 (op : Int) : exFn (gN t29) Tryd.f51 [AV.int IntKind.i64 op] =
 some
  (sAnd
      (sAnd
        (sIf (sEq op 3) true
          (sIf (sEq op 26) true (sIf (sEq op 28) true (sIf (sEq op 29) true (sIf (sEq op 30) true true)))))
        (sIf
          (Tg.isN
            (Tg.mix (sEq op 3) Tg.n
              (Tg.mix (sEq op 26) Tg.n
                (Tg.mix (sEq op 28) Tg.n (Tg.mix (sEq op 29) Tg.n (Tg.mix (sEq op 30) Tg.n Tg.n))))))
          (sIf
            (sIf (sEq op 3) (sEq op 3)
              (sIf (sEq op 26) (sEq op 26)
                (sIf (sEq op 28) (sEq op 28) (sIf (sEq op 29) (sEq op 29) (sIf (sEq op 30) (sEq op 30) (sEq op 31))))))
            true true)
          true))
      (sIf
        (Tg.isN
          (Tg.block 0
            (Tg.thenN
              (Tg.mix (sEq op 3) Tg.n
                (Tg.mix (sEq op 26) Tg.n
                  (Tg.mix (sEq op 28) Tg.n (Tg.mix (sEq op 29) Tg.n (Tg.mix (sEq op 30) Tg.n Tg.n)))))
              (Tg.mix
                (sIf (sEq op 3) (sEq op 3)
                  (sIf (sEq op 26) (sEq op 26)
                    (sIf (sEq op 28) (sEq op 28)
                      (sIf (sEq op 29) (sEq op 29) (sIf (sEq op 30) (sEq op 30) (sEq op 31))))))
                Tg.r Tg.n))))
        (sAnd
          (sAnd (sOr (sNot (sLe 1 op)) true)
            (sAnd (sOr (sNot (sLe 1 op)) (sAnd (sAnd (sLe 1 op) true) true))
              (sAnd (sIf (sLe 1 op) (sLe 1 op) true) true)))
          true)
        true),
    AV.bool
      (sIf
        (Tg.isN
          (Tg.block 0
            (Tg.thenN
              (Tg.mix (sEq op 3) Tg.n
                (Tg.mix (sEq op 26) Tg.n
                  (Tg.mix (sEq op 28) Tg.n (Tg.mix (sEq op 29) Tg.n (Tg.mix (sEq op 30) Tg.n Tg.n)))))
              (Tg.mix
                (sIf (sEq op 3) (sEq op 3)
                  (sIf (sEq op 26) (sEq op 26)
                    (sIf (sEq op 28) (sEq op 28)
                      (sIf (sEq op 29) (sEq op 29) (sIf (sEq op 30) (sEq op 30) (sEq op 31))))))
                Tg.r Tg.n))))
        (sIf (sLe 1 op) (sLe op 33) false) false)) := by kernel_rfl

def nameOf (op : Int) : ByteArray := opsL.getD op.toNat ByteArray.empty
def typeName (t : Int) : ByteArray := if t < 0 then ByteArray.empty else typesL.getD t.toNat ByteArray.empty
def lookN (nm : ByteArray) : Nat := rowsL.findIdx (fun r => bEq r.1 nm)
def lookOf (nm : ByteArray) : Int × Bool := if lookN nm < 33 then ((lookN nm : Int) + 1, true) else (0, false)
def typeN (nm : ByteArray) : Nat := typesL.findIdx (fun r => bEq r nm)
def typeOf (nm : ByteArray) : Int × Bool := if typeN nm < 8 then ((typeN nm : Int), true) else (0, false)
def accOf (t : Int) : Int × Int := if t = 2 ∨ t = 3 ∨ t = 4 ∨ t = 5 then (t, 1) else if t = 6 then (3, 2) else if t = 7 then (3, 4) else (0, 0)
def pureOp (op : Int) : Bool := decide (¬ (op = 3 ∨ op = 26 ∨ op = 28 ∨ op = 29 ∨ op = 30 ∨ op = 31) ∧ 1 ≤ op ∧ op ≤ 33)
def commOp (op : Int) : Bool := decide (op = 5 ∨ op = 7 ∨ op = 8 ∨ op = 9 ∨ op = 10 ∨ op = 16 ∨ op = 17)
theorem rows_len : rowsL.length = 33 := by decide
theorem ops_len : opsL.length = 34 := by decide
theorem types_len : typesL.length = 8 := by decide
theorem ops_rows : opsL = ByteArray.empty :: rowsL.map (·.1) := by rfl
theorem ops_get (k : Nat) : opsL.getD (k + 1) ByteArray.empty = (rowsL.getD k (Sh.dflt rowSh)).1 := by
  rw [ops_rows, List.getD_cons_succ, List.getD_eq_getElem?_getD, List.getD_eq_getElem?_getD, List.getElem?_map]
  cases rowsL[k]? <;> rfl
theorem nat13 (op : Int) : exFn (gN t29) Tryd.f35 [.int .i64 op] = some (true, .str (nameOf op)) := by
  rw [nf13]
  by_cases h1 : op < 1
  · have : op.toNat = 0 := by omega
    simp [sAnd, sOr, sNot, sIf, sLt, sLe, h1, nameOf, this]
    rfl
  · by_cases h2 : (33 : Int) < op
    · have : 34 ≤ op.toNat := by omega
      simp [sAnd, sOr, sNot, sIf, sLt, sLe, h1, h2, nameOf, rows_len]
      rw [List.getElem?_eq_none (by rw [ops_len]; exact this)]
      rfl
    · have hw : IntKind.wrap .i64 (op - 1) = op - 1 := wrap_i64 (by omega) (by omega)
      obtain ⟨k, rfl⟩ : ∃ k : Nat, op = (k : Int) + 1 := ⟨(op - 1).toNat, by omega⟩
      simp only [hw, rows_len, nameOf]
      have e1 : ((k : Int) + 1 - 1).toNat = k := by omega
      have e2 : ((k : Int) + 1).toNat = k + 1 := by omega
      rw [e1, e2, ops_get]
      have g1 : ¬ ((k : Int) + 1 < 1) := by omega
      have g2 : ¬ (33 < (k : Int) + 1) := by omega
      have g3 : (0 : Int) ≤ (k : Int) + 1 - 1 := by omega
      have g4 : (k : Int) + 1 - 1 < 33 := by omega
      simp only [sAnd, sOr, sNot, sIf, sLt, sLe, decide_eq_false g1, Int.cast_ofNat_Int, decide_eq_false g2, decide_eq_true g3, decide_eq_true g4]
      rfl
theorem nat14 (op : Int) : exFn (gN t29) Tryd.f38 [.int .i64 op] = some (true, .str (nameOf op)) := by
  rw [nf14]
  by_cases h1 : op < 1
  · have : op.toNat = 0 := by omega
    simp [sAnd, sOr, sNot, sIf, sLt, sLe, h1, nameOf, this]
    rfl
  · by_cases h2 : (33 : Int) < op
    · have : 34 ≤ op.toNat := by omega
      simp [sAnd, sOr, sNot, sIf, sLt, sLe, h1, h2, nameOf, rows_len]
      rw [List.getElem?_eq_none (by rw [ops_len]; exact this)]
      rfl
    · have g3 : (0 : Int) ≤ op := by omega
      have g4 : op < 34 := by omega
      simp only [sAnd, sOr, sNot, sIf, sLt, sLe, decide_eq_false h1, ops_len, Int.cast_ofNat_Int, decide_eq_false h2, decide_eq_true g3, decide_eq_true g4, nameOf]
      rfl
theorem nat15 (t : Int) : exFn (gN t29) Tryd.f36 [.int .i64 t] = some (true, .str (typeName t)) := by
  rw [nf15]
  by_cases h1 : t < 0
  · simp [sAnd, sOr, sNot, sIf, sLt, sLe, h1, typeName]
    rfl
  · by_cases h2 : (8 : Int) ≤ t
    · have : 8 ≤ t.toNat := by omega
      have e : typesL[t.toNat]? = none := List.getElem?_eq_none (by rw [types_len]; exact this)
      simp [sAnd, sOr, sNot, sIf, sLt, sLe, h1, h2, typeName, types_len, e]
      rfl
    · have g3 : (0 : Int) ≤ t := by omega
      have g4 : t < 8 := by omega
      simp only [sAnd, sOr, sNot, sIf, sLt, sLe, decide_eq_false h1, types_len, Int.cast_ofNat_Int, decide_eq_false h2, decide_eq_true g3, decide_eq_true g4, typeName, if_neg h1]
      rfl
theorem nat16 (t : Int) : exFn (gN t29) Tryd.f39 [.int .i64 t] = some (true, .str (typeName t)) := by
  rw [nf16]
  by_cases h1 : t < 0
  · simp [sAnd, sOr, sNot, sIf, sLt, sLe, h1, typeName]
    rfl
  · by_cases h2 : (7 : Int) < t
    · have : 8 ≤ t.toNat := by omega
      have e : typesL[t.toNat]? = none := List.getElem?_eq_none (by rw [types_len]; exact this)
      simp [sAnd, sOr, sNot, sIf, sLt, sLe, h1, h2, typeName, types_len, e]
      rfl
    · have g3 : (0 : Int) ≤ t := by omega
      have g4 : t < 8 := by omega
      simp only [sAnd, sOr, sNot, sIf, sLt, sLe, decide_eq_false h1, types_len, Int.cast_ofNat_Int, decide_eq_false h2, decide_eq_true g3, decide_eq_true g4, typeName, if_neg h1]
      rfl

theorem nat17 (op : Int) : exFn (gN t29) Tryd.f62 [.int .i64 op] = some (true, .bool (pureOp op)) := by
  rw [nf17]
  by_cases h3 : op = 3
  · subst h3; rfl
  by_cases h26 : op = 26
  · subst h26; rfl
  by_cases h28 : op = 28
  · subst h28; rfl
  by_cases h29 : op = 29
  · subst h29; rfl
  by_cases h30 : op = 30
  · subst h30; rfl
  by_cases h31 : op = 31
  · subst h31; rfl
  by_cases hl : (1 : Int) ≤ op <;> by_cases hr : op ≤ 33 <;> simp [sAnd, sOr, sNot, sIf, sLt, sLe, sEq, pureOp, h3, h26, h28, h29, h30, h31, hl, hr]

theorem nat18 (op : Int) : exFn (gN t29) Tryd.f51 [.int .i64 op] = some (true, .bool (pureOp op)) := by
  rw [nf18]
  by_cases h3 : op = 3
  · subst h3; rfl
  by_cases h26 : op = 26
  · subst h26; rfl
  by_cases h28 : op = 28
  · subst h28; rfl
  by_cases h29 : op = 29
  · subst h29; rfl
  by_cases h30 : op = 30
  · subst h30; rfl
  by_cases h31 : op = 31
  · subst h31; rfl
  by_cases hl : (1 : Int) ≤ op <;> by_cases hr : op ≤ 33 <;> simp [sAnd, sOr, sNot, sIf, sLt, sLe, sEq, pureOp, h3, h26, h28, h29, h30, h31, hl, hr]

theorem nat11 (t : Int) : exFn (gN t29) Tryd.f70 [.int .i64 t] = some (true, .tup [.int .i64 (accOf t).1, .int .i64 (accOf t).2]) := by
  rw [nf11]
  by_cases h2 : t = 2
  · subst h2; rfl
  by_cases h3 : t = 3
  · subst h3; rfl
  by_cases h4 : t = 4
  · subst h4; rfl
  by_cases h5 : t = 5
  · subst h5; rfl
  by_cases h6 : t = 6
  · subst h6; rfl
  by_cases h7 : t = 7
  · subst h7; rfl
  have e2 : (t == 2) = false := by simpa using h2
  have e3 : (t == 3) = false := by simpa using h3
  have e4 : (t == 4) = false := by simpa using h4
  have e5 : (t == 5) = false := by simpa using h5
  have e6 : (t == 6) = false := by simpa using h6
  have e7 : (t == 7) = false := by simpa using h7
  simp [sAnd, sOr, sNot, sIf, sLt, sLe, sEq, accOf, h2, e2, h3, e3, h4, e4, h5, e5, h6, e6, h7, e7]

theorem nat12 (t : Int) : exFn (gN t29) Tryd.f75 [.int .i64 t] = some (true, .tup [.int .i64 (accOf t).1, .int .i64 (accOf t).2]) := by
  rw [nf12]
  by_cases h2 : t = 2
  · subst h2; rfl
  by_cases h3 : t = 3
  · subst h3; rfl
  by_cases h4 : t = 4
  · subst h4; rfl
  by_cases h5 : t = 5
  · subst h5; rfl
  by_cases h6 : t = 6
  · subst h6; rfl
  by_cases h7 : t = 7
  · subst h7; rfl
  have e2 : (t == 2) = false := by simpa using h2
  have e3 : (t == 3) = false := by simpa using h3
  have e4 : (t == 4) = false := by simpa using h4
  have e5 : (t == 5) = false := by simpa using h5
  have e6 : (t == 6) = false := by simpa using h6
  have e7 : (t == 7) = false := by simpa using h7
  simp [sAnd, sOr, sNot, sIf, sLt, sLe, sEq, accOf, h2, e2, h3, e3, h4, e4, h5, e5, h6, e6, h7, e7]


theorem runTail {α : Type} {d : α} {l : List α} {p : α → Bool} {j : Nat} (h : j < l.findIdx p) : j < l.length ∧ p (l.getD j d) = false := by
  have h1 : j < l.length := Nat.lt_of_lt_of_le h List.findIdx_le_length
  refine ⟨h1, ?_⟩
  rw [List.getD_eq_getElem?_getD, List.getElem?_eq_getElem h1]
  simpa using List.not_of_lt_findIdx h
theorem runEnd {α : Type} {d : α} {l : List α} {p : α → Bool} (h : l.findIdx p < l.length) : p (l.getD (l.findIdx p) d) = true := by
  rw [List.getD_eq_getElem?_getD, List.getElem?_eq_getElem h]
  exact List.findIdx_getElem
theorem wrapN {j : Nat} (h : j < 1000) : IntKind.wrap .i64 ((j : Int) + 1) = ((j + 1 : Nat) : Int) := by
  rw [wrap_i64 (by omega) (by omega)]
  rfl
theorem run7 (nm : ByteArray) : whileW (s7_0 nm) [Sc.i 0] = some [Sc.i (lookN nm : Nat)] := by
  refine whileW_upto (fun i => [Sc.i (i : Int)]) (lookN nm) rfl (fun j hj => ?_) ?_ ?_
  · obtain ⟨h1, h2⟩ := runTail (d := Sh.dflt rowSh) hj
    have h3 : j < 33 := by rw [rows_len] at h1; exact h1
    simp only [s7_0, hd_cons, Sc.toI_i, Int.toNat_natCast, rows_len, h2, wrapN (show j < 1000 by omega)]
    simp [sAnd, sIf, sLe, sLt, show (j : Int) < 33 by omega]
  · by_cases hl : lookN nm < 33
    · have h2 := runEnd (d := Sh.dflt rowSh) (l := rowsL) (p := fun r => bEq r.1 nm) (by rw [rows_len]; exact hl)
      simp only [s7_0, hd_cons, Sc.toI_i, Int.toNat_natCast, rows_len]
      simp [sAnd, sIf, sLe, sLt, show (lookN nm : Int) < 33 by omega]
    · simp [s7_0, sAnd, sIf, sLe, sLt, show ¬ (lookN nm : Int) < 33 by omega, rows_len]
  · by_cases hl : lookN nm < 33
    · have h2 := runEnd (d := Sh.dflt rowSh) (l := rowsL) (p := fun r => bEq r.1 nm) (by rw [rows_len]; exact hl)
      simp only [s7_0, hd_cons, Sc.toI_i, Int.toNat_natCast, rows_len]
      have h2 : bEq (rowsL.getD (lookN nm) (Sh.dflt rowSh)).1 nm = true := h2
      rw [h2]
      simp [sAnd, sIf, sLe, sLt, show (lookN nm : Int) < 33 by omega]
    · simp [s7_0, sAnd, sIf, sLe, sLt, show ¬ (lookN nm : Int) < 33 by omega, rows_len]
theorem ops_at {nm : ByteArray} {j : Nat} (h : 0 < j) : opsL.getD j (Sh.dflt Sh.str) = (rowsL.getD (j - 1) (Sh.dflt rowSh)).1 := by
  obtain ⟨k, rfl⟩ : ∃ k, j = k + 1 := ⟨j - 1, by omega⟩
  exact ops_get k
theorem run8 (nm : ByteArray) : whileW (s8_0 nm) [Sc.i 0] = some [Sc.i ((lookN nm + 1 : Nat) : Int)] := by
  refine whileW_upto (fun i => [Sc.i (i : Int)]) (lookN nm + 1) rfl (fun j hj => ?_) ?_ ?_
  · have hle : lookN nm ≤ 33 := by have := @List.findIdx_le_length _ (fun r => bEq r.1 nm) rowsL; rw [rows_len] at this; exact this
    have h3 : j < 34 := by omega
    by_cases h0 : 0 < j
    · obtain ⟨h1, h2⟩ := runTail (d := Sh.dflt rowSh) (show j - 1 < lookN nm by omega)
      have h2 : bEq (opsL.getD j (Sh.dflt Sh.str)) nm = false := by rw [ops_at (nm := nm) h0]; exact h2
      simp only [s8_0, hd_cons, Sc.toI_i, Int.toNat_natCast, ops_len, h2, wrapN (show j < 1000 by omega)]
      simp [sAnd, sOr, sNot, sIf, sLe, sLt, show (j : Int) < 34 by omega, h0]
    · obtain rfl : j = 0 := by omega
      simp only [s8_0, hd_cons, Sc.toI_i, Int.toNat_natCast, ops_len, wrapN (show 0 < 1000 by omega)]
      simp [sAnd, sOr, sNot, sIf, sLe, sLt]
  · by_cases hl : lookN nm < 33
    · simp only [s8_0, hd_cons, Sc.toI_i, Int.toNat_natCast, ops_len]
      simp [sAnd, sOr, sNot, sIf, sLe, sLt, show lookN nm + 1 < 34 by omega, show (0 : Int) < (lookN nm : Int) + 1 by omega, show (0 : Int) ≤ (lookN nm : Int) + 1 by omega, show (lookN nm : Int) + 1 < 34 by omega]
    · simp [s8_0, sAnd, sOr, sNot, sIf, sLe, sLt, ops_len, show ¬ ((lookN nm : Int) + 1 < 34) by omega]
  · by_cases hl : lookN nm < 33
    · have h2 : bEq (opsL.getD (lookN nm + 1) (Sh.dflt Sh.str)) nm = true := by
        rw [ops_at (nm := nm) (by omega)]
        exact runEnd (d := Sh.dflt rowSh) (l := rowsL) (p := fun r => bEq r.1 nm) (by rw [rows_len]; exact hl)
      simp only [s8_0, hd_cons, Sc.toI_i, Int.toNat_natCast, ops_len, h2]
      simp [sAnd, sOr, sNot, sIf, sLe, sLt, show (0 : Int) < (lookN nm : Int) + 1 by omega, show (lookN nm : Int) + 1 < 34 by omega]
    · simp [s8_0, sAnd, sOr, sNot, sIf, sLe, sLt, ops_len, show ¬ ((lookN nm : Int) + 1 < 34) by omega]
theorem run9 (nm : ByteArray) : whileW (s9_0 nm) [Sc.i 0] = some [Sc.i (typeN nm : Nat)] := by
  refine whileW_upto (fun i => [Sc.i (i : Int)]) (typeN nm) rfl (fun j hj => ?_) ?_ ?_
  · obtain ⟨h1, h2⟩ := runTail (d := Sh.dflt Sh.str) hj
    have h3 : j < 8 := by rw [types_len] at h1; exact h1
    simp only [s9_0, hd_cons, Sc.toI_i, Int.toNat_natCast, types_len, h2, wrapN (show j < 1000 by omega)]
    simp [sAnd, sIf, sLe, sLt, show (j : Int) < 8 by omega]
  · by_cases hl : typeN nm < 8
    · simp only [s9_0, hd_cons, Sc.toI_i, Int.toNat_natCast, types_len]
      simp [sAnd, sIf, sLe, sLt, show (typeN nm : Int) < 8 by omega]
    · simp [s9_0, sAnd, sIf, sLe, sLt, show ¬ (typeN nm : Int) < 8 by omega, types_len]
  · by_cases hl : typeN nm < 8
    · have h2 : bEq (typesL.getD (typeN nm) (Sh.dflt Sh.str)) nm = true := runEnd (d := Sh.dflt Sh.str) (l := typesL) (p := fun r => bEq r nm) (by rw [types_len]; exact hl)
      simp only [s9_0, hd_cons, Sc.toI_i, Int.toNat_natCast, types_len, h2]
      simp [sAnd, sIf, sLe, sLt, show (typeN nm : Int) < 8 by omega]
    · simp [s9_0, sAnd, sIf, sLe, sLt, show ¬ (typeN nm : Int) < 8 by omega, types_len]
theorem run10 (nm : ByteArray) : whileW (s10_0 nm) [Sc.i 0] = some [Sc.i (typeN nm : Nat)] := by
  refine whileW_upto (fun i => [Sc.i (i : Int)]) (typeN nm) rfl (fun j hj => ?_) ?_ ?_
  · obtain ⟨h1, h2⟩ := runTail (d := Sh.dflt Sh.str) hj
    have h3 : j < 8 := by rw [types_len] at h1; exact h1
    simp only [s10_0, hd_cons, Sc.toI_i, Int.toNat_natCast, types_len, h2, wrapN (show j < 1000 by omega)]
    simp [sAnd, sIf, sLe, sLt, show (j : Int) < 8 by omega]
  · by_cases hl : typeN nm < 8
    · simp only [s10_0, hd_cons, Sc.toI_i, Int.toNat_natCast, types_len]
      simp [sAnd, sIf, sLe, sLt, show (typeN nm : Int) < 8 by omega]
    · simp [s10_0, sAnd, sIf, sLe, sLt, show ¬ (typeN nm : Int) < 8 by omega, types_len]
  · by_cases hl : typeN nm < 8
    · have h2 : bEq (typesL.getD (typeN nm) (Sh.dflt Sh.str)) nm = true := runEnd (d := Sh.dflt Sh.str) (l := typesL) (p := fun r => bEq r nm) (by rw [types_len]; exact hl)
      simp only [s10_0, hd_cons, Sc.toI_i, Int.toNat_natCast, types_len, h2]
      simp [sAnd, sIf, sLe, sLt, show (typeN nm : Int) < 8 by omega]
    · simp [s10_0, sAnd, sIf, sLe, sLt, show ¬ (typeN nm : Int) < 8 by omega, types_len]
end Go.Proofs.YtaajbcflmaihgaaDoor
