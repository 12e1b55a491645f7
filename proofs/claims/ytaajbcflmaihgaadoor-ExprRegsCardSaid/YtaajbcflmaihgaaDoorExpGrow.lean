/- slices.Grow of nil: a slice of no elements, of new memory or nil. No conditions. -/
import Derived.Test.YtaajbcflmaihgaaDoorExpWorks
import Derived.Test.YtaajbcflmaihgaaDoorAbScan
set_option linter.all false
namespace Go.Proofs.YtaajbcflmaihgaaDoor
open Go Ab
set_option maxRecDepth 100000
noncomputable def g53 (b : Bool) : Fx := { gX z0 with orc := [(16, b)] }
theorem xf53t (n : Int) : trimC nodS (exFnCI (g53 true) 20 Tryd.f53) [AV.nils, AV.int IntKind.i64 n] = (
 let q0 : Int := IntKind.i64.wrap (n - IntKind.i64.wrap (0 - ((0 : Nat) : Int)));
  let q1 : Bool := sLt 0 q0;
  let q2 : List nodS.den := List.replicate q0.toNat ((0, 0, 0, PUnit.unit) : nodS.den);
  let q3 : Int := ↑q2.length;
  let q4 : Int := (some ((0 : Nat) : Int)).getD q3;
  some
  (sAnd
      (sAnd true
        (sAnd (sAnd true (sAnd (sAnd true (sNot (sLt n 0))) true))
          (sAnd
            (sAnd true
              (sAnd true
                (sAnd (sAnd true q1)
                  (sAnd true
                    (sAnd true
                      (sAnd true
                        (sAnd true
                          (sAnd true
                            (sAnd (sAnd true (sAnd q1 (sLe (q0 * ((24 : Nat) : Int)) 140737488355328)))
                              (sAnd true
                                (sAnd true
                                  (sAnd (sAnd true (sAnd (sAnd true (sLe (Option.getD none 0) q4)) (sLe q4 q3)))
                                    true))))))))))))
            true)))
      true,
    ⟨nodS, List.take (q4.toNat - 0) q2⟩)) := by kernel_rfl
theorem xf53f (n : Int) : trimC nodS (exFnCI (g53 false) 20 Tryd.f53) [AV.nils, AV.int IntKind.i64 n] = (
 some
  (sAnd
      (sAnd true
        (sAnd (sAnd true (sAnd (sAnd true (sNot (sLt n 0))) true))
          (sAnd
            (sAnd true
              (sAnd true (sAnd (sAnd true (sNot (sLt 0 (IntKind.i64.wrap (n - IntKind.i64.wrap (0 - ((0 : Nat) : Int))))))) true)))
            true)))
      true,
    ⟨nodS, []⟩)) := by kernel_rfl
def okGrow (n : Int) : Bool := decide (0 ≤ n ∧ n ≤ 1000000)
def xm53 : List AV → Option (Bool × ((s : Sh) × List s.den))
  | [.nils, .int .i64 n] => some (okGrow n, ⟨nodS, []⟩)
  | _ => none
theorem xk53 (hm : Tryd.prog.follows .mixedOrders = true) : KNew E0 53 xm53 :=
  KNew.cases (IOk.trim ((zk0 hm).readCIo hm Tryd.func53 (by decide) (by rfl) [(16, true)] 20) nodS) (IOk.trim ((zk0 hm).readCIo hm Tryd.func53 (by decide) (by rfl) [(16, false)] 20) nodS) (by
  intro xs r h
  unfold xm53 at h
  split at h
  · rename_i n
    simp only [Option.some.injEq, Prod.mk.injEq, okGrow, decide_eq_true_eq] at h
    obtain ⟨⟨h0, h1⟩, rfl⟩ := h
    have e0 : IntKind.i64.wrap (0 - ((0 : Nat) : Int)) = 0 := rfl
    have e1 : IntKind.i64.wrap (n - 0) = n := by rw [Int.sub_zero]; exact wrap_i64 (by omega) (by omega)
    have e2 : sLt n 0 = false := sLt_false (by omega)
    by_cases hn : 0 < n
    · left
      refine (xf53t n).trans ?_
      have e3 : sLt 0 n = true := sLt_true hn
      have e4 : sLe (n * ((24 : Nat) : Int)) 140737488355328 = true := decide_eq_true (by omega)
      have e5 : sLe 0 ((List.replicate n.toNat ((0, 0, 0, PUnit.unit) : nodS.den)).length : Int) = true := decide_eq_true (by omega)
      simp only [e0, e1, e2, e3, e4, Option.getD_some, Option.getD_none]
      have e6 : sLe ((0 : Nat) : Int) ((List.replicate n.toNat ((0, 0, 0, PUnit.unit) : nodS.den)).length : Int) = true := e5
      rw [e6]
      have e7 : List.take (Int.toNat ((0 : Nat) : Int) - 0) (List.replicate n.toNat ((0, 0, 0, PUnit.unit) : nodS.den)) = [] := List.take_zero
      rw [e7]
      rfl
    · right
      refine (xf53f n).trans ?_
      have e3 : sLt 0 n = false := sLt_false hn
      simp only [e0, e1, e2, e3]
      rfl
  · cases h)
end Go.Proofs.YtaajbcflmaihgaaDoor
