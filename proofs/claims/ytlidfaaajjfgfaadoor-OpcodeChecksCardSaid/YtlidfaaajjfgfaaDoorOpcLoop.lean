/- The check that all operands have one type, and the wrap of an integer, in natural form. No conditions. -/
import Derived.Test.YtlidfaaajjfgfaaDoorOpcSh
set_option linter.all false
namespace Go.Proofs.YtlidfaaajjfgfaaDoor
open Go Ab
set_option maxRecDepth 100000
noncomputable def s42_0 (args : List Int) (t : Int) : List Sc → Bool × Bool × List Sc := fun xs => (sAnd (sIf (sLt (Sc.toI (hd xs)) ↑(List.length args)) true true) (sIf (Tg.isN (Tg.mix (sLt (Sc.toI (hd xs)) ↑(List.length args)) Tg.n (Tg.x 0))) (sAnd (sAnd (sAnd (sAnd (sLe 0 (Sc.toI (hd xs))) (sLt (Sc.toI (hd xs)) ↑(List.length args))) true) (sIf (sNe (List.getD args (Int.toNat (Sc.toI (hd xs))) (Sh.dflt (Sh.int IntKind.i64))) t) true true)) (sIf (Tg.isN (Tg.block 1 (Tg.mix (sNe (List.getD args (Int.toNat (Sc.toI (hd xs))) (Sh.dflt (Sh.int IntKind.i64))) t) Tg.r Tg.n))) true true)) true), Tg.isN (Tg.thenN (Tg.mix (sLt (Sc.toI (hd xs)) ↑(List.length args)) Tg.n (Tg.x 0)) (Tg.thenN (Tg.block 1 (Tg.mix (sNe (List.getD args (Int.toNat (Sc.toI (hd xs))) (Sh.dflt (Sh.int IntKind.i64))) t) Tg.r Tg.n)) Tg.n)), [Sc.i (IntKind.wrap IntKind.i64 (Sc.toI (hd xs) + 1))])
noncomputable def L42_0 (args : List Int) (t : Int) : List Sc := Option.getD (whileW (s42_0 args t) [Sc.i 0]) [Sc.i 0]
theorem nf42 (args : List Int) (t : Int) : exFn (gN b53) Tryd.f42 [AV.dsl i64S args, AV.int IntKind.i64 t] = some (sAnd (sAnd (sSome (whileW (s42_0 args t) [Sc.i 0])) (sAnd (sIf (sLt (Sc.toI (hd (L42_0 args t))) ↑(List.length args)) true true) (sIf (Tg.isN (Tg.mix (sLt (Sc.toI (hd (L42_0 args t))) ↑(List.length args)) Tg.n (Tg.x 0))) (sAnd (sAnd (sAnd (sAnd (sLe 0 (Sc.toI (hd (L42_0 args t)))) (sLt (Sc.toI (hd (L42_0 args t))) ↑(List.length args))) true) (sIf (sNe (List.getD args (Int.toNat (Sc.toI (hd (L42_0 args t)))) (Sh.dflt (Sh.int IntKind.i64))) t) true true)) (sIf (Tg.isN (Tg.block 1 (Tg.mix (sNe (List.getD args (Int.toNat (Sc.toI (hd (L42_0 args t)))) (Sh.dflt (Sh.int IntKind.i64))) t) Tg.r Tg.n))) true true)) true))) (sIf (Tg.isN (Tg.block 0 (Tg.thenN (Tg.mix (sLt (Sc.toI (hd (L42_0 args t))) ↑(List.length args)) Tg.n (Tg.x 0)) (Tg.thenN (Tg.block 1 (Tg.mix (sNe (List.getD args (Int.toNat (Sc.toI (hd (L42_0 args t)))) (Sh.dflt (Sh.int IntKind.i64))) t) Tg.r Tg.n)) Tg.n)))) true true), AV.bool (sIf (Tg.isN (Tg.block 0 (Tg.thenN (Tg.mix (sLt (Sc.toI (hd (L42_0 args t))) ↑(List.length args)) Tg.n (Tg.x 0)) (Tg.thenN (Tg.block 1 (Tg.mix (sNe (List.getD args (Int.toNat (Sc.toI (hd (L42_0 args t)))) (Sh.dflt (Sh.int IntKind.i64))) t) Tg.r Tg.n)) Tg.n)))) true false)) := by kernel_rfl
theorem nf47 (t : Int) (n : Int) : exFn (gN b53) Tryd.f47 [AV.int IntKind.i64 t, AV.int IntKind.i64 n] = some (sIf (sEq (bitsOf t) 0) true (sIf (sEq (bitsOf t) 1) true (sAnd (sAnd (sLe 0 (IntKind.wrap IntKind.i64 (64 - bitsOf t))) (sAnd (sLe 0 (IntKind.wrap IntKind.i64 (64 - bitsOf t))) true)) true)), AV.int IntKind.i64 (sIf (sEq (bitsOf t) 0) 0 (sIf (sEq (bitsOf t) 1) (IntKind.wrap IntKind.i64 ↑(BitVec.toNat (BitVec.ofInt 64 n &&& BitVec.ofInt 64 1))) (Int.fdiv (IntKind.wrap IntKind.i64 (n * 2 ^ min (Int.toNat (IntKind.wrap IntKind.i64 (64 - bitsOf t))) 64)) (2 ^ min (Int.toNat (IntKind.wrap IntKind.i64 (64 - bitsOf t))) 64))))) := by kernel_rfl
abbrev bigL : Nat := 9223372036854775807
theorem wrapL {j : Nat} (h : j < bigL) : IntKind.wrap .i64 ((j : Int) + 1) = ((j + 1 : Nat) : Int) := by
  rw [wrap_i64 (by omega) (by unfold bigL at h; omega)]
  rfl
def sameV (args : List Int) (t : Int) : Bool := decide (args.findIdx (fun a => sNe a t) = args.length)
theorem run42 (args : List Int) (t : Int) (hb : args.length ≤ bigL) : whileW (s42_0 args t) [Sc.i 0] = some [Sc.i ((args.findIdx (fun a => sNe a t) : Nat) : Int)] := by
  have hle : args.findIdx (fun a => sNe a t) ≤ args.length := List.findIdx_le_length
  refine whileW_upto (fun i => [Sc.i (i : Int)]) (args.findIdx (fun a => sNe a t)) rfl (fun j hj => ?_) ?_ ?_
  · obtain ⟨h1, h2⟩ := runTail (d := (0 : Int)) hj
    simp only [s42_0, hd_cons, Sc.toI_i, Int.toNat_natCast, wrapL (show j < bigL by omega)]
    have h2 : sNe (args.getD j (Sh.dflt (Sh.int IntKind.i64))) t = false := h2
    rw [h2]
    simp [sAnd, sIf, sLe, sLt, show (j : Int) < (args.length : Int) by omega]
  · simp only [s42_0, hd_cons, Sc.toI_i, Int.toNat_natCast]
    simp [sAnd, sIf, sLe, sLt]
  · by_cases hl : args.findIdx (fun a => sNe a t) < args.length
    · have h2 : sNe (args.getD (args.findIdx (fun a => sNe a t)) (Sh.dflt (Sh.int IntKind.i64))) t = true := runEnd (d := (0 : Int)) hl
      simp only [s42_0, hd_cons, Sc.toI_i, Int.toNat_natCast, h2]
      simp [sAnd, sIf, sLe, sLt]
    · simp [s42_0, sAnd, sIf, sLe, sLt, show ¬ ((args.findIdx (fun a => sNe a t) : Nat) : Int) < (args.length : Int) by omega]
theorem nat42 (args : List Int) (t : Int) (hb : args.length ≤ bigL) : exFn (gN b53) Tryd.f42 [.dsl i64S args, .int .i64 t] = some (true, .bool (sameV args t)) := by
  have hle : args.findIdx (fun a => sNe a t) ≤ args.length := List.findIdx_le_length
  rw [nf42]
  have hL : L42_0 args t = [Sc.i ((args.findIdx (fun a => sNe a t) : Nat) : Int)] := by unfold L42_0; rw [run42 args t hb]; rfl
  rw [hL, run42 args t hb]
  by_cases hl : args.findIdx (fun a => sNe a t) < args.length
  · have h2 : sNe (args.getD (args.findIdx (fun a => sNe a t)) (Sh.dflt (Sh.int IntKind.i64))) t = true := runEnd (d := (0 : Int)) hl
    simp only [hd_cons, Sc.toI_i, Int.toNat_natCast, h2]
    simp [sAnd, sIf, sLe, sLt, sameV, show ((args.findIdx (fun a => sNe a t) : Nat) : Int) < (args.length : Int) by omega, show ¬ (args.findIdx (fun a => sNe a t) = args.length) by omega]
  · simp [sAnd, sIf, sLe, sLt, sameV, show ¬ ((args.findIdx (fun a => sNe a t) : Nat) : Int) < (args.length : Int) by omega, show args.findIdx (fun a => sNe a t) = args.length by omega]
def wrapV (t n : Int) : Int := sIf (sEq (bitsOf t) 0) 0 (sIf (sEq (bitsOf t) 1) (IntKind.wrap IntKind.i64 ↑(BitVec.toNat (BitVec.ofInt 64 n &&& BitVec.ofInt 64 1))) (Int.fdiv (IntKind.wrap IntKind.i64 (n * 2 ^ min (Int.toNat (IntKind.wrap IntKind.i64 (64 - bitsOf t))) 64)) (2 ^ min (Int.toNat (IntKind.wrap IntKind.i64 (64 - bitsOf t))) 64)))
theorem bits_cases (t : Int) : bitsOf t = 0 ∨ bitsOf t = 1 ∨ bitsOf t = 8 ∨ bitsOf t = 32 ∨ bitsOf t = 64 := by
  unfold bitsOf
  repeat' split
  all_goals simp
theorem nat47 (t n : Int) : exFn (gN b53) Tryd.f47 [.int .i64 t, .int .i64 n] = some (true, .int .i64 (wrapV t n)) := by
  rw [nf47]
  unfold wrapV
  rcases bits_cases t with h | h | h | h | h <;> rw [h] <;> rfl
def n42 : List AV → Option (Bool × AV)
  | [.dsl (.int .i64) args, .int .i64 t] => some (okLen args.length, .bool (sameV args t))
  | _ => none
def n47 : List AV → Option (Bool × AV)
  | [.int .i64 t, .int .i64 n] => some (true, .int .i64 (wrapV t n))
  | _ => none
noncomputable def b42 : Tab := (42, n42) :: b53
noncomputable def b47 : Tab := (47, n47) :: b42
theorem bk42 (hm : Tryd.prog.follows .mixedOrders = true) : TabOk b42 := (bk53 hm).cons (TabOk.readW (bk53 hm) hm Tryd.func42 (by decide) (by rfl) (by
  intro xs r h
  unfold n42 at h
  split at h
  · simp only [Option.some.injEq, Prod.mk.injEq] at h
    obtain ⟨h1, rfl⟩ := h
    exact nat42 _ _ (Nat.le_of_ble_eq_true h1)
  · cases h))
theorem bk47 (hm : Tryd.prog.follows .mixedOrders = true) : TabOk b47 := (bk42 hm).cons (TabOk.readW (bk53 hm) hm Tryd.func47 (by decide) (by rfl) (by
  intro xs r h
  unfold n47 at h
  split at h
  · cases h; exact nat47 _ _
  · cases h))
end Go.Proofs.YtlidfaaajjfgfaaDoor
