/- The reference's wrap of an integer, and that it is the program's. No conditions. -/
import Derived.Test.YtlidfaaajjfgfaaDoorOpcRef1
set_option linter.all false
namespace Go.Proofs.YtlidfaaajjfgfaaDoor
open Go Ab
set_option maxRecDepth 100000
noncomputable def r39 (t n : Int) : Option (Bool × AV) := (
  let q0 : Bool := sLe 128 (unsV t n);
  let q1 : Bool := sLe 2147483648 (unsV t n);
  let q2 : Bool := Tg.isN (Tg.block 0 (Tg.mix (sEq (bitsOf t) 8) (Tg.mix q0 Tg.r Tg.n) (Tg.mix (sEq (bitsOf t) 32) (Tg.mix q1 Tg.r Tg.n) Tg.n))); some (sAnd true (sAnd true (sAnd (sAnd true (sAnd true (sAnd true (sIf (sEq (bitsOf t) 8) (sAnd true (sAnd true (sIf q0 true true))) (sAnd true (sAnd true (sIf (sEq (bitsOf t) 32) (sAnd true (sAnd true (sIf q1 true true))) true))))))) (sIf q2 true true))), AV.int IntKind.i64 (sIf q2 (IntKind.wrap IntKind.i64 (unsV t n)) (sIf (sEq (bitsOf t) 8) (IntKind.wrap IntKind.i64 (IntKind.wrap IntKind.i64 (unsV t n) - 256)) (IntKind.wrap IntKind.i64 (IntKind.wrap IntKind.i64 (unsV t n) - 4294967296))))))
theorem nf39 (t n : Int) : exFn (gN e38T) Tryd.f39 [AV.int IntKind.i64 t, AV.int IntKind.i64 n] = r39 t n := by kernel_rfl
noncomputable def wrapR (t n : Int) : Int := intOf (r39 t n)
theorem good39 (t n : Int) : okOf (r39 t n) = true := by
  rcases bits_cases t with h | h | h | h | h <;> simp [r39, okOf, h, sAnd, sIf, sEq]
theorem eta39 (t n : Int) : r39 t n = some (true, .int .i64 (wrapR t n)) := by
  have h := good39 t n
  rw [← h]
  rfl
noncomputable def n39 : List AV → Option (Bool × AV)
  | [.int .i64 t, .int .i64 n] => some (true, .int .i64 (wrapR t n))
  | _ => none
noncomputable def e39T : Tab := (39, n39) :: e38T
theorem ek39 (hm : Tryd.prog.follows .mixedOrders = true) : TabOk e39T := (ek38 hm).cons (TabOk.readW (ek38 hm) hm Tryd.func39 (by decide) (by rfl) (by
  intro xs r h
  unfold n39 at h
  split at h
  · cases h; exact (nf39 _ _).trans (eta39 _ _)
  · cases h))
theorem wrap_u64 (n : Int) : IntKind.wrap .u64 n = n % 18446744073709551616 := by
  unfold IntKind.wrap
  simp [IntKind.signed, IntKind.bits]
theorem wrap_i (n : Int) : IntKind.wrap .i64 n = (n + 9223372036854775808) % 18446744073709551616 - 9223372036854775808 := by
  unfold IntKind.wrap
  simp [IntKind.signed, IntKind.bits]
  try omega
theorem fdiv_pow (a : Int) {k : Int} (h : 0 ≤ k) : a.fdiv k = a / k := Int.fdiv_eq_ediv_of_nonneg a h
theorem tmod_pos {a k : Int} (h : 0 ≤ a) : a.tmod k = a % k := Int.tmod_eq_emod_of_nonneg h
theorem wrap_eq {t n : Int} (h1 : -9223372036854775808 ≤ n) (h2 : n ≤ 9223372036854775807) : wrapR t n = wrapV t n := by
  have hu : 0 ≤ n % 18446744073709551616 := Int.emod_nonneg _ (by decide)
  rcases bits_cases t with h | h | h | h | h
  · simp [wrapR, wrapV, intOf, r39, unsV, r52, h, sIf, sEq]
    rfl
  · simp [wrapR, wrapV, intOf, r39, unsV, r52, h, sIf, sEq]
    rw [wrap_u64, tmod_pos hu, Int.max_eq_left hu]
  · simp [wrapR, wrapV, intOf, r39, unsV, r52, h, sIf, sEq]
    rw [wrap_u64, tmod_pos hu, show min (IntKind.i64.wrap 56).toNat 64 = 56 from rfl, show (2 : Int) ^ 56 = 72057594037927936 from rfl, fdiv_pow _ (by decide)]
    simp only [wrap_i, sLe]
    by_cases hc : 128 ≤ n % 18446744073709551616 % 256
    · rw [decide_eq_true hc]
      simp only [cond_true]
      omega
    · rw [decide_eq_false hc]
      simp only [cond_false]
      omega
  · simp [wrapR, wrapV, intOf, r39, unsV, r52, h, sIf, sEq]
    rw [wrap_u64, tmod_pos hu, show min (IntKind.i64.wrap 32).toNat 64 = 32 from rfl, show (2 : Int) ^ 32 = 4294967296 from rfl, fdiv_pow _ (by decide)]
    simp only [wrap_i, sLe]
    by_cases hc : 2147483648 ≤ n % 18446744073709551616 % 4294967296
    · rw [decide_eq_true hc]
      simp only [cond_true]
      omega
    · rw [decide_eq_false hc]
      simp only [cond_false]
      omega
  · simp [wrapR, wrapV, intOf, r39, unsV, r52, h, sIf, sEq]
    rw [wrap_u64, show min (IntKind.i64.wrap 0).toNat 64 = 0 from rfl, show (2 : Int) ^ 0 = 1 from rfl, fdiv_pow _ (by decide)]
    simp only [wrap_i]
    omega
end Go.Proofs.YtlidfaaajjfgfaaDoor
