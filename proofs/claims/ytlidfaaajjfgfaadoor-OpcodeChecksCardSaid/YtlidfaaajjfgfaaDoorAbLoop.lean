/- Loops of readings: how far they run, and the words that clear a reading's form. -/
import Derived.Test.YtlidfaaajjfgfaaDoorAbFn
set_option linter.all false
namespace Go.Proofs.YtlidfaaajjfgfaaDoor.Ab

/-- A loop that goes on through n states and stops at the state n. -/
theorem whileN_upto {f : List Sc → Bool × Bool × List Sc} (st : Nat → List Sc) : ∀ (n : Nat) (i : Nat), (∀ j, i ≤ j → j < i + n → f (st j) = (true, true, st (j + 1))) → (f (st (i + n))).1 = true → (f (st (i + n))).2.1 = false →
    whileN f (n + 1) (st i) = some (st (i + n))
  | 0, i, _, h1, h2 => by
    simp only [Nat.add_zero] at h1 h2 ⊢
    unfold whileN
    match h : f (st i), h1, h2 with
    | (a, b, y), h1, h2 =>
      simp only at h1 h2
      subst h1 h2
      rfl
  | n + 1, i, h, h1, h2 => by
    unfold whileN
    rw [h i (Nat.le_refl _) (by omega)]
    have e : i + (n + 1) = (i + 1) + n := by omega
    rw [e] at h1 h2 ⊢
    exact whileN_upto st n (i + 1) (fun j h3 h4 => h j (by omega) (by omega)) h1 h2

theorem whileW_upto {f : List Sc → Bool × Bool × List Sc} {x : List Sc} (st : Nat → List Sc) (n : Nat) (h0 : x = st 0) (h : ∀ j, j < n → f (st j) = (true, true, st (j + 1))) (h1 : (f (st n)).1 = true) (h2 : (f (st n)).2.1 = false) :
    whileW f x = some (st n) := by
  have := whileN_upto st n 0 (fun j _ hj => h j (by omega)) (by simpa using h1) (by simpa using h2)
  rw [h0]
  exact whileW_of (by simpa using this)

@[simp] theorem Tg.isN_n : Tg.isN .n = true := rfl
@[simp] theorem Tg.isN_x (i : Nat) : Tg.isN (.x i) = false := rfl
@[simp] theorem Tg.isN_r : Tg.isN .r = false := rfl
@[simp] theorem Tg.isN_mix (c : Bool) (a b : Tg) : Tg.isN (Tg.mix c a b) = (bif c then a.isN else b.isN) := by cases c <;> rfl
@[simp] theorem Tg.mix_true (a b : Tg) : Tg.mix true a b = a := rfl
@[simp] theorem Tg.mix_false (a b : Tg) : Tg.mix false a b = b := rfl
@[simp] theorem Tg.thenN_n (u : Tg) : Tg.thenN .n u = u := rfl
@[simp] theorem Tg.thenN_x (i : Nat) (u : Tg) : Tg.thenN (.x i) u = .x i := rfl
@[simp] theorem Tg.thenN_r (u : Tg) : Tg.thenN .r u = .r := rfl
@[simp] theorem Tg.isN_thenN (t u : Tg) : Tg.isN (Tg.thenN t u) = (t.isN && u.isN) := by cases t <;> simp
@[simp] theorem Tg.thenN_mix (c : Bool) (a b u : Tg) : Tg.thenN (Tg.mix c a b) u = Tg.mix c (Tg.thenN a u) (Tg.thenN b u) := by cases c <;> rfl
@[simp] theorem Tg.block_n (i : Nat) : Tg.block i .n = .n := rfl
@[simp] theorem Tg.block_r (i : Nat) : Tg.block i .r = .r := rfl
@[simp] theorem Tg.block_x (i j : Nat) : Tg.block i (.x j) = if j = i then .n else .x j := rfl
@[simp] theorem Tg.block_mix (i : Nat) (c : Bool) (a b : Tg) : Tg.block i (Tg.mix c a b) = Tg.mix c (Tg.block i a) (Tg.block i b) := by cases c <;> rfl
@[simp] theorem Sc.toI_i (n : Int) : Sc.toI (.i n) = n := rfl
@[simp] theorem Sc.toB_b (n : Bool) : Sc.toB (.b n) = n := rfl
@[simp] theorem Sc.toN_n (n : Nat) : Sc.toN (.n n) = n := rfl
@[simp] theorem Sc.toS_s (n : ByteArray) : Sc.toS (.s n) = n := rfl
@[simp] theorem Sc.toD_d' (s : Sh) (x : s.den) : Sc.toD s (.d s x) = x := Sc.toD_d s x

attribute [simp] hd_cons tl_cons
theorem bEq_iff (x y : ByteArray) : bEq x y = true ↔ x = y := by
  obtain ⟨⟨x⟩⟩ := x
  obtain ⟨⟨y⟩⟩ := y
  simp [bEq]
theorem bEq_decide (x y : ByteArray) : bEq x y = decide (x = y) := by
  rw [Bool.eq_iff_iff, bEq_iff, decide_eq_true_iff]
theorem wrap_i64 {n : Int} (h1 : -9223372036854775808 ≤ n) (h2 : n ≤ 9223372036854775807) : IntKind.wrap .i64 n = n := by
  unfold IntKind.wrap
  simp [IntKind.signed, IntKind.bits]
  omega
end Go.Proofs.YtlidfaaajjfgfaaDoor.Ab
