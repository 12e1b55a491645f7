/- A loop that looks for the first place where something holds; tests in short. No conditions. -/
import Derived.Test.YtaajbcflmaihgaaDoorAbRun
set_option linter.all false
namespace Go.Proofs.YtaajbcflmaihgaaDoor.Ab
/-- The first number below n that meets p; n if there is none. -/
def scanN (n : Nat) (p : Nat → Bool) : Nat := (List.range n).findIdx p
theorem scanN_le (n : Nat) (p : Nat → Bool) : scanN n p ≤ n := by
  unfold scanN
  have := List.findIdx_le_length (xs := List.range n) (p := p)
  simpa using this
theorem scanN_before {n : Nat} {p : Nat → Bool} {j : Nat} (hj : j < scanN n p) : p j = false := by
  have h := List.not_of_lt_findIdx hj
  rw [List.getElem_range] at h
  simpa using h
theorem scanN_at {n : Nat} {p : Nat → Bool} (h : scanN n p < n) : p (scanN n p) = true := by
  have h' : scanN n p < (List.range n).length := by simpa using h
  have := List.findIdx_getElem (xs := List.range n) (p := p) (w := h')
  have e : (List.range n)[List.findIdx p (List.range n)]'h' = scanN n p := List.getElem_range _
  rw [e] at this
  exact this
theorem scanN_all {n : Nat} {p : Nat → Bool} (h : ∀ j, j < n → p j = false) : scanN n p = n := by
  rcases Nat.lt_or_ge (scanN n p) n with hl | hl
  · have := scanN_at hl
    rw [h _ hl] at this
    cases this
  · exact Nat.le_antisymm (scanN_le n p) hl
theorem scanN_lt {n : Nat} {p : Nat → Bool} {j : Nat} (hj : j < n) (h : p j = true) : scanN n p < n := by
  rcases Nat.lt_or_ge (scanN n p) n with hl | hl
  · exact hl
  · have := scanN_before (n := n) (p := p) (j := j) (by omega)
    rw [h] at this
    cases this
theorem scanW {f : List Sc → Bool × Bool × List Sc} {x : List Sc} (st : Nat → List Sc) (n : Nat) (p : Nat → Bool) (hx : x = st 0) (h0 : ∀ j, j < n → p j = false → f (st j) = (true, true, st (j + 1)))
    (h1 : ∀ j, j < n → p j = true → (f (st j)).1 = true ∧ (f (st j)).2.1 = false) (hn : (f (st n)).1 = true ∧ (f (st n)).2.1 = false) : whileW f x = some (st (scanN n p)) := by
  have hle := scanN_le n p
  have hend : (f (st (scanN n p))).1 = true ∧ (f (st (scanN n p))).2.1 = false := by
    rcases Nat.lt_or_ge (scanN n p) n with h | h
    · exact h1 _ h (scanN_at h)
    · rw [show scanN n p = n by omega]
      exact hn
  exact whileW_upto st (scanN n p) hx (fun j hj => h0 j (by omega) (scanN_before hj)) hend.1 hend.2
/-! Tests in short; none of these by computing alone, so that the kernel never looks into what they stand before. -/
theorem sA1 (x : Bool) : sAnd x true = x := by cases x <;> rfl
theorem sA2 (x : Bool) : sAnd true x = x := by cases x <;> rfl
theorem sA3 (x : Bool) : sAnd x x = x := by cases x <;> rfl
theorem sA4 (x : Bool) : sAnd false x = false := by cases x <;> rfl
theorem sA5 (x : Bool) : sAnd x false = false := by cases x <;> rfl
theorem sO1 (x : Bool) : sOr x true = true := by cases x <;> rfl
theorem sO2 (x : Bool) : sOr (sNot x) x = true := by cases x <;> rfl
theorem sO3 (x : Bool) : sOr x (sNot x) = true := by cases x <;> rfl
theorem sO4 (x : Bool) : sOr true x = true := by cases x <;> rfl
theorem sO5 (x : Bool) : sOr false x = x := by cases x <;> rfl
theorem sI1 (x : Bool) : sIf x true true = true := by cases x <;> rfl
theorem sI2 (x : Bool) : sIf x x true = true := by cases x <;> rfl
theorem sI3 (x : Bool) : sIf x true (sNot x) = true := by cases x <;> rfl
theorem sIf_t {α : Type} (a b : α) (c : Bool) (h : c = true) : sIf c a b = a := by subst h; rfl
theorem sIf_f {α : Type} (a b : α) (c : Bool) (h : c = false) : sIf c a b = b := by subst h; rfl
theorem sI4 {α : Type} (a b : α) : sIf true a b = a := sIf_t a b true rfl
theorem sI5 {α : Type} (a b : α) : sIf false a b = b := sIf_f a b false rfl
theorem sN1 (x : Bool) : sNot (sNot x) = x := by cases x <;> rfl
theorem sN2' (x : Bool) (h : x = true) : sNot x = false := by subst h; rfl
theorem sN3' (x : Bool) (h : x = false) : sNot x = true := by subst h; rfl
theorem sN2 : sNot true = false := sN2' true rfl
theorem sN3 : sNot false = true := sN3' false rfl
theorem tIx (t : Tg) (i : Nat) (h : t = .x i) : t.isN = false := by subst h; rfl
theorem tIn (t : Tg) (h : t = .n) : t.isN = true := by subst h; rfl
theorem tIr (t : Tg) (h : t = .r) : t.isN = false := by subst h; rfl
theorem tI1 (i : Nat) : Tg.isN (.x i) = false := tIx _ i rfl
theorem tI2 : Tg.isN .n = true := tIn _ rfl
theorem tI3 : Tg.isN .r = false := tIr _ rfl
theorem tM1' (c : Bool) (t u : Tg) (h : c = true) : Tg.mix c t u = t := by subst h; rfl
theorem tM2' (c : Bool) (t u : Tg) (h : c = false) : Tg.mix c t u = u := by subst h; rfl
theorem tM1 (t u : Tg) : Tg.mix true t u = t := tM1' true t u rfl
theorem tM2 (t u : Tg) : Tg.mix false t u = u := tM2' false t u rfl
theorem tT1' (t u : Tg) (h : t = .n) : Tg.thenN t u = u := by subst h; rfl
theorem tT1 (u : Tg) : Tg.thenN .n u = u := tT1' _ u rfl
theorem tT2' (t u : Tg) (h : t = .r) : Tg.thenN t u = .r := by subst h; rfl
theorem tT2 (u : Tg) : Tg.thenN .r u = .r := tT2' _ u rfl
theorem tT3' (t u : Tg) (i : Nat) (h : t = .x i) : Tg.thenN t u = .x i := by subst h; rfl
theorem tT3 (u : Tg) (i : Nat) : Tg.thenN (.x i) u = .x i := tT3' _ u i rfl
theorem tB1' (i : Nat) (t : Tg) (h : t = .n) : Tg.block i t = .n := by subst h; rfl
theorem tB1 (i : Nat) : Tg.block i .n = .n := tB1' i _ rfl
theorem tB2' (i : Nat) (t : Tg) (h : t = .r) : Tg.block i t = .r := by subst h; rfl
theorem tB2 (i : Nat) : Tg.block i .r = .r := tB2' i _ rfl
theorem tB3' (i : Nat) (t : Tg) (h : t = .x i) : Tg.block i t = .n := by subst h; simp [Tg.block]
theorem tB3 (i : Nat) : Tg.block i (.x i) = .n := tB3' i _ rfl
theorem sS' {α : Type} (o : Option α) (x : α) (h : o = some x) : sSome o = true := by subst h; rfl
theorem sSome_some {α : Type} (x : α) : sSome (some x) = true := sS' _ x rfl
end Go.Proofs.YtaajbcflmaihgaaDoor.Ab
