/- The text of an expression, and that different expressions have different texts. No program in sight. -/
import Derived.Test.YtaajbcflmaihgaaDoorOpcNat
import Derived.Lib.ItoaNum
set_option linter.all false
namespace Go.Proofs.YtaajbcflmaihgaaDoor
open Go Ab
set_option maxRecDepth 100000
/-! Pieces between a separator -/
theorem sep_inj {α : Type} (c : α) : ∀ {t u r s : List α}, c ∉ t → c ∉ u → (r = [] ∨ ∃ r', r = c :: r') → (s = [] ∨ ∃ s', s = c :: s') → t ++ r = u ++ s → t = u ∧ r = s
  | [], [], r, s, _, _, _, _, h => ⟨rfl, by simpa using h⟩
  | [], y :: u, r, s, _, hu, hr, _, h => by
    rcases hr with rfl | ⟨r', rfl⟩
    · simp at h
    · simp only [List.nil_append, List.cons_append, List.cons.injEq] at h
      exact absurd (h.1 ▸ List.mem_cons_self ..) hu
  | x :: t, [], r, s, ht, _, _, hs, h => by
    rcases hs with rfl | ⟨s', rfl⟩
    · simp at h
    · simp only [List.nil_append, List.cons_append, List.cons.injEq] at h
      exact absurd (h.1 ▸ List.mem_cons_self ..) ht
  | x :: t, y :: u, r, s, ht, hu, hr, hs, h => by
    simp only [List.cons_append, List.cons.injEq] at h
    obtain ⟨rfl, h⟩ := h
    obtain ⟨rfl, h2⟩ := sep_inj c (fun m => ht (List.mem_cons_of_mem _ m)) (fun m => hu (List.mem_cons_of_mem _ m)) hr hs h
    exact ⟨rfl, h2⟩
/-! Decimal numbers -/
theorem dec_digit (u : Nat) : ∀ b ∈ Lib.decDigits u, 48 ≤ b.toNat ∧ b.toNat ≤ 57 := by
  induction u using Nat.strongRecOn with
  | _ u ih =>
    intro b hb
    rw [Lib.decDigits] at hb
    split at hb
    · rename_i h
      simp only [List.mem_singleton] at hb
      subst hb
      rw [UInt8.toNat_ofNat']
      omega
    · rename_i h
      rcases List.mem_append.1 hb with hb | hb
      · exact ih (u / 10) (by omega) b hb
      · simp only [List.mem_singleton] at hb
        subst hb
        rw [UInt8.toNat_ofNat']
        omega
def valD (l : List UInt8) : Nat := l.foldl (fun a b => a * 10 + (b.toNat - 48)) 0
theorem val_dec (u : Nat) : valD (Lib.decDigits u) = u := by
  induction u using Nat.strongRecOn with
  | _ u ih =>
    rw [Lib.decDigits]
    split
    · rename_i h
      simp only [valD, List.foldl_cons, List.foldl_nil]
      rw [UInt8.toNat_ofNat']
      omega
    · rename_i h
      unfold valD
      rw [List.foldl_append]
      have := ih (u / 10) (by omega)
      unfold valD at this
      rw [this]
      simp only [List.foldl_cons, List.foldl_nil]
      rw [UInt8.toNat_ofNat']
      omega
theorem dec_ne (u : Nat) : Lib.decDigits u ≠ [] := by
  rw [Lib.decDigits]
  split <;> simp
theorem dec_inj {u v : Nat} (h : Lib.decDigits u = Lib.decDigits v) : u = v := by rw [← val_dec u, h, val_dec]
theorem itoa_byte (n : Int) : ∀ b ∈ Lib.itoa n, b.toNat = 45 ∨ (48 ≤ b.toNat ∧ b.toNat ≤ 57) := by
  intro b hb
  unfold Lib.itoa at hb
  split at hb
  · rcases List.mem_cons.1 hb with rfl | hb
    · exact .inl rfl
    · exact .inr (dec_digit _ b hb)
  · exact .inr (dec_digit _ b hb)
theorem itoa_inj {m n : Int} (h : Lib.itoa m = Lib.itoa n) : m = n := by
  have key : ∀ (u : Nat) (l : List UInt8), Lib.decDigits u = 45 :: l → False := by
    intro u l e
    have := dec_digit u 45 (by rw [e]; exact List.mem_cons_self ..)
    have e2 : (45 : UInt8).toNat = 45 := rfl
    omega
  unfold Lib.itoa at h
  split at h
  · split at h
    · simp only [List.cons.injEq, true_and] at h
      have := dec_inj h
      omega
    · exact absurd h.symm (fun e => key _ _ e)
  · split at h
    · exact absurd h (fun e => key _ _ e)
    · have := dec_inj h
      omega
theorem itoa_ne (n : Int) : Lib.itoa n ≠ [] := by
  unfold Lib.itoa
  split
  · simp
  · exact dec_ne _
/-! Names -/
theorem names_small : ∀ k, k < 34 → ∀ b ∈ (opsL.getD k ByteArray.empty).data.toList, 48 ≤ b.toNat ∧ b.toNat ≠ 58 := by decide
theorem names_head : ∀ k, k < 34 → ∀ b, (opsL.getD k ByteArray.empty).data.toList.head? = some b → 97 ≤ b.toNat := by decide
theorem names_inj : ∀ i, i < 34 → ∀ j, j < 34 → (opsL.getD i ByteArray.empty).data.toList = (opsL.getD j ByteArray.empty).data.toList → (opsL.getD i ByteArray.empty).data.toList ≠ [] → i = j := by decide
theorem types_small : ∀ k, k < 8 → ∀ b ∈ (typesL.getD k ByteArray.empty).data.toList, 48 ≤ b.toNat ∧ b.toNat ≠ 58 := by decide
theorem types_head : ∀ k, k < 8 → ∀ b, (typesL.getD k ByteArray.empty).data.toList.head? = some b → 97 ≤ b.toNat := by decide
theorem types_inj : ∀ i, i < 8 → ∀ j, j < 8 → (typesL.getD i ByteArray.empty).data.toList = (typesL.getD j ByteArray.empty).data.toList → (typesL.getD i ByteArray.empty).data.toList ≠ [] → i = j := by decide
def nameL (s : ByteArray) (n : Int) : List UInt8 := if s.data.toList = [] then Lib.itoa n else s.data.toList
theorem name_cases (op : Int) : (nameOf op).data.toList = [] ∨ ∃ k : Nat, k < 34 ∧ op = k ∧ nameOf op = opsL.getD k ByteArray.empty := by
  unfold nameOf
  by_cases h : 0 ≤ op ∧ op < 34
  · exact .inr ⟨op.toNat, by omega, by omega, rfl⟩
  · left
    by_cases h0 : op < 0
    · rw [show op.toNat = 0 by omega]; rfl
    · rw [List.getD_eq_getElem?_getD, List.getElem?_eq_none (by rw [ops_len]; omega)]; rfl
theorem type_cases (t : Int) : (typeName t).data.toList = [] ∨ ∃ k : Nat, k < 8 ∧ t = k ∧ typeName t = typesL.getD k ByteArray.empty := by
  unfold typeName
  by_cases h0 : t < 0
  · rw [if_pos h0]; exact .inl rfl
  · rw [if_neg h0]
    by_cases h : t < 8
    · exact .inr ⟨t.toNat, by omega, by omega, rfl⟩
    · left
      rw [List.getD_eq_getElem?_getD, List.getElem?_eq_none (by rw [types_len]; omega)]; rfl
theorem itoa_head (n : Int) {b : UInt8} (h : (Lib.itoa n).head? = some b) : b.toNat < 97 := by
  have : b ∈ Lib.itoa n := List.mem_of_mem_head? h
  have := itoa_byte n b this
  omega
theorem nmOp_inj {m n : Int} (h : nameL (nameOf m) m = nameL (nameOf n) n) : m = n := by
  unfold nameL at h
  rcases name_cases m with hm | ⟨i, hi, rfl, hm⟩
  · rw [if_pos hm] at h
    rcases name_cases n with hn | ⟨j, hj, rfl, hn⟩
    · rw [if_pos hn] at h; exact itoa_inj h
    · by_cases he : (nameOf (j : Int)).data.toList = []
      · rw [if_pos he] at h; exact itoa_inj h
      · rw [if_neg he, hn] at h
        rw [hn] at he
        obtain ⟨b, l, hb⟩ := List.exists_cons_of_ne_nil he
        have h1 := names_head j hj b (by rw [hb]; rfl)
        have h2 := itoa_head m (b := b) (by rw [h, hb]; rfl)
        omega
  · by_cases he : (nameOf (i : Int)).data.toList = []
    · rw [if_pos he] at h
      rcases name_cases n with hn | ⟨j, hj, rfl, hn⟩
      · rw [if_pos hn] at h; exact itoa_inj h
      · by_cases he2 : (nameOf (j : Int)).data.toList = []
        · rw [if_pos he2] at h; exact itoa_inj h
        · rw [if_neg he2, hn] at h
          rw [hn] at he2
          obtain ⟨b, l, hb⟩ := List.exists_cons_of_ne_nil he2
          have h1 := names_head j hj b (by rw [hb]; rfl)
          have h2 := itoa_head i (b := b) (by rw [h, hb]; rfl)
          omega
    · rw [if_neg he, hm] at h
      rw [hm] at he
      rcases name_cases n with hn | ⟨j, hj, rfl, hn⟩
      · rw [if_pos hn] at h
        obtain ⟨b, l, hb⟩ := List.exists_cons_of_ne_nil he
        have h1 := names_head i hi b (by rw [hb]; rfl)
        have h2 := itoa_head n (b := b) (by rw [← h, hb]; rfl)
        omega
      · by_cases he2 : (nameOf (j : Int)).data.toList = []
        · rw [if_pos he2] at h
          obtain ⟨b, l, hb⟩ := List.exists_cons_of_ne_nil he
          have h1 := names_head i hi b (by rw [hb]; rfl)
          have h2 := itoa_head j (b := b) (by rw [← h, hb]; rfl)
          omega
        · rw [if_neg he2, hn] at h
          rw [names_inj i hi j hj h he]
theorem nmTy_inj {m n : Int} (h : nameL (typeName m) m = nameL (typeName n) n) : m = n := by
  unfold nameL at h
  rcases type_cases m with hm | ⟨i, hi, rfl, hm⟩
  · rw [if_pos hm] at h
    rcases type_cases n with hn | ⟨j, hj, rfl, hn⟩
    · rw [if_pos hn] at h; exact itoa_inj h
    · by_cases he : (typeName (j : Int)).data.toList = []
      · rw [if_pos he] at h; exact itoa_inj h
      · rw [if_neg he, hn] at h
        rw [hn] at he
        obtain ⟨b, l, hb⟩ := List.exists_cons_of_ne_nil he
        have h1 := types_head j hj b (by rw [hb]; rfl)
        have h2 := itoa_head m (b := b) (by rw [h, hb]; rfl)
        omega
  · by_cases he : (typeName (i : Int)).data.toList = []
    · rw [if_pos he] at h
      rcases type_cases n with hn | ⟨j, hj, rfl, hn⟩
      · rw [if_pos hn] at h; exact itoa_inj h
      · by_cases he2 : (typeName (j : Int)).data.toList = []
        · rw [if_pos he2] at h; exact itoa_inj h
        · rw [if_neg he2, hn] at h
          rw [hn] at he2
          obtain ⟨b, l, hb⟩ := List.exists_cons_of_ne_nil he2
          have h1 := types_head j hj b (by rw [hb]; rfl)
          have h2 := itoa_head i (b := b) (by rw [h, hb]; rfl)
          omega
    · rw [if_neg he, hm] at h
      rw [hm] at he
      rcases type_cases n with hn | ⟨j, hj, rfl, hn⟩
      · rw [if_pos hn] at h
        obtain ⟨b, l, hb⟩ := List.exists_cons_of_ne_nil he
        have h1 := types_head i hi b (by rw [hb]; rfl)
        have h2 := itoa_head n (b := b) (by rw [← h, hb]; rfl)
        omega
      · by_cases he2 : (typeName (j : Int)).data.toList = []
        · rw [if_pos he2] at h
          obtain ⟨b, l, hb⟩ := List.exists_cons_of_ne_nil he
          have h1 := types_head i hi b (by rw [hb]; rfl)
          have h2 := itoa_head j (b := b) (by rw [← h, hb]; rfl)
          omega
        · rw [if_neg he2, hn] at h
          rw [types_inj i hi j hj h he]
theorem nmOp_byte (op : Int) : ∀ b ∈ nameL (nameOf op) op, 45 ≤ b.toNat ∧ b.toNat ≠ 58 := by
  intro b hb
  unfold nameL at hb
  split at hb
  · have := itoa_byte op b hb; omega
  · rename_i hne
    rcases name_cases op with h | ⟨k, hk, rfl, h⟩
    · exact absurd h hne
    · rw [h] at hb
      have := names_small k hk b hb
      omega
theorem nmTy_byte (t : Int) : ∀ b ∈ nameL (typeName t) t, 45 ≤ b.toNat ∧ b.toNat ≠ 58 := by
  intro b hb
  unfold nameL at hb
  split at hb
  · have := itoa_byte t b hb; omega
  · rename_i hne
    rcases type_cases t with h | ⟨k, hk, rfl, h⟩
    · exact absurd h hne
    · rw [h] at hb
      have := types_small k hk b hb
      omega
/-! A node's text, an expression's text -/
abbrev NodP := Int × Int × Int × Unit
def tokL (e : NodP) : List UInt8 := if e.1 = 4 ∧ e.2.1 = 0 then 114 :: Lib.itoa e.2.2.1 else nameL (nameOf e.1) e.1 ++ 58 :: (nameL (typeName e.2.1) e.2.1 ++ 58 :: Lib.itoa e.2.2.1)
def fmtL : List NodP → List UInt8
  | [] => []
  | e :: es => tokL e ++ (if es = [] then [] else 32 :: fmtL es)
theorem tok_ne (e : NodP) : tokL e ≠ [] := by
  unfold tokL
  split <;> simp
theorem tok_sp (e : NodP) : (32 : UInt8) ∉ tokL e := by
  intro h
  have h32 : (32 : UInt8).toNat = 32 := rfl
  unfold tokL at h
  split at h
  · rcases List.mem_cons.1 h with h | h
    · exact absurd h (by decide)
    · have := itoa_byte _ _ h; omega
  · rcases List.mem_append.1 h with h | h
    · have := nmOp_byte _ _ h; omega
    · rcases List.mem_cons.1 h with h | h
      · exact absurd h (by decide)
      · rcases List.mem_append.1 h with h | h
        · have := nmTy_byte _ _ h; omega
        · rcases List.mem_cons.1 h with h | h
          · exact absurd h (by decide)
          · have := itoa_byte _ _ h; omega
theorem colon_op (op : Int) : (58 : UInt8) ∉ nameL (nameOf op) op := fun h => (nmOp_byte _ _ h).2 rfl
theorem colon_ty (t : Int) : (58 : UInt8) ∉ nameL (typeName t) t := fun h => (nmTy_byte _ _ h).2 rfl
theorem colon_num (n : Int) : (58 : UInt8) ∉ Lib.itoa n := fun h => by
  have h58 : (58 : UInt8).toNat = 58 := rfl
  have := itoa_byte _ _ h
  omega
theorem tok_inj {e f : NodP} (h : tokL e = tokL f) : e = f := by
  obtain ⟨op, ty, n, u⟩ := e
  obtain ⟨op', ty', n', u'⟩ := f
  have nocolon : ∀ m : Int, (58 : UInt8) ∉ (114 :: Lib.itoa m : List UInt8) := fun m hm => by
    rcases List.mem_cons.1 hm with h | h
    · exact absurd h (by decide)
    · exact colon_num m h
  unfold tokL at h
  simp only at h
  split at h
  · rename_i h1
    split at h
    · rename_i h2
      simp only [List.cons.injEq, true_and] at h
      have := itoa_inj h
      obtain ⟨rfl, rfl⟩ := h1
      obtain ⟨rfl, rfl⟩ := h2
      rw [this]
    · exact absurd (by rw [h]; exact List.mem_append.2 (.inr (List.mem_cons_self ..))) (nocolon n)
  · split at h
    · exact absurd (by rw [← h]; exact List.mem_append.2 (.inr (List.mem_cons_self ..))) (nocolon n')
    · obtain ⟨h1, h2⟩ := sep_inj (58 : UInt8) (colon_op op) (colon_op op') (.inr ⟨_, rfl⟩) (.inr ⟨_, rfl⟩) h
      simp only [List.cons.injEq, true_and] at h2
      obtain ⟨h3, h4⟩ := sep_inj (58 : UInt8) (colon_ty ty) (colon_ty ty') (.inr ⟨_, rfl⟩) (.inr ⟨_, rfl⟩) h2
      simp only [List.cons.injEq, true_and] at h4
      rw [nmOp_inj h1, nmTy_inj h3, itoa_inj h4]
theorem fmt_inj : ∀ {a b : List NodP}, fmtL a = fmtL b → a = b
  | [], [], _ => rfl
  | [], f :: fs, h => by
    have := tok_ne f
    simp only [fmtL] at h
    have h := List.append_eq_nil_iff.1 h.symm
    exact absurd h.1 this
  | e :: es, [], h => by
    have := tok_ne e
    simp only [fmtL] at h
    have h := List.append_eq_nil_iff.1 h
    exact absurd h.1 this
  | e :: es, f :: fs, h => by
    simp only [fmtL] at h
    obtain ⟨h1, h2⟩ := sep_inj (32 : UInt8) (tok_sp e) (tok_sp f) (by split; exact .inl rfl; exact .inr ⟨_, rfl⟩) (by split; exact .inl rfl; exact .inr ⟨_, rfl⟩) h
    rw [tok_inj h1]
    by_cases he : es = []
    · rw [if_pos he] at h2
      by_cases hf : fs = []
      · rw [he, hf]
      · rw [if_neg hf] at h2; cases h2
    · rw [if_neg he] at h2
      by_cases hf : fs = []
      · rw [if_pos hf] at h2; cases h2
      · rw [if_neg hf] at h2
        simp only [List.cons.injEq, true_and] at h2
        rw [fmt_inj h2]
theorem fmt_snoc (e : NodP) : ∀ xs : List NodP, fmtL (xs ++ [e]) = (if xs = [] then [] else fmtL xs ++ [32]) ++ tokL e
  | [] => by simp [fmtL]
  | x :: xs => by
    rw [List.cons_append]
    simp only [fmtL]
    rw [if_neg (by simp), fmt_snoc e xs]
    by_cases h : xs = []
    · subst h; simp
    · rw [if_neg h, if_neg h, if_neg (by simp)]; simp
end Go.Proofs.YtaajbcflmaihgaaDoor
