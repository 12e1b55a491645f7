/- The temporaries of a function as a tree over the bits of their numbers: a place that was never set holds .unk. -/
import Derived.Test.YtlidfaaajjfgfaaDoorAbTmpl
set_option linter.unusedVariables false
set_option linter.all false
namespace Go.Proofs.YtlidfaaajjfgfaaDoor.Ab

/-- n made a literal before it goes on: the kernel computes with numbers only in closed terms. -/
def forceN {α : Type} (n : Nat) (k : Nat → α) : α := match n with | 0 => k 0 | m + 1 => k (m + 1)
theorem forceN_eq {α : Type} {n : Nat} {k : Nat → α} : forceN n k = k n := by cases n <;> rfl

inductive Tr where
  | nil
  | node (v : AV) (l r : Tr)

def Tr.get : Tr → Nat → AV
  | .nil, _ => .unk
  | .node v l r, i => bif Nat.beq i 0 then v else bif Nat.beq (Nat.mod i 2) 1 then l.get (Nat.div i 2) else r.get (Nat.div (Nat.sub i 1) 2)

def Tr.top : Tr → AV | .nil => .unk | .node v _ _ => v
def Tr.lft : Tr → Tr | .nil => .nil | .node _ l _ => l
def Tr.rgt : Tr → Tr | .nil => .nil | .node _ _ r => r

/-- Set; f is more than the number. -/
def Tr.set : Nat → Tr → Nat → AV → Tr
  | 0, t, _, _ => t
  | f + 1, t, i, v => bif Nat.beq i 0 then .node v t.lft t.rgt else bif Nat.beq (Nat.mod i 2) 1 then .node t.top (Tr.set f t.lft (Nat.div i 2) v) t.rgt else .node t.top t.lft (Tr.set f t.rgt (Nat.div (Nat.sub i 1) 2) v)

/-- The tree of a function, below n; the place i of this part is the place a*i+b of the whole. -/
def Tr.gen (g : Nat → AV) (n : Nat) : Nat → Nat → Nat → Tr
  | 0, _, _ => .nil
  | f + 1, a, b => bif Nat.ble n b then .nil else .node (g b) (Tr.gen g n f (Nat.mul 2 a) (Nat.add a b)) (Tr.gen g n f (Nat.mul 2 a) (Nat.add (Nat.mul 2 a) b))

def Tr.all (p : Nat → AV → Bool) : Tr → Nat → Nat → Bool
  | .nil, _, _ => true
  | .node v l r, a, b => p b v && (l.all p (Nat.mul 2 a) (Nat.add a b) && r.all p (Nat.mul 2 a) (Nat.add (Nat.mul 2 a) b))

theorem beq_false {a b : Nat} (h : a ≠ b) : Nat.beq a b = false := by
  cases hb : Nat.beq a b with
  | false => rfl
  | true => exact absurd (Nat.eq_of_beq_eq_true hb) h

theorem Tr.get_node {v : AV} {l r : Tr} {i : Nat} : (Tr.node v l r).get i = if i = 0 then v else if i % 2 = 1 then l.get (i / 2) else r.get ((i - 1) / 2) := by
  show (bif Nat.beq i 0 then v else bif Nat.beq (Nat.mod i 2) 1 then l.get (Nat.div i 2) else r.get (Nat.div (Nat.sub i 1) 2)) = _
  by_cases h : i = 0
  · subst h; rfl
  · rw [beq_false h, if_neg h, cond_false]
    by_cases h2 : i % 2 = 1
    · rw [if_pos h2, show Nat.mod i 2 = 1 from h2]; rfl
    · rw [if_neg h2, beq_false (show Nat.mod i 2 ≠ 1 from h2)]; rfl

theorem Tr.get_parts (t : Tr) (i : Nat) : t.get i = if i = 0 then t.top else if i % 2 = 1 then t.lft.get (i / 2) else t.rgt.get ((i - 1) / 2) := by
  cases t with
  | nil => simp [Tr.get, Tr.top, Tr.lft, Tr.rgt]
  | node v l r => exact Tr.get_node

theorem Tr.get_set : ∀ {f : Nat} {t : Tr} {i : Nat} {v : AV} {j : Nat}, i < f → (Tr.set f t i v).get j = if j = i then v else t.get j
  | 0, _, i, _, _, h => by omega
  | f + 1, t, i, v, j, h => by
    show (bif Nat.beq i 0 then Tr.node v t.lft t.rgt else bif Nat.beq (Nat.mod i 2) 1 then .node t.top (Tr.set f t.lft (Nat.div i 2) v) t.rgt else .node t.top t.lft (Tr.set f t.rgt (Nat.div (Nat.sub i 1) 2) v)).get j = _
    by_cases h0 : i = 0
    · subst h0
      rw [show Nat.beq 0 0 = true from rfl, cond_true, Tr.get_node, Tr.get_parts t j]
      split <;> rfl
    · rw [beq_false h0, cond_false]
      by_cases h2 : i % 2 = 1
      · rw [show Nat.mod i 2 = 1 from h2, show Nat.beq 1 1 = true from rfl, cond_true, Tr.get_node, Tr.get_set (show Nat.div i 2 < f by show i / 2 < f; omega), Tr.get_parts t j]
        by_cases hj : j = 0
        · rw [if_pos hj, if_pos hj, if_neg (by omega)]
        · rw [if_neg hj, if_neg hj]
          by_cases hj2 : j % 2 = 1
          · rw [if_pos hj2, if_pos hj2]
            by_cases e : j = i
            · rw [if_pos e, if_pos (by rw [e]; rfl)]
            · rw [if_neg e]; exact if_neg (show ¬ j / 2 = i / 2 by omega)
          · rw [if_neg hj2, if_neg hj2, if_neg (by omega)]
      · rw [beq_false (show Nat.mod i 2 ≠ 1 from h2), cond_false, Tr.get_node, Tr.get_set (show Nat.div (Nat.sub i 1) 2 < f by show (i - 1) / 2 < f; omega), Tr.get_parts t j]
        by_cases hj : j = 0
        · rw [if_pos hj, if_pos hj, if_neg (by omega)]
        · rw [if_neg hj, if_neg hj]
          by_cases hj2 : j % 2 = 1
          · rw [if_pos hj2, if_pos hj2, if_neg (by omega)]
          · rw [if_neg hj2, if_neg hj2]
            by_cases e : j = i
            · rw [if_pos e, if_pos (by rw [e]; rfl)]
            · rw [if_neg e]; exact if_neg (show ¬ (j - 1) / 2 = (i - 1) / 2 by omega)

theorem Tr.get_gen {g : Nat → AV} {n : Nat} : ∀ {f a b i : Nat}, i < f → a * i + b < n → (Tr.gen g n f a b).get i = g (a * i + b)
  | 0, _, _, i, h, _ => by omega
  | f + 1, a, b, i, h, hn => by
    show (bif Nat.ble n b then Tr.nil else .node (g b) (Tr.gen g n f (Nat.mul 2 a) (Nat.add a b)) (Tr.gen g n f (Nat.mul 2 a) (Nat.add (Nat.mul 2 a) b))).get i = _
    have hb : Nat.ble n b = false := by
      cases hh : Nat.ble n b with
      | false => rfl
      | true => have := Nat.le_of_ble_eq_true hh; omega
    rw [hb, cond_false, Tr.get_node]
    by_cases h0 : i = 0
    · rw [if_pos h0, h0]; simp
    · rw [if_neg h0]
      by_cases h2 : i % 2 = 1
      · have e : (2 * a) * (i / 2) + (a + b) = a * i + b := by
          have : i = 2 * (i / 2) + 1 := by omega
          calc (2 * a) * (i / 2) + (a + b) = a * (2 * (i / 2) + 1) + b := by rw [Nat.mul_add, ← Nat.mul_assoc, Nat.mul_comm a 2]; omega
            _ = a * i + b := by rw [← this]
        rw [if_pos h2]
        have := Tr.get_gen (g := g) (n := n) (f := f) (a := 2 * a) (b := a + b) (i := i / 2) (by omega) (by rw [e]; exact hn)
        rw [e] at this
        exact this
      · have e : (2 * a) * ((i - 1) / 2) + (2 * a + b) = a * i + b := by
          have : i = 2 * ((i - 1) / 2) + 2 := by omega
          calc (2 * a) * ((i - 1) / 2) + (2 * a + b) = a * (2 * ((i - 1) / 2) + 2) + b := by rw [Nat.mul_add, ← Nat.mul_assoc, Nat.mul_comm a 2]; omega
            _ = a * i + b := by rw [← this]
        rw [if_neg h2]
        have := Tr.get_gen (g := g) (n := n) (f := f) (a := 2 * a) (b := 2 * a + b) (i := (i - 1) / 2) (by omega) (by rw [e]; exact hn)
        rw [e] at this
        exact this

theorem Tr.all_get {p : Nat → AV → Bool} : ∀ {t : Tr} {a b : Nat}, t.all p a b = true → ∀ i, t.get i = .unk ∨ p (a * i + b) (t.get i) = true
  | .nil, _, _, _, i => .inl rfl
  | .node v l r, a, b, h, i => by
    simp only [Tr.all, Bool.and_eq_true] at h
    obtain ⟨h1, h2, h3⟩ := h
    rw [Tr.get_node]
    by_cases h0 : i = 0
    · rw [if_pos h0, h0]; right; simpa using h1
    · rw [if_neg h0]
      by_cases hi : i % 2 = 1
      · rw [if_pos hi]
        have e : (2 * a) * (i / 2) + (a + b) = a * i + b := by
          have : i = 2 * (i / 2) + 1 := by omega
          calc (2 * a) * (i / 2) + (a + b) = a * (2 * (i / 2) + 1) + b := by rw [Nat.mul_add, ← Nat.mul_assoc, Nat.mul_comm a 2]; omega
            _ = a * i + b := by rw [← this]
        have := Tr.all_get h2 (i / 2)
        rw [show Nat.mul 2 a * (i / 2) + Nat.add a b = a * i + b from e] at this
        exact this
      · rw [if_neg hi]
        have e : (2 * a) * ((i - 1) / 2) + (2 * a + b) = a * i + b := by
          have : i = 2 * ((i - 1) / 2) + 2 := by omega
          calc (2 * a) * ((i - 1) / 2) + (2 * a + b) = a * (2 * ((i - 1) / 2) + 2) + b := by rw [Nat.mul_add, ← Nat.mul_assoc, Nat.mul_comm a 2]; omega
            _ = a * i + b := by rw [← this]
        have := Tr.all_get h3 ((i - 1) / 2)
        rw [show Nat.mul 2 a * ((i - 1) / 2) + Nat.add (Nat.mul 2 a) b = a * i + b from e] at this
        exact this

/-- The temporaries. -/
structure TMap where
  length : Nat
  tr : Tr
instance : Inhabited TMap := ⟨⟨0, .nil⟩⟩

def TMap.get? (m : TMap) (t : Nat) : Option AV := forceN m.length fun n => bif Nat.blt t n then some (m.tr.get t) else none
instance : GetElem? TMap Nat AV (fun m t => t < m.length) where
  getElem m t _ := m.tr.get t
  getElem? m t := m.get? t
def TMap.getD (m : TMap) (t : Nat) (d : AV) : AV := (m.get? t).getD d
def TMap.set (m : TMap) (t : Nat) (v : AV) : TMap := forceN m.length fun n => ⟨n, Tr.set (t + 1) m.tr t v⟩
def TMap.mapIdx (g : Nat → AV → AV) (m : TMap) : TMap := forceN m.length fun n => ⟨n, Tr.gen (fun t => g t (m.tr.get t)) n n 1 0⟩
def TMap.all (m : TMap) (p : AV → Bool) : Bool := m.tr.all (fun _ v => p v) 1 0
def TMap.allI (m : TMap) (p : Nat → AV → Bool) : Bool := m.tr.all p 1 0
def TMap.ofL (l : List AV) (n : Nat) : TMap := forceN l.length fun k => ⟨k + (n - k), Tr.gen (fun t => l.getD t .unk) k k 1 0⟩

theorem TMap.get?_eq {m : TMap} {t : Nat} : m[t]? = if t < m.length then some (m.tr.get t) else none := by
  show forceN m.length (fun n => bif Nat.blt t n then some (m.tr.get t) else none) = _
  rw [forceN_eq]
  by_cases h : t < m.length
  · rw [if_pos h, show Nat.blt t m.length = true from Nat.ble_eq_true_of_le h]; rfl
  · rw [if_neg h]
    cases hh : Nat.blt t m.length with
    | false => rfl
    | true => exact absurd (Nat.le_of_ble_eq_true hh) h

theorem TMap.getElem?_lt {m : TMap} {t : Nat} {v : AV} (h : m[t]? = some v) : t < m.length := by
  rw [TMap.get?_eq] at h
  split at h
  · assumption
  · cases h
theorem TMap.getElem?_none {m : TMap} {t : Nat} (h : m.length ≤ t) : m[t]? = none := by
  rw [TMap.get?_eq, if_neg (by omega)]
theorem TMap.getElem?_some {m : TMap} {t : Nat} (h : t < m.length) : m[t]? = some (m.tr.get t) := by rw [TMap.get?_eq, if_pos h]
@[simp] theorem TMap.length_set {m : TMap} {t : Nat} {v : AV} : (m.set t v).length = m.length := by unfold TMap.set; rw [forceN_eq]
@[simp] theorem TMap.length_mapIdx {m : TMap} {g : Nat → AV → AV} : (m.mapIdx g).length = m.length := by unfold TMap.mapIdx; rw [forceN_eq]
theorem TMap.getElem?_set {m : TMap} {t u : Nat} {v : AV} : (m.set t v)[u]? = if u = t ∧ t < m.length then some v else m[u]? := by
  rw [TMap.get?_eq, TMap.get?_eq, TMap.length_set]
  unfold TMap.set
  rw [forceN_eq]
  simp only
  rw [Tr.get_set (by omega)]
  by_cases e : u = t
  · subst e
    by_cases h : u < m.length <;> simp [h]
  · simp [e]
theorem TMap.getElem?_set_self {m : TMap} {t : Nat} {v : AV} (h : t < m.length) : (m.set t v)[t]? = some v := by rw [TMap.getElem?_set, if_pos ⟨rfl, h⟩]
theorem TMap.getElem?_set_ne {m : TMap} {t u : Nat} {v : AV} (h : t ≠ u) : (m.set t v)[u]? = m[u]? := by rw [TMap.getElem?_set, if_neg (fun e => h e.1.symm)]
theorem TMap.getElem?_mapIdx {m : TMap} {g : Nat → AV → AV} {t : Nat} : (m.mapIdx g)[t]? = (m[t]?).map (g t) := by
  rw [TMap.get?_eq, TMap.get?_eq, TMap.length_mapIdx]
  by_cases h : t < m.length
  · rw [if_pos h, if_pos h]
    simp only [TMap.mapIdx]
    rw [forceN_eq, Tr.get_gen h (by omega)]; simp
  · rw [if_neg h, if_neg h]; rfl
theorem TMap.all_at {m : TMap} {p : AV → Bool} (hu : p .unk = true) (h : m.all p = true) {t : Nat} {v : AV} (hv : m[t]? = some v) : p v = true := by
  have hl := TMap.getElem?_lt hv
  rw [TMap.getElem?_some hl] at hv
  cases hv
  rcases Tr.all_get h t with e | e
  · rw [e]; exact hu
  · exact e
theorem TMap.allI_at {m : TMap} {p : Nat → AV → Bool} (hu : ∀ t, p t .unk = true) (h : m.allI p = true) {t : Nat} {v : AV} (hv : m[t]? = some v) : p t v = true := by
  have hl := TMap.getElem?_lt hv
  rw [TMap.getElem?_some hl] at hv
  cases hv
  rcases Tr.all_get h t with e | e
  · rw [e]; exact hu t
  · simpa using e
theorem TMap.length_ofL {l : List AV} {n : Nat} : (TMap.ofL l n).length = l.length + (n - l.length) := by unfold TMap.ofL; rw [forceN_eq]
theorem TMap.getElem?_ofL {l : List AV} {n t : Nat} : (TMap.ofL l n)[t]? = if t < l.length + (n - l.length) then some (l.getD t .unk) else none := by
  rw [TMap.get?_eq]
  unfold TMap.ofL
  rw [forceN_eq]
  simp only
  split
  · congr 1
    by_cases h2 : t < l.length
    · rw [Tr.get_gen h2 (by omega)]; simp
    · have : ∀ (g : Nat → AV) (N f a b i : Nat), N ≤ a * i + b → a ≠ 0 → (Tr.gen g N f a b).get i = .unk := by
        intro g N f
        induction f with
        | zero => intro a b i _ _; rfl
        | succ f ih =>
          intro a b i hN ha
          show (bif Nat.ble N b then Tr.nil else .node (g b) (Tr.gen g N f (Nat.mul 2 a) (Nat.add a b)) (Tr.gen g N f (Nat.mul 2 a) (Nat.add (Nat.mul 2 a) b))).get i = _
          cases hh : Nat.ble N b with
          | true => rfl
          | false =>
            rw [cond_false, Tr.get_node]
            have hb : ¬ N ≤ b := fun h => by rw [Nat.ble_eq_true_of_le h] at hh; cases hh
            have h0 : i ≠ 0 := by rintro rfl; simp at hN; exact hb hN
            rw [if_neg h0]
            by_cases hi : i % 2 = 1
            · rw [if_pos hi]
              refine ih _ _ _ ?_ (show 2 * a ≠ 0 by omega)
              show N ≤ (2 * a) * (i / 2) + (a + b)
              have : i = 2 * (i / 2) + 1 := by omega
              have e : (2 * a) * (i / 2) + (a + b) = a * (2 * (i / 2) + 1) + b := by rw [Nat.mul_add, ← Nat.mul_assoc, Nat.mul_comm a 2]; omega
              rw [e, ← this]; exact hN
            · rw [if_neg hi]
              refine ih _ _ _ ?_ (show 2 * a ≠ 0 by omega)
              show N ≤ (2 * a) * ((i - 1) / 2) + (2 * a + b)
              have : i = 2 * ((i - 1) / 2) + 2 := by omega
              have e : (2 * a) * ((i - 1) / 2) + (2 * a + b) = a * (2 * ((i - 1) / 2) + 2) + b := by rw [Nat.mul_add, ← Nat.mul_assoc, Nat.mul_comm a 2]; omega
              rw [e, ← this]; exact hN
      rw [this _ _ _ _ _ _ (by omega) (by omega)]
      rw [List.getD_eq_getElem?_getD, List.getElem?_eq_none (by omega)]
      rfl
  · rfl
end Go.Proofs.YtlidfaaajjfgfaaDoor.Ab
