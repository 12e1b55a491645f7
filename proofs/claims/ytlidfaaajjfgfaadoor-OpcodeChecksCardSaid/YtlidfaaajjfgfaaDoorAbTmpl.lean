import Derived.Test.YtlidfaaajjfgfaaDoorAbOps3
set_option linter.unusedVariables false
set_option linter.all false
namespace Go.Proofs.YtlidfaaajjfgfaaDoor.Ab
open Go.RowKit

/-! ### Numbers and data out of a plain value, and back: for branches that meet again, and loops -/
inductive Sc where
  | b (x : Bool) | i (x : Int) | n (x : Nat) | s (x : ByteArray) | d (s : Sh) (x : s.den)
  deriving Inhabited

def Sc.toB : Sc → Bool | .b x => x | _ => false
def Sc.toI : Sc → Int | .i x => x | _ => 0
def Sc.toN : Sc → Nat | .n x => x | _ => 0
def Sc.toS : Sc → ByteArray | .s x => x | _ => .empty
def Sc.toD (s : Sh) : Sc → s.den | .d s' x => if h : s' = s then h ▸ x else s.dflt | _ => s.dflt

theorem Sc.toD_d (s : Sh) (x : s.den) : Sc.toD s (.d s x) = x := by simp [Sc.toD]

/-- One of two. -/
def Sc.mix (c : Bool) : Sc → Sc → Sc
  | .b x, .b y => .b (sIf c x y)
  | .i x, .i y => .i (sIf c x y)
  | .n x, .n y => .n (sIf c x y)
  | .s x, .s y => .s (sIf c x y)
  | .d e x, .d e' y => if h : e' = e then .d e (sIf c x (h ▸ y)) else sIf c (.d e x) (.d e' y)
  | x, y => sIf c x y

theorem Sc.mix_true (x y : Sc) : Sc.mix true x y = x := by
  cases x <;> cases y <;> simp [Sc.mix]

theorem Sc.mix_false (x y : Sc) : Sc.mix false x y = y := by
  cases x <;> cases y <;> simp [Sc.mix]
  rename_i s x s' y
  intro h
  subst h
  simp

def mixL (c : Bool) : List Sc → List Sc → List Sc
  | x :: xs, y :: ys => Sc.mix c x y :: mixL c xs ys
  | _, _ => []

theorem mixL_true : ∀ {xs ys : List Sc}, xs.length = ys.length → mixL true xs ys = xs
  | [], [], _ => rfl
  | x :: xs, y :: ys, h => by simp [mixL, Sc.mix_true, mixL_true (xs := xs) (ys := ys) (by simpa using h)]
theorem mixL_false : ∀ {xs ys : List Sc}, xs.length = ys.length → mixL false xs ys = ys
  | [], [], _ => rfl
  | x :: xs, y :: ys, h => by simp [mixL, Sc.mix_false, mixL_false (xs := xs) (ys := ys) (by simpa using h)]

abbrev hd (r : List Sc) : Sc := r.headD (.b false)
abbrev tl (r : List Sc) : List Sc := r.tail
theorem hd_cons (x : Sc) (r : List Sc) : hd (x :: r) = x := rfl
theorem tl_cons (x : Sc) (r : List Sc) : tl (x :: r) = r := rfl

mutual
/-- A template filled with numbers and data. -/
def AV.fill : AV → List Sc → AV × List Sc
  | .bool _, r => (.bool (hd r).toB, tl r)
  | .int k _, r => (.int k (hd r).toI, tl r)
  | .str _, r => (.str (hd r).toS, tl r)
  | .dsl e _, r => (.dsl e ((hd r).toD (.sl e)), tl r)
  | .dptr s _ off, r => (.dptr s ((hd r).toD s) off, tl r)
  | .eptr q g _ off, r => (.eptr q g (hd r).toN off, tl r)
  | .osl q g _ _, r => (.osl q g (hd r).toN (hd (tl r)).toN, tl (tl r))
  | .agg ts, r => ((AV.fillL ts r).map .agg id)
  | .tup ts, r => ((AV.fillL ts r).map .tup id)
  | .iface t a, r => ((a.fill r).map (.iface t) id)
  | .clo f ts, r => ((AV.fillL ts r).map (.clo f) id)
  | .opt _ a, r => ((a.fill (tl r)).map (.opt (hd r).toB) id)
  | t, r => (t, r)
def AV.fillL : List AV → List Sc → List AV × List Sc
  | [], r => ([], r)
  | t :: ts, r => ((t.fill r).1 :: (AV.fillL ts (t.fill r).2).1, (AV.fillL ts (t.fill r).2).2)
end

mutual
/-- Some numbers and data for a template. -/
def AV.dummy : AV → List Sc
  | .bool _ => [.b false]
  | .int _ _ => [.i 0]
  | .str _ => [.s .empty]
  | .dsl e _ => [.d (.sl e) []]
  | .dptr s _ _ => [.d s s.dflt]
  | .eptr _ _ _ _ => [.n 0]
  | .osl _ _ _ _ => [.n 0, .n 0]
  | .agg ts => AV.dummyL ts
  | .tup ts => AV.dummyL ts
  | .iface _ a => a.dummy
  | .clo _ ts => AV.dummyL ts
  | .opt _ a => .b false :: a.dummy
  | _ => []
def AV.dummyL : List AV → List Sc
  | [] => []
  | t :: ts => t.dummy ++ AV.dummyL ts
end

mutual
/-- A value read under a template: gS, gT: the states of the rows on the two sides. -/
def AV.coe (gS : Nat → Option (Nat × Nat)) (gT : Nat → Option Nat) : AV → AV → Option (List Sc)
  | .unk, _ => some []
  | .bool _, .bool x => some [.b x]
  | .int k _, .int k' x => if k = k' then some [.i x] else none
  | .str _, .str x => some [.s x]
  | .nilp, .nilp => some []
  | .nilf, .nilf => some []
  | .nili, .nili => some []
  | .nils, .nils => some []
  | .dsl e _, .dsl e' xs => if e' = e then some [.d (.sl e') xs] else none
  | .dsl e _, .nils => some [.d (.sl e) []]
  | .dptr s _ off, .dptr s' x off' => if s' = s ∧ off' = off then some [.d s' x] else none
  | .ptr r off, .ptr r' off' => if r = r' ∧ off = off' then some [] else none
  | .eptr r g _ off, .eptr r' g' i off' => if r = r' ∧ off = off' ∧ gT r = some g ∧ (gS r).map (·.1) = some g' then some [.n i] else none
  | .osl r g _ _, .osl r' g' st len => if r = r' ∧ gT r = some g ∧ (gS r).map (·.1) = some g' then some [.n st, .n len] else none
  | .osl r g _ _, .own r' g' => if r = r' ∧ gT r = some g then (match gS r with | some (g'', len) => if g'' = g' then some [.n 0, .n len] else none | none => none) else none
  | .own r g, .own r' g' => if r = r' ∧ gT r = some g ∧ (gS r).map (·.1) = some g' then some [] else none
  | .own r g, .nils => if gT r = some g ∧ gS r = none then some [] else none
  | .agg ts, .agg vs => AV.coeL gS gT ts vs
  | .tup ts, .tup vs => AV.coeL gS gT ts vs
  | .iface t a, .iface t' v => if t = t' then a.coe gS gT v else none
  | .clo f ts, .clo f' vs => if f = f' then AV.coeL gS gT ts vs else none
  | .opt _ a, v => match v with
    | .unk => some (.b false :: a.dummy)
    | .opt c v => (a.coe gS gT v).map (.b c :: ·)
    | .gopt c v => (a.coe gS gT v).map (.b c :: ·)
    | v => (a.coe gS gT v).map (.b true :: ·)
  | _, _ => none
def AV.coeL (gS : Nat → Option (Nat × Nat)) (gT : Nat → Option Nat) : List AV → List AV → Option (List Sc)
  | [], [] => some []
  | t :: ts, v :: vs => (t.coe gS gT v).bind fun x => (AV.coeL gS gT ts vs).map (x ++ ·)
  | _, _ => none
end

mutual
theorem AV.fill_dummy : ∀ (T : AV) (r : List Sc), (T.fill (T.dummy ++ r)).2 = r
  | .unk, _ | .nilp, _ | .nilf, _ | .nili, _ | .nils, _ | .ptr _ _, _ | .own _ _, _ | .gopt _ _, _ => by simp [AV.fill, AV.dummy]
  | .bool _, _ | .int _ _, _ | .str _, _ | .dsl _ _, _ | .dptr _ _ _, _ | .eptr _ _ _ _, _ | .osl _ _ _ _, _ => by simp [AV.fill, AV.dummy]
  | .agg ts, r | .tup ts, r | .clo _ ts, r => by simpa [AV.fill, AV.dummy] using AV.fillL_dummy ts r
  | .iface _ a, r => by simpa [AV.fill, AV.dummy] using AV.fill_dummy a r
  | .opt _ a, r => by simpa [AV.fill, AV.dummy] using AV.fill_dummy a r
theorem AV.fillL_dummy : ∀ (ts : List AV) (r : List Sc), (AV.fillL ts (AV.dummyL ts ++ r)).2 = r
  | [], r => by simp [AV.fillL, AV.dummyL]
  | t :: ts, r => by
    simp only [AV.fillL, AV.dummyL, List.append_assoc]
    rw [AV.fill_dummy t]
    exact AV.fillL_dummy ts r
end

mutual
theorem AV.coe_len {gS : Nat → Option (Nat × Nat)} {gT : Nat → Option Nat} : ∀ (t v : AV) (xs r : List Sc), t.coe gS gT v = some xs → (t.fill (xs ++ r)).2 = r
  | .unk, v, xs, r, h => by simp only [AV.coe, Option.some.injEq] at h; subst h; simp [AV.fill]
  | .bool _, v, xs, r, h => by cases v <;> simp only [AV.coe, Option.some.injEq, reduceCtorEq] at h; subst h; simp [AV.fill]
  | .int k _, v, xs, r, h => by
    cases v <;> simp only [AV.coe, reduceCtorEq] at h
    split at h <;> cases h; simp [AV.fill]
  | .str _, v, xs, r, h => by cases v <;> simp only [AV.coe, Option.some.injEq, reduceCtorEq] at h; subst h; simp [AV.fill]
  | .nilp, v, xs, r, h => by cases v <;> simp only [AV.coe, Option.some.injEq, reduceCtorEq] at h; subst h; simp [AV.fill]
  | .nilf, v, xs, r, h => by cases v <;> simp only [AV.coe, Option.some.injEq, reduceCtorEq] at h; subst h; simp [AV.fill]
  | .nili, v, xs, r, h => by cases v <;> simp only [AV.coe, Option.some.injEq, reduceCtorEq] at h; subst h; simp [AV.fill]
  | .nils, v, xs, r, h => by cases v <;> simp only [AV.coe, Option.some.injEq, reduceCtorEq] at h; subst h; simp [AV.fill]
  | .dsl e _, v, xs, r, h => by
    cases v <;> simp only [AV.coe, Option.some.injEq, reduceCtorEq] at h
    · subst h; simp [AV.fill]
    · split at h <;> cases h; simp [AV.fill]
  | .dptr s _ off, v, xs, r, h => by
    cases v <;> simp only [AV.coe, reduceCtorEq] at h
    split at h <;> cases h; simp [AV.fill]
  | .ptr q off, v, xs, r, h => by
    cases v <;> simp only [AV.coe, reduceCtorEq] at h
    split at h <;> cases h; simp [AV.fill]
  | .eptr q g _ off, v, xs, r, h => by
    cases v <;> simp only [AV.coe, reduceCtorEq] at h
    split at h <;> cases h; simp [AV.fill]
  | .osl q g _ _, v, xs, r, h => by
    cases v <;> simp only [AV.coe, reduceCtorEq] at h
    · split at h <;> cases h; simp [AV.fill]
    · split at h
      · split at h
        · split at h <;> cases h; simp [AV.fill]
        · cases h
      · cases h
  | .own q g, v, xs, r, h => by
    cases v <;> simp only [AV.coe, reduceCtorEq] at h
    · split at h <;> cases h; simp [AV.fill]
    · split at h <;> cases h; simp [AV.fill]
  | .agg ts, v, xs, r, h => by
    cases v <;> simp only [AV.coe, reduceCtorEq] at h
    simpa [AV.fill] using AV.coeL_len ts _ xs r h
  | .tup ts, v, xs, r, h => by
    cases v <;> simp only [AV.coe, reduceCtorEq] at h
    simpa [AV.fill] using AV.coeL_len ts _ xs r h
  | .iface t a, v, xs, r, h => by
    cases v <;> simp only [AV.coe, reduceCtorEq] at h
    split at h
    · simpa [AV.fill] using AV.coe_len a _ xs r h
    · cases h
  | .clo f ts, v, xs, r, h => by
    cases v <;> simp only [AV.coe, reduceCtorEq] at h
    split at h
    · simpa [AV.fill] using AV.coeL_len ts _ xs r h
    · cases h
  | .opt _ a, v, xs, r, h => by
    have plain : ∀ (c : Bool) (v' : AV) (xs : List Sc), (a.coe gS gT v').map (.b c :: ·) = some xs → ∀ c', ((AV.opt c' a).fill (xs ++ r)).2 = r := by
      intro c v' xs h c'
      simp only [Option.map_eq_some_iff] at h
      obtain ⟨ys, hy, rfl⟩ := h
      simpa [AV.fill] using AV.coe_len a v' ys r hy
    cases v <;> simp only [AV.coe] at h
    case unk =>
      cases h
      simpa [AV.fill] using AV.fill_dummy a r
    all_goals exact plain _ _ xs h _
  | .gopt _ a, v, xs, r, h => by cases v <;> simp only [AV.coe, reduceCtorEq] at h
theorem AV.coeL_len {gS : Nat → Option (Nat × Nat)} {gT : Nat → Option Nat} : ∀ (ts vs : List AV) (xs r : List Sc), AV.coeL gS gT ts vs = some xs → (AV.fillL ts (xs ++ r)).2 = r
  | [], vs, xs, r, h => by
    cases vs <;> simp only [AV.coeL, Option.some.injEq, reduceCtorEq] at h
    subst h
    simp [AV.fillL]
  | t :: ts, vs, xs, r, h => by
    cases vs with
    | nil => simp only [AV.coeL, reduceCtorEq] at h
    | cons v vs =>
      simp only [AV.coeL, Option.bind_eq_some_iff, Option.map_eq_some_iff] at h
      obtain ⟨x, h1, y, h2, rfl⟩ := h
      simp only [AV.fillL, List.append_assoc, AV.coe_len t v x (y ++ r) h1]
      exact AV.coeL_len ts vs y r h2
end

/-- How the rows of the template's side come of the rows of the other. -/
structure Turn (X X' : Cx) (gS : Nat → Option (Nat × Nat)) (gT : Nat → Option Nat) : Prop where
  F : X'.F = X.F
  heap : X'.heap = X.heap
  box : ∀ r cs', X'.rows.get r = some (.box cs') → (∃ cs, X.rows.get r = some (.box cs)) ∧ X'.φ r = X.φ r
  arr : ∀ r g s xs', X'.rows.get r = some (.arr g s xs') →
    (∃ g0 xs, X.rows.get r = some (.arr g0 s xs) ∧ xs'.length = xs.length ∧ gS r = some (g0, xs.length) ∧ X'.φ r = X.φ r) ∨ (gS r = none ∧ xs'.length = 0 ∧ X'.φ r = none)

mutual
theorem AV.coe_ok {X X' : Cx} {gS : Nat → Option (Nat × Nat)} {gT : Nat → Option Nat} (T : Turn X X' gS gT) : ∀ (t v : AV) (xs r : List Sc) (u : Value), t.coe gS gT v = some xs → Rel X v u →
    (t.fill (xs ++ r)).2 = r ∧ Rel X' (t.fill (xs ++ r)).1 u
  | .unk, v, xs, r, u, h, hr => by simp only [AV.coe, Option.some.injEq] at h; subst h; simp [AV.fill, Rel]
  | .bool _, v, xs, r, u, h, hr => by
    cases v <;> simp only [AV.coe, Option.some.injEq, reduceCtorEq] at h; subst h; simpa [AV.fill, Rel, Sc.toB] using hr
  | .int k _, v, xs, r, u, h, hr => by
    cases v <;> simp only [AV.coe, reduceCtorEq] at h
    split at h
    · rename_i e; subst e; cases h; simpa [AV.fill, Rel, Sc.toI] using hr
    · cases h
  | .str _, v, xs, r, u, h, hr => by
    cases v <;> simp only [AV.coe, Option.some.injEq, reduceCtorEq] at h; subst h; simpa [AV.fill, Rel, Sc.toS] using hr
  | .nilp, v, xs, r, u, h, hr => by
    cases v <;> simp only [AV.coe, Option.some.injEq, reduceCtorEq] at h; subst h; simpa [AV.fill, Rel] using hr
  | .nilf, v, xs, r, u, h, hr => by
    cases v <;> simp only [AV.coe, Option.some.injEq, reduceCtorEq] at h; subst h; simpa [AV.fill, Rel] using hr
  | .nili, v, xs, r, u, h, hr => by
    cases v <;> simp only [AV.coe, Option.some.injEq, reduceCtorEq] at h; subst h; simpa [AV.fill, Rel] using hr
  | .nils, v, xs, r, u, h, hr => by
    cases v <;> simp only [AV.coe, Option.some.injEq, reduceCtorEq] at h; subst h; simpa [AV.fill, Rel] using hr
  | .dsl e _, v, xs, r, u, h, hr => by
    cases v <;> simp only [AV.coe, Option.some.injEq, reduceCtorEq] at h
    · subst h
      simp only [Rel] at hr
      subst hr
      simp only [AV.fill, Rel, Sc.toD_d, List.cons_append, hd_cons, tl_cons, List.nil_append, true_and]
      exact ⟨none, 0, rfl, Nat.le_refl _, fun _ => ⟨rfl, rfl⟩, fun p hp => by cases hp⟩
    · split at h
      · rename_i e; subst e; cases h
        simp only [Rel] at hr
        simp only [AV.fill, Rel, Sc.toD_d, List.cons_append, hd_cons, tl_cons, List.nil_append, true_and]
        rw [T.F, T.heap]; exact hr
      · cases h
  | .dptr s _ off, v, xs, r, u, h, hr => by
    cases v <;> simp only [AV.coe, reduceCtorEq] at h
    split at h
    · rename_i e; obtain ⟨e, e'⟩ := e; subst e; subst e'; cases h
      simp only [Rel] at hr
      simp only [AV.fill, Rel, Sc.toD_d, List.cons_append, hd_cons, tl_cons, List.nil_append, true_and]
      rw [T.F, T.heap]; exact hr
    · cases h
  | .ptr q off, v, xs, r, u, h, hr => by
    cases v <;> simp only [AV.coe, reduceCtorEq] at h
    split at h
    · rename_i e; obtain ⟨e, e'⟩ := e; subst e; subst e'; cases h
      simp only [Rel] at hr
      simp only [AV.fill, Rel, List.nil_append, true_and]
      intro cs' hcs'
      obtain ⟨⟨cs, hcs⟩, hφ⟩ := T.box q cs' hcs'
      obtain ⟨b, hb, hv⟩ := hr cs hcs
      exact ⟨b, hφ.trans hb, hv⟩
    · cases h
  | .eptr q g _ off, v, xs, r, u, h, hr => by
    cases v <;> simp only [AV.coe, reduceCtorEq] at h
    split at h
    · rename_i e; obtain ⟨e, e', e1, e2⟩ := e; subst e; subst e'; cases h
      simp only [Rel] at hr
      simp only [AV.fill, Rel, Sc.toN, List.cons_append, hd_cons, tl_cons, List.nil_append, true_and]
      intro s xs' hx'
      rcases T.arr q g s xs' hx' with ⟨g0, xs, hx, hl, hg, hφ⟩ | ⟨hg, _⟩
      · rw [hg] at e2
        simp only [Option.map_some, Option.some.injEq] at e2
        subst e2
        obtain ⟨hi, b, o, hb, hv⟩ := hr s xs hx
        exact ⟨by omega, b, o, hφ.trans hb, hv⟩
      · rw [hg] at e2; cases e2
    · cases h
  | .osl q g _ _, v, xs, r, u, h, hr => by
    cases v <;> simp only [AV.coe, reduceCtorEq] at h
    · split at h
      · rename_i e; obtain ⟨e, e1, e2⟩ := e; subst e; cases h
        simp only [Rel] at hr
        simp only [AV.fill, Rel, Sc.toN, List.cons_append, hd_cons, tl_cons, List.nil_append, true_and]
        intro s xs' hx'
        rcases T.arr q g s xs' hx' with ⟨g0, xs, hx, hl, hg, hφ⟩ | ⟨hg, _⟩
        · rw [hg] at e2
          simp only [Option.map_some, Option.some.injEq] at e2
          subst e2
          obtain ⟨hle, hc⟩ := hr s xs hx
          refine ⟨by omega, ?_⟩
          rw [hφ, T.heap, hl]
          exact hc
        · rw [hg] at e2; cases e2
      · cases h
    · split at h
      · rename_i e; obtain ⟨e, e1⟩ := e; subst e
        split at h
        · rename_i g'' len hgs
          split at h
          · rename_i e2; subst e2; cases h
            simp only [Rel] at hr
            simp only [AV.fill, Rel, Sc.toN, List.cons_append, hd_cons, tl_cons, List.nil_append, true_and]
            intro s xs' hx'
            rcases T.arr q g s xs' hx' with ⟨g0, xs, hx, hl, hg, hφ⟩ | ⟨hg, _⟩
            · rw [hg] at hgs
              simp only [Option.some.injEq, Prod.mk.injEq] at hgs
              obtain ⟨rfl, rfl⟩ := hgs
              refine ⟨by omega, ?_⟩
              rw [hφ, T.heap]
              rcases hr s xs hx with ⟨h1, h2, h3⟩ | ⟨b, o, cap, h1, h2, h3, h4⟩
              · exact .inl ⟨h1, by omega, h3⟩
              · exact .inr ⟨b, o, _, cap, h1, h2, h3, .inr ⟨by simp, fun c T fr hc => by simpa using h4 c T fr hc⟩⟩
            · rw [hg] at hgs; cases hgs
          · cases h
        · cases h
      · cases h
  | .own q g, v, xs, r, u, h, hr => by
    cases v <;> simp only [AV.coe, reduceCtorEq] at h
    · split at h
      · rename_i e; obtain ⟨e1, e2⟩ := e; cases h
        simp only [Rel] at hr
        subst hr
        simp only [AV.fill, Rel, List.nil_append, true_and]
        intro s xs' hx'
        rcases T.arr q g s xs' hx' with ⟨g0, xs, hx, hl, hg, hφ⟩ | ⟨hg, h0, hφ⟩
        · rw [e2] at hg; cases hg
        · exact .inl ⟨hφ, h0, trivial⟩
      · cases h
    · split at h
      · rename_i e; obtain ⟨e, e1, e2⟩ := e; subst e; cases h
        simp only [Rel] at hr
        simp only [AV.fill, Rel, List.nil_append, true_and]
        intro s xs' hx'
        rcases T.arr q g s xs' hx' with ⟨g0, xs, hx, hl, hg, hφ⟩ | ⟨hg, _⟩
        · rw [hg] at e2
          simp only [Option.map_some, Option.some.injEq] at e2
          subst e2
          rw [hφ, T.heap, hl]
          exact hr s xs hx
        · rw [hg] at e2; cases e2
      · cases h
  | .agg ts, v, xs, r, u, h, hr => by
    cases v <;> simp only [AV.coe, reduceCtorEq] at h
    simp only [Rel] at hr
    obtain ⟨vs, rfl, hr⟩ := hr
    obtain ⟨h1, h2⟩ := AV.coeL_ok T ts _ xs r _ h hr
    simp only [AV.fill, Prod.map, Rel, id]
    exact ⟨h1, vs, rfl, h2⟩
  | .tup ts, v, xs, r, u, h, hr => by
    cases v <;> simp only [AV.coe, reduceCtorEq] at h
    simp only [Rel] at hr
    obtain ⟨vs, rfl, hr⟩ := hr
    obtain ⟨h1, h2⟩ := AV.coeL_ok T ts _ xs r _ h hr
    simp only [AV.fill, Prod.map, Rel, id]
    exact ⟨h1, vs, rfl, h2⟩
  | .iface t a, v, xs, r, u, h, hr => by
    cases v <;> simp only [AV.coe, reduceCtorEq] at h
    split at h
    · rename_i e; subst e
      simp only [Rel] at hr
      obtain ⟨w, rfl, hr⟩ := hr
      obtain ⟨h1, h2⟩ := AV.coe_ok T a _ xs r _ h hr
      simp only [AV.fill, Prod.map, Rel, id]
      exact ⟨h1, w, rfl, h2⟩
    · cases h
  | .clo f ts, v, xs, r, u, h, hr => by
    cases v <;> simp only [AV.coe, reduceCtorEq] at h
    split at h
    · rename_i e; subst e
      simp only [Rel] at hr
      obtain ⟨vs, rfl, hr⟩ := hr
      obtain ⟨h1, h2⟩ := AV.coeL_ok T ts _ xs r _ h hr
      simp only [AV.fill, Prod.map, Rel, id]
      exact ⟨h1, vs, rfl, h2⟩
    · cases h
  | .opt _ a, v, xs, r, u, h, hr => by
    have plain : ∀ (c : Bool) (v' : AV) (xs : List Sc), (a.coe gS gT v').map (.b c :: ·) = some xs → (c = true → Rel X v' u) → (c = false → True) → ∀ c0,
        ((AV.opt c0 a).fill (xs ++ r)).2 = r ∧ Rel X' ((AV.opt c0 a).fill (xs ++ r)).1 u := by
      intro c v' xs h h1 _ c0
      simp only [Option.map_eq_some_iff] at h
      obtain ⟨ys, hy, rfl⟩ := h
      simp only [AV.fill, List.cons_append, hd_cons, tl_cons, Prod.map, Rel, id, Sc.toB]
      cases c with
      | true =>
        obtain ⟨h2, h3⟩ := AV.coe_ok T a v' ys r u hy (h1 rfl)
        exact ⟨h2, fun _ => h3⟩
      | false =>
        refine ⟨?_, fun e => by cases e⟩
        exact AV.coe_len a v' ys r hy
    cases v <;> simp only [AV.coe] at h
    case unk =>
      cases h
      simp only [AV.fill, List.cons_append, hd_cons, tl_cons, Prod.map, Rel, id, Sc.toB]
      exact ⟨AV.fill_dummy a r, fun e => by cases e⟩
    case opt c v => exact plain c v xs h (by simpa [Rel] using hr) (fun _ => trivial) _
    case gopt c v => exact plain c v xs h (by simp only [Rel] at hr; exact hr.1) (fun _ => trivial) _
    all_goals exact plain true _ xs h (fun _ => hr) (fun _ => trivial) _
  | .gopt _ a, v, xs, r, u, h, hr => by cases v <;> simp only [AV.coe, reduceCtorEq] at h
theorem AV.coeL_ok {X X' : Cx} {gS : Nat → Option (Nat × Nat)} {gT : Nat → Option Nat} (T : Turn X X' gS gT) : ∀ (ts vs : List AV) (xs r : List Sc) (us : List Value), AV.coeL gS gT ts vs = some xs → RelL X vs us →
    (AV.fillL ts (xs ++ r)).2 = r ∧ RelL X' (AV.fillL ts (xs ++ r)).1 us
  | [], vs, xs, r, us, h, hr => by
    cases vs <;> simp only [AV.coeL, Option.some.injEq, reduceCtorEq] at h
    subst h
    simpa [AV.fillL, RelL] using hr
  | t :: ts, vs, xs, r, us, h, hr => by
    cases vs with
    | nil => simp only [AV.coeL, reduceCtorEq] at h
    | cons v vs =>
      simp only [AV.coeL, Option.bind_eq_some_iff, Option.map_eq_some_iff] at h
      obtain ⟨x, h1, y, h2, rfl⟩ := h
      simp only [RelL] at hr
      obtain ⟨u, us', rfl, hu, hus⟩ := hr
      obtain ⟨e1, e2⟩ := AV.coe_ok T t v x (y ++ r) u h1 hu
      obtain ⟨e3, e4⟩ := AV.coeL_ok T ts vs y r us' h2 hus
      simp only [AV.fillL, List.append_assoc, e1, RelL]
      exact ⟨e3, u, us', rfl, e2, e4⟩
end
end Go.Proofs.YtlidfaaajjfgfaaDoor.Ab
