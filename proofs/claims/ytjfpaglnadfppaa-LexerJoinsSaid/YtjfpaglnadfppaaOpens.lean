/- What an argument that can be read as data gives, for any type of whole numbers, bools, strings, structs and slices: a value of plain Lean, the numbers in their range, each text and each slice within the form's own reach. -/
import Derived.Test.YtjfpaglnadfppaaWWords
import Derived.ProofKit
import Derived.OpenShut
import Derived.SizedLaws
import Derived.Deep.Slices
namespace Go.Proofs.Ytjfpaglnadfppaa.Opens
open Go.RowKit Go.Proofs.YtjfpaglnadfppaaW.PrintWords

/-- Cells that read as data of type t read as a value of K, of which B is known. -/
def Opens {α : Type} (P : Program) (K : Kd α) (t : TypeId) (B : α → Prop) : Prop :=
  K.sz = P.cellsOf t ∧ ∀ {H : Type} (enc : TypeId × Value → H) (w : World) (spare : Nat → Bool) (held : Bool) (fuel : Nat) (cs : List Value) (x : DataW H × List MemPlace),
    DataW.trod enc P w 0 spare held fuel t cs = some x → (∀ n ∈ x.1.weights P t, n ≤ 140737488351232) → ∃ y : α, K.K w y cs ∧ B y

theorem opens_int {P : Program} {t : TypeId} {k : IntKind} (ht : P.underlying t = some (.int k)) (hc : P.cellsOf t = 1) : Opens P (Kd.int k) t (fun n => (Lit.int k n).wf = true) :=
  ⟨hc.symm, fun enc w spare held fuel cs x h _ => by
    obtain ⟨n, rfl, _, hw⟩ := DataW.trod_int ht h
    exact ⟨n, rfl, hw⟩⟩
theorem opens_bool {P : Program} {t : TypeId} (ht : P.underlying t = some .bool) (hc : P.cellsOf t = 1) : Opens P Kd.bool t (fun _ => True) :=
  ⟨hc.symm, fun enc w spare held fuel cs x h _ => by
    obtain ⟨b, rfl, _⟩ := DataW.trod_bool ht h
    exact ⟨b, rfl, trivial⟩⟩
theorem opens_string {P : Program} {t : TypeId} (ht : P.underlying t = some .string) (hc : P.cellsOf t = 1) : Opens P Kd.string t (fun s => s.size ≤ 140737488351232) :=
  ⟨hc.symm, fun enc w spare held fuel cs x h hs => by
    obtain ⟨s, rfl, rfl, _⟩ := DataW.trod_string ht h
    refine ⟨s, rfl, ?_⟩
    have := hs s.data.toList.length (by simp [DataW.weights])
    simpa using this⟩
theorem weightsAll_mem {H : Type} {P : Program} {e : TypeId} {l : List (DataW H)} {d : DataW H} (h : d ∈ l) {n : Nat} (hn : n ∈ d.weights P e) : n ∈ DataW.weightsAll P e l := by
  induction l with
  | nil => cases h
  | cons a l ih =>
    rw [DataW.weightsAll, List.mem_append]
    rcases List.mem_cons.1 h with rfl | h
    · exact .inl hn
    · exact .inr (ih h)
theorem weightsEach_get {H : Type} {P : Program} : ∀ {ts : List TypeId} {l : List (DataW H)} {i : Nat} {t : TypeId} {d : DataW H}, ts[i]? = some t → l[i]? = some d → ∀ {n : Nat}, n ∈ d.weights P t → n ∈ DataW.weightsEach P ts l := by
  intro ts
  induction ts with
  | nil => intro l i t d h; simp at h
  | cons a ts ih =>
    intro l i t d h1 h2 n hn
    cases l with
    | nil => simp at h2
    | cons b l =>
      rw [DataW.weightsEach, List.mem_append]
      cases i with
      | zero => simp at h1 h2; subst h1; subst h2; exact .inl hn
      | succ i => simp at h1 h2; exact .inr (ih h1 h2 hn)
theorem cells_get {w : World} {base : Nat} {a : Addr} {n : Nat} {cs : List Value} (h : w.cells? base a n = some cs) : cs.length = n ∧ ∀ i u, cs[i]? = some u → w.cell? (a.add i) = some u := by
  unfold World.cells? at h
  split at h
  · have hl := mapM_some_length h
    rw [List.length_range] at hl
    refine ⟨hl, fun i u hu => ?_⟩
    have hi : i < n := by rw [← hl]; exact (List.getElem?_eq_some_iff.1 hu).1
    have := mapM_some_get h i i (by rw [List.getElem?_range hi])
    rw [this]; exact hu
  · cases h
theorem add_add (a : Addr) (i j : Nat) : (a.add i).add j = a.add (i + j) ∨ (j = 0 ∧ (a.add i).add j = a.add i) := by
  by_cases h : j = 0
  · right; subst h; exact ⟨rfl, by simp [Addr.add]⟩
  · left
    unfold Addr.add
    by_cases hi : i = 0
    · subst hi; simp [h]
    · rw [if_neg h, if_neg hi, if_neg (by omega)]; simp [Nat.add_assoc]
theorem add_add' (a : Addr) (i j : Nat) : (a.add i).add j = a.add (i + j) := by
  rcases add_add a i j with h | ⟨rfl, h⟩
  · exact h
  · rw [h, Nat.add_zero]
theorem opens_slice {α : Type} {P : Program} {K : Kd α} {t e : TypeId} {B : α → Prop} (b : Nat) (ht : P.underlying t = some (.slice e)) (hc : P.cellsOf t = 1) (hb : P.bytesOf e = b) (hK : Opens P K e B) :
    Opens P (Kd.slice e K) t (fun xs => xs.length ≤ 9223372036854775807 ∧ xs.length * b ≤ 140737488351232 ∧ ∀ x ∈ xs, B x) :=
  ⟨hc.symm, fun enc w spare held fuel cs x h hs => by
    rcases Deep.open_slice ht h with ⟨rfl, _⟩ | ⟨a, len, cap, m, n, D, Pl, rfl, _, hl, hm, hmm, rfl, hel⟩
    · refine ⟨[], ⟨none, 0, rfl, Nat.le_refl _, rfl, Nat.zero_le _, fun h => absurd h (by simp)⟩, Nat.zero_le _, by simp, by simp⟩
    · have hlm : len ≤ m := by rw [hmm]; split <;> omega
      have hw : ∀ i, i < len → ∀ q ∈ (D i).weights P e, q ≤ 140737488351232 := by
        intro i hi q hq
        refine hs q ?_
        show q ∈ DataW.weights P t (.slice _ _)
        rw [DataW.weights, ht]
        refine List.mem_cons_of_mem _ (List.mem_append_left _ (weightsAll_mem (d := D i) ?_ hq))
        exact List.mem_map.2 ⟨i, List.mem_range.2 hi, rfl⟩
      have hex0 : ∀ i, i < len → ∃ y : α, ∃ c, c.length = K.sz ∧ K.K w y c ∧ (∀ j u, c[j]? = some u → w.cell? (a.add (i * K.sz + j)) = some u) ∧ B y := by
        intro i hi
        obtain ⟨c, h1, h2⟩ := hel i (by omega)
        obtain ⟨hcl, hcg⟩ := cells_get h1
        obtain ⟨y, hy1, hy2⟩ := hK.2 enc w spare held n c _ h2 (hw i hi)
        refine ⟨y, c, by rw [hcl, hK.1], hy1, fun j u hu => ?_, hy2⟩
        rw [hK.1, ← add_add']; exact hcg j u hu
      have hbytes : len * b ≤ 140737488351232 := by
        have h1 := hs ((len + (m - len)) * b) (by
          show _ ∈ DataW.weights P t (.slice _ _)
          rw [DataW.weights, ht]
          simp [hb])
        exact Nat.le_trans (Nat.mul_le_mul_right b (Nat.le_add_right _ _)) h1
      have hmax : len ≤ 9223372036854775807 := by unfold maxLen at hm; omega
      by_cases h0 : len = 0
      · subst h0
        exact ⟨[], ⟨some a, cap, rfl, Nat.zero_le _, rfl, Nat.zero_le _, fun h => absurd h (by simp)⟩, Nat.zero_le _, by simp, by simp⟩
      · obtain ⟨y0, _⟩ := hex0 0 (by omega)
        have hex : ∀ i, ∃ y : α, i < len → ∃ c, c.length = K.sz ∧ K.K w y c ∧ (∀ j u, c[j]? = some u → w.cell? (a.add (i * K.sz + j)) = some u) ∧ B y := by
          intro i
          by_cases hi : i < len
          · obtain ⟨y, hy⟩ := hex0 i hi; exact ⟨y, fun _ => hy⟩
          · exact ⟨y0, fun h => absurd h hi⟩
        obtain ⟨F, hF⟩ := Classical.axiomOfChoice hex
        have hlen : ((List.range len).map F).length = len := by simp
        refine ⟨(List.range len).map F, ⟨some a, cap, by rw [hlen], by rw [hlen]; exact hl, rfl, by rw [hlen]; exact hmax, fun _ => ⟨a, rfl, fun j p hp => ?_⟩⟩, by rw [hlen]; exact hmax, by rw [hlen]; exact hbytes, fun x hx => ?_⟩
        · have hj : j < len := by rw [← hlen]; exact (List.getElem?_eq_some_iff.1 hp).1
          rw [List.getElem?_map, List.getElem?_range hj, Option.map_some, Option.some.injEq] at hp
          obtain ⟨c, c1, c2, c3, _⟩ := hF j hj
          rw [← hp]
          exact ⟨c, c1, c2, c3⟩
        · obtain ⟨i, hi, rfl⟩ := List.mem_map.1 hx
          obtain ⟨_, _, _, _, h4⟩ := hF i (List.mem_range.1 hi)
          exact h4⟩

/-- The cells from an offset on, read field by field, read as a value of K. -/
def OpensF {α : Type} (P : Program) (K : Kd α) (fs : List Field) (off : Nat) (B : α → Prop) : Prop :=
  ∀ (H : Type) (enc : TypeId × Value → H) (w : World) (spare : Nat → Bool) (held : Bool) (n : Nat) (cs : List Value) (xs : List (DataW H × List MemPlace)),
    cs.length = off + K.sz → xs.length = fs.length → (∀ (i : Nat) (f : Field), fs[i]? = some f → DataW.trod enc P w 0 spare held n f.type ((cs.drop f.offset).take (P.cellsOf f.type)) = xs[i]?) →
    (∀ q ∈ DataW.weightsEach P (fs.map (·.type)) (xs.map (·.1)), q ≤ 140737488351232) → ∃ y : α, K.K w y (cs.drop off) ∧ B y
theorem opensF_one {α : Type} {P : Program} {K : Kd α} {f : Field} {off : Nat} {B : α → Prop} (hf : f.offset = off) (hK : Opens P K f.type B) : OpensF P K [f] off B := by
  intro H enc w spare held n cs xs hl hx h hs
  match xs, hx with
  | [x], _ =>
    have h0 := h 0 f rfl
    rw [hf] at h0
    have e : (cs.drop off).take (P.cellsOf f.type) = cs.drop off := List.take_of_length_le (by rw [List.length_drop, ← hK.1]; omega)
    rw [e] at h0
    exact hK.2 enc w spare held n _ x h0 (fun q hq => hs q (by simp [DataW.weightsEach, hq]))
theorem opensF_cons {α β : Type} {P : Program} {K0 : Kd α} {K1 : Kd β} {f : Field} {fs : List Field} {off : Nat} {B0 : α → Prop} {B1 : β → Prop} (hf : f.offset = off) (hK : Opens P K0 f.type B0) (hr : OpensF P K1 fs (off + K0.sz) B1) :
    OpensF P (Kd.pair K0 K1) (f :: fs) off (fun y => B0 y.1 ∧ B1 y.2) := by
  intro H enc w spare held n cs xs hl hx h hs
  cases xs with
  | nil => simp at hx
  | cons x xs =>
    have hsz : (Kd.pair K0 K1).sz = K0.sz + K1.sz := rfl
    have h0 := h 0 f rfl
    rw [hf] at h0
    obtain ⟨y0, hy0, hB0⟩ := hK.2 enc w spare held n _ x h0 (fun q hq => hs q (by simp [DataW.weightsEach, hq]))
    obtain ⟨y1, hy1, hB1⟩ := hr _ enc w spare held n cs xs (by rw [hl, hsz]; omega) (by simpa using hx) (fun i g hg => h (i + 1) g (by simpa using hg)) (fun q hq => hs q (by simp [DataW.weightsEach, hq]))
    refine ⟨(y0, y1), ⟨(cs.drop off).take (P.cellsOf f.type), cs.drop (off + K0.sz), ?_, hy0, hy1⟩, hB0, hB1⟩
    rw [← hK.1, ← List.drop_drop, List.take_append_drop]
theorem opens_struct {α : Type} {P : Program} {K : Kd α} {t : TypeId} {fs : Array Field} {B : α → Prop} (ht : P.underlying t = some (.struct fs)) (hsz : K.sz = P.cellsOf t) (h : OpensF P K fs.toList 0 B) : Opens P K t B :=
  ⟨hsz, fun enc w spare held fuel cs x hx hs => by
    obtain ⟨xs, n, rfl, rfl, hlen, hxl, hf⟩ := DataW.trod_struct ht hx
    obtain ⟨y, hy, hB⟩ := h _ enc w spare held n cs xs (by rw [hlen, hsz]; omega) (by rw [hxl]; simp) (fun i f hi => hf i f (by simpa using hi)) (fun q hq => hs q (by show q ∈ DataW.weights P t (.agg _); rw [DataW.weights, ht]; exact hq))
    exact ⟨y, by simpa using hy, hB⟩⟩
theorem opens_iso {α β : Type} {P : Program} {K : Kd α} {t : TypeId} {B : α → Prop} (f : β → α) (g : α → β) (hfg : ∀ a, f (g a) = a) (h : Opens P K t B) : Opens P (Kd.iso K f) t (fun y => B (f y)) :=
  ⟨h.1, fun enc w spare held fuel cs x hx hs => by
    obtain ⟨y, hy, hB⟩ := h.2 enc w spare held fuel cs x hx hs
    exact ⟨g y, by show K.K w (f (g y)) cs; rw [hfg]; exact hy, by show B (f (g y)); rw [hfg]; exact hB⟩⟩
/-- An argument of a row whose values keep the form's own reach. -/
theorem opens_arg {α : Type} {P : Program} {K : Kd α} {t : TypeId} {B : α → Prop} (hK : Opens P K t B) {H : Type} {enc : TypeId × Value → H} {w : World} {spare : Nat → Bool} {held : Bool} {v : Value} {d : DataW H} {ps : List MemPlace} {ts : List TypeId} {ds : List (DataW H)} {j : Nat}
    (hsz : (DataW.weightsEach P ts ds).all (· ≤ reachBytes) = true) (ht : ts[j]? = some t) (hd : ds[j]? = some d) (h : DataW.Trod enc P w 0 spare held t v d ps) : ∃ y : α, K.K w y v.cells.toList ∧ B y := by
  obtain ⟨fuel, hf⟩ := h
  refine hK.2 enc w spare held fuel _ (d, ps) hf (fun n hn => ?_)
  have := List.all_eq_true.1 hsz n (DataW.weights_mem_each ht hd n hn)
  exact of_decide_eq_true this
end Go.Proofs.Ytjfpaglnadfppaa.Opens
