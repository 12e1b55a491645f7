/- Arguments that can be read as data: each reads as plain data of the shape of its type, each number, text and list within its bounds; and reads as it read when memory was only added to. -/
import Derived.Test.YtlidfaaajjfgfaaDoorAbFn
import Derived.ProofKit
import Derived.OpenShut
import Derived.SizedLaws
import Derived.Deep.Slices
import Derived.Carry
import Derived.ChangeOld
import Derived.Below
set_option linter.all false
namespace Go.Proofs.YtlidfaaajjfgfaaDoor.Ab
open Go.RowKit Go.ChangeShapes Go.WideShapes

/-- The bytes that data takes, at the least. -/
def Sh.byt : Sh → Nat
  | .unit => 0
  | .bool => 1
  | .int k => k.bits / 8
  | .str => 16
  | .sl _ => 24
  | .arr n e => n * e.byt
  | .prod a b => a.byt + b.byt

/-- Data within its bounds. -/
def Sh.Wf : (s : Sh) → s.den → Prop
  | .unit, _ => True
  | .bool, _ => True
  | .int k, n => (Lit.int k n).wf = true
  | .str, x => x.size ≤ maxLen
  | .sl e, xs => (xs.length ≤ maxLen ∧ xs.length * e.byt ≤ 140737488351232) ∧ ∀ x ∈ xs, e.Wf x
  | .arr n e, xs => xs.length = n ∧ ∀ x ∈ xs, e.Wf x
  | .prod a b, x => a.Wf x.1 ∧ b.Wf x.2

def shCL (P : Program) (f : TypeId → Option Sh) : Nat → List Field → Option Sh
  | _, [] => some .unit
  | off, x :: xs => if x.offset = off then (f x.type).bind fun a => (shCL P f (off + a.size) xs).bind fun b => some (.prod a b) else none
/-- The shape of a type, its sizes checked. -/
def shC (P : Program) : Nat → TypeId → Option Sh
  | 0, _ => none
  | d + 1, t => match P.underlying t with
    | some .bool => if P.cellsOf t = 1 then some .bool else none
    | some (.int k) => if P.cellsOf t = 1 then some (.int k) else none
    | some .string => if P.cellsOf t = 1 then some .str else none
    | some (.slice e) => if P.cellsOf t = 1 then (shC P d e).bind fun s => if 0 < s.size ∧ s.byt ≤ P.bytesOf e then some (.sl s) else none else none
    | some (.struct fs) => (shCL P (shC P d) 0 fs.toList).bind fun s => if P.cellsOf t = s.size then some s else none
    | _ => none

theorem cells_get' {w : World} {base : Nat} {a : Addr} {n : Nat} {cs : List Value} (h : w.cells? base a n = some cs) : cs.length = n ∧ ∀ i u, cs[i]? = some u → w.cell? (a.add i) = some u := by
  unfold World.cells? at h
  split at h
  · have hl := mapM_some_length h
    rw [List.length_range] at hl
    refine ⟨hl, fun i u hu => ?_⟩
    have hi : i < n := by rw [← hl]; exact (List.getElem?_eq_some_iff.1 hu).1
    have := mapM_some_get h i i (by rw [List.getElem?_range hi])
    rw [this]; exact hu
  · cases h
theorem add_add'' (a : Addr) (i j : Nat) : (a.add i).add j = a.add (i + j) := by
  unfold Addr.add
  by_cases h : j = 0
  · subst h; simp
  · by_cases hi : i = 0
    · subst hi; simp [h]
    · rw [if_neg h, if_neg hi, if_neg (by omega)]; simp [Nat.add_assoc]
theorem cellsAt_of {w : World} {b o : Nat} {cs : List Value} (h0 : 0 < cs.length) (h : ∀ i u, cs[i]? = some u → w.cell? ⟨b, o + i, none⟩ = some u) : b < w.heap.size ∧ cellsAt w.heap b o cs := by
  have h1 := h 0 cs[0] (List.getElem?_eq_getElem h0)
  unfold World.cell? at h1
  split at h1
  · rename_i c T fr hb
    refine ⟨(Array.getElem?_eq_some_iff.1 hb).1, c, T, fr, hb, fun j hj => ?_⟩
    have h2 := h j cs[j] (List.getElem?_eq_getElem hj)
    unfold World.cell? at h2
    simp only [hb] at h2
    rw [List.getElem?_eq_getElem hj]
    simpa using h2
  · cases h1

/-- What a type's reading gives. -/
def Opn (P : Program) (t : TypeId) (s : Sh) : Prop :=
  P.cellsOf t = s.size ∧ ∀ {H : Type} (enc : TypeId × Value → H) (w : World) (spare : Nat → Bool) (held : Bool) (fuel : Nat) (cs : List Value) (x : DataW H × List MemPlace),
    DataW.trod enc P w 0 spare held fuel t cs = some x → (∀ n ∈ x.1.weights P t, n ≤ 140737488351232) → ∃ y : s.den, Den (fun b => b < w.heap.size) w.heap s y cs ∧ s.Wf y

theorem weightsAll_mem' {H : Type} {P : Program} {e : TypeId} {l : List (DataW H)} {d : DataW H} (h : d ∈ l) {n : Nat} (hn : n ∈ d.weights P e) : n ∈ DataW.weightsAll P e l := by
  induction l with
  | nil => cases h
  | cons a l ih =>
    rw [DataW.weightsAll, List.mem_append]
    rcases List.mem_cons.1 h with rfl | h
    · exact .inl hn
    · exact .inr (ih h)
theorem opn_slice {P : Program} {t e : TypeId} {s : Sh} (ht : P.underlying t = some (.slice e)) (hc : P.cellsOf t = 1) (h0 : 0 < s.size) (hby : s.byt ≤ P.bytesOf e) (he : Opn P e s) : Opn P t (.sl s) := by
  refine ⟨hc, fun enc w spare held fuel cs x h hs => ?_⟩
  rcases Deep.open_slice ht h with ⟨rfl, _⟩ | ⟨a, len, cap, m, n, D, Pl, rfl, _, hl, hm, hmm, rfl, hel⟩
  · exact ⟨[], ⟨none, 0, rfl, Nat.le_refl _, fun _ => ⟨rfl, rfl⟩, fun p hp => by cases hp⟩, ⟨Nat.zero_le _, by simp⟩, fun x hx => by cases hx⟩
  · have hlm : len ≤ m := by rw [hmm]; split <;> omega
    have hw : ∀ i, i < len → ∀ q ∈ (D i).weights P e, q ≤ 140737488351232 := by
      intro i hi q hq
      refine hs q ?_
      show q ∈ DataW.weights P t (.slice _ _)
      rw [DataW.weights, ht]
      refine List.mem_cons_of_mem _ (List.mem_append_left _ (weightsAll_mem' (d := D i) ?_ hq))
      exact List.mem_map.2 ⟨i, List.mem_range.2 hi, rfl⟩
    have hbytes : len * s.byt ≤ 140737488351232 := by
      have h1 := hs ((len + (m - len)) * P.bytesOf e) (by
        show _ ∈ DataW.weights P t (.slice _ _)
        rw [DataW.weights, ht]
        simp)
      exact Nat.le_trans (Nat.mul_le_mul (Nat.le_add_right _ _) hby) h1
    have hex : ∀ i, i < len → ∃ y : s.den, s.Wf y ∧ a.spot = none ∧ a.block < w.heap.size ∧ ∃ es, cellsAt w.heap a.block (a.off + i * s.size) es ∧ Den (fun b => b < w.heap.size) w.heap s y es := by
      intro i hi
      obtain ⟨c, h1, h2⟩ := hel i (by omega)
      obtain ⟨hcl, hcg⟩ := cells_get' h1
      obtain ⟨y, hy, hw⟩ := he.2 enc w spare held n c _ h2 (hw i hi)
      have hpos : 0 < c.length := by rw [hcl, he.1]; exact h0
      have hsp : a.spot = none := by
        obtain ⟨c0, k1, k2⟩ := hel 0 (by omega)
        obtain ⟨kcl, kcg⟩ := cells_get' k1
        have kpos : 0 < c0.length := by rw [kcl, he.1]; exact h0
        have k3 := kcg 0 c0[0] (List.getElem?_eq_getElem kpos)
        rw [add_add'', Nat.zero_mul] at k3
        have := World.cell?_spot k3
        unfold Addr.add at this
        simpa using this
      obtain ⟨b, o, sp⟩ := a
      cases hsp
      obtain ⟨h4, h5⟩ := cellsAt_of (b := b) (o := o + i * s.size) hpos (fun j u hu => by
        have := hcg j u hu
        rw [add_add'', addr_add, he.1] at this
        rw [Nat.add_assoc]
        exact this)
      exact ⟨y, hw, rfl, h4, c, h5, hy⟩
    rcases Nat.eq_zero_or_pos len with h00 | h00
    · subst h00
      exact ⟨[], ⟨some a, cap, rfl, Nat.zero_le _, fun e => (by cases e), fun p hp => ⟨fun h => absurd h (by simp), fun i hi => absurd hi (by simp)⟩⟩, ⟨Nat.zero_le _, by simp⟩, fun x hx => by cases hx⟩
    · obtain ⟨y0, _⟩ := hex 0 h00
      have hex2 : ∀ i, ∃ y : s.den, i < len → s.Wf y ∧ a.spot = none ∧ a.block < w.heap.size ∧ ∃ es, cellsAt w.heap a.block (a.off + i * s.size) es ∧ Den (fun b => b < w.heap.size) w.heap s y es := by
        intro i
        by_cases hi : i < len
        · obtain ⟨y, hy⟩ := hex i hi; exact ⟨y, fun _ => hy⟩
        · exact ⟨y0, fun h => absurd h hi⟩
      obtain ⟨G, hG⟩ := Classical.axiomOfChoice hex2
      have hlen : ((List.range len).map G).length = len := by simp
      refine ⟨(List.range len).map G, ⟨some a, cap, by rw [hlen], by rw [hlen]; exact hl, fun e => (by cases e), fun p hp => ?_⟩, ⟨by rw [hlen]; omega, by rw [hlen]; exact hbytes⟩, fun x hx => ?_⟩
      · cases hp
        refine ⟨fun _ => (hG 0 h00).2.1, fun i hi => ?_⟩
        rw [hlen] at hi
        obtain ⟨h1, h2, h3, es, h4, h5⟩ := hG i hi
        refine ⟨h3, es, h4, ?_⟩
        simpa using h5
      · obtain ⟨i, hi, rfl⟩ := List.mem_map.1 hx
        exact (hG i (List.mem_range.1 hi)).1

theorem opn_fields {P : Program} {f : TypeId → Option Sh} (hf : ∀ t s, f t = some s → Opn P t s) : ∀ (fs : List Field) (off : Nat) (s : Sh), shCL P f off fs = some s →
    ∀ {H : Type} (enc : TypeId × Value → H) (w : World) (spare : Nat → Bool) (held : Bool) (n : Nat) (cs : List Value) (xs : List (DataW H × List MemPlace)),
    cs.length = off + s.size → xs.length = fs.length → (∀ (i : Nat) (g : Field), fs[i]? = some g → DataW.trod enc P w 0 spare held n g.type ((cs.drop g.offset).take (P.cellsOf g.type)) = xs[i]?) →
    (∀ q ∈ DataW.weightsEach P (fs.map (·.type)) (xs.map (·.1)), q ≤ 140737488351232) →
    ∃ y : s.den, Den (fun b => b < w.heap.size) w.heap s y (cs.drop off) ∧ s.Wf y
  | [], off, s, h, H, enc, w, spare, held, n, cs, xs, hl, hx, hr, hs => by
    cases h
    refine ⟨(), ?_, trivial⟩
    show cs.drop off = []
    exact List.drop_eq_nil_of_le (by rw [hl]; exact Nat.le_refl _)
  | g :: gs, off, s, h, H, enc, w, spare, held, n, cs, xs, hl, hx, hr, hs => by
    unfold shCL at h
    split at h
    · rename_i ho
      simp only [Option.bind_eq_some_iff, Option.some.injEq] at h
      obtain ⟨a, ha, b, hb, rfl⟩ := h
      have hA := hf _ _ ha
      cases xs with
      | nil => simp at hx
      | cons x xs =>
        have h0 := hr 0 g rfl
        rw [ho] at h0
        have hsz : (Sh.prod a b).size = a.size + b.size := rfl
        obtain ⟨y0, hy0, hw0⟩ := hA.2 enc w spare held n _ x h0 (fun q hq => hs q (by simp [DataW.weightsEach, hq]))
        obtain ⟨y1, hy1, hw1⟩ := opn_fields hf gs (off + a.size) b hb enc w spare held n cs xs (by rw [hl, hsz]; omega) (by simpa using hx) (fun i k hk => hr (i + 1) k (by simpa using hk)) (fun q hq => hs q (by simp [DataW.weightsEach, hq]))
        refine ⟨(y0, y1), ⟨(cs.drop off).take (P.cellsOf g.type), cs.drop (off + a.size), ?_, hy0, hy1⟩, hw0, hw1⟩
        rw [hA.1, ← List.drop_drop, List.take_append_drop]
    · cases h

theorem opn {P : Program} : ∀ (d : Nat) (t : TypeId) (s : Sh), shC P d t = some s → Opn P t s
  | 0, _, _, h => by cases h
  | d + 1, t, s, h => by
    unfold shC at h
    split at h
    · rename_i ht
      split at h
      · rename_i hc
        cases h
        refine ⟨hc, fun enc w spare held fuel cs x hx hs => ?_⟩
        obtain ⟨b, rfl, _⟩ := DataW.trod_bool ht hx
        exact ⟨b, rfl, trivial⟩
      · cases h
    · rename_i k ht
      split at h
      · rename_i hc
        cases h
        refine ⟨hc, fun enc w spare held fuel cs x hx hs => ?_⟩
        obtain ⟨n, rfl, _, hw⟩ := DataW.trod_int ht hx
        exact ⟨n, rfl, hw⟩
      · cases h
    · rename_i ht
      split at h
      · rename_i hc
        cases h
        refine ⟨hc, fun enc w spare held fuel cs x hx hs => ?_⟩
        obtain ⟨z, rfl, rfl, hz⟩ := DataW.trod_string ht hx
        exact ⟨z, rfl, hz⟩
      · cases h
    · rename_i e ht
      split at h
      · rename_i hc
        simp only [Option.bind_eq_some_iff] at h
        obtain ⟨a, ha, h⟩ := h
        split at h
        · rename_i h0
          cases h
          exact opn_slice ht hc h0.1 h0.2 (opn d e a ha)
        · cases h
      · cases h
    · rename_i fs ht
      simp only [Option.bind_eq_some_iff] at h
      obtain ⟨a, ha, h⟩ := h
      split at h
      · rename_i hc
        cases h
        refine ⟨hc, fun enc w spare held fuel cs x hx hs => ?_⟩
        obtain ⟨xs, n, rfl, rfl, hlen, hxl, hf⟩ := DataW.trod_struct ht hx
        obtain ⟨y, hy, hw⟩ := opn_fields (P := P) (f := shC P d) (fun t s h => opn d t s h) fs.toList 0 s ha enc w spare held n cs xs (by rw [hlen, hc]; omega) (by rw [hxl]; simp) (fun i f hi => hf i f (by simpa using hi)) (fun q hq => hs q (by show q ∈ DataW.weights P t (.agg _); rw [DataW.weights, ht]; exact hq))
        exact ⟨y, by simpa using hy, hw⟩
      · cases h
    · cases h

/-- An argument as a plain value. -/
def argV (P : Program) (t : TypeId) (s : Sh) (y : s.den) : AV := match aggB P t with | some true => .agg (cellsOf s y) | _ => (cellsOf s y).getD 0 .unk

theorem opens_arg {P : Program} {d : Nat} {t : TypeId} {s : Sh} (hs : shC P d t = some s) {W : World} {base : Nat} {v : Value} (hval : Value.okWide P W .any base t v)
    {H : Type} {enc : TypeId × Value → H} {spare : Nat → Bool} {held : Bool} {dd : DataW H} {ps : List MemPlace} (h : DataW.Trod enc P W 0 spare held t v dd ps) {ts : List TypeId} {dds : List (DataW H)} {j : Nat} (hsz : (DataW.weightsEach P ts dds).all (· ≤ reachBytes) = true) (htj : ts[j]? = some t) (hdj : dds[j]? = some dd) :
    ∃ y : s.den, Rel ⟨fun b => b < W.heap.size, fun _ => none, [], W.heap⟩ (argV P t s y) v ∧ s.Wf y := by
  obtain ⟨fuel, hf⟩ := h
  obtain ⟨y, hy, hw⟩ := (opn d t s hs).2 enc W spare held fuel _ _ hf (fun n hn => by
    have := List.all_eq_true.1 hsz n (DataW.weights_mem_each htj hdj n hn)
    exact of_decide_eq_true this)
  refine ⟨y, ?_, hw⟩
  have hr := Den.rel (X := ⟨fun b => b < W.heap.size, fun _ => none, [], W.heap⟩) s y _ hy
  have one : v.cells.toList = [v] → Rel ⟨fun b => b < W.heap.size, fun _ => none, [], W.heap⟩ ((cellsOf s y).getD 0 .unk) v := by
    intro e
    rw [e] at hr
    match hcs : cellsOf s y, hr with
    | [], hr => simp [RelL] at hr
    | a :: as, hr =>
      simp only [RelL] at hr
      obtain ⟨u, r, e1, e2, _⟩ := hr
      cases e1
      simpa using e2
  cases d with
  | zero => cases hs
  | succ d =>
    unfold shC at hs
    unfold argV aggB
    split at hs
    · rename_i ht; rw [ht]; obtain ⟨b, rfl⟩ := okWide_bool ht hval; exact one rfl
    · rename_i ht; rw [ht]; obtain ⟨b, rfl⟩ := okWide_int ht hval; exact one rfl
    · rename_i ht; rw [ht]; obtain ⟨b, rfl⟩ := okWide_string ht hval; exact one rfl
    · rename_i ht; rw [ht]; obtain ⟨a, b, c, rfl⟩ := okWide_slice ht hval; exact one rfl
    · rename_i ht
      rw [ht]
      obtain ⟨cs, rfl, _⟩ := okWide_struct ht hval
      simp only [Rel]
      exact ⟨cs, rfl, hr⟩
    · cases hs

/-- What was read is read again when memory was only added to. -/
theorem below_trodAll {H : Type} {enc : TypeId × Value → H} {P : Program} (hl : laidOutB P = true) {W W' : World} (hb : Below W.heap.size W W') : ∀ {ts : List TypeId} {vs : List Value} {ds : List (DataW H)} {ps : List MemPlace},
    ts.all (fun t => P.readableRec t && decide (t < P.types.size)) = true → DataW.TrodAll enc P W 0 (fun _ => true) true ts vs ds ps → DataW.TrodAll enc P W' 0 (fun b => decide (b < W.heap.size)) true ts vs ds ps
  | [], [], [], ps, _, h => h
  | t :: ts, v :: vs, d :: ds, ps, ht, ⟨p, q, h1, h2, e⟩ => by
    simp only [List.all_cons, Bool.and_eq_true, decide_eq_true_eq] at ht
    have lt0 : ∀ x ∈ p, x.block < W.heap.size := by obtain ⟨m, hm⟩ := h1; exact DataW.trod_lt m _ _ _ hm
    exact ⟨p, q, Below.trod hl ht.1.1 ht.1.2 h1 hb lt0, below_trodAll hl hb ht.2 h2, e⟩
  | [], [], _ :: _, _, _, h | [], _ :: _, _, _, _, h | _ :: _, [], _, _, _, h | _ :: _, _ :: _, [], _, _, h => by exact h.elim
end Go.Proofs.YtlidfaaajjfgfaaDoor.Ab
