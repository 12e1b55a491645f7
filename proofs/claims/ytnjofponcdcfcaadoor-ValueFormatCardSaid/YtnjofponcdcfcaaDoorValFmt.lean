/- The contracts of strconv.FormatInt in base ten and strconv.Itoa. No conditions. -/
import Derived.Test.YtnjofponcdcfcaaDoorValShF
import Derived.Test.YtnjofponcdcfcaaDoorValBase
import Derived.Lib.AppendIntMem
set_option linter.all false
namespace Go.Proofs.YtnjofponcdcfcaaDoor
open Go Ab
set_option maxRecDepth 100000
theorem pow10L_eq : pow10L = Lib.pow10Tab := by decide
theorem cells_u64 : ∀ (xs : List Int) (F : Nat → Prop) (h : Array Obj) (cs : List Value), AllD (Den F h (.int .u64)) xs cs → cs = xs.map fun z => Value.int .u64 z
  | [], F, h, cs, e => by simpa [AllD] using e
  | x :: xs, F, h, cs, e => by
    simp only [AllD] at e
    obtain ⟨c1, c2, rfl, h1, h2⟩ := e
    have h1 : c1 = [.int .u64 x] := h1
    rw [h1, cells_u64 xs F h c2 h2]
    rfl
theorem gPow : Tryd.prog.globalNamed "internal/strconv.uint64pow10" = some 3 := by kernel_rfl
theorem tab_of {F : Nat → Prop} {w : World} (hG : ∀ g s x, E0.G g = some ⟨s, x⟩ → GRel ⟨F, fun _ => none, [], w.heap⟩ g s x) : Lib.TabIs Tryd.prog w "internal/strconv.uint64pow10" .u64 Lib.pow10Tab := by
  obtain ⟨h1, c, T, fr, h2, h3⟩ := hG 3 (.arr 20 (.int .u64)) pow10L rfl
  unfold Lib.TabIs World.var?
  rw [gPow]
  simp only [Option.bind_some]
  have h2 : w.heap[3]? = some (.cells c T fr) := h2
  rw [h2]
  simp only [Option.some.injEq]
  simp only [Rel] at h1
  obtain ⟨b, o, cs, e, _, h4, h5⟩ := h1
  cases e
  obtain ⟨c', T', fr', h6, h7⟩ := h4
  have h6 : w.heap[3]? = some (.cells c' T' fr') := h6
  rw [h2] at h6
  cases h6
  have h5 : (pow10L.length = 20 ∧ AllD (Den F w.heap (.int .u64)) pow10L cs) := h5
  have hcs := cells_u64 _ _ _ _ h5.2
  rw [← pow10L_eq, ← hcs]
  have hl : cs.length = 20 := by rw [hcs]; rfl
  have hc : c.size = 20 := h3
  apply Array.ext_getElem?
  intro i
  by_cases hi : i < 20
  · have := h7 i (by omega)
    simpa using this
  · rw [Array.getElem?_eq_none (by omega), Array.getElem?_eq_none (by simp; omega)]
/-- A number in decimal. -/
def decA (n : Int) : ByteArray := ⟨(Lib.itoa n).toArray⟩
def xmF : List AV → Option (Bool × AV)
  | [.int .i64 n, .int .i64 10] => some (okImm n, .str (decA n))
  | _ => none
def xmI : List AV → Option (Bool × AV)
  | [.int .i64 n] => some (okImm n, .str (decA n))
  | _ => none
theorem ret_str {F : Nat → Prop} {w : World} {s : ByteArray} {e : Ending} {w' : World} (hF : ∀ b, F b → b < w.heap.size) (h : e = .returned (.string s) ∧ ∃ k os, w' = Sort.grow (w.drewN k) os) :
    ∃ (F' : Nat → Prop) (u : Value), e = .returned u ∧ Go.RowKit.Below w.heap.size w w' ∧ (∀ b, F b → F' b) ∧ (∀ b, F' b → F b ∨ w.heap.size ≤ b) ∧ (∀ b, F' b → b < w'.heap.size) ∧ Rel ⟨F', fun _ => none, [], w'.heap⟩ (.str s) u := by
  obtain ⟨rfl, k, os, rfl⟩ := h
  have hb := Lib.below_grow w.heap.size w (Nat.le_refl _) k os
  exact ⟨F, _, rfl, hb, fun _ h => h, fun _ h => .inl h, fun b h => Nat.lt_of_lt_of_le (hF b h) hb.size, by simp [Rel]⟩
theorem xkF : KOk E0 50 xmF := ⟨fun args w => enter_of Tryd.func50 (by decide) (by rfl) args w, fun F w xs us r hG hF hrel hc => by
  unfold xmF at hc
  split at hc
  · rename_i n
    simp only [Option.some.injEq, Prod.mk.injEq, okImm, decide_eq_true_eq] at hc
    obtain ⟨⟨h0, h1⟩, rfl⟩ := hc
    simp only [RelL, Rel] at hrel
    obtain ⟨_, _, rfl, rfl, _, _, rfl, rfl, rfl⟩ := hrel
    exact (Tryd.strconv_FormatInt_10 n h0 h1 w (tab_of hG)).mono fun e w' h => ret_str hF h
  · cases hc⟩
theorem xkI : KOk E0 49 xmI := ⟨fun args w => enter_of Tryd.func49 (by decide) (by rfl) args w, fun F w xs us r hG hF hrel hc => by
  unfold xmI at hc
  split at hc
  · rename_i n
    simp only [Option.some.injEq, Prod.mk.injEq, okImm, decide_eq_true_eq] at hc
    obtain ⟨⟨h0, h1⟩, rfl⟩ := hc
    simp only [RelL, Rel] at hrel
    obtain ⟨_, _, rfl, rfl, rfl⟩ := hrel
    exact (Tryd.strconv_Itoa n h0 h1 w (tab_of hG)).mono fun e w' h => ret_str hF h
  · cases hc⟩
end Go.Proofs.YtnjofponcdcfcaaDoor
