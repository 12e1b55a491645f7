/- What strings.Join answers, in the form of the printed contracts: the elements' bytes with the separator's between them, where they take at most 2^47 bytes; by the shelf's contract. -/
import Derived.Test.YtjfpaglnadfppaaWWords
import Derived.Test.YtjfpaglnadfppaaShelf
namespace Go.Proofs.Ytjfpaglnadfppaa.P
open Go.RowKit Go.Proofs.YtjfpaglnadfppaaW.PrintWords

def strings_Join.f (l0 : List ByteArray) (a1 : ByteArray) : Option (ByteArray) :=
  if l0.length ≤ 140737488355328 ∧ (Lib.join (l0.map (·.data.toList)) a1.data.toList).length ≤ 140737488355328 then some ⟨(Lib.join (l0.map (·.data.toList)) a1.data.toList).toArray⟩ else none
theorem spot_none {w : World} {a : Addr} {v : Value} (h : w.cell? a = some v) : a.spot = none ∧ a.block < w.heap.size := by
  unfold World.cell? at h
  split at h
  · rename_i c t f hb
    refine ⟨?_, by rw [Array.getElem?_eq_some_iff] at hb; exact hb.1⟩
    cases hs : a.spot with
    | none => rfl
    | some x => rw [hs] at h; simp at h
  · cases h
theorem strings_Join.calls (A0 : Option Addr) (c0 : Nat) (l0 : List ByteArray) (a1 : ByteArray) (r : ByteArray) (w : World) (hr0 : Kd.C Kd.string w A0 l0.length l0) (hc0 : l0.length ≤ c0) (h : strings_Join.f l0 a1 = some r) :
    Calls Try.prog 19 #[.slice A0 l0.length c0, .string a1] w fun e w' => e = .returned (.string r) ∧ Below w.heap.size w w' := by
  unfold strings_Join.f at h
  split at h
  · rename_i hb
    obtain rfl := Option.some.inj h
    cases l0 with
    | nil =>
      refine (Try.strings_Join_none A0 c0 a1 w).mono ?_
      rintro e w' ⟨rfl, rfl⟩
      exact ⟨rfl, Below.refl _ _⟩
    | cons x l =>
      obtain ⟨_, _, h3⟩ := hr0
      obtain ⟨ad, rfl, hc⟩ := h3 (by simp)
      have hcell : ∀ (j : Nat) y, (x :: l)[j]? = some y → w.cell? (ad.add j) = some (.string y) := by
        intro j y hy
        obtain ⟨c, hl, hk, hcc⟩ := hc j y hy
        have hk' : c = [Value.string y] := hk
        subst hk'
        have := hcc 0 (.string y) rfl
        rw [show Kd.string.sz = 1 from rfl, Nat.mul_one, Nat.add_zero] at this
        exact this
      obtain ⟨hs, hlt⟩ := spot_none (hcell 0 x rfl)
      have e0 : ad.add 0 = ad := by simp [Addr.add]
      rw [e0] at hs hlt
      obtain ⟨b, o, s⟩ := ad
      simp only at hs hlt
      subst hs
      refine (Try.strings_Join b o c0 (x :: l) a1 w ?_ hlt hb.1 hc0 hb.2).mono ?_
      · intro j y hy
        have := hcell j y hy
        unfold Addr.add at this
        split at this
        · rename_i hj; subst hj; exact this
        · exact this
      · rintro e w' ⟨rfl, hw⟩
        exact ⟨rfl, hw⟩
  · cases h
end Go.Proofs.Ytjfpaglnadfppaa.P
