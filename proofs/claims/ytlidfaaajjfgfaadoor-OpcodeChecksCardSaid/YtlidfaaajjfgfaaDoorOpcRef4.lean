/- The loops of the reference's check of an instruction. No conditions. -/
import Derived.Test.YtlidfaaajjfgfaaDoorOpcRef3
set_option linter.all false
namespace Go.Proofs.YtlidfaaajjfgfaaDoor
open Go Ab
set_option maxRecDepth 100000
theorem step25 (iargs regs : List Int) (j : Nat) (hb : iargs.length ≤ 1000) (hj : j < iargs.length) : s25_0 iargs regs [Sc.i (j : Int)] = (true, sNot (badR regs (iargs.getD j 0)), [Sc.i ((j + 1 : Nat) : Int)]) := by
  have h1 : sLt (j : Int) (iargs.length : Int) = true := sLt_true (by omega)
  have h3 : sLt (j : Int) 0 = false := sLt_false (by omega)
  simp only [s25_0, hd_cons, Sc.toI_i, Int.toNat_natCast, List.nil_append, wrapL (show j < bigL by unfold bigL; omega), badR, sLe_eq]
  rw [h1, h3]
  generalize sLt (List.getD iargs j 0) 0 = a
  generalize sLt (List.getD iargs j 0) (regs.length : Int) = b
  cases a <;> cases b <;> rfl
theorem stop25 (iargs regs : List Int) : (s25_0 iargs regs [Sc.i (iargs.length : Int)]).1 = true ∧ (s25_0 iargs regs [Sc.i (iargs.length : Int)]).2.1 = false := by
  have h1 : sLt (iargs.length : Int) (iargs.length : Int) = false := sLt_false (by omega)
  simp only [s25_0, hd_cons, Sc.toI_i, Int.toNat_natCast, List.nil_append]
  rw [h1]
  exact ⟨rfl, rfl⟩
theorem run25_0 (iargs regs : List Int) (hb : iargs.length ≤ 1000) : whileW (s25_0 iargs regs) [Sc.i 0] = some [Sc.i (badRN iargs regs : Nat)] := by
  have hle := badRN_le iargs regs
  have hend : (s25_0 iargs regs [Sc.i ((badRN iargs regs : Nat) : Int)]).1 = true ∧ (s25_0 iargs regs [Sc.i ((badRN iargs regs : Nat) : Int)]).2.1 = false := by
    rcases Nat.lt_or_ge (badRN iargs regs) iargs.length with h | h
    · rw [step25 iargs regs _ hb h]
      have : badR regs (iargs.getD (badRN iargs regs) 0) = true := runEnd (d := (0 : Int)) h
      rw [this]
      exact ⟨rfl, rfl⟩
    · rw [show badRN iargs regs = iargs.length by omega]
      exact stop25 iargs regs
  refine whileW_upto (fun i => [Sc.i (i : Int)]) (badRN iargs regs) rfl (fun j hj => ?_) hend.1 hend.2
  show s25_0 iargs regs [Sc.i (j : Int)] = _
  have : badR regs (iargs.getD j 0) = false := (runTail (d := (0 : Int)) hj).2
  rw [step25 iargs regs j hb (by omega), this]
  rfl
/-- Whether operand k has a type that the table allows. -/
noncomputable def opdAt (op ty sym : Int) (iargs regs : List Int) (fs : List funS.den) (k : Nat) : Bool := opdR op ty sym fs (k : Int) (regs.getD (iargs.getD k 0).toNat 0) (regs.getD (iargs.getD 0 0).toNat 0)
noncomputable def opdN (op ty sym : Int) (iargs regs : List Int) (fs : List funS.den) : Nat := (List.range iargs.length).findIdx (fun k => sNot (opdAt op ty sym iargs regs fs k))
theorem opdN_le (op ty sym : Int) (iargs regs : List Int) (fs : List funS.den) : opdN op ty sym iargs regs fs ≤ iargs.length := by
  have := @List.findIdx_le_length _ (fun k => sNot (opdAt op ty sym iargs regs fs k)) (List.range iargs.length)
  simpa [opdN] using this
theorem opdN_lt {op ty sym : Int} {iargs regs : List Int} {fs : List funS.den} {j : Nat} (h : j < opdN op ty sym iargs regs fs) : opdAt op ty sym iargs regs fs j = true := by
  have h1 := opdN_le op ty sym iargs regs fs
  obtain ⟨h2, h3⟩ := runTail (d := 0) h
  rw [List.getD_eq_getElem?_getD, List.getElem?_range (by omega)] at h3
  simpa [sNot] using h3
theorem opdN_at {op ty sym : Int} {iargs regs : List Int} {fs : List funS.den} (h : opdN op ty sym iargs regs fs < iargs.length) : opdAt op ty sym iargs regs fs (opdN op ty sym iargs regs fs) = false := by
  have h3 := runEnd (d := 0) (l := List.range iargs.length) (p := fun k => sNot (opdAt op ty sym iargs regs fs k)) (by rw [List.length_range]; exact h)
  rw [List.getD_eq_getElem?_getD, List.getElem?_range (by exact h)] at h3
  simp only [sNot, Bool.not_eq_true'] at h3
  exact h3
theorem in_range {iargs regs : List Int} (h : badRN iargs regs = iargs.length) {j : Nat} (hj : j < iargs.length) : 0 ≤ iargs.getD j 0 ∧ iargs.getD j 0 < (regs.length : Int) := by
  have : badR regs (iargs.getD j 0) = false := (runTail (d := (0 : Int)) (show j < badRN iargs regs by omega)).2
  simp only [badR, sIf, sLt, sLe] at this
  by_cases h1 : iargs.getD j 0 < 0
  · rw [decide_eq_true h1] at this; cases this
  · rw [decide_eq_false h1] at this
    have h2 : ¬ (regs.length : Int) ≤ iargs.getD j 0 := of_decide_eq_false this
    omega
theorem step25b (op ty sym : Int) (iargs regs : List Int) (fs : List funS.den) (j : Nat) (hb : iargs.length ≤ 1000) (hr : badRN iargs regs = iargs.length) (hk : okC op sym fs = true) (hp : op = 30 → iargs.length = (fnAt fs sym).2.1.length) (hj : j < iargs.length) :
    s25_1 op ty iargs sym regs fs [Sc.i (j : Int)] = (true, opdAt op ty sym iargs regs fs j, [Sc.i ((j + 1 : Nat) : Int)]) := by
  have h1 : sLt (j : Int) (iargs.length : Int) = true := sLt_true (by omega)
  have h2 : sLe 0 (j : Int) = true := decide_eq_true (by omega)
  obtain ⟨r1, r2⟩ := in_range hr hj
  obtain ⟨r3, r4⟩ := in_range hr (show 0 < iargs.length by omega)
  have k1 : sLe 0 (iargs.getD j 0) = true := decide_eq_true r1
  have k2 : sLt (iargs.getD j 0) (regs.length : Int) = true := decide_eq_true r2
  have k3 : sLe 0 (iargs.getD 0 0) = true := decide_eq_true r3
  have k4 : sLt (iargs.getD 0 0) (regs.length : Int) = true := decide_eq_true r4
  have k5 : sLt 0 (iargs.length : Int) = true := sLt_true (by omega)
  have k6 : okK op sym (j : Int) fs = true := by
    unfold okK
    rw [hk, Bool.true_and]
    exact decide_eq_true (fun e => by have := hp e; omega)
  simp only [s25_1, hd_cons, Sc.toI_i, Int.toNat_natCast, wrapL (show j < bigL by unfold bigL; omega), h1, h2, k1, k2, k3, k4, k5, k6]
  show (_, _, _) = (true, opdR op ty sym fs (j : Int) (regs.getD (iargs.getD j 0).toNat 0) (regs.getD (iargs.getD 0 0).toNat 0), _)
  generalize opdR op ty sym fs (j : Int) (regs.getD (iargs.getD j 0).toNat 0) (regs.getD (iargs.getD 0 0).toNat 0) = a
  cases a <;> rfl
theorem stop25b (op ty sym : Int) (iargs regs : List Int) (fs : List funS.den) : (s25_1 op ty iargs sym regs fs [Sc.i (iargs.length : Int)]).1 = true ∧ (s25_1 op ty iargs sym regs fs [Sc.i (iargs.length : Int)]).2.1 = false := by
  have h1 : sLt (iargs.length : Int) (iargs.length : Int) = false := sLt_false (by omega)
  simp only [s25_1, hd_cons, Sc.toI_i, Int.toNat_natCast]
  rw [h1]
  exact ⟨rfl, rfl⟩
theorem run25_1 (op ty sym : Int) (iargs regs : List Int) (fs : List funS.den) (hb : iargs.length ≤ 1000) (hr : badRN iargs regs = iargs.length) (hk : okC op sym fs = true) (hp : op = 30 → iargs.length = (fnAt fs sym).2.1.length) :
    whileW (s25_1 op ty iargs sym regs fs) [Sc.i 0] = some [Sc.i (opdN op ty sym iargs regs fs : Nat)] := by
  have hle := opdN_le op ty sym iargs regs fs
  have hend : (s25_1 op ty iargs sym regs fs [Sc.i ((opdN op ty sym iargs regs fs : Nat) : Int)]).1 = true ∧ (s25_1 op ty iargs sym regs fs [Sc.i ((opdN op ty sym iargs regs fs : Nat) : Int)]).2.1 = false := by
    rcases Nat.lt_or_ge (opdN op ty sym iargs regs fs) iargs.length with h | h
    · rw [step25b op ty sym iargs regs fs _ hb hr hk hp h, opdN_at h]
      exact ⟨rfl, rfl⟩
    · rw [show opdN op ty sym iargs regs fs = iargs.length by omega]
      exact stop25b op ty sym iargs regs fs
  refine whileW_upto (fun i => [Sc.i (i : Int)]) (opdN op ty sym iargs regs fs) rfl (fun j hj => ?_) hend.1 hend.2
  show s25_1 op ty iargs sym regs fs [Sc.i (j : Int)] = _
  rw [step25b op ty sym iargs regs fs j hb hr hk hp (by omega), opdN_lt hj]
end Go.Proofs.YtlidfaaajjfgfaaDoor
