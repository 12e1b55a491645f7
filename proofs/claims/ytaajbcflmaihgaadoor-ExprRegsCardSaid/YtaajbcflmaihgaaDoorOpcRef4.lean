/- The loops of the reference's check of an instruction. No conditions. -/
import Derived.Test.YtaajbcflmaihgaaDoorOpcRef3
import Derived.Test.YtaajbcflmaihgaaDoorOpcRef1
set_option linter.all false
namespace Go.Proofs.YtaajbcflmaihgaaDoor
open Go Ab
set_option maxRecDepth 100000
theorem step25 (iargs regs : List Int) (j : Nat) (hb : iargs.length ≤ 1000) (hj : j < iargs.length) : s25_0 iargs regs [Sc.i (j : Int)] = (true, sNot (badR regs (iargs.getD j 0)), [Sc.i ((j + 1 : Nat) : Int)]) := by
  have h1 : sLt (j : Int) (iargs.length : Int) = true := sLt_true (by omega)
  have h3 : sLt (j : Int) 0 = false := sLt_false (by omega)
  simp only [s25_0, hd_cons, Sc.toI_i, Int.toNat_natCast, List.nil_append, wrapL (show j < bigL by unfold bigL; omega), badR, sLe_eq]
  rw [h1, h3]
  generalize sLt (List.getD iargs j 0) 0 = a
  generalize sLt (List.getD iargs j 0) (regs.length : Int) = b
  cases a <;> cases b <;> rfl
theorem stop25 (iargs regs : List Int) : (s25_0 iargs regs [Sc.i (iargs.length : Int)]).1 = true ∧ (s25_0 iargs regs [Sc.i (iargs.length : Int)]).2.1 = false := by
  have h1 : sLt (iargs.length : Int) (iargs.length : Int) = false := sLt_false (by omega)
  simp only [s25_0, hd_cons, Sc.toI_i, Int.toNat_natCast, List.nil_append]
  rw [h1]
  exact ⟨rfl, rfl⟩
theorem run25_0 (iargs regs : List Int) (hb : iargs.length ≤ 1000) : whileW (s25_0 iargs regs) [Sc.i 0] = some [Sc.i (badRN iargs regs : Nat)] := by
  have hle := badRN_le iargs regs
  have hend : (s25_0 iargs regs [Sc.i ((badRN iargs regs : Nat) : Int)]).1 = true ∧ (s25_0 iargs regs [Sc.i ((badRN iargs regs : Nat) : Int)]).2.1 = false := by
    rcases Nat.lt_or_ge (badRN iargs regs) iargs.length with h | h
    · rw [step25 iargs regs _ hb h]
      have : badR regs (iargs.getD (badRN iargs regs) 0) = true := runEnd (d := (0 : Int)) h
      rw [this]
      exact ⟨rfl, rfl⟩
    · rw [show badRN iargs regs = iargs.length by omega]
      exact stop25 iargs regs
  refine whileW_upto (fun i => [Sc.i (i : Int)]) (badRN iargs regs) rfl (fun j hj => ?_) hend.1 hend.2
  show s25_0 iargs regs [Sc.i (j : Int)] = _
  have : badR regs (iargs.getD j 0) = false := (runTail (d := (0 : Int)) hj).2
  rw [step25 iargs regs j hb (by omega), this]
  rfl
/-- Whether operand k has a type that the table allows. -/
noncomputable def opdAt (op ty sym : Int) (iargs regs : List Int) (fs : List funS.den) (k : Nat) : Bool := opdR op ty sym fs (k : Int) (regs.getD (iargs.getD k 0).toNat 0) (regs.getD (iargs.getD 0 0).toNat 0)
noncomputable def opdN (op ty sym : Int) (iargs regs : List Int) (fs : List funS.den) : Nat := (List.range iargs.length).findIdx (fun k => sNot (opdAt op ty sym iargs regs fs k))
theorem opdN_le (op ty sym : Int) (iargs regs : List Int) (fs : List funS.den) : opdN op ty sym iargs regs fs ≤ iargs.length := by
  have := @List.findIdx_le_length _ (fun k => sNot (opdAt op ty sym iargs regs fs k)) (List.range iargs.length)
  simpa [opdN] using this
theorem opdN_lt {op ty sym : Int} {iargs regs : List Int} {fs : List funS.den} {j : Nat} (h : j < opdN op ty sym iargs regs fs) : opdAt op ty sym iargs regs fs j = true := by
  have h1 := opdN_le op ty sym iargs regs fs
  obtain ⟨h2, h3⟩ := runTail (d := 0) h
  rw [List.getD_eq_getElem?_getD, List.getElem?_range (by omega)] at h3
  simpa [sNot] using h3
theorem opdN_at {op ty sym : Int} {iargs regs : List Int} {fs : List funS.den} (h : opdN op ty sym iargs regs fs < iargs.length) : opdAt op ty sym iargs regs fs (opdN op ty sym iargs regs fs) = false := by
  have h3 := runEnd (d := 0) (l := List.range iargs.length) (p := fun k => sNot (opdAt op ty sym iargs regs fs k)) (by rw [List.length_range]; exact h)
  rw [List.getD_eq_getElem?_getD, List.getElem?_range (by exact h)] at h3
  simp only [sNot, Bool.not_eq_true'] at h3
  exact h3
theorem in_range {iargs regs : List Int} (h : badRN iargs regs = iargs.length) {j : Nat} (hj : j < iargs.length) : 0 ≤ iargs.getD j 0 ∧ iargs.getD j 0 < (regs.length : Int) := by
  have : badR regs (iargs.getD j 0) = false := (runTail (d := (0 : Int)) (show j < badRN iargs regs by omega)).2
  simp only [badR, sIf, sLt, sLe] at this
  by_cases h1 : iargs.getD j 0 < 0
  · rw [decide_eq_true h1] at this; cases this
  · rw [decide_eq_false h1] at this
    have h2 : ¬ (regs.length : Int) ≤ iargs.getD j 0 := of_decide_eq_false this
    omega
theorem step25b (op ty sym : Int) (iargs regs : List Int) (fs : List funS.den) (j : Nat) (hb : iargs.length ≤ 1000) (hr : badRN iargs regs = iargs.length) (hk : okC op sym fs = true) (hp : op = 30 → iargs.length = (fnAt fs sym).2.1.length) (hj : j < iargs.length) :
    s25_1 op ty iargs sym regs fs [Sc.i (j : Int)] = (true, opdAt op ty sym iargs regs fs j, [Sc.i ((j + 1 : Nat) : Int)]) := by
  have h1 : sLt (j : Int) (iargs.length : Int) = true := sLt_true (by omega)
  have h2 : sLe 0 (j : Int) = true := decide_eq_true (by omega)
  obtain ⟨r1, r2⟩ := in_range hr hj
  obtain ⟨r3, r4⟩ := in_range hr (show 0 < iargs.length by omega)
  have k1 : sLe 0 (iargs.getD j 0) = true := decide_eq_true r1
  have k2 : sLt (iargs.getD j 0) (regs.length : Int) = true := decide_eq_true r2
  have k3 : sLe 0 (iargs.getD 0 0) = true := decide_eq_true r3
  have k4 : sLt (iargs.getD 0 0) (regs.length : Int) = true := decide_eq_true r4
  have k5 : sLt 0 (iargs.length : Int) = true := sLt_true (by omega)
  have k6 : okK op sym (j : Int) fs = true := by
    unfold okK
    rw [hk, Bool.true_and]
    exact decide_eq_true (fun e => by have := hp e; omega)
  simp only [s25_1, hd_cons, Sc.toI_i, Int.toNat_natCast, wrapL (show j < bigL by unfold bigL; omega), h1, h2, k1, k2, k3, k4, k5, k6]
  show (_, _, _) = (true, opdR op ty sym fs (j : Int) (regs.getD (iargs.getD j 0).toNat 0) (regs.getD (iargs.getD 0 0).toNat 0), _)
  generalize opdR op ty sym fs (j : Int) (regs.getD (iargs.getD j 0).toNat 0) (regs.getD (iargs.getD 0 0).toNat 0) = a
  cases a <;> rfl
theorem stop25b (op ty sym : Int) (iargs regs : List Int) (fs : List funS.den) : (s25_1 op ty iargs sym regs fs [Sc.i (iargs.length : Int)]).1 = true ∧ (s25_1 op ty iargs sym regs fs [Sc.i (iargs.length : Int)]).2.1 = false := by
  have h1 : sLt (iargs.length : Int) (iargs.length : Int) = false := sLt_false (by omega)
  simp only [s25_1, hd_cons, Sc.toI_i, Int.toNat_natCast]
  rw [h1]
  exact ⟨rfl, rfl⟩
theorem run25_1 (op ty sym : Int) (iargs regs : List Int) (fs : List funS.den) (hb : iargs.length ≤ 1000) (hr : badRN iargs regs = iargs.length) (hk : okC op sym fs = true) (hp : op = 30 → iargs.length = (fnAt fs sym).2.1.length) :
    whileW (s25_1 op ty iargs sym regs fs) [Sc.i 0] = some [Sc.i (opdN op ty sym iargs regs fs : Nat)] := by
  have hle := opdN_le op ty sym iargs regs fs
  have hend : (s25_1 op ty iargs sym regs fs [Sc.i ((opdN op ty sym iargs regs fs : Nat) : Int)]).1 = true ∧ (s25_1 op ty iargs sym regs fs [Sc.i ((opdN op ty sym iargs regs fs : Nat) : Int)]).2.1 = false := by
    rcases Nat.lt_or_ge (opdN op ty sym iargs regs fs) iargs.length with h | h
    · rw [step25b op ty sym iargs regs fs _ hb hr hk hp h, opdN_at h]
      exact ⟨rfl, rfl⟩
    · rw [show opdN op ty sym iargs regs fs = iargs.length by omega]
      exact stop25b op ty sym iargs regs fs
  refine whileW_upto (fun i => [Sc.i (i : Int)]) (opdN op ty sym iargs regs fs) rfl (fun j hj => ?_) hend.1 hend.2
  show s25_1 op ty iargs sym regs fs [Sc.i (j : Int)] = _
  rw [step25b op ty sym iargs regs fs j hb hr hk hp (by omega), opdN_lt hj]
end Go.Proofs.YtaajbcflmaihgaaDoor
/- The stages of the program's and the reference's check of an instruction, one by one. No conditions. -/
set_option linter.all false
namespace Go.Proofs.YtaajbcflmaihgaaDoor
open Go Ab
set_option maxRecDepth 100000
theorem sEq_d (a b : Int) : sEq a b = decide (a = b) := by unfold sEq; rw [Bool.eq_iff_iff]; simp
theorem sNe_d (a b : Int) : sNe a b = !decide (a = b) := by unfold sNe; rw [Bool.eq_iff_iff]; simp
theorem name_of {op : Int} (h1 : 1 ≤ op) (h2 : op ≤ 33) : bEq (nameOf op) (ByteArray.mk (Array.mk [])) = false := by
  have : op = 1 ∨ op = 2 ∨ op = 3 ∨ op = 4 ∨ op = 5 ∨ op = 6 ∨ op = 7 ∨ op = 8 ∨ op = 9 ∨ op = 10 ∨ op = 11 ∨ op = 12 ∨ op = 13 ∨ op = 14 ∨ op = 15 ∨ op = 16 ∨ op = 17 ∨ op = 18 ∨ op = 19 ∨ op = 20 ∨ op = 21 ∨ op = 22 ∨ op = 23 ∨ op = 24 ∨ op = 25 ∨ op = 26 ∨ op = 27 ∨ op = 28 ∨ op = 29 ∨ op = 30 ∨ op = 31 ∨ op = 32 ∨ op = 33 := by omega
  rcases this with rfl | rfl | rfl | rfl | rfl | rfl | rfl | rfl | rfl | rfl | rfl | rfl | rfl | rfl | rfl | rfl | rfl | rfl | rfl | rfl | rfl | rfl | rfl | rfl | rfl | rfl | rfl | rfl | rfl | rfl | rfl | rfl | rfl <;> rfl
theorem name_not {op : Int} (h : ¬ (1 ≤ op ∧ op ≤ 33)) : bEq (nameOf op) (ByteArray.mk (Array.mk [])) = true := by
  cases h0 : bEq (nameOf op) (ByteArray.mk (Array.mk []))
  · exact absurd (name_range h0) h
  · rfl
def fmtR (op imm sym elem : Int) (nw : Bool) : Bool :=
  sIf (sIf (sIf (sIf (sIf (sIf nw (sNe op 5) false) (sNe op 6) false) (sNe op 7) false) true (sIf (sNe imm 0) (sNot (sIf (sIf (sEq op 1) true (sEq op 26)) true (sEq op 33))) false)) true (sIf (sIf (sNe sym 0) (sNe op 25) false) (sNe op 30) false)) true (sIf (sNe elem 0) (sNe op 26) false)
theorem fields_eq (op imm sym elem : Int) (nw : Bool) : fieldsV op imm sym elem nw = sIf (fmtR op imm sym elem nw) 3 0 := by
  by_cases h5 : op = 5
  · subst h5
    simp only [fieldsV, intOf, r30, fmtR]
    generalize sNe imm 0 = b1
    generalize sNe sym 0 = b2
    generalize sNe elem 0 = b3
    cases nw <;> cases b1 <;> cases b2 <;> cases b3 <;> rfl
  have e5 : sEq op 5 = false := by simpa [sEq] using h5
  have f5 : sNe op 5 = true := by simpa [sNe] using h5
  by_cases h6 : op = 6
  · subst h6
    simp only [fieldsV, intOf, r30, fmtR]
    generalize sNe imm 0 = b1
    generalize sNe sym 0 = b2
    generalize sNe elem 0 = b3
    cases nw <;> cases b1 <;> cases b2 <;> cases b3 <;> rfl
  have e6 : sEq op 6 = false := by simpa [sEq] using h6
  have f6 : sNe op 6 = true := by simpa [sNe] using h6
  by_cases h7 : op = 7
  · subst h7
    simp only [fieldsV, intOf, r30, fmtR]
    generalize sNe imm 0 = b1
    generalize sNe sym 0 = b2
    generalize sNe elem 0 = b3
    cases nw <;> cases b1 <;> cases b2 <;> cases b3 <;> rfl
  have e7 : sEq op 7 = false := by simpa [sEq] using h7
  have f7 : sNe op 7 = true := by simpa [sNe] using h7
  by_cases h26 : op = 26
  · subst h26
    simp only [fieldsV, intOf, r30, fmtR]
    generalize sNe imm 0 = b1
    generalize sNe sym 0 = b2
    generalize sNe elem 0 = b3
    cases nw <;> cases b1 <;> cases b2 <;> cases b3 <;> rfl
  have e26 : sEq op 26 = false := by simpa [sEq] using h26
  have f26 : sNe op 26 = true := by simpa [sNe] using h26
  by_cases h1 : op = 1
  · subst h1
    simp only [fieldsV, intOf, r30, fmtR]
    generalize sNe imm 0 = b1
    generalize sNe sym 0 = b2
    generalize sNe elem 0 = b3
    cases nw <;> cases b1 <;> cases b2 <;> cases b3 <;> rfl
  have e1 : sEq op 1 = false := by simpa [sEq] using h1
  have f1 : sNe op 1 = true := by simpa [sNe] using h1
  by_cases h33 : op = 33
  · subst h33
    simp only [fieldsV, intOf, r30, fmtR]
    generalize sNe imm 0 = b1
    generalize sNe sym 0 = b2
    generalize sNe elem 0 = b3
    cases nw <;> cases b1 <;> cases b2 <;> cases b3 <;> rfl
  have e33 : sEq op 33 = false := by simpa [sEq] using h33
  have f33 : sNe op 33 = true := by simpa [sNe] using h33
  by_cases h25 : op = 25
  · subst h25
    simp only [fieldsV, intOf, r30, fmtR]
    generalize sNe imm 0 = b1
    generalize sNe sym 0 = b2
    generalize sNe elem 0 = b3
    cases nw <;> cases b1 <;> cases b2 <;> cases b3 <;> rfl
  have e25 : sEq op 25 = false := by simpa [sEq] using h25
  have f25 : sNe op 25 = true := by simpa [sNe] using h25
  by_cases h30 : op = 30
  · subst h30
    simp only [fieldsV, intOf, r30, fmtR]
    generalize sNe imm 0 = b1
    generalize sNe sym 0 = b2
    generalize sNe elem 0 = b3
    cases nw <;> cases b1 <;> cases b2 <;> cases b3 <;> rfl
  have e30 : sEq op 30 = false := by simpa [sEq] using h30
  have f30 : sNe op 30 = true := by simpa [sNe] using h30
  simp only [fieldsV, intOf, r30, fmtR, e5, f5,e6, f6,e7, f7,e26, f26,e1, f1,e33, f33,e25, f25,e30, f30]
  generalize sNe imm 0 = b1
  generalize sNe sym 0 = b2
  generalize sNe elem 0 = b3
  cases nw <;> cases b1 <;> cases b2 <;> cases b3 <;> rfl
def notR (op sym : Int) (gs : List gloS.den) (fs : List funS.den) : Bool :=
  sIf (sIf (sEq op 25) (sIf (sLt sym 0) true (sLe (gs.length : Int) sym)) false) true (sIf (sEq op 30) (sIf (sLt sym 0) true (sLe (fs.length : Int) sym)) false)
theorem sym_eq (op sym : Int) (gs : List gloS.den) (fs : List funS.den) : symV op sym gs fs = sIf (notR op sym gs fs) 8 0 := by
  simp only [symV, intOf, r31, notR]
  generalize sEq op 25 = b1
  generalize sLt sym 0 = b2
  generalize sLe (gs.length : Int) sym = b3
  generalize sEq op 30 = b4
  generalize sLe (fs.length : Int) sym = b5
  cases b1 <;> cases b2 <;> cases b3 <;> cases b4 <;> cases b5 <;> rfl
set_option maxHeartbeats 0 in
theorem cnt_eq {op : Int} (h1 : 1 ≤ op) (h2 : op ≤ 33) (iargs : List Int) (sym : Int) (fs : List funS.den) : sIf (sNot (cntB op iargs sym fs)) true (sNe (cntN op iargs sym fs) (iargs.length : Int)) = !decide (iargs.length = wantN op iargs.length sym fs) := by
  have : op = 1 ∨ op = 2 ∨ op = 3 ∨ op = 4 ∨ op = 5 ∨ op = 6 ∨ op = 7 ∨ op = 8 ∨ op = 9 ∨ op = 10 ∨ op = 11 ∨ op = 12 ∨ op = 13 ∨ op = 14 ∨ op = 15 ∨ op = 16 ∨ op = 17 ∨ op = 18 ∨ op = 19 ∨ op = 20 ∨ op = 21 ∨ op = 22 ∨ op = 23 ∨ op = 24 ∨ op = 25 ∨ op = 26 ∨ op = 27 ∨ op = 28 ∨ op = 29 ∨ op = 30 ∨ op = 31 ∨ op = 32 ∨ op = 33 := by omega
  rcases this with rfl | rfl | rfl | rfl | rfl | rfl | rfl | rfl | rfl | rfl | rfl | rfl | rfl | rfl | rfl | rfl | rfl | rfl | rfl | rfl | rfl | rfl | rfl | rfl | rfl | rfl | rfl | rfl | rfl | rfl | rfl | rfl | rfl
  all_goals
    simp [cntB, cntN, sndOf, fstOf, r36, sIf, sNot, sEq_d, sNe_d, wantN]
    try grind
    try (rw [← List.length_eq_zero_iff]; omega)
theorem res_ref {op ty dst : Int} {regs : List Int} (h : -1 ≤ dst) : (sIf (sIf (sIf (sEq ty 0) (sNe dst (-1)) false) true (sIf (sIf (sNe ty 0) (sEq dst (-1)) false) (sNe op 30) false)) true (sIf (sLe 0 dst) (sNe (regs.getD dst.toNat 0) ty) false)) = sNot (resV op ty dst regs) := by
  have : resV op ty dst regs = (if ty = 0 then decide (dst = -1) else if dst = -1 then decide (op = 30) else decide (regs.getD dst.toNat 0 = ty)) := by
    simp only [resV, boolOf, r34]
    by_cases h1 : ty = 0 <;> by_cases h2 : dst = -1 <;> simp [h1, h2, sIf, sEq_d]
  rw [this]
  simp only [sEq_d, sNe_d, sLe, sNot, sIf]
  by_cases h1 : ty = 0 <;> by_cases h2 : dst = -1 <;> by_cases h3 : 0 ≤ dst <;> simp [h1, h2, h3] <;> omega
theorem same_nil (t : Int) : sameV [] t = true := rfl
theorem same_cons (a : Int) (l : List Int) (t : Int) : sameV (a :: l) t = (decide (a = t) && sameV l t) := by
  unfold sameV
  rw [List.findIdx_cons]
  by_cases h : a = t
  · simp [h, sNe]
  · have hb : (a != t) = true := by simpa using h
    simp [h, sNe, hb]
set_option maxHeartbeats 0 in
theorem typed_0 {op : Int} (h : op = 1 ∨ op = 2 ∨ op = 25 ∨ op = 26) (ty sym : Int) (fs : List funS.den) : typedV op ty sym [] fs = resR op ty [] sym fs := by
  rcases h with rfl | rfl | rfl | rfl
  all_goals
    simp [typedV, boolOf, r33, resR, r37, sIf, sEq_d, sNe_d, sLt, sLe, same_nil, same_cons]
    try grind [integ, wideT, anyT, vecT, cellT, bitsOf, accOf]
set_option maxHeartbeats 0 in
theorem typed_1 {op : Int} (h : op = 3 ∨ op = 4 ∨ op = 22 ∨ op = 23 ∨ op = 24 ∨ op = 28 ∨ op = 31 ∨ op = 33) (ty sym x a : Int) (fs : List funS.den) : typedV op ty sym [a] fs = (resR op ty [x] sym fs && opdR op ty sym fs 0 a a) := by
  rcases h with rfl | rfl | rfl | rfl | rfl | rfl | rfl | rfl
  all_goals
    simp [typedV, boolOf, r33, resR, r37, opdR, r38, sIf, sEq_d, sNe_d, sLt, sLe, same_nil, same_cons]
    try grind [integ, wideT, anyT, vecT, cellT, bitsOf, accOf]
set_option maxHeartbeats 0 in
theorem typed_2 {op : Int} (h1 : 1 ≤ op) (h2 : op ≤ 33) (h : ¬ (op = 1 ∨ op = 2 ∨ op = 25 ∨ op = 26 ∨ op = 3 ∨ op = 4 ∨ op = 22 ∨ op = 23 ∨ op = 24 ∨ op = 28 ∨ op = 31 ∨ op = 33 ∨ op = 21 ∨ op = 30)) (ty sym x y a b : Int) (fs : List funS.den) :
    typedV op ty sym [a, b] fs = (resR op ty [x, y] sym fs && (opdR op ty sym fs 0 a a && opdR op ty sym fs 1 b a)) := by
  have : op = 5 ∨ op = 6 ∨ op = 7 ∨ op = 8 ∨ op = 9 ∨ op = 10 ∨ op = 11 ∨ op = 12 ∨ op = 13 ∨ op = 14 ∨ op = 15 ∨ op = 16 ∨ op = 17 ∨ op = 18 ∨ op = 19 ∨ op = 20 ∨ op = 27 ∨ op = 29 ∨ op = 32 := by omega
  rcases this with rfl | rfl | rfl | rfl | rfl | rfl | rfl | rfl | rfl | rfl | rfl | rfl | rfl | rfl | rfl | rfl | rfl | rfl | rfl
  all_goals
    simp [typedV, boolOf, r33, resR, r37, opdR, r38, sIf, sEq_d, sNe_d, sLt, sLe, same_nil, same_cons]
    try grind [integ, wideT, anyT, vecT, cellT, bitsOf, accOf]
set_option maxHeartbeats 0 in
theorem typed_3 (ty sym x y z a b c : Int) (fs : List funS.den) : typedV 21 ty sym [a, b, c] fs = (resR 21 ty [x, y, z] sym fs && (opdR 21 ty sym fs 0 a a && (opdR 21 ty sym fs 1 b a && opdR 21 ty sym fs 2 c a))) := by
  simp [typedV, boolOf, r33, resR, r37, opdR, r38, sIf, sEq_d, sNe_d, sLt, sLe, same_nil, same_cons]
  try grind [integ, wideT, anyT, vecT, cellT, bitsOf, accOf]
set_option maxHeartbeats 0 in
theorem typed_4 (ty sym x y z u a b c e : Int) (fs : List funS.den) : typedV 32 ty sym [a, b, c, e] fs = (resR 32 ty [x, y, z, u] sym fs && (opdR 32 ty sym fs 0 a a && (opdR 32 ty sym fs 1 b a && (opdR 32 ty sym fs 2 c a && opdR 32 ty sym fs 3 e a)))) := by
  simp [typedV, boolOf, r33, resR, r37, opdR, r38, sIf, sEq_d, sNe_d, sLt, sLe, same_nil, same_cons]
  try grind [integ, wideT, anyT, vecT, cellT, bitsOf, accOf]
end Go.Proofs.YtaajbcflmaihgaaDoor
/- The types of operands and the immediates, program and reference compared. No conditions. -/
set_option linter.all false
namespace Go.Proofs.YtaajbcflmaihgaaDoor
open Go Ab
set_option maxRecDepth 100000
variable {op ty dst imm sym elem : Int} {iargs regs : List Int} {nw : Bool} {gs : List gloS.den} {fs : List funS.den}
theorem opd_all (op ty sym : Int) (iargs regs : List Int) (fs : List funS.den) : decide (opdN op ty sym iargs regs fs = iargs.length) = (List.range iargs.length).all (fun k => opdAt op ty sym iargs regs fs k) := by
  rw [Bool.eq_iff_iff, decide_eq_true_iff, List.all_eq_true]
  have e : (List.range iargs.length).length = iargs.length := List.length_range
  have := @List.findIdx_eq_length _ (fun k => sNot (opdAt op ty sym iargs regs fs k)) (List.range iargs.length)
  rw [e] at this
  unfold opdN
  rw [this]
  simp [sNot]
theorem bad_all (sym : Int) (args : List Int) (fs : List funS.den) : decide (badN sym args fs = (fnAt fs sym).2.1.length) = (List.range (fnAt fs sym).2.1.length).all (fun k => sNot (badP sym args fs k)) := by
  rw [Bool.eq_iff_iff, decide_eq_true_iff, List.all_eq_true]
  have e : (List.range (fnAt fs sym).2.1.length).length = (fnAt fs sym).2.1.length := List.length_range
  have := @List.findIdx_eq_length _ (badP sym args fs) (List.range (fnAt fs sym).2.1.length)
  rw [e] at this
  unfold badN
  rw [this]
  simp [sNot]
theorem sEq_ne (a b : Int) : sEq a b = sNot (sNe b a) := by
  rw [sEq_d, sNe_d, sNot, Bool.not_not, Bool.eq_iff_iff]
  simp [eq_comm]
theorem call_opd (ty sym a first : Int) (args : List Int) (fs : List funS.den) (k : Nat) (ha : args.getD k 0 = a) : opdR 30 ty sym fs (k : Int) a first = sNot (badP sym args fs k) := by
  subst ha
  have e : opdR 30 ty sym fs (k : Int) (args.getD k 0) first = sIf (sIf (sLe 0 (List.getD (fnAt fs sym).2.1 k 0)) (sLt (List.getD (fnAt fs sym).2.1 k 0) ((fnAt fs sym).2.2.2.1.length : Int)) false) (sEq (args.getD k 0) (List.getD (fnAt fs sym).2.2.2.1 (Int.toNat (List.getD (fnAt fs sym).2.1 k 0)) 0)) false := by
    simp [opdR, boolOf, r38, sIf, sEq]
  rw [e, sEq_ne]
  simp only [badP, sLe_eq]
  generalize sLt (List.getD (fnAt fs sym).2.1 k 0) 0 = c1
  generalize sLt (List.getD (fnAt fs sym).2.1 k 0) ((fnAt fs sym).2.2.2.1.length : Int) = c2
  generalize sNe (List.getD (fnAt fs sym).2.2.2.1 (Int.toNat (List.getD (fnAt fs sym).2.1 k 0)) 0) (args.getD k 0) = c3
  cases c1 <;> cases c2 <;> cases c3 <;> rfl
theorem regs_get (iargs regs : List Int) {k : Nat} (h : k < iargs.length) : (regsOf iargs regs).getD k 0 = regs.getD (iargs.getD k 0).toNat 0 := by
  unfold regsOf
  rw [List.getD_eq_getElem?_getD, List.getElem?_map, List.getElem?_eq_getElem h]
  have e : iargs.getD k 0 = iargs[k] := by rw [List.getD_eq_getElem?_getD, List.getElem?_eq_getElem h]; rfl
  rw [e]
  rfl
/-- The types are right in the program's eyes where they are in the reference's. -/
theorem typed_all (h1 : 1 ≤ op) (h2 : op ≤ 33) (hw : iargs.length = wantN op iargs.length sym fs) : typedV op ty sym (regsOf iargs regs) fs = (resR op ty iargs sym fs && decide (opdN op ty sym iargs regs fs = iargs.length)) := by
  rw [opd_all]
  by_cases c30 : op = 30
  · subst c30
    have hw : iargs.length = (fnAt fs sym).2.1.length := hw
    have e1 : typedV 30 ty sym (regsOf iargs regs) fs = calleeV ty sym (regsOf iargs regs) fs := by simp [typedV, boolOf, r33, sIf, sEq]
    have e2 : resR 30 ty iargs sym fs = sEq ty (fnAt fs sym).2.2.1 := by simp [resR, boolOf, r37, sIf, sEq]
    rw [e1, e2, calleeV, bad_all, Bool.and_comm, ← hw]
    congr 1
    rw [Bool.eq_iff_iff, List.all_eq_true, List.all_eq_true]
    refine ⟨fun h k hk => ?_, fun h k hk => ?_⟩
    · have hk' := List.mem_range.1 hk
      have := h k hk
      unfold opdAt
      rw [call_opd ty sym _ _ (regsOf iargs regs) fs k (regs_get iargs regs hk')]
      exact this
    · have hk' := List.mem_range.1 hk
      have := h k hk
      unfold opdAt at this
      rw [call_opd ty sym _ _ (regsOf iargs regs) fs k (regs_get iargs regs hk')] at this
      exact this
  by_cases c0 : op = 1 ∨ op = 2 ∨ op = 25 ∨ op = 26
  · have : wantN op iargs.length sym fs = 0 := by rcases c0 with rfl | rfl | rfl | rfl <;> simp [wantN]
    match iargs, hw.trans this with
    | [], _ => rw [show regsOf [] regs = [] from rfl, typed_0 c0]; exact (Bool.and_true _).symm
  by_cases c1 : op = 3 ∨ op = 4 ∨ op = 22 ∨ op = 23 ∨ op = 24 ∨ op = 28 ∨ op = 31 ∨ op = 33
  · have : wantN op iargs.length sym fs = 1 := by rcases c1 with rfl | rfl | rfl | rfl | rfl | rfl | rfl | rfl <;> simp [wantN]
    match iargs, hw.trans this with
    | [a], _ =>
      rw [show regsOf [a] regs = [regs.getD a.toNat 0] from rfl, typed_1 c1 ty sym a (regs.getD a.toNat 0) fs]
      congr 1
      exact (Bool.and_true _).symm
  by_cases c3 : op = 21
  · subst c3
    have : wantN 21 iargs.length sym fs = 3 := by simp [wantN]
    match iargs, hw.trans this with
    | [a, b, c], _ =>
      rw [show regsOf [a, b, c] regs = [regs.getD a.toNat 0, regs.getD b.toNat 0, regs.getD c.toNat 0] from rfl, typed_3 ty sym a b c]
      congr 1
      show _ = (opdR 21 ty sym fs 0 _ _ && (opdR 21 ty sym fs 1 _ _ && (opdR 21 ty sym fs 2 _ _ && true)))
      rw [Bool.and_true]
      rfl
  have two : ∀ a b : Int, typedV op ty sym (regsOf [a, b] regs) fs = (resR op ty [a, b] sym fs && (List.range 2).all fun k => opdAt op ty sym [a, b] regs fs k) := by
    intro a b
    rw [show regsOf [a, b] regs = [regs.getD a.toNat 0, regs.getD b.toNat 0] from rfl, typed_2 h1 h2 (by omega) ty sym a b]
    congr 1
    show _ = (opdR op ty sym fs 0 _ _ && (opdR op ty sym fs 1 _ _ && true))
    rw [Bool.and_true]
    rfl
  by_cases c32 : op = 32
  · subst c32
    by_cases c4 : iargs.length = 4
    · match iargs, c4 with
      | [a, b, c, e], _ =>
        rw [show regsOf [a, b, c, e] regs = [regs.getD a.toNat 0, regs.getD b.toNat 0, regs.getD c.toNat 0, regs.getD e.toNat 0] from rfl, typed_4 ty sym a b c e]
        congr 1
        show _ = (opdR 32 ty sym fs 0 _ _ && (opdR 32 ty sym fs 1 _ _ && (opdR 32 ty sym fs 2 _ _ && (opdR 32 ty sym fs 3 _ _ && true))))
        rw [Bool.and_true]
        rfl
    · have : wantN 32 iargs.length sym fs = 2 := by simp [wantN, c4]
      match iargs, hw.trans this with
      | [a, b], _ => exact two a b
  · have : wantN op iargs.length sym fs = 2 := by
      unfold wantN
      rw [if_neg c30, if_neg c32, if_neg c0, if_neg c1, if_neg c3]
    match iargs, hw.trans this with
    | [a, b], _ => exact two a b
/-- The error of the immediate, in the reference's words. -/
noncomputable def immR (op ty imm elem a : Int) : Int :=
  sIf (sIf (sEq op 26) (sIf (sNe (accOf elem).2 1) true (sNe (accOf elem).1 elem)) false) 9 (sIf (sIf (sIf (sEq op 1) (sNe (wrapR ty imm) imm) false) true (sIf (sEq op 26) (sIf (sLt imm 1) true (sLt 256 imm)) false)) 10
    (sIf (sIf (sEq op 33) (sIf (sIf (sLt imm 0) true (sLt 3 imm)) true (sIf (sLt 1 imm) (sEq a 6) false)) false) 10 0))
theorem imm_eq {args : List Int} (hi1 : -9223372036854775808 ≤ imm) (hi2 : imm ≤ 9223372036854775807) (hv : op = 33 → args.getD 0 0 = 6 ∨ args.getD 0 0 = 7) : immV op ty imm elem args = immR op ty imm elem (args.getD 0 0) := by
  have hwr : wrapR ty imm = wrapV ty imm := wrap_eq hi1 hi2
  by_cases c1 : op = 1
  · subst c1
    simp [immV, intOf, r35, immR, sIf, sEq_d, sNe_d, sLt, sLe, hwr]
    try grind
  by_cases c26 : op = 26
  · subst c26
    simp [immV, intOf, r35, immR, sIf, sEq_d, sNe_d, sLt, sLe, hwr]
    try grind
  by_cases c33 : op = 33
  · subst c33
    rcases hv rfl with h | h <;> simp [immV, intOf, r35, immR, sIf, sEq_d, sNe_d, sLt, sLe, h, accOf] <;> grind
  · simp [immV, intOf, r35, immR, sIf, sEq_d, sNe_d, sLt, sLe, c1, c26, c33]
end Go.Proofs.YtaajbcflmaihgaaDoor
