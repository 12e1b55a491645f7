/- The reference's check of an instruction gives what the program's gives. No conditions but bounds. -/
import Derived.Test.YtaajbcflmaihgaaDoorOpcRef7
set_option linter.all false
namespace Go.Proofs.YtaajbcflmaihgaaDoor
open Go Ab
set_option maxRecDepth 100000
variable {op ty dst imm sym elem : Int} {iargs regs : List Int} {nw : Bool} {gs : List gloS.den} {fs : List funS.den}
theorem isN_not (b : Bool) : Tg.isN (Tg.mix b Tg.r Tg.n) = sNot b := by cases b <;> rfl
theorem c0_eq : c0q op = sNot (sIf (sLt op 1) true (sLt 33 op)) := isN_not _
theorem c1_eq : c1q op imm sym elem nw = sNot (fmtR op imm sym elem nw) := isN_not _
theorem c2_eq : c2q op sym gs fs = sNot (notR op sym gs fs) := isN_not _
theorem c3_eq (h1 : 1 ≤ op) (h2 : op ≤ 33) : c3q op iargs sym fs = decide (iargs.length = wantN op iargs.length sym fs) := by
  have : c3q op iargs sym fs = sNot (sIf (sNot (cntB op iargs sym fs)) true (sNe (cntN op iargs sym fs) (iargs.length : Int))) := isN_not _
  rw [this, cnt_eq h1 h2, sNot, Bool.not_not]
theorem c5_eq : c5q dst regs = sNot (sIf (sLt dst (-1)) true (sLe (regs.length : Int) dst)) := isN_not _
theorem c6_eq : c6q op ty iargs sym fs = resR op ty iargs sym fs := by
  have : c6q op ty iargs sym fs = sNot (sNot (resR op ty iargs sym fs)) := isN_not _
  rw [this, sNot, sNot, Bool.not_not]
theorem c8_eq (h : -1 ≤ dst) : c8q op ty dst regs = resV op ty dst regs := by
  have : c8q op ty dst regs = sNot (sIf (sIf (sIf (sEq ty 0) (sNe dst (-1)) false) true (sIf (sIf (sNe ty 0) (sEq dst (-1)) false) (sNe op 30) false)) true (sIf (sLe 0 dst) (sNe (regs.getD dst.toNat 0) ty) false)) := isN_not _
  rw [this, res_ref h, sNot, sNot, Bool.not_not]
theorem imm_form : immR op ty imm elem (regs.getD (iargs.getD 0 0).toNat 0) = sIf (c9q op elem) (sIf (c10q op ty imm) (sIf (c11q op iargs imm regs) 0 10) 10) 9 := by
  have e9 : c9q op elem = sNot (sIf (sEq op 26) (sIf (sNe (accOf elem).2 1) true (sNe (accOf elem).1 elem)) false) := isN_not _
  have e10 : c10q op ty imm = sNot (sIf (sIf (sEq op 1) (sNe (wrapR ty imm) imm) false) true (sIf (sEq op 26) (sIf (sLt imm 1) true (sLt 256 imm)) false)) := isN_not _
  have e11 : c11q op iargs imm regs = sNot (sIf (sEq op 33) (sIf (sIf (sLt imm 0) true (sLt 3 imm)) true (sIf (sLt 1 imm) (sEq (regs.getD (iargs.getD 0 0).toNat 0) 6) false)) false) := isN_not _
  rw [e9, e10, e11]
  unfold immR
  generalize sIf (sEq op 26) (sIf (sNe (accOf elem).2 1) true (sNe (accOf elem).1 elem)) false = x
  generalize sIf (sIf (sEq op 1) (sNe (wrapR ty imm) imm) false) true (sIf (sEq op 26) (sIf (sLt imm 1) true (sLt 256 imm)) false) = y
  generalize sIf (sEq op 33) (sIf (sIf (sLt imm 0) true (sLt 3 imm)) true (sIf (sLt 1 imm) (sEq (regs.getD (iargs.getD 0 0).toNat 0) 6) false)) false = z
  cases x <;> cases y <;> cases z <;> rfl
theorem lane_arg {args : List Int} (h : typedV 33 ty sym args fs = true) : args.getD 0 0 = 6 ∨ args.getD 0 0 = 7 := by
  have e : typedV 33 ty sym args fs = (decide (ty = 3) && vecT (args.getD 0 0)) := by
    simp [typedV, boolOf, r33, sIf, sEq_d]
    try grind
  rw [e] at h
  simp [vecT] at h
  simpa using h.2
theorem want_33 {n : Nat} (h : n = wantN 33 n sym fs) : n = 1 := by
  rw [h]
  simp [wantN]
theorem nat25 {fnm : ByteArray} {fps : List Int} {fres : Int} {fbl : List blkS.den} (hb : iargs.length ≤ 1000) (hi1 : -9223372036854775808 ≤ imm) (hi2 : imm ≤ 9223372036854775807) :
    exFn (gN e39T) Tryd.f52 [insA op ty dst iargs imm sym elem nw, funA fnm fps fres regs fbl, modA gs fs] = some (true, .int .i64 (chkV op ty dst iargs imm sym elem nw regs gs fs)) := by
  rw [form25]
  have hw0 := run25_0 iargs regs hb
  have hL0 : L25_0 iargs regs = [Sc.i (badRN iargs regs : Nat)] := by unfold L25_0; rw [hw0]; rfl
  have hle := badRN_le iargs regs
  by_cases hr : 1 ≤ op ∧ op ≤ 33
  rotate_left
  · have q0 : c0q op = false := by
      rw [c0_eq]
      by_cases h1 : op < 1
      · rw [sLt_true h1]; rfl
      · rw [sLt_false h1, sLt_true (by omega : (33 : Int) < op)]; rfl
    rw [A0 op _ (fun h => by rw [q0] at h; cases h), q0]
    unfold chkV
    rw [name_not hr]
    rfl
  obtain ⟨h1, h2⟩ := hr
  have q0 : c0q op = true := by rw [c0_eq, sLt_false (by omega), sLt_false (by omega)]; rfl
  have hn := name_of h1 h2
  have start : ∀ REST : Bool, REST = true → a0 op REST = true := fun R h => A0 op R (fun _ => h)
  cases q1 : fmtR op imm sym elem nw
  case true =>
    have e1 : c1q op imm sym elem nw = false := by rw [c1_eq, q1]; rfl
    rw [start _ (A1 op imm sym elem nw _ (fun h => by rw [e1] at h; cases h)), q0, e1]
    unfold chkV
    rw [hn, fields_eq, q1]
    rfl
  have e1 : c1q op imm sym elem nw = true := by rw [c1_eq, q1]; rfl
  have s1 : ∀ REST : Bool, REST = true → a0 op (a1 op imm sym elem nw REST) = true := fun R h => start _ (A1 op imm sym elem nw R (fun _ => h))
  have v1 : sNe (fieldsV op imm sym elem nw) 0 = false := by rw [fields_eq, q1]; rfl
  cases q2 : notR op sym gs fs
  case true =>
    have e2 : c2q op sym gs fs = false := by rw [c2_eq, q2]; rfl
    rw [s1 _ (A2 op sym gs fs _ (fun h => by rw [e2] at h; cases h)), q0, e1, e2]
    unfold chkV
    rw [hn, v1, sym_eq, q2]
    rfl
  have e2 : c2q op sym gs fs = true := by rw [c2_eq, q2]; rfl
  have hs : symV op sym gs fs = 0 := by rw [sym_eq, q2]; rfl
  have v2 : sNe (symV op sym gs fs) 0 = false := by rw [hs]; rfl
  have hk : okC op sym fs = true := by
    simp only [okC, Bool.and_eq_true, decide_eq_true_eq]
    refine ⟨h1, h2, ?_⟩
    split
    · rename_i e
      have := sym_range hs e
      simp [this.1, this.2]
    · rfl
  have s2 : ∀ REST : Bool, REST = true → a0 op (a1 op imm sym elem nw (a2 op sym gs fs REST)) = true := fun R h => s1 _ (A2 op sym gs fs R (fun _ => h))
  have hc := count_eq h1 h2 iargs sym fs
  by_cases hw : iargs.length = wantN op iargs.length sym fs
  rotate_left
  · have e3 : c3q op iargs sym fs = false := by rw [c3_eq h1 h2]; exact decide_eq_false hw
    rw [s2 _ (A3 op iargs sym fs hk _ (fun h => by rw [e3] at h; cases h)), q0, e1, e2, e3]
    rw [if_neg hw] at hc
    unfold chkV
    rw [hn, v1, v2, hc]
    rfl
  rw [if_pos hw] at hc
  have e3 : c3q op iargs sym fs = true := by rw [c3_eq h1 h2]; exact decide_eq_true hw
  have s3 : ∀ REST : Bool, REST = true → a0 op (a1 op imm sym elem nw (a2 op sym gs fs (a3 op iargs sym fs REST))) = true := fun R h => s2 _ (A3 op iargs sym fs hk R (fun _ => h))
  have e4 := c4_eq iargs regs hL0
  rcases Nat.lt_or_ge (badRN iargs regs) iargs.length with hbad | hbad
  · rw [decide_eq_true hbad] at e4
    have e4 : c4q iargs regs = false := e4
    rw [s3 _ (A4 iargs regs hL0 hw0 hb _ (fun h => by rw [e4] at h; cases h)), q0, e1, e2, e3, e4]
    unfold chkV
    rw [hn, v1, v2, hc, decide_eq_true hbad]
    rfl
  have hbe : badRN iargs regs = iargs.length := by omega
  have hbd : decide (badRN iargs regs < iargs.length) = false := decide_eq_false (by omega)
  rw [hbd] at e4
  have e4 : c4q iargs regs = true := e4
  have s4 : ∀ REST : Bool, REST = true → a0 op (a1 op imm sym elem nw (a2 op sym gs fs (a3 op iargs sym fs (a4 iargs regs REST)))) = true := fun R h => s3 _ (A4 iargs regs hL0 hw0 hb R (fun _ => h))
  cases q5 : sIf (sLt dst (-1)) true (sLe (regs.length : Int) dst)
  case true =>
    have e5 : c5q dst regs = false := by rw [c5_eq, q5]; rfl
    rw [s4 _ (A5 dst regs _ (fun h => by rw [e5] at h; cases h)), q0, e1, e2, e3, e4, e5]
    unfold chkV
    rw [hn, v1, v2, hc, hbd, q5]
    rfl
  have e5 : c5q dst regs = true := by rw [c5_eq, q5]; rfl
  have hd1 : -1 ≤ dst ∧ dst < (regs.length : Int) := by
    simp only [sIf, sLt, sLe] at q5
    by_cases hx : dst < -1
    · rw [decide_eq_true hx] at q5; cases q5
    · rw [decide_eq_false hx] at q5
      have := of_decide_eq_false q5
      omega
  have s5 : ∀ REST : Bool, REST = true → a0 op (a1 op imm sym elem nw (a2 op sym gs fs (a3 op iargs sym fs (a4 iargs regs (a5 dst regs REST))))) = true := fun R h => s4 _ (A5 dst regs R (fun _ => h))
  have ht := typed_all (ty := ty) (regs := regs) h1 h2 hw
  cases q6 : resR op ty iargs sym fs
  case false =>
    have e6 : c6q op ty iargs sym fs = false := by rw [c6_eq, q6]
    rw [s5 _ (A6 op ty iargs sym fs hk _ (fun h => by rw [e6] at h; cases h)), q0, e1, e2, e3, e4, e5, e6]
    rw [q6] at ht
    have ht : typedV op ty sym (regsOf iargs regs) fs = false := ht
    unfold chkV
    rw [hn, v1, v2, hc, hbd, q5, ht]
    rfl
  have e6 : c6q op ty iargs sym fs = true := by rw [c6_eq, q6]
  rw [q6, Bool.true_and] at ht
  have s6 : ∀ REST : Bool, REST = true → a0 op (a1 op imm sym elem nw (a2 op sym gs fs (a3 op iargs sym fs (a4 iargs regs (a5 dst regs (a6 op ty iargs sym fs REST)))))) = true := fun R h => s5 _ (A6 op ty iargs sym fs hk R (fun _ => h))
  have hp : op = 30 → iargs.length = (fnAt fs sym).2.1.length := by
    intro e
    subst e
    exact hw
  have hw1 := run25_1 op ty sym iargs regs fs hb hbe hk hp
  have hL1 : L25_1 op ty iargs sym regs fs = [Sc.i (opdN op ty sym iargs regs fs : Nat)] := by unfold L25_1; rw [hw1]; rfl
  have e7 := c7_eq op ty iargs sym regs fs hL1
  rw [← ht] at e7
  cases q7 : typedV op ty sym (regsOf iargs regs) fs
  case false =>
    rw [q7] at e7
    rw [s6 _ (A7 op ty iargs sym regs fs hL1 hw1 hbe hk hp _ (fun h => by rw [e7] at h; cases h)), q0, e1, e2, e3, e4, e5, e6, e7]
    unfold chkV
    rw [hn, v1, v2, hc, hbd, q5, q7]
    rfl
  rw [q7] at e7
  have s7 : ∀ REST : Bool, REST = true → a0 op (a1 op imm sym elem nw (a2 op sym gs fs (a3 op iargs sym fs (a4 iargs regs (a5 dst regs (a6 op ty iargs sym fs (a7 op ty iargs sym regs fs REST))))))) = true := fun R h => s6 _ (A7 op ty iargs sym regs fs hL1 hw1 hbe hk hp R (fun _ => h))
  have e8 := c8_eq (op := op) (ty := ty) (regs := regs) hd1.1
  cases q8 : resV op ty dst regs
  case false =>
    rw [q8] at e8
    rw [s7 _ (A8 op ty dst regs (fun _ => hd1.2) _ (fun h => by rw [e8] at h; cases h)), q0, e1, e2, e3, e4, e5, e6, e7, e8]
    unfold chkV
    rw [hn, v1, v2, hc, hbd, q5, q7, q8]
    rfl
  rw [q8] at e8
  have h33 : op = 33 → 0 < iargs.length ∧ 0 ≤ iargs.getD 0 0 ∧ iargs.getD 0 0 < (regs.length : Int) := by
    intro e
    subst e
    have hl := want_33 hw
    have := in_range hbe (show 0 < iargs.length by omega)
    exact ⟨by omega, this.1, this.2⟩
  rw [s7 _ (A8 op ty dst regs (fun _ => hd1.2) _ (fun _ => A9 op elem _ (fun _ => A10 op ty imm _ (fun _ => A11 op iargs imm regs h33 aL (fun _ => rfl))))), q0, e1, e2, e3, e4, e5, e6, e7, e8]
  have hv : op = 33 → (regsOf iargs regs).getD 0 0 = 6 ∨ (regsOf iargs regs).getD 0 0 = 7 := by
    intro e
    subst e
    exact lane_arg q7
  have hi := imm_eq (op := op) (ty := ty) (elem := elem) (args := regsOf iargs regs) hi1 hi2 hv
  have key : immV op ty imm elem (regsOf iargs regs) = sIf (c9q op elem) (sIf (c10q op ty imm) (sIf (c11q op iargs imm regs) 0 10) 10) 9 := by
    rw [hi, ← imm_form]
    by_cases e : op = 33
    · obtain ⟨g, _, _⟩ := h33 e
      rw [regs_get iargs regs g]
    · have : ∀ a b : Int, immR op ty imm elem a = immR op ty imm elem b := by
        intro a b
        have e33 : sEq op 33 = false := by rw [sEq_d]; exact decide_eq_false e
        unfold immR
        rw [e33]
        rfl
      exact this _ _
  unfold chkV
  rw [hn, v1, v2, hc, hbd, q5, q7, q8, key]
  rfl
end Go.Proofs.YtaajbcflmaihgaaDoor
/- The contract of the reference's check. No conditions. -/
set_option linter.all false
namespace Go.Proofs.YtaajbcflmaihgaaDoor
open Go Ab
def okImm (n : Int) : Bool := decide (-9223372036854775808 ≤ n ∧ n ≤ 9223372036854775807)
noncomputable def n25 (xs : List AV) : Option (Bool × AV) :=
  match xs with
  | [a, b, c] => (asIns a).bind fun i => (asFun b).bind fun f => (asMod c).bind fun m => some (sAnd (len1000 i.2.2.2.1.length) (okImm i.2.2.2.2.1), .int .i64 (chkV i.1 i.2.1 i.2.2.1 i.2.2.2.1 i.2.2.2.2.1 i.2.2.2.2.2.1 i.2.2.2.2.2.2.1 i.2.2.2.2.2.2.2 f.2.2.2.1 m.1 m.2))
  | _ => none
noncomputable def e25T : Tab := (52, n25) :: e39T
theorem ek25 (hm : Tryd.prog.follows .mixedOrders = true) : TabOk e25T := (ek39 hm).cons (TabOk.readW (ek39 hm) hm Tryd.func52 (by decide) (by rfl) (by
  intro xs r h
  unfold n25 at h
  split at h
  · simp only [Option.bind_eq_some_iff, Option.some.injEq, Prod.mk.injEq] at h
    obtain ⟨i, hi, f, hf, m, hm, h1, rfl⟩ := h
    simp only [sAnd, Bool.and_eq_true, okImm, decide_eq_true_eq] at h1
    rw [asIns_eq hi, asFun_eq hf, asMod_eq hm]
    exact nat25 (Nat.le_of_ble_eq_true h1.1) h1.2.1 h1.2.2
  · cases h))
end Go.Proofs.YtaajbcflmaihgaaDoor
