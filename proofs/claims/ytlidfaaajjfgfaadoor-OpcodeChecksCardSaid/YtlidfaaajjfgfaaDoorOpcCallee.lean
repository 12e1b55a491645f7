/- The check of a call's types, in natural form. No conditions. -/
import Derived.Test.YtlidfaaajjfgfaaDoorOpcLoop
set_option linter.all false
namespace Go.Proofs.YtlidfaaajjfgfaaDoor
open Go Ab
set_option maxRecDepth 100000
noncomputable def s46_0 (sym : Int) (args : List Int) (fs : List (Sh.den funS)) : List Sc → Bool × Bool × List Sc := fun xs => let q0 : Sh.den (Sh.prod (Sh.sl (Sh.int IntKind.i64)) (Sh.prod (Sh.int IntKind.i64) (Sh.prod (Sh.sl (Sh.int IntKind.i64)) (Sh.prod (Sh.sl blkS) Sh.unit)))) := Prod.snd (List.getD fs (Int.toNat sym) (Sh.dflt funS));
  let q1 : List Int := Prod.fst q0;
  let q2 : Bool := sLt (Sc.toI (hd xs)) ↑(List.length q1);
  let q3 : Tg := Tg.mix q2 Tg.n (Tg.x 0);
  let q4 : Bool := sLe 0 (Sc.toI (hd xs));
  let q5 : Int := List.getD q1 (Int.toNat (Sc.toI (hd xs))) (0 : Int);
  let q6 : Bool := sLt q5 0;
  let q7 : Bool := sNot q6;
  let q8 : Bool := sNot q7;
  let q9 : Bool := sOr q8 true;
  let q10 : Bool := sOr q8 q7;
  let q11 : List Int := Prod.fst (Prod.snd (Prod.snd q0));
  let q12 : Int := ↑(List.length q11);
  let q13 : Bool := sIf q6 true (sLe q12 q5);
  let q14 : Bool := sNot q13;
  let q15 : Bool := sNot q14;
  let q16 : Bool := sOr q15 true;
  let q17 : Bool := sOr q15 q14;
  let q18 : Bool := sAnd q14 q14;
  let q19 : Bool := sIf q13 true (sNe (List.getD q11 (Int.toNat q5) (0 : Int)) (List.getD args (Int.toNat (Sc.toI (hd xs))) (0 : Int)));
  let q20 : Tg := Tg.block 1 (Tg.mix q19 Tg.r Tg.n); (sAnd (sIf q2 true true) (sIf (Tg.isN q3) (sAnd (sAnd (sAnd (sAnd q4 q2) true) (sAnd (sAnd (sAnd q9 (sAnd q9 (sAnd q10 (sAnd q10 (sAnd (sOr q8 (sAnd (sAnd q7 q7) true)) (sAnd (sIf q6 true q7) (sAnd q16 (sAnd q17 (sAnd q16 (sAnd (sOr q15 (sAnd q18 (sAnd (sLe 0 q5) (sLt q5 q12)))) (sAnd q17 (sAnd q16 (sAnd q16 (sAnd (sOr q15 (sAnd q18 (sAnd q4 (sLt (Sc.toI (hd xs)) ↑(List.length args))))) (sAnd q17 (sAnd (sOr q15 (sAnd q18 true)) (sAnd (sIf q13 true q14) true))))))))))))))))) true) (sIf q19 true true))) (sIf (Tg.isN q20) true true)) true), Tg.isN (Tg.thenN q3 (Tg.thenN q20 Tg.n)), [Sc.i (IntKind.wrap IntKind.i64 (Sc.toI (hd xs) + 1))])
noncomputable def L46_0 (sym : Int) (args : List Int) (fs : List (Sh.den funS)) : List Sc := Option.getD (whileW (s46_0 sym args fs) [Sc.i 0]) [Sc.i 0]
theorem nf46 (op : Int) (ty : Int) (dst : Int) (iargs : List Int) (imm : Int) (sym : Int) (elem : Int) (nw : Bool) (args : List Int) (gs : List (Sh.den gloS)) (fs : List (Sh.den funS)) : exFn (gN b53) Tryd.f46 [insA op ty dst iargs imm sym elem nw, AV.dsl (Sh.int IntKind.i64) args, modA gs fs] = (
  let q0 : Sh.den (Sh.prod (Sh.sl (Sh.int IntKind.i64)) (Sh.prod (Sh.int IntKind.i64) (Sh.prod (Sh.sl (Sh.int IntKind.i64)) (Sh.prod (Sh.sl blkS) Sh.unit)))) := Prod.snd (List.getD fs (Int.toNat sym) (Sh.dflt funS));
  let q1 : List Int := Prod.fst q0;
  let q2 : Bool := sLt (Sc.toI (hd (L46_0 sym args fs))) ↑(List.length q1);
  let q3 : Tg := Tg.mix q2 Tg.n (Tg.x 0);
  let q4 : Bool := sLe 0 (Sc.toI (hd (L46_0 sym args fs)));
  let q5 : Int := List.getD q1 (Int.toNat (Sc.toI (hd (L46_0 sym args fs)))) (0 : Int);
  let q6 : Bool := sLt q5 0;
  let q7 : Bool := sNot q6;
  let q8 : Bool := sNot q7;
  let q9 : Bool := sOr q8 true;
  let q10 : Bool := sOr q8 q7;
  let q11 : Sh.den (Sh.prod (Sh.int IntKind.i64) (Sh.prod (Sh.sl (Sh.int IntKind.i64)) (Sh.prod (Sh.sl blkS) Sh.unit))) := Prod.snd q0;
  let q12 : List Int := Prod.fst (Prod.snd q11);
  let q13 : Int := ↑(List.length q12);
  let q14 : Bool := sIf q6 true (sLe q13 q5);
  let q15 : Bool := sNot q14;
  let q16 : Bool := sNot q15;
  let q17 : Bool := sOr q16 true;
  let q18 : Bool := sOr q16 q15;
  let q19 : Bool := sAnd q15 q15;
  let q20 : Bool := sIf q14 true (sNe (List.getD q12 (Int.toNat q5) (0 : Int)) (List.getD args (Int.toNat (Sc.toI (hd (L46_0 sym args fs)))) (0 : Int)));
  let q21 : Tg := Tg.block 1 (Tg.mix q20 Tg.r Tg.n);
  let q22 : Bool := Tg.isN (Tg.block 0 (Tg.thenN q3 (Tg.thenN q21 Tg.n))); some (sAnd (sAnd (sAnd (sLe 0 sym) (sLt sym ↑(List.length fs))) true) (sAnd (sAnd (sSome (whileW (s46_0 sym args fs) [Sc.i 0])) (sAnd (sIf q2 true true) (sIf (Tg.isN q3) (sAnd (sAnd (sAnd (sAnd q4 q2) true) (sAnd (sAnd (sAnd q9 (sAnd q9 (sAnd q10 (sAnd q10 (sAnd (sOr q8 (sAnd (sAnd q7 q7) true)) (sAnd (sIf q6 true q7) (sAnd q17 (sAnd q18 (sAnd q17 (sAnd (sOr q16 (sAnd q19 (sAnd (sLe 0 q5) (sLt q5 q13)))) (sAnd q18 (sAnd q17 (sAnd q17 (sAnd (sOr q16 (sAnd q19 (sAnd q4 (sLt (Sc.toI (hd (L46_0 sym args fs))) ↑(List.length args))))) (sAnd q18 (sAnd (sOr q16 (sAnd q19 true)) (sAnd (sIf q14 true q15) true))))))))))))))))) true) (sIf q20 true true))) (sIf (Tg.isN q21) true true)) true))) (sIf q22 true true)), AV.bool (sIf q22 (sEq ty (Prod.fst q11)) false))) := by kernel_rfl
theorem sLe_eq (a b : Int) : sLe a b = sNot (sLt b a) := by
  unfold sLe sLt sNot
  by_cases h : a ≤ b
  · rw [decide_eq_true h, decide_eq_false (by omega)]; rfl
  · rw [decide_eq_false h, decide_eq_true (by omega)]; rfl
theorem sLt_true {a b : Int} (h : a < b) : sLt a b = true := decide_eq_true h
theorem sLt_false {a b : Int} (h : ¬ a < b) : sLt a b = false := decide_eq_false h
/-- The function that an instruction names. -/
abbrev fnAt (fs : List funS.den) (sym : Int) : funS.den := fs.getD sym.toNat (Sh.dflt funS)
def badP (sym : Int) (args : List Int) (fs : List funS.den) (j : Nat) : Bool :=
  sIf (sIf (sLt ((fnAt fs sym).2.1.getD j 0) 0) true (sLe ((fnAt fs sym).2.2.2.1.length : Int) ((fnAt fs sym).2.1.getD j 0))) true (sNe ((fnAt fs sym).2.2.2.1.getD ((fnAt fs sym).2.1.getD j 0).toNat 0) (args.getD j 0))
def badN (sym : Int) (args : List Int) (fs : List funS.den) : Nat := (List.range (fnAt fs sym).2.1.length).findIdx (badP sym args fs)
def calleeV (ty sym : Int) (args : List Int) (fs : List funS.den) : Bool := decide (badN sym args fs = (fnAt fs sym).2.1.length) && sEq ty (fnAt fs sym).2.2.1
theorem badN_le (sym : Int) (args : List Int) (fs : List funS.den) : badN sym args fs ≤ (fnAt fs sym).2.1.length := by
  have := @List.findIdx_le_length _ (badP sym args fs) (List.range (fnAt fs sym).2.1.length)
  simpa [badN] using this
theorem badN_lt {sym : Int} {args : List Int} {fs : List funS.den} {j : Nat} (h : j < badN sym args fs) : badP sym args fs j = false := by
  have h1 := badN_le sym args fs
  obtain ⟨h2, h3⟩ := runTail (d := 0) h
  rwa [List.getD_eq_getElem?_getD, List.getElem?_range (by omega)] at h3
theorem badN_at {sym : Int} {args : List Int} {fs : List funS.den} (h : badN sym args fs < (fnAt fs sym).2.1.length) : badP sym args fs (badN sym args fs) = true := by
  have h3 := runEnd (d := 0) (l := List.range (fnAt fs sym).2.1.length) (p := badP sym args fs) (by rw [List.length_range]; exact h)
  rwa [List.getD_eq_getElem?_getD, List.getElem?_range (by exact h)] at h3
theorem step46 (sym : Int) (args : List Int) (fs : List funS.den) (j : Nat) (hb : (fnAt fs sym).2.1.length ≤ bigL) (ha : (fnAt fs sym).2.1.length ≤ args.length) (hj : j < (fnAt fs sym).2.1.length) :
    s46_0 sym args fs [Sc.i (j : Int)] = (true, sNot (badP sym args fs j), [Sc.i ((j + 1 : Nat) : Int)]) := by
  have h1 : sLt (j : Int) ((fnAt fs sym).2.1.length : Int) = true := sLt_true (by omega)
  have h2 : sLt (j : Int) (args.length : Int) = true := sLt_true (by omega)
  have h3 : sLt (j : Int) 0 = false := sLt_false (by omega)
  simp only [s46_0, hd_cons, Sc.toI_i, Int.toNat_natCast, wrapL (show j < bigL by omega), badP, sLe_eq]
  rw [h1, h2, h3]
  generalize sLt (List.getD (fnAt fs sym).2.1 j 0) 0 = a
  generalize sLt (List.getD (fnAt fs sym).2.1 j 0) ((fnAt fs sym).2.2.2.1.length : Int) = b
  generalize sNe (List.getD (fnAt fs sym).2.2.2.1 (Int.toNat (List.getD (fnAt fs sym).2.1 j 0)) 0) (List.getD args j 0) = c
  cases a <;> cases b <;> cases c <;> rfl
theorem stop46 (sym : Int) (args : List Int) (fs : List funS.den) : s46_0 sym args fs [Sc.i ((fnAt fs sym).2.1.length : Int)] = (true, false, [Sc.i (IntKind.wrap .i64 (((fnAt fs sym).2.1.length : Int) + 1))]) := by
  have h1 : sLt ((fnAt fs sym).2.1.length : Int) ((fnAt fs sym).2.1.length : Int) = false := sLt_false (by omega)
  simp only [s46_0, hd_cons, Sc.toI_i, Int.toNat_natCast]
  rw [h1]
  rfl
theorem run46 (sym : Int) (args : List Int) (fs : List funS.den) (hb : (fnAt fs sym).2.1.length ≤ bigL) (ha : (fnAt fs sym).2.1.length ≤ args.length) : whileW (s46_0 sym args fs) [Sc.i 0] = some [Sc.i (badN sym args fs : Nat)] := by
  have hle := badN_le sym args fs
  refine whileW_upto (fun i => [Sc.i (i : Int)]) (badN sym args fs) rfl (fun j hj => ?_) ?_ ?_
  · show s46_0 sym args fs [Sc.i (j : Int)] = _
    rw [step46 sym args fs j hb ha (by omega), badN_lt hj]
    rfl
  · show (s46_0 sym args fs [Sc.i ((badN sym args fs : Nat) : Int)]).1 = true
    rcases Nat.lt_or_ge (badN sym args fs) (fnAt fs sym).2.1.length with h | h
    · rw [step46 sym args fs _ hb ha h]
    · rw [show badN sym args fs = (fnAt fs sym).2.1.length by omega, stop46]
  · show (s46_0 sym args fs [Sc.i ((badN sym args fs : Nat) : Int)]).2.1 = false
    rcases Nat.lt_or_ge (badN sym args fs) (fnAt fs sym).2.1.length with h | h
    · rw [step46 sym args fs _ hb ha h, badN_at h]; rfl
    · rw [show badN sym args fs = (fnAt fs sym).2.1.length by omega, stop46]
theorem nat46 (op ty dst : Int) (iargs : List Int) (imm sym elem : Int) (nw : Bool) (args : List Int) (gs : List gloS.den) (fs : List funS.den) (h0 : 0 ≤ sym) (h1 : sym < fs.length) (hb : (fnAt fs sym).2.1.length ≤ bigL) (ha : (fnAt fs sym).2.1.length ≤ args.length) :
    exFn (gN b53) Tryd.f46 [insA op ty dst iargs imm sym elem nw, AV.dsl (.int .i64) args, modA gs fs] = some (true, .bool (calleeV ty sym args fs)) := by
  rw [nf46]
  have hL : L46_0 sym args fs = [Sc.i (badN sym args fs : Nat)] := by unfold L46_0; rw [run46 sym args fs hb ha]; rfl
  rw [hL, run46 sym args fs hb ha]
  have hle := badN_le sym args fs
  have k0 : sLt sym 0 = false := sLt_false (by omega)
  have k1 : sLt sym (fs.length : Int) = true := sLt_true h1
  have k3 : sLt ((badN sym args fs : Nat) : Int) 0 = false := sLt_false (by omega)
  rcases Nat.lt_or_ge (badN sym args fs) (fnAt fs sym).2.1.length with h | h
  · have hq := badN_at h
    have k4 : sLt ((badN sym args fs : Nat) : Int) ((fnAt fs sym).2.1.length : Int) = true := sLt_true (by omega)
    have k5 : sLt ((badN sym args fs : Nat) : Int) (args.length : Int) = true := sLt_true (by omega)
    have k6 : decide (badN sym args fs = (fnAt fs sym).2.1.length) = false := decide_eq_false (by omega)
    simp only [hd_cons, Sc.toI_i, Int.toNat_natCast, sLe_eq, calleeV, k6]
    rw [k0, k1, k3, k4, k5]
    simp only [badP, sLe_eq] at hq
    revert hq
    generalize sLt (List.getD (fnAt fs sym).2.1 (badN sym args fs) 0) 0 = a
    generalize sLt (List.getD (fnAt fs sym).2.1 (badN sym args fs) 0) ((fnAt fs sym).2.2.2.1.length : Int) = b
    generalize sNe (List.getD (fnAt fs sym).2.2.2.1 (Int.toNat (List.getD (fnAt fs sym).2.1 (badN sym args fs) 0)) 0) (List.getD args (badN sym args fs) 0) = c
    cases a <;> cases b <;> cases c <;> intro hq <;> first | (exact absurd hq (by decide)) | rfl
  · have e : badN sym args fs = (fnAt fs sym).2.1.length := by omega
    have k6 : decide (badN sym args fs = (fnAt fs sym).2.1.length) = true := decide_eq_true e
    have k4 : sLt ((badN sym args fs : Nat) : Int) ((fnAt fs sym).2.1.length : Int) = false := sLt_false (by omega)
    simp only [hd_cons, Sc.toI_i, Int.toNat_natCast, sLe_eq, calleeV, k6, Bool.true_and]
    rw [k0, k1, k4]
    rfl
/-- The contract of the check of a call. -/
def n46 (xs : List AV) : Option (Bool × AV) :=
  match xs with
  | [a, b, c] => (asIns a).bind fun i => (asInts b).bind fun l => (asMod c).bind fun m =>
      some (sAnd (sLe 0 i.2.2.2.2.2.1) (sAnd (sLt i.2.2.2.2.2.1 (m.2.length : Int)) (sAnd (okLen (fnAt m.2 i.2.2.2.2.2.1).2.1.length) (leLen (fnAt m.2 i.2.2.2.2.2.1).2.1.length l.length))), .bool (calleeV i.2.1 i.2.2.2.2.2.1 l m.2))
  | _ => none
noncomputable def b46 : Tab := (46, n46) :: b47
theorem bk46 (hm : Tryd.prog.follows .mixedOrders = true) : TabOk b46 := (bk47 hm).cons (TabOk.readW (bk53 hm) hm Tryd.func46 (by decide) (by rfl) (by
  intro xs r h
  unfold n46 at h
  split at h
  · rename_i a b c
    simp only [Option.bind_eq_some_iff, Option.some.injEq, Prod.mk.injEq] at h
    obtain ⟨i, hi, l, hl, m, hm, h1, rfl⟩ := h
    simp only [sAnd, sLe, sLt, Bool.and_eq_true, decide_eq_true_eq] at h1
    obtain ⟨h1, h2, h3, h4⟩ := h1
    rw [asIns_eq hi, asInts_eq hl, asMod_eq hm]
    exact nat46 _ _ _ _ _ _ _ _ _ _ _ h1 h2 (Nat.le_of_ble_eq_true h3) (Nat.le_of_ble_eq_true h4)
  · cases h))
end Go.Proofs.YtlidfaaajjfgfaaDoor
