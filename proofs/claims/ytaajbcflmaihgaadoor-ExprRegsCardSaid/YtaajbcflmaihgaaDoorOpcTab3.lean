/- The contracts of the parts of the check of an instruction. No conditions. -/
import Derived.Test.YtaajbcflmaihgaaDoorOpcParts
set_option linter.all false
namespace Go.Proofs.YtaajbcflmaihgaaDoor
open Go Ab
open Classical in
noncomputable def fitsB (op : Int) (n : Nat) (sym : Int) (fs : List funS.den) : Bool := decide (fits op n sym fs)
open Classical in
theorem fits_of {op : Int} {n : Nat} {sym : Int} {fs : List funS.den} (h : fitsB op n sym fs = true) : fits op n sym fs := of_decide_eq_true h
open Classical in
theorem of_fits {op : Int} {n : Nat} {sym : Int} {fs : List funS.den} (h : fits op n sym fs) : fitsB op n sym fs = true := decide_eq_true h
def okC (op sym : Int) (fs : List funS.den) : Bool := decide (1 ≤ op) && (decide (op ≤ 33) && (if op = 30 then decide (0 ≤ sym) && decide (sym < (fs.length : Int)) else true))
def okR (ty dst : Int) (regs : List Int) : Bool := decide (ty = 0 ∨ dst = -1 ∨ (0 ≤ dst ∧ dst < (regs.length : Int)))
def okI (op : Int) (n : Nat) : Bool := decide (op = 33 → 1 ≤ n)
noncomputable def n30 (xs : List AV) : Option (Bool × AV) :=
  match xs with
  | [a] => (asIns a).bind fun i => some (true, .int .i64 (fieldsV i.1 i.2.2.2.2.1 i.2.2.2.2.2.1 i.2.2.2.2.2.2.1 i.2.2.2.2.2.2.2))
  | _ => none
noncomputable def d30 : Tab := (45, n30) :: b46
theorem dk30 (hm : Tryd.prog.follows .mixedOrders = true) : TabOk d30 := (bk46 hm).cons (TabOk.readW (bk46 hm) hm Tryd.func45 (by decide) (by rfl) (by
  intro xs r h
  unfold n30 at h
  split at h
  · simp only [Option.bind_eq_some_iff, Option.some.injEq, Prod.mk.injEq] at h
    obtain ⟨i, hi, h1, rfl⟩ := h
    rw [asIns_eq hi]
    exact (nf30 _ _ _ _ _ _ _ _).trans (eta30 _ _ _ _ _ (good30 _ _ _ _ _))
  · cases h))
noncomputable def n31 (xs : List AV) : Option (Bool × AV) :=
  match xs with
  | [a, c] => (asIns a).bind fun i => (asMod c).bind fun m => some (true, .int .i64 (symV i.1 i.2.2.2.2.2.1 m.1 m.2))
  | _ => none
noncomputable def d31 : Tab := (46, n31) :: d30
theorem dk31 (hm : Tryd.prog.follows .mixedOrders = true) : TabOk d31 := (dk30 hm).cons (TabOk.readW (bk46 hm) hm Tryd.func46 (by decide) (by rfl) (by
  intro xs r h
  unfold n31 at h
  split at h
  · simp only [Option.bind_eq_some_iff, Option.some.injEq, Prod.mk.injEq] at h
    obtain ⟨i, hi, m, hm, h1, rfl⟩ := h
    rw [asIns_eq hi, asMod_eq hm]
    exact (nf31 _ _ _ _ _ _ _ _ _ _).trans (eta31 _ _ _ _ (good31 _ _ _ _))
  · cases h))
noncomputable def n32 (xs : List AV) : Option (Bool × AV) :=
  match xs with
  | [a, c] => (asIns a).bind fun i => (asMod c).bind fun m => some (okC i.1 i.2.2.2.2.2.1 m.2, .int .i64 (countV i.1 i.2.2.2.1 i.2.2.2.2.2.1 m.2))
  | _ => none
noncomputable def d32 : Tab := (47, n32) :: d31
theorem dk32 (hm : Tryd.prog.follows .mixedOrders = true) : TabOk d32 := (dk31 hm).cons (TabOk.readW (bk46 hm) hm Tryd.func47 (by decide) (by rfl) (by
  intro xs r h
  unfold n32 at h
  split at h
  · simp only [Option.bind_eq_some_iff, Option.some.injEq, Prod.mk.injEq] at h
    obtain ⟨i, hi, m, hm, h1, rfl⟩ := h
    rw [asIns_eq hi, asMod_eq hm]
    exact (nf32 _ _ _ _ _ _ _ _ _ _).trans (eta32 _ _ _ _ (by simp only [okC, Bool.and_eq_true, decide_eq_true_eq] at h1; exact good32 _ _ _ _ h1.1 h1.2.1 (fun e => by have := h1.2.2; rw [if_pos e] at this; simpa using this)))
  · cases h))
noncomputable def n33 (xs : List AV) : Option (Bool × AV) :=
  match xs with
  | [a, b, c] => (asIns a).bind fun i => (asInts b).bind fun l => (asMod c).bind fun m => some (fitsB i.1 l.length i.2.2.2.2.2.1 m.2, .bool (typedV i.1 i.2.1 i.2.2.2.2.2.1 l m.2))
  | _ => none
noncomputable def d33 : Tab := (48, n33) :: d32
theorem dk33 (hm : Tryd.prog.follows .mixedOrders = true) : TabOk d33 := (dk32 hm).cons (TabOk.readW (bk46 hm) hm Tryd.func48 (by decide) (by rfl) (by
  intro xs r h
  unfold n33 at h
  split at h
  · simp only [Option.bind_eq_some_iff, Option.some.injEq, Prod.mk.injEq] at h
    obtain ⟨i, hi, l, hl, m, hm, h1, rfl⟩ := h
    rw [asIns_eq hi, asInts_eq hl, asMod_eq hm]
    exact (nf33 _ _ _ _ _ _ _ _ _ _ _).trans (eta33 _ _ _ _ _ (good33 _ _ _ _ _ (fits_of h1)))
  · cases h))
noncomputable def n34 (xs : List AV) : Option (Bool × AV) :=
  match xs with
  | [a, c] => (asIns a).bind fun i => (asFun c).bind fun f => some (okR i.2.1 i.2.2.1 f.2.2.2.1, .bool (resV i.1 i.2.1 i.2.2.1 f.2.2.2.1))
  | _ => none
noncomputable def d34 : Tab := (49, n34) :: d33
theorem dk34 (hm : Tryd.prog.follows .mixedOrders = true) : TabOk d34 := (dk33 hm).cons (TabOk.readW (bk46 hm) hm Tryd.func49 (by decide) (by rfl) (by
  intro xs r h
  unfold n34 at h
  split at h
  · simp only [Option.bind_eq_some_iff, Option.some.injEq, Prod.mk.injEq] at h
    obtain ⟨i, hi, f, hf, h1, rfl⟩ := h
    rw [asIns_eq hi, asFun_eq hf]
    exact (nf34 _ _ _ _ _ _ _ _ _ _ _ _ _).trans (eta34 _ _ _ _ (by simp only [okR, decide_eq_true_eq] at h1; exact good34 _ _ _ _ (fun e1 e2 => by rcases h1 with h | h | h; exact absurd h e1; exact absurd h e2; exact h)))
  · cases h))
noncomputable def n35 (xs : List AV) : Option (Bool × AV) :=
  match xs with
  | [a, b] => (asIns a).bind fun i => (asInts b).bind fun l => some (okI i.1 l.length, .int .i64 (immV i.1 i.2.1 i.2.2.2.2.1 i.2.2.2.2.2.2.1 l))
  | _ => none
noncomputable def d35 : Tab := (50, n35) :: d34
theorem dk35 (hm : Tryd.prog.follows .mixedOrders = true) : TabOk d35 := (dk34 hm).cons (TabOk.readW (bk46 hm) hm Tryd.func50 (by decide) (by rfl) (by
  intro xs r h
  unfold n35 at h
  split at h
  · simp only [Option.bind_eq_some_iff, Option.some.injEq, Prod.mk.injEq] at h
    obtain ⟨i, hi, l, hl, h1, rfl⟩ := h
    rw [asIns_eq hi, asInts_eq hl]
    exact (nf35 _ _ _ _ _ _ _ _ _).trans (eta35 _ _ _ _ _ (by simp only [okI, decide_eq_true_eq] at h1; exact good35 _ _ _ _ _ h1))
  · cases h))
end Go.Proofs.YtaajbcflmaihgaaDoor
/- The check of an instruction, in natural form. No conditions. -/
set_option linter.all false
namespace Go.Proofs.YtaajbcflmaihgaaDoor
open Go Ab
set_option maxRecDepth 1000000
noncomputable def s24_0 (iargs : List Int) (regs : List Int) : List Sc → Bool × Bool × List Sc := fun xs => let q0 : Bool := sLt (Sc.toI (hd xs)) ↑(List.length iargs);
  let q1 : Tg := Tg.mix q0 Tg.n (Tg.x 0);
  let q2 : Int := List.getD iargs (Int.toNat (Sc.toI (hd xs))) (0 : Int);
  let q3 : Bool := sLt q2 0;
  let q4 : Bool := sNot q3;
  let q5 : Bool := sNot q4;
  let q6 : Bool := sOr q5 true;
  let q7 : Bool := sOr q5 q4;
  let q8 : Bool := sIf q3 true (sLe (↑(List.length regs)) q2);
  let q9 : Tg := Tg.mix q8 Tg.r Tg.n;
  let q10 : List (Int) := [List.getD regs (Int.toNat q2) (0 : Int)];
  let q11 : Tg := Tg.block 1 (Tg.thenN q9 Tg.n); (sAnd true (sAnd (sAnd true (sIf q0 true true)) (sIf (Tg.isN q1) (sAnd (sAnd (sAnd (sAnd true (sAnd (sLe 0 (Sc.toI (hd xs))) q0)) true) (sAnd (sAnd (sAnd true (sAnd true (sAnd true (sAnd q6 (sAnd q6 (sAnd q7 (sAnd q7 (sAnd (sOr q5 (sAnd (sAnd q4 q4) true)) (sAnd (sAnd true (sIf q3 true q4)) true))))))))) (sAnd true (sIf q8 true true))) (sIf (Tg.isN q9) (sAnd true (sAnd true (sAnd true (sAnd true (sAnd (sAnd true (sAnd (sLe 0 q2) (sLt q2 ↑(List.length regs)))) (sAnd true (sAnd true (sAnd (sAnd true (sLe (↑((List.length (Sc.toD (Sh.sl (Sh.int IntKind.i64)) (hd (tl xs))) + List.length q10) * 8)) 140737488355328)) true)))))))) true))) (sIf (Tg.isN q11) true true)) true)), Tg.isN (Tg.thenN q1 (Tg.thenN q11 Tg.n)), [Sc.i (IntKind.wrap IntKind.i64 (Sc.toI (hd xs) + 1)), Sc.d (Sh.sl (Sh.int IntKind.i64)) (Sc.toD (Sh.sl (Sh.int IntKind.i64)) (hd (tl xs)) ++ q10)])
noncomputable def L24_0 (iargs : List Int) (regs : List Int) : List Sc := Option.getD (whileW (s24_0 iargs regs) [Sc.i 0, Sc.d (Sh.sl (Sh.int IntKind.i64)) []]) [Sc.i 0, Sc.d (Sh.sl (Sh.int IntKind.i64)) []]
theorem nf24 (op : Int) (ty : Int) (dst : Int) (iargs : List Int) (imm : Int) (sym : Int) (elem : Int) (nw : Bool) (fnm : ByteArray) (fps : List Int) (fres : Int) (regs : List Int) (fbl : List (Sh.den blkS)) (gs : List (Sh.den gloS)) (fs : List (Sh.den funS)) : exFn (gN d35) Tryd.f28 [insA op ty dst iargs imm sym elem nw, funA fnm fps fres regs fbl, modA gs fs] = (
  let q0 : Bool := Tg.isN (Tg.mix (bEq (nameOf op) (ByteArray.mk (Array.mk []))) Tg.r Tg.n);
  let q1 : Bool := sNe (fieldsV op imm sym elem nw) 0;
  let q2 : Bool := Tg.isN (Tg.mix q1 Tg.r Tg.n);
  let q3 : Bool := sNe (symV op sym gs fs) 0;
  let q4 : Bool := Tg.isN (Tg.mix q3 Tg.r Tg.n);
  let q5 : Bool := sNe (countV op iargs sym fs) 0;
  let q6 : Bool := Tg.isN (Tg.mix q5 Tg.r Tg.n);
  let q7 : Bool := sLt (Sc.toI (hd (L24_0 iargs regs))) ↑(List.length iargs);
  let q8 : Tg := Tg.mix q7 Tg.n (Tg.x 0);
  let q9 : Int := List.getD iargs (Int.toNat (Sc.toI (hd (L24_0 iargs regs)))) (0 : Int);
  let q10 : Bool := sLt q9 0;
  let q11 : Bool := sNot q10;
  let q12 : Bool := sNot q11;
  let q13 : Bool := sOr q12 true;
  let q14 : Bool := sOr q12 q11;
  let q15 : Bool := sIf q10 true (sLe (↑(List.length regs)) q9);
  let q16 : Tg := Tg.mix q15 Tg.r Tg.n;
  let q17 : List Int := Sc.toD (Sh.sl (Sh.int IntKind.i64)) (hd (tl (L24_0 iargs regs)));
  let q18 : Tg := Tg.block 1 (Tg.thenN q16 Tg.n);
  let q19 : Bool := Tg.isN (Tg.block 0 (Tg.thenN q8 (Tg.thenN q18 Tg.n)));
  let q20 : Bool := sLt dst (-1);
  let q21 : Bool := sNot q20;
  let q22 : Bool := sNot q21;
  let q23 : Bool := sOr q22 true;
  let q24 : Bool := sOr q22 q21;
  let q25 : Bool := sIf q20 true (sLe (↑(List.length regs)) dst);
  let q26 : Bool := Tg.isN (Tg.mix q25 Tg.r Tg.n);
  let q27 : Nat := List.length q17;
  let q28 : Bool := sNot (typedV op ty sym q17 fs);
  let q29 : Bool := sNot q28;
  let q30 : Bool := sNot q29;
  let q31 : Bool := sOr q30 true;
  let q32 : Bool := sIf q28 true (sNot (resV op ty dst regs));
  let q33 : Bool := Tg.isN (Tg.mix q32 Tg.r Tg.n); some (sAnd true (sAnd (sAnd true (sAnd true (sIf (bEq (nameOf op) (ByteArray.mk (Array.mk []))) true true))) (sIf q0 (sAnd (sAnd true (sAnd true (sAnd true (sIf q1 true true)))) (sIf q2 (sAnd (sAnd true (sAnd true (sAnd true (sIf q3 true true)))) (sIf q4 (sAnd (sAnd (sAnd true (sAnd true (sAnd (sAnd true (okC op sym fs)) true))) (sAnd true (sAnd true (sIf q5 true true)))) (sIf q6 (sAnd true (sAnd (sAnd true (sAnd (sSome (whileW (s24_0 iargs regs) [Sc.i 0, Sc.d (Sh.sl (Sh.int IntKind.i64)) []])) (sAnd true (sAnd (sAnd true (sIf q7 true true)) (sIf (Tg.isN q8) (sAnd (sAnd (sAnd (sAnd true (sAnd (sLe 0 (Sc.toI (hd (L24_0 iargs regs)))) q7)) true) (sAnd (sAnd (sAnd true (sAnd true (sAnd true (sAnd q13 (sAnd q13 (sAnd q14 (sAnd q14 (sAnd (sOr q12 (sAnd (sAnd q11 q11) true)) (sAnd (sAnd true (sIf q10 true q11)) true))))))))) (sAnd true (sIf q15 true true))) (sIf (Tg.isN q16) (sAnd true (sAnd true (sAnd true (sAnd true (sAnd (sAnd true (sAnd (sLe 0 q9) (sLt q9 ↑(List.length regs)))) (sAnd true (sAnd true (sAnd (sAnd true (sLe (↑((List.length q17 + List.length [List.getD regs (Int.toNat q9) (0 : Int)]) * 8)) 140737488355328)) true)))))))) true))) (sIf (Tg.isN q18) true true)) true))))) (sIf q19 (sAnd (sAnd (sAnd true (sAnd true (sAnd true (sAnd true (sAnd q23 (sAnd q24 (sAnd q23 (sAnd q24 (sAnd q24 (sAnd (sOr q22 (sAnd (sAnd q21 q21) true)) (sAnd (sAnd true (sIf q20 true q21)) true))))))))))) (sAnd true (sIf q25 true true))) (sIf q26 (sAnd (sAnd (sAnd true (sAnd true (sAnd true (sAnd (sAnd true (fitsB op q27 sym fs)) (sAnd true (sAnd true (sAnd q31 (sAnd q31 (sAnd (sOr q30 (sAnd (sAnd q29 (sAnd q29 true)) (okR ty dst regs))) (sAnd (sOr q30 q29) (sAnd (sAnd true (sIf q28 true q29)) true))))))))))) (sAnd true (sIf q32 true true))) (sIf q33 (sAnd (sAnd true (sAnd true (sAnd (sAnd true (okI op q27)) true))) true) true)) true)) true))) true)) true)) true)) true)), AV.int IntKind.i64 (sIf q0 (sIf q2 (sIf q4 (sIf q6 (sIf q19 (sIf q26 (sIf q33 (immV op ty imm elem q17) 9) 10) 10) (countV op iargs sym fs)) (symV op sym gs fs)) (fieldsV op imm sym elem nw)) 8))) := by kernel_rfl
set_option maxRecDepth 100000
theorem bEq_self' (x : ByteArray) : bEq x x = true := (bEq_iff x x).2 rfl
theorem name_range {op : Int} (h : bEq (nameOf op) (ByteArray.mk (Array.mk [])) = false) : 1 ≤ op ∧ op ≤ 33 := by
  refine ⟨?_, ?_⟩
  · apply Decidable.byContradiction
    intro h1
    have e : op.toNat = 0 := by omega
    have : nameOf op = ByteArray.mk (Array.mk []) := by unfold nameOf; rw [e]; rfl
    rw [this, bEq_self'] at h
    cases h
  · apply Decidable.byContradiction
    intro h1
    have e : opsL[op.toNat]? = none := List.getElem?_eq_none (by rw [ops_len]; omega)
    have : nameOf op = ByteArray.mk (Array.mk []) := by unfold nameOf; rw [List.getD_eq_getElem?_getD, e]; rfl
    rw [this, bEq_self'] at h
    cases h
theorem sym_range {op sym : Int} {gs : List gloS.den} {fs : List funS.den} (h : symV op sym gs fs = 0) (e : op = 30) : 0 ≤ sym ∧ sym < (fs.length : Int) := by
  subst e
  simp [symV, intOf, r31, sIf, sEq, sLt, sLe] at h
  grind
/-- The number of operands that an operation takes. -/
def wantN (op : Int) (n : Nat) (sym : Int) (fs : List funS.den) : Nat :=
  if op = 30 then (fnAt fs sym).2.1.length else if op = 32 then (if n = 4 then 4 else 2) else if op = 1 ∨ op = 2 ∨ op = 25 ∨ op = 26 then 0 else if op = 3 ∨ op = 4 ∨ op = 22 ∨ op = 23 ∨ op = 24 ∨ op = 28 ∨ op = 31 ∨ op = 33 then 1 else if op = 21 then 3 else 2
set_option maxHeartbeats 0 in
theorem count_eq {op : Int} (h1 : 1 ≤ op) (h2 : op ≤ 33) (iargs : List Int) (sym : Int) (fs : List funS.den) : countV op iargs sym fs = if iargs.length = wantN op iargs.length sym fs then 0 else 3 := by
  have : op = 1 ∨ op = 2 ∨ op = 3 ∨ op = 4 ∨ op = 5 ∨ op = 6 ∨ op = 7 ∨ op = 8 ∨ op = 9 ∨ op = 10 ∨ op = 11 ∨ op = 12 ∨ op = 13 ∨ op = 14 ∨ op = 15 ∨ op = 16 ∨ op = 17 ∨ op = 18 ∨ op = 19 ∨ op = 20 ∨ op = 21 ∨ op = 22 ∨ op = 23 ∨ op = 24 ∨ op = 25 ∨ op = 26 ∨ op = 27 ∨ op = 28 ∨ op = 29 ∨ op = 30 ∨ op = 31 ∨ op = 32 ∨ op = 33 := by omega
  rcases this with rfl | rfl | rfl | rfl | rfl | rfl | rfl | rfl | rfl | rfl | rfl | rfl | rfl | rfl | rfl | rfl | rfl | rfl | rfl | rfl | rfl | rfl | rfl | rfl | rfl | rfl | rfl | rfl | rfl | rfl | rfl | rfl | rfl
  all_goals
    simp [countV, intOf, r32, sIf, sEq, sNe, wantN, rowsL, IntKind.wrap, IntKind.signed, IntKind.bits]
    try grind
theorem count_fits {op : Int} (h1 : 1 ≤ op) (h2 : op ≤ 33) {iargs : List Int} {sym : Int} {gs : List gloS.den} {fs : List funS.den} (hs : symV op sym gs fs = 0) (hb : iargs.length ≤ bigL) (h : countV op iargs sym fs = 0) : fits op iargs.length sym fs := by
  rw [count_eq h1 h2] at h
  have hw : iargs.length = wantN op iargs.length sym fs := by
    apply Decidable.byContradiction
    intro hn
    rw [if_neg hn] at h
    cases h
  refine ⟨h1, h2, hb, fun e => ?_, fun e => ?_, fun e => ?_⟩
  · have : wantN op iargs.length sym fs = 2 := by rcases e with e | e | e | e | e | e | e <;> (subst e; simp [wantN])
    omega
  · have : 1 ≤ wantN op iargs.length sym fs := by rcases e with e | e | e | e | e | e | e <;> (subst e; simp [wantN])
    omega
  · have := sym_range hs e
    subst e
    have hw : iargs.length = (fnAt fs sym).2.1.length := hw
    exact ⟨this.1, this.2, by omega⟩
def badR (regs : List Int) (r : Int) : Bool := sIf (sLt r 0) true (sLe (regs.length : Int) r)
def badRN (iargs regs : List Int) : Nat := iargs.findIdx (badR regs)
def regsOf (iargs regs : List Int) : List Int := iargs.map fun r => regs.getD r.toNat 0
/-- The error of an instruction. -/
noncomputable def chkV (op ty dst : Int) (iargs : List Int) (imm sym elem : Int) (nw : Bool) (regs : List Int) (gs : List gloS.den) (fs : List funS.den) : Int :=
  sIf (bEq (nameOf op) (ByteArray.mk (Array.mk []))) 8 (sIf (sNe (fieldsV op imm sym elem nw) 0) (fieldsV op imm sym elem nw) (sIf (sNe (symV op sym gs fs) 0) (symV op sym gs fs) (sIf (sNe (countV op iargs sym fs) 0) (countV op iargs sym fs)
    (sIf (decide (badRN iargs regs < iargs.length)) 10 (sIf (sIf (sLt dst (-1)) true (sLe (regs.length : Int) dst)) 10 (sIf (sIf (sNot (typedV op ty sym (regsOf iargs regs) fs)) true (sNot (resV op ty dst regs))) 9 (immV op ty imm elem (regsOf iargs regs))))))))
def stR (iargs regs : List Int) (i : Nat) : List Sc := [Sc.i (i : Int), Sc.d (Sh.sl (Sh.int IntKind.i64)) (regsOf (iargs.take i) regs)]
theorem take_regs (iargs regs : List Int) {j : Nat} (hj : j < iargs.length) : regsOf (iargs.take (j + 1)) regs = regsOf (iargs.take j) regs ++ [regs.getD (iargs.getD j 0).toNat 0] := by
  have e : iargs.take (j + 1) = iargs.take j ++ [iargs[j]] := (List.take_append_getElem hj).symm
  have e2 : iargs.getD j 0 = iargs[j] := by rw [List.getD_eq_getElem?_getD, List.getElem?_eq_getElem hj]; rfl
  rw [e2]
  unfold regsOf
  rw [e, List.map_append]
  rfl
set_option maxHeartbeats 0 in
theorem step24 (iargs regs : List Int) (j : Nat) (hb : iargs.length ≤ 1000) (hj : j < iargs.length) :
    (badR regs (iargs.getD j 0) = false → s24_0 iargs regs (stR iargs regs j) = (true, true, stR iargs regs (j + 1))) ∧
    (badR regs (iargs.getD j 0) = true → (s24_0 iargs regs (stR iargs regs j)).1 = true ∧ (s24_0 iargs regs (stR iargs regs j)).2.1 = false) := by
  have h1 : sLt (j : Int) (iargs.length : Int) = true := sLt_true (by omega)
  have h3 : sLt (j : Int) 0 = false := sLt_false (by omega)
  have hl : (regsOf (iargs.take j) regs).length = j := by simp [regsOf]; omega
  have hs := take_regs iargs regs hj
  have hsz : sLe (((((regsOf (iargs.take j) regs).length + [regs.getD (iargs.getD j 0).toNat 0].length) * 8 : Nat)) : Int) 140737488355328 = true := by
    rw [hl]
    exact decide_eq_true (by simp; omega)
  refine ⟨fun hq => ?_, fun hq => ?_⟩
  · simp only [s24_0, stR, hd_cons, tl_cons, Sc.toI_i, Sc.toD_d, Int.toNat_natCast, wrapL (show j < bigL by unfold bigL; omega), hs, hsz]
    rw [sLe_eq 0 (j : Int), h1, h3]
    simp only [badR, sLe_eq] at hq ⊢
    revert hq
    generalize sLt (List.getD iargs j 0) 0 = a
    generalize sLt (List.getD iargs j 0) (regs.length : Int) = b
    cases a <;> cases b <;> intro hq <;> first | (exact absurd hq (by decide)) | rfl
  · simp only [s24_0, stR, hd_cons, tl_cons, Sc.toI_i, Sc.toD_d, Int.toNat_natCast, hsz]
    rw [sLe_eq 0 (j : Int), h1, h3]
    simp only [badR, sLe_eq] at hq ⊢
    revert hq
    generalize sLt (List.getD iargs j 0) 0 = a
    generalize sLt (List.getD iargs j 0) (regs.length : Int) = b
    cases a <;> cases b <;> intro hq <;> first | (exact absurd hq (by decide)) | exact ⟨rfl, rfl⟩
theorem stop24 (iargs regs : List Int) : (s24_0 iargs regs (stR iargs regs iargs.length)).1 = true ∧ (s24_0 iargs regs (stR iargs regs iargs.length)).2.1 = false := by
  have h1 : sLt (iargs.length : Int) (iargs.length : Int) = false := sLt_false (by omega)
  simp only [s24_0, stR, hd_cons, tl_cons, Sc.toI_i, Sc.toD_d, Int.toNat_natCast]
  rw [h1]
  exact ⟨rfl, rfl⟩
theorem badRN_le (iargs regs : List Int) : badRN iargs regs ≤ iargs.length := List.findIdx_le_length
theorem run24 (iargs regs : List Int) (hb : iargs.length ≤ 1000) : whileW (s24_0 iargs regs) [Sc.i 0, Sc.d (Sh.sl (Sh.int IntKind.i64)) []] = some (stR iargs regs (badRN iargs regs)) := by
  have hle := badRN_le iargs regs
  have hend : (s24_0 iargs regs (stR iargs regs (badRN iargs regs))).1 = true ∧ (s24_0 iargs regs (stR iargs regs (badRN iargs regs))).2.1 = false := by
    rcases Nat.lt_or_ge (badRN iargs regs) iargs.length with h | h
    · exact (step24 iargs regs _ hb h).2 (runEnd (d := (0 : Int)) h)
    · rw [show badRN iargs regs = iargs.length by omega]
      exact stop24 iargs regs
  refine whileW_upto (stR iargs regs) (badRN iargs regs) (by simp [stR, regsOf]) (fun j hj => ?_) hend.1 hend.2
  exact (step24 iargs regs j hb (by omega)).1 (runTail (d := (0 : Int)) hj).2
set_option maxHeartbeats 0 in
theorem nat24 (op ty dst : Int) (iargs : List Int) (imm sym elem : Int) (nw : Bool) (fnm : ByteArray) (fps : List Int) (fres : Int) (regs : List Int) (fbl : List blkS.den) (gs : List gloS.den) (fs : List funS.den) (hb : iargs.length ≤ 1000) :
    exFn (gN d35) Tryd.f28 [insA op ty dst iargs imm sym elem nw, funA fnm fps fres regs fbl, modA gs fs] = some (true, .int .i64 (chkV op ty dst iargs imm sym elem nw regs gs fs)) := by
  rw [nf24]
  have hL : L24_0 iargs regs = stR iargs regs (badRN iargs regs) := by unfold L24_0; rw [run24 iargs regs hb]; rfl
  rw [hL, run24 iargs regs hb]
  have hle := badRN_le iargs regs
  unfold chkV
  cases h0 : bEq (nameOf op) (ByteArray.mk (Array.mk []))
  case true => rfl
  have hr := name_range h0
  cases h1 : sNe (fieldsV op imm sym elem nw) 0
  case true => rfl
  cases h2 : sNe (symV op sym gs fs) 0
  case true => rfl
  have hs : symV op sym gs fs = 0 := by simpa [sNe] using h2
  have hc : okC op sym fs = true := by
    simp only [okC, Bool.and_eq_true, decide_eq_true_eq]
    refine ⟨hr.1, hr.2, ?_⟩
    split
    · rename_i e
      have := sym_range hs e
      simp [this.1, this.2]
    · rfl
  cases h3 : sNe (countV op iargs sym fs) 0
  case true => rw [hc]; rfl
  have hf := count_fits hr.1 hr.2 hs (by unfold bigL; omega) (show countV op iargs sym fs = 0 by simpa [sNe] using h3)
  rw [hc]
  rcases Nat.lt_or_ge (badRN iargs regs) iargs.length with h | h
  · have hq : badR regs (iargs.getD (badRN iargs regs) 0) = true := runEnd (d := (0 : Int)) h
    have k1 : sLt ((badRN iargs regs : Nat) : Int) (iargs.length : Int) = true := sLt_true (by omega)
    have k2 : sLt ((badRN iargs regs : Nat) : Int) 0 = false := sLt_false (by omega)
    rw [decide_eq_true h]
    simp only [stR, hd_cons, tl_cons, Sc.toI_i, Sc.toD_d, Int.toNat_natCast, k1]
    rw [sLe_eq 0 ((badRN iargs regs : Nat) : Int), k2]
    simp only [badR, sLe_eq] at hq ⊢
    revert hq
    generalize sLt (List.getD iargs (badRN iargs regs) 0) 0 = a
    generalize sLt (List.getD iargs (badRN iargs regs) 0) (regs.length : Int) = b
    cases a <;> cases b <;> intro hq <;> first | (exact absurd hq (by decide)) | rfl
  · have e : badRN iargs regs = iargs.length := by omega
    have k1 : sLt ((badRN iargs regs : Nat) : Int) (iargs.length : Int) = false := sLt_false (by omega)
    rw [decide_eq_false (by omega : ¬ badRN iargs regs < iargs.length)]
    have k3 : regsOf (iargs.take (badRN iargs regs)) regs = regsOf iargs regs := by rw [e, List.take_length]
    simp only [stR, hd_cons, tl_cons, Sc.toI_i, Sc.toD_d, Int.toNat_natCast, k1, k3]
    have kl : (regsOf iargs regs).length = iargs.length := by simp [regsOf]
    have kf : fitsB op (regsOf iargs regs).length sym fs = true := by rw [kl]; exact of_fits hf
    have ki : okI op (regsOf iargs regs).length = true := by rw [kl]; exact decide_eq_true (fun e => hf.2.2.2.2.1 (by simp [e]))
    rw [kf, ki]
    cases h4 : sLt dst (-1)
    case true => rfl
    cases h5 : sLe (regs.length : Int) dst
    case true => rfl
    have kr : okR ty dst regs = true := by
      have h4 : ¬ dst < -1 := of_decide_eq_false h4
      have h5 : ¬ (regs.length : Int) ≤ dst := of_decide_eq_false h5
      exact decide_eq_true (by omega)
    rw [kr]
    generalize typedV op ty sym (regsOf iargs regs) fs = a
    generalize resV op ty dst regs = b
    cases a <;> cases b <;> rfl
def len1000 (n : Nat) : Bool := Nat.ble n 1000
noncomputable def n24 (xs : List AV) : Option (Bool × AV) :=
  match xs with
  | [a, b, c] => (asIns a).bind fun i => (asFun b).bind fun f => (asMod c).bind fun m => some (len1000 i.2.2.2.1.length, .int .i64 (chkV i.1 i.2.1 i.2.2.1 i.2.2.2.1 i.2.2.2.2.1 i.2.2.2.2.2.1 i.2.2.2.2.2.2.1 i.2.2.2.2.2.2.2 f.2.2.2.1 m.1 m.2))
  | _ => none
noncomputable def d24 : Tab := (28, n24) :: d35
theorem dk24 (hm : Tryd.prog.follows .mixedOrders = true) : TabOk d24 := (dk35 hm).cons (TabOk.readW (dk35 hm) hm Tryd.func28 (by decide) (by rfl) (by
  intro xs r h
  unfold n24 at h
  split at h
  · simp only [Option.bind_eq_some_iff, Option.some.injEq, Prod.mk.injEq] at h
    obtain ⟨i, hi, f, hf, m, hm, h1, rfl⟩ := h
    rw [asIns_eq hi, asFun_eq hf, asMod_eq hm]
    exact nat24 _ _ _ _ _ _ _ _ _ _ _ _ _ _ _ (Nat.le_of_ble_eq_true h1)
  · cases h))
end Go.Proofs.YtaajbcflmaihgaaDoor
/- The table of contracts for the laws on the check of an instruction. -/
set_option linter.all false
namespace Go.Proofs.YtaajbcflmaihgaaDoor
open Go Ab
noncomputable def dA : Tab := d24
theorem dkA (hm : Tryd.prog.follows .mixedOrders = true) : TabOk dA := dk24 hm
end Go.Proofs.YtaajbcflmaihgaaDoor
