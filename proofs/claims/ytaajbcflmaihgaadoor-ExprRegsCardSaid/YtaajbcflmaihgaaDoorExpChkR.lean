/- The reference's check of an expression in natural form: the same as the program's. No conditions. -/
import Derived.Test.YtaajbcflmaihgaaDoorExpF11
import Derived.Test.YtaajbcflmaihgaaDoorExpRun
set_option linter.all false
namespace Go.Proofs.YtaajbcflmaihgaaDoor
open Go Ab
set_option maxRecDepth 100000
/-! Tests in short; none of these by computing alone, so that the kernel never looks into what they stand before. -/
theorem sA1 (x : Bool) : sAnd x true = x := by cases x <;> rfl
theorem sA2 (x : Bool) : sAnd true x = x := by cases x <;> rfl
theorem sA3 (x : Bool) : sAnd x x = x := by cases x <;> rfl
theorem sA4 (x : Bool) : sAnd false x = false := by cases x <;> rfl
theorem sA5 (x : Bool) : sAnd x false = false := by cases x <;> rfl
theorem sO1 (x : Bool) : sOr x true = true := by cases x <;> rfl
theorem sO2 (x : Bool) : sOr (sNot x) x = true := by cases x <;> rfl
theorem sO3 (x : Bool) : sOr x (sNot x) = true := by cases x <;> rfl
theorem sO4 (x : Bool) : sOr true x = true := by cases x <;> rfl
theorem sO5 (x : Bool) : sOr false x = x := by cases x <;> rfl
theorem sI1 (x : Bool) : sIf x true true = true := by cases x <;> rfl
theorem sI2 (x : Bool) : sIf x x true = true := by cases x <;> rfl
theorem sI3 (x : Bool) : sIf x true (sNot x) = true := by cases x <;> rfl
theorem sIf_t {α : Type} (a b : α) (c : Bool) (h : c = true) : sIf c a b = a := by subst h; rfl
theorem sIf_f {α : Type} (a b : α) (c : Bool) (h : c = false) : sIf c a b = b := by subst h; rfl
theorem sI4 {α : Type} (a b : α) : sIf true a b = a := sIf_t a b true rfl
theorem sI5 {α : Type} (a b : α) : sIf false a b = b := sIf_f a b false rfl
theorem sN1 (x : Bool) : sNot (sNot x) = x := by cases x <;> rfl
theorem sN2' (x : Bool) (h : x = true) : sNot x = false := by subst h; rfl
theorem sN3' (x : Bool) (h : x = false) : sNot x = true := by subst h; rfl
theorem sN2 : sNot true = false := sN2' true rfl
theorem sN3 : sNot false = true := sN3' false rfl
theorem tIx (t : Tg) (i : Nat) (h : t = .x i) : t.isN = false := by subst h; rfl
theorem tIn (t : Tg) (h : t = .n) : t.isN = true := by subst h; rfl
theorem tIr (t : Tg) (h : t = .r) : t.isN = false := by subst h; rfl
theorem tI1 (i : Nat) : Tg.isN (.x i) = false := tIx _ i rfl
theorem tI2 : Tg.isN .n = true := tIn _ rfl
theorem tI3 : Tg.isN .r = false := tIr _ rfl
theorem tM1' (c : Bool) (t u : Tg) (h : c = true) : Tg.mix c t u = t := by subst h; rfl
theorem tM2' (c : Bool) (t u : Tg) (h : c = false) : Tg.mix c t u = u := by subst h; rfl
theorem tM1 (t u : Tg) : Tg.mix true t u = t := tM1' true t u rfl
theorem tM2 (t u : Tg) : Tg.mix false t u = u := tM2' false t u rfl
theorem tT1' (t u : Tg) (h : t = .n) : Tg.thenN t u = u := by subst h; rfl
theorem tT1 (u : Tg) : Tg.thenN .n u = u := tT1' _ u rfl
theorem tT2' (t u : Tg) (h : t = .r) : Tg.thenN t u = .r := by subst h; rfl
theorem tT2 (u : Tg) : Tg.thenN .r u = .r := tT2' _ u rfl
theorem tT3' (t u : Tg) (i : Nat) (h : t = .x i) : Tg.thenN t u = .x i := by subst h; rfl
theorem tT3 (u : Tg) (i : Nat) : Tg.thenN (.x i) u = .x i := tT3' _ u i rfl
theorem tB1' (i : Nat) (t : Tg) (h : t = .n) : Tg.block i t = .n := by subst h; rfl
theorem tB1 (i : Nat) : Tg.block i .n = .n := tB1' i _ rfl
theorem tB2' (i : Nat) (t : Tg) (h : t = .r) : Tg.block i t = .r := by subst h; rfl
theorem tB2 (i : Nat) : Tg.block i .r = .r := tB2' i _ rfl
theorem tB3' (i : Nat) (t : Tg) (h : t = .x i) : Tg.block i t = .n := by subst h; simp [Tg.block]
theorem tB3 (i : Nat) : Tg.block i (.x i) = .n := tB3' i _ rfl
theorem xok1 (b c d e : Bool) : sAnd (sOr (sNot b) (sAnd b (sIf c true (sAnd b (sNot c)))))
          (sAnd
            (sOr (sNot (sAnd (sNot (sIf b (sIf c true d) false)) e))
              (sAnd (sAnd (sNot (sIf b (sIf c true d) false)) e)
                (sIf c true (sAnd (sAnd (sNot (sIf b (sIf c true d) false)) e) (sNot c)))))
            (sOr (sIf b (sIf c true d) false)
              (sAnd (sNot (sIf b (sIf c true d) false))
                (sIf e (sAnd (sNot (sIf b (sIf c true d) false)) e) true)))) = true := by
  cases b <;> cases c <;> cases d <;> cases e <;> rfl
theorem xok2 (b t z : Bool) : sOr (sIf b t false) (sAnd (sNot (sIf b t false)) (sIf z (sAnd (sNot (sIf b t false)) z) true)) = true := by
  cases b <;> cases t <;> cases z <;> rfl
theorem xok3 (b c : Bool) : sOr (sNot b) (sAnd b (sIf c true (sAnd b (sNot c)))) = true := by
  cases b <;> cases c <;> rfl
theorem p84 {n nr : Int} (h : sIf (sEq 4 4) (sIf (sLt n 0) true (sLe nr n)) false = false) : 0 ≤ n ∧ n < nr := by
  have e1 : sEq 4 4 = true := rfl
  rw [e1] at h
  by_cases hn : n < 0
  · rw [sLt_true hn] at h
    exact absurd h (by simp [sIf])
  · by_cases hr : nr ≤ n
    · rw [show sLe nr n = true from decide_eq_true hr] at h
      rw [sLt_false hn] at h
      exact absurd h (by simp [sIf])
    · omega
def xst11 (regs : List Int) (es : List Nod) (j : Nat) : List Sc := [Sc.i (j : Int), Sc.d (Sh.sl (Sh.int IntKind.i64)) (stkN regs es j)]
theorem hasN_eq (op : Int) : hasN op = sIf (sIf (sIf (sEq op 4) true (sEq op 1)) true (sEq op 25)) true (sEq op 33) := by
  by_cases h1 : op = 4
  · subst h1; rfl
  by_cases h2 : op = 1
  · subst h2; rfl
  by_cases h3 : op = 25
  · subst h3; rfl
  by_cases h4 : op = 33
  · subst h4; rfl
  simp [hasN, sIf, sEq, h1, h2, h3, h4]
section
variable (regs : List Int) (gs : List gloS.den) (fs : List funS.den)
set_option maxHeartbeats 0 in
theorem xstep11 (es : List Nod) (j : Nat) (hb : es.length ≤ 150) (hj : j < es.length) (hwf : ∀ e ∈ es, okImm e.2.2.1 = true) :
    (errAt regs gs fs es j = 0 → xs11_0 es regs gs fs (xst11 regs es j) = (true, true, xst11 regs es (j + 1))) ∧
    (errAt regs gs fs es j ≠ 0 → (xs11_0 es regs gs fs (xst11 regs es j)).1 = true ∧ (xs11_0 es regs gs fs (xst11 regs es j)).2.1 = false) := by
  have h1 : sLt (j : Int) (es.length : Int) = true := sLt_true (by omega)
  have h0 : sLe 0 (j : Int) = true := decide_eq_true (by omega)
  have hsl := stkN_len regs es j
  have hsucc := stkN_succ regs es j hj
  have hget : es.getD j nodS.dflt = es[j] := by rw [List.getD_eq_getElem?_getD, List.getElem?_eq_getElem hj]; rfl
  have hwe := hwf es[j] (List.getElem_mem hj)
  unfold errAt
  rw [hget]
  have hw : IntKind.wrap .i64 ((j : Int) + 1) = ((j + 1 : Nat) : Int) := wrapL (show j < bigL by unfold bigL; omega)
  simp only [xs11_0, xst11, hd_cons, tl_cons, Sc.toI_i, Sc.toD_d', Int.toNat_natCast, Option.getD_some, Option.getD_none, h1, h0, hw, hsucc]
  have hget' : es.getD j (Sh.dflt (Sh.prod (Sh.int IntKind.i64) (Sh.prod (Sh.int IntKind.i64) (Sh.prod (Sh.int IntKind.i64) Sh.unit)))) = es[j] := hget
  rw [hget']
  generalize es[j] = e at hwe ⊢
  obtain ⟨op, ty, n, u⟩ := e
  generalize hst : stkN regs es j = st at hsl ⊢
  obtain ⟨ha0, ha4⟩ := arity_range op ty
  have hwe : okImm n = true := hwe
  have him : okImm (immOf op n) = true := by
    unfold immOf
    generalize sIf (sEq op 1) true (sEq op 33) = a
    cases a
    · rfl
    · exact hwe
  unfold errN nextN chkN topOf lowOf
  simp only
  have hal : aloneV op ty n regs.length gs.length = sIf (sIf (sNe op 28) (sNot (specOp op)) false) 9 (sIf (sIf (sEq op 4) (sIf (sLt n 0) true (sLe regs.length n)) false) 8 (sIf (sIf (sEq op 25) (sIf (sLt n 0) true (sLe gs.length n)) false) 8
    (sIf (sIf (sIf (sEq op 4) (sNe ty 0) false) true (sIf (sNe n 0) (sNot (sIf (sIf (sIf (sEq op 4) true (sEq op 1)) true (sEq op 25)) true (sEq op 33))) false)) 3 0))) := by
    unfold aloneV
    rw [hasN_eq]
  rw [hal]
  clear hal
  simp only [sA1, sA2, sA3, sO1, sO2, sO3, sI1, sI2, sI3, sI4, sI5, sN1, tI1, tI2, tI3, tM1, tM2, tT1, tB1, xok3, xok1, xok2]
  generalize sIf (sNe op 28) (sNot (specOp op)) false = p9
  cases p9 with
  | true =>
    simp only [tM1, tI3, sI4, sI5, tT2, tB2]
    refine ⟨fun h => absurd h (by rw [if_pos (by decide)]; decide), fun _ => ⟨trivial, trivial⟩⟩
  | false =>
  simp only [sI5, tM2, tI2, sI4, tT1, sA2]
  generalize hp8 : sIf (sEq op 4) (sIf (sLt n 0) true (sLe (regs.length : Int) n)) false = p8
  cases p8 with
  | true =>
    simp only [sI4, sI5, tM1, tI3, tT2, tB2]
    refine ⟨fun h => absurd h (by rw [if_pos (by decide)]; decide), fun _ => ⟨trivial, trivial⟩⟩
  | false =>
  simp only [sI5]
  generalize sIf (sEq op 25) (sIf (sLt n 0) true (sLe (gs.length : Int) n)) false = p8'
  cases p8' with
  | true =>
    simp only [sI4, sI5, tM1, tI3, tT2, tB2]
    refine ⟨fun h => absurd h (by rw [if_pos (by decide)]; decide), fun _ => ⟨trivial, trivial⟩⟩
  | false =>
  simp only [sI5, tM2, tI2, sI4, tT1, sA2]
  generalize sIf (sIf (sEq op 4) (sNe ty 0) false) true (sIf (sNe n 0) (sNot (sIf (sIf (sIf (sEq op 4) true (sEq op 1)) true (sEq op 25)) true (sEq op 33))) false) = p3
  cases p3 with
  | true =>
    simp only [sI4, sI5, tM1, tI3, tT2, tB2]
    refine ⟨fun h => absurd h (by rw [if_pos (by decide)]; decide), fun _ => ⟨trivial, trivial⟩⟩
  | false =>
  simp only [sI5, tM2, tI2, sI4, tT1, sA2]
  rw [if_neg (by decide)]
  have hsz : sLe (((st.length + [regs.getD (Int.toNat n) (Sh.dflt (Sh.int IntKind.i64))].length) * 8 : Nat) : Int) 140737488355328 = true := decide_eq_true (by simp; omega)
  have hwr : IntKind.wrap .i64 ((st.length : Int) - arity op ty) = (st.length : Int) - arity op ty := wrap_i64 (by omega) (by omega)
  rw [hwr]
  by_cases hS : (st.length : Int) < arity op ty
  · have hSt : sLt (st.length : Int) (arity op ty) = true := sLt_true hS
    rw [if_pos hS, hSt]
    simp only [tM1, tI3, sI5, tT2, tB2]
    refine ⟨fun h => absurd h (by decide), fun _ => ⟨trivial, trivial⟩⟩
  have hSf : sLt (st.length : Int) (arity op ty) = false := sLt_false hS
  rw [if_neg hS, hSf]
  simp only [sI5, tM2, tI2, sI4, tT1, sA2]
  by_cases h4 : op = 4
  · subst h4
    obtain ⟨hn0, hn1⟩ := p84 hp8
    have e1 : sLe 0 n = true := decide_eq_true hn0
    have e2 : sLt n (regs.length : Int) = true := sLt_true hn1
    rw [if_pos rfl, if_pos rfl, hsz, e1, e2, show sEq 4 4 = true from rfl]
    simp only [sI4, sA2, tM1, tI1, sI5, tT3, tB3, tT1, tI2]
    refine ⟨fun _ => rfl, fun h => absurd rfl h⟩
  have h4f : sEq op 4 = false := by simpa [sEq] using h4
  rw [if_neg h4, if_neg h4, h4f]
  simp only [sI4, sI5, sA2, tM2, tI2, tT1]
  have hm : ((st.length : Int) - arity op ty).toNat = st.length - (arity op ty).toNat := by omega
  have e3 : sLe 0 ((st.length : Int) - arity op ty) = true := decide_eq_true (by omega)
  have e4 : sLe ((st.length : Int) - arity op ty) (st.length : Int) = true := decide_eq_true (by omega)
  have e5 : sLe (st.length : Int) (st.length : Int) = true := decide_eq_true (by omega)
  generalize hmm : st.length - (arity op ty).toNat = m at hm ⊢
  have hml : m ≤ st.length := by omega
  have htk : List.take (st.length - m) (List.drop m st) = List.drop m st := List.take_of_length_le (by simp)
  have hk1 : len1000 (List.drop m st).length = true := by unfold len1000; rw [Nat.ble_eq]; simp; omega
  simp only [hm, e3, e4, e5, htk, hk1, him, sA2]
  rw [chk_eq]
  generalize chkV op ty 0 (rangeM (List.drop m st).length) (immOf op n) (symOf op n) 0 false ([ty] ++ List.drop m st) gs fs = C
  by_cases hC : C = 0
  · subst hC
    refine ⟨fun _ => ?_, fun h => absurd rfl h⟩
    have e6 : sLe (((m + [ty].length) * 8 : Nat) : Int) 140737488355328 = true := decide_eq_true (by simp; omega)
    have e7 : sLt 0 (([ty].length : Nat) : Int) = true := sLt_true (by simp)
    simp only [Nat.sub_zero, e6, e7, show sNe 0 0 = false from rfl]
    simp only [tM2, tI2, sI4, sA2, tB1, tT1]
  · have hCn : sNe C 0 = true := by simpa [sNe] using hC
    refine ⟨fun h => absurd h hC, fun _ => ?_⟩
    rw [hCn]
    simp only [tM1, tI3, sI5, sA2, tT1, tT2, tB2]
    exact ⟨trivial, trivial⟩
theorem xstop11 (es : List Nod) : (xs11_0 es regs gs fs (xst11 regs es es.length)).1 = true ∧ (xs11_0 es regs gs fs (xst11 regs es es.length)).2.1 = false := by
  have h1 : sLt (es.length : Int) (es.length : Int) = false := sLt_false (by omega)
  simp only [xs11_0, xst11, hd_cons, tl_cons, Sc.toI_i, Sc.toD_d', h1]
  simp only [tM2, tI1, sI5, sA2, sI4, sI1, tT3]
  exact ⟨trivial, trivial⟩
theorem xrun11 (es : List Nod) (hb : es.length ≤ 150) (hwf : ∀ e ∈ es, okImm e.2.2.1 = true) : whileW (xs11_0 es regs gs fs) [Sc.i 0, Sc.d (Sh.sl (Sh.int IntKind.i64)) []] = some (xst11 regs es (endN regs gs fs es)) := by
  have hle := endN_le regs gs fs es
  have hend : (xs11_0 es regs gs fs (xst11 regs es (endN regs gs fs es))).1 = true ∧ (xs11_0 es regs gs fs (xst11 regs es (endN regs gs fs es))).2.1 = false := by
    rcases Nat.lt_or_ge (endN regs gs fs es) es.length with h | h
    · exact (xstep11 regs gs fs es _ hb h hwf).2 (endN_at regs gs fs es h)
    · rw [show endN regs gs fs es = es.length by omega]
      exact xstop11 regs gs fs es
  exact whileW_upto (xst11 regs es) (endN regs gs fs es) rfl (fun j hj => (xstep11 regs gs fs es j hb (by omega) hwf).1 (endN_before regs gs fs es hj)) hend.1 hend.2
end
end Go.Proofs.YtaajbcflmaihgaaDoor
/- The reference's check in natural form. No conditions. -/
set_option linter.all false
namespace Go.Proofs.YtaajbcflmaihgaaDoor
open Go Ab
set_option maxRecDepth 100000
theorem sS' {α : Type} (o : Option α) (x : α) (h : o = some x) : sSome o = true := by subst h; rfl
theorem sSome_some {α : Type} (x : α) : sSome (some x) = true := sS' _ x rfl
section
variable (regs : List Int) (gs : List gloS.den) (fs : List funS.den)
set_option maxHeartbeats 0 in
theorem nat11x (es : List Nod) (fnm : ByteArray) (fps : List Int) (fres : Int) (fbl : List (Sh.den blkS)) (hb : es.length ≤ 150) (hwf : ∀ e ∈ es, okImm e.2.2.1 = true) :
    exFn (gX y1) Tryd.f11 [AV.dsl nodS es, funA fnm fps fres regs fbl, modA gs fs] = some (true, .tup [.int .i64 (checkV regs gs fs es).1, .int .i64 (checkV regs gs fs es).2]) := by
  rw [xf11]
  have L : xL11_0 es regs gs fs = xst11 regs es (endN regs gs fs es) := by unfold xL11_0; rw [xrun11 regs gs fs es hb hwf]; rfl
  rw [L, xrun11 regs gs fs es hb hwf]
  unfold checkV
  have hle := endN_le regs gs fs es
  rcases Nat.lt_or_ge (endN regs gs fs es) es.length with h | h
  · have hne := endN_at regs gs fs es h
    rw [if_pos h]
    generalize endN regs gs fs es = j at h hne
    have h1 : sLt (j : Int) (es.length : Int) = true := sLt_true (by omega)
    have h0 : sLe 0 (j : Int) = true := decide_eq_true (by omega)
    have hsl := stkN_len regs es j
    have hget : es.getD j nodS.dflt = es[j] := by rw [List.getD_eq_getElem?_getD, List.getElem?_eq_getElem h]; rfl
    have hget' : es.getD j (Sh.dflt (Sh.prod (Sh.int IntKind.i64) (Sh.prod (Sh.int IntKind.i64) (Sh.prod (Sh.int IntKind.i64) Sh.unit)))) = es[j] := hget
    have hwe := hwf es[j] (List.getElem_mem h)
    unfold errAt at hne ⊢
    rw [hget] at hne ⊢
    simp only [xst11, hd_cons, tl_cons, Sc.toI_i, Sc.toD_d', Int.toNat_natCast, Option.getD_some, Option.getD_none, h1, h0, sSome_some]
    rw [hget']
    generalize es[j] = e at hne hwe ⊢
    obtain ⟨op, ty, n, u⟩ := e
    generalize hst : stkN regs es j = st at hsl hne ⊢
    obtain ⟨ha0, ha4⟩ := arity_range op ty
    have hwe : okImm n = true := hwe
    have him : okImm (immOf op n) = true := by
      unfold immOf
      generalize sIf (sEq op 1) true (sEq op 33) = a
      cases a
      · rfl
      · exact hwe
    unfold errN chkN topOf at hne ⊢
    simp only at hne ⊢
    have hal : aloneV op ty n regs.length gs.length = sIf (sIf (sNe op 28) (sNot (specOp op)) false) 9 (sIf (sIf (sEq op 4) (sIf (sLt n 0) true (sLe regs.length n)) false) 8 (sIf (sIf (sEq op 25) (sIf (sLt n 0) true (sLe gs.length n)) false) 8
      (sIf (sIf (sIf (sEq op 4) (sNe ty 0) false) true (sIf (sNe n 0) (sNot (sIf (sIf (sIf (sEq op 4) true (sEq op 1)) true (sEq op 25)) true (sEq op 33))) false)) 3 0))) := by
      unfold aloneV
      rw [hasN_eq]
    rw [hal] at hne ⊢
    clear hal
    simp only [sSome_some, sA1, sA2, sA3, sO1, sO2, sO3, sI1, sI2, sI3, sI4, sI5, sN1, tI1, tI2, tI3, tM1, tM2, tT1, tB1, xok3, xok1, xok2] at hne ⊢
    generalize sIf (sNe op 28) (sNot (specOp op)) false = p9 at hne ⊢
    cases p9 with
    | true =>
      simp only [tM1, tI3, sI4, sI5, tT2, tB2, sA2]
      rw [if_pos (show (9 : Int) ≠ 0 by decide)]
    | false =>
    simp only [sI5, tM2, tI2, sI4, tT1, sA2] at hne ⊢
    generalize hp8 : sIf (sEq op 4) (sIf (sLt n 0) true (sLe (regs.length : Int) n)) false = p8 at hne ⊢
    cases p8 with
    | true =>
      simp only [sI4, sI5, tM1, tI3, tT2, tB2, sA2]
      rw [if_pos (show (8 : Int) ≠ 0 by decide)]
    | false =>
    simp only [sI5] at hne ⊢
    generalize sIf (sEq op 25) (sIf (sLt n 0) true (sLe (gs.length : Int) n)) false = p8' at hne ⊢
    cases p8' with
    | true =>
      simp only [sI4, sI5, tM1, tI3, tT2, tB2, sA2]
      rw [if_pos (show (8 : Int) ≠ 0 by decide)]
    | false =>
    simp only [sI5, tM2, tI2, sI4, tT1, sA2] at hne ⊢
    generalize sIf (sIf (sEq op 4) (sNe ty 0) false) true (sIf (sNe n 0) (sNot (sIf (sIf (sIf (sEq op 4) true (sEq op 1)) true (sEq op 25)) true (sEq op 33))) false) = p3 at hne ⊢
    cases p3 with
    | true =>
      simp only [sI4, sI5, tM1, tI3, tT2, tB2, sA2]
      rw [if_pos (show (3 : Int) ≠ 0 by decide)]
    | false =>
    simp only [sI5, tM2, tI2, sI4, tT1, sA2] at hne ⊢
    rw [if_neg (show ¬ ((0 : Int) ≠ 0) by decide)] at hne ⊢
    have hwr : IntKind.wrap .i64 ((st.length : Int) - arity op ty) = (st.length : Int) - arity op ty := wrap_i64 (by omega) (by omega)
    rw [hwr]
    by_cases hS : (st.length : Int) < arity op ty
    · have hSt : sLt (st.length : Int) (arity op ty) = true := sLt_true hS
      rw [if_pos hS, hSt]
      simp only [tM1, tI3, sI4, sI5, tT2, tB2, sA2]
    have hSf : sLt (st.length : Int) (arity op ty) = false := sLt_false hS
    rw [if_neg hS] at hne ⊢
    rw [hSf]
    simp only [sI5, tM2, tI2, sI4, tT1, sA2]
    by_cases h4 : op = 4
    · rw [if_pos h4] at hne; exact absurd rfl hne
    have h4f : sEq op 4 = false := by simpa [sEq] using h4
    rw [if_neg h4] at hne ⊢
    rw [h4f]
    simp only [sI4, sI5, sA2, tM2, tI2, tT1]
    have hm : ((st.length : Int) - arity op ty).toNat = st.length - (arity op ty).toNat := by omega
    have e3 : sLe 0 ((st.length : Int) - arity op ty) = true := decide_eq_true (by omega)
    have e4 : sLe ((st.length : Int) - arity op ty) (st.length : Int) = true := decide_eq_true (by omega)
    have e5 : sLe (st.length : Int) (st.length : Int) = true := decide_eq_true (by omega)
    generalize hmm : st.length - (arity op ty).toNat = m at hm hne ⊢
    have hml : m ≤ st.length := by omega
    have htk : List.take (st.length - m) (List.drop m st) = List.drop m st := List.take_of_length_le (by simp)
    have hk1 : len1000 (List.drop m st).length = true := by unfold len1000; rw [Nat.ble_eq]; simp; omega
    simp only [hm, e3, e4, e5, htk, hk1, him, sA2]
    rw [chk_eq] at hne ⊢
    generalize chkV op ty 0 (rangeM (List.drop m st).length) (immOf op n) (symOf op n) 0 false ([ty] ++ List.drop m st) gs fs = C at hne ⊢
    have hCn : sNe C 0 = true := by simpa [sNe] using hne
    rw [hCn]
    simp only [tM1, tI3, sI4, sI5, sA2, tT1, tT2, tB2]
  · have hN : endN regs gs fs es = es.length := by omega
    rw [if_neg (by omega), hN]
    have h1 : sLt (es.length : Int) (es.length : Int) = false := sLt_false (by omega)
    simp only [xst11, hd_cons, tl_cons, Sc.toI_i, Sc.toD_d', h1, sSome_some]
    simp only [tM2, tI1, sI5, sA2, sI4, sI1, tT3, tB1, tB3, tI2]
    generalize stkN regs es es.length = st
    match st with
    | [] => rfl
    | [x] => rfl
    | x :: y :: zs =>
      have e1 : sEq ((x :: y :: zs).length : Int) 0 = false := by simp [sEq]; omega
      have e2 : sLt 1 ((x :: y :: zs).length : Int) = true := sLt_true (by simp; omega)
      have e3 : ¬ (x :: y :: zs).length = 0 := by simp
      have e4 : ¬ (x :: y :: zs).length = 1 := by simp
      rw [if_neg e3, if_neg e4]
      simp only [e1, e2]
      simp only [tM1, tM2, tI3, tI2, sI4, sI5, sA2]
end
end Go.Proofs.YtaajbcflmaihgaaDoor
/- The contracts of expr.Check and of its reference, the same. No conditions. -/
set_option linter.all false
namespace Go.Proofs.YtaajbcflmaihgaaDoor
open Go Ab
set_option maxRecDepth 100000
def asNods : AV → Option (List Nod)
  | .dsl e x => if h : e = nodS then some (castL h x) else none
  | _ => none
theorem asNods_eq {a : AV} {l : List Nod} (h : asNods a = some l) : a = .dsl nodS l := by
  unfold asNods at h
  split at h
  · split at h
    · rename_i e; subst e; cases h; rfl
    · cases h
  · cases h
def len150 (n : Nat) : Bool := Nat.ble n 150
def wfNods (es : List Nod) : Bool := es.all fun e => okImm e.2.2.1
noncomputable def xm10 (xs : List AV) : Option (Bool × AV) :=
  match xs with
  | [a, b, c] => (asNods a).bind fun es => (asFun b).bind fun f => (asMod c).bind fun m => some (sAnd (len150 es.length) (wfNods es), .tup [.int .i64 (checkV f.2.2.2.1 m.1 m.2 es).1, .int .i64 (checkV f.2.2.2.1 m.1 m.2 es).2])
  | _ => none
theorem xk10 (hm : Tryd.prog.follows .mixedOrders = true) : KOk E0 10 (preC (argsT Tryd.prog Tryd.f10) xm10) := KOk.preC ((xk6 hm).read hm Tryd.func10 (by decide) (by rfl) (by
  intro xs r h
  unfold xm10 at h
  split at h
  · simp only [Option.bind_eq_some_iff, Option.some.injEq, Prod.mk.injEq, sAnd, Bool.and_eq_true] at h
    obtain ⟨es, he, f, hf, m, hm, ⟨h1, h2⟩, rfl⟩ := h
    rw [asNods_eq he, asFun_eq hf, asMod_eq hm]
    exact nat10x _ _ _ _ _ _ _ _ (Nat.le_of_ble_eq_true h1)
  · cases h)) _
theorem xk11 (hm : Tryd.prog.follows .mixedOrders = true) : KOk E0 11 (preC (argsT Tryd.prog Tryd.f11) xm10) := KOk.preC ((yk1 hm).read hm Tryd.func11 (by decide) (by rfl) (by
  intro xs r h
  unfold xm10 at h
  split at h
  · simp only [Option.bind_eq_some_iff, Option.some.injEq, Prod.mk.injEq, sAnd, Bool.and_eq_true] at h
    obtain ⟨es, he, f, hf, m, hm, ⟨h1, h2⟩, rfl⟩ := h
    rw [asNods_eq he, asFun_eq hf, asMod_eq hm]
    exact nat11x _ _ _ _ _ _ _ _ (Nat.le_of_ble_eq_true h1) (fun e he => List.all_eq_true.mp h2 e he)
  · cases h)) _
/-- The laws' table: both checks. -/
noncomputable def z0 : XTab := { x5 with k := (10, preC (argsT Tryd.prog Tryd.f10) xm10) :: (11, preC (argsT Tryd.prog Tryd.f11) xm10) :: x5.k }
theorem zk0 (hm : Tryd.prog.follows .mixedOrders = true) : XOk z0 := ((xk5 hm).consK (xk11 hm)).consK (xk10 hm)
end Go.Proofs.YtaajbcflmaihgaaDoor
