/- Expressions as a stack machine: what one node does, where a run of nodes ends. No conditions. -/
import Derived.Test.YtaajbcflmaihgaaDoorExpNode
import Derived.Test.YtaajbcflmaihgaaDoorExpF10
set_option linter.all false
namespace Go.Proofs.YtaajbcflmaihgaaDoor
open Go Ab
set_option maxRecDepth 100000
abbrev Nod := nodS.den
section
variable (regs : List Int) (gs : List gloS.den) (fs : List funS.den)
/-- The types that a node takes off the stack; those below. -/
def topOf (st : List Int) (op ty : Int) : List Int := st.drop (st.length - (arity op ty).toNat)
def lowOf (st : List Int) (op ty : Int) : List Int := st.take (st.length - (arity op ty).toNat)
noncomputable def chkN (st : List Int) (op ty n : Int) : Int :=
  chkV op ty ((topOf st op ty).length : Int) (rangeL (topOf st op ty).length) (immOf op n) (symOf op n) 0 false (topOf st op ty ++ [ty]) gs fs
noncomputable def errN (st : List Int) (e : Nod) : Int :=
  if aloneV e.1 e.2.1 e.2.2.1 regs.length gs.length ≠ 0 then aloneV e.1 e.2.1 e.2.2.1 regs.length gs.length
  else if (st.length : Int) < arity e.1 e.2.1 then 4
  else if e.1 = 4 then 0 else chkN gs fs st e.1 e.2.1 e.2.2.1
def nextN (st : List Int) (e : Nod) : List Int := if e.1 = 4 then st ++ [regs.getD e.2.2.1.toNat 0] else lowOf st e.1 e.2.1 ++ [e.2.1]
/-- The stack behind j nodes. -/
def stkN (es : List Nod) (j : Nat) : List Int := (es.take j).foldl (nextN regs) []
theorem stkN_succ (es : List Nod) (j : Nat) (hj : j < es.length) : stkN regs es (j + 1) = nextN regs (stkN regs es j) es[j] := by
  unfold stkN
  rw [← List.take_append_getElem hj, List.foldl_append]
  rfl
theorem arity_range (op ty : Int) : 0 ≤ arity op ty ∧ arity op ty ≤ 4 := by
  unfold arity
  split
  · omega
  split
  · omega
  split
  · omega
  split
  · split <;> omega
  · omega
theorem nextN_len (st : List Int) (e : Nod) : (nextN regs st e).length ≤ st.length + 1 := by
  unfold nextN lowOf
  split
  · simp only [List.length_append, List.length_singleton]; omega
  · simp only [List.length_append, List.length_take, List.length_singleton]; omega
theorem stkN_len (es : List Nod) : ∀ j, (stkN regs es j).length ≤ j
  | 0 => by simp [stkN]
  | j + 1 => by
    by_cases hj : j < es.length
    · rw [stkN_succ regs es j hj]
      have := nextN_len regs (stkN regs es j) es[j]
      have := stkN_len es j
      omega
    · have e : stkN regs es (j + 1) = stkN regs es j := by
        unfold stkN
        rw [List.take_of_length_le (by omega), List.take_of_length_le (by omega)]
      rw [e]
      have := stkN_len es j
      omega
/-- The error at node j, its stack being that of a run without errors before. -/
noncomputable def errAt (es : List Nod) (j : Nat) : Int := errN regs gs fs (stkN regs es j) (es.getD j (nodS.dflt))
/-- Where the first error lies; the number of nodes if there is none. -/
noncomputable def endN (es : List Nod) : Nat := (List.range es.length).findIdx fun j => errAt regs gs fs es j != 0
theorem endN_le (es : List Nod) : endN regs gs fs es ≤ es.length := by
  unfold endN
  have := List.findIdx_le_length (xs := List.range es.length) (p := fun j => errAt regs gs fs es j != 0)
  simpa using this
theorem endN_before (es : List Nod) {j : Nat} (hj : j < endN regs gs fs es) : errAt regs gs fs es j = 0 := by
  have hl := endN_le regs gs fs es
  have h := List.not_of_lt_findIdx hj
  rw [List.getElem_range] at h
  simpa using h
theorem endN_at (es : List Nod) (h : endN regs gs fs es < es.length) : errAt regs gs fs es (endN regs gs fs es) ≠ 0 := by
  have h' : endN regs gs fs es < (List.range es.length).length := by simpa using h
  have := List.findIdx_getElem (xs := List.range es.length) (p := fun j => errAt regs gs fs es j != 0) (w := h')
  have e : (List.range es.length)[List.findIdx (fun j => errAt regs gs fs es j != 0) (List.range es.length)]'h' = endN regs gs fs es := List.getElem_range _
  rw [e] at this
  simpa using this
/-- The type of an expression and its error. -/
noncomputable def checkV (es : List Nod) : Int × Int :=
  if endN regs gs fs es < es.length then (0, errAt regs gs fs es (endN regs gs fs es))
  else if (stkN regs es es.length).length = 0 then (0, 4) else if (stkN regs es es.length).length = 1 then ((stkN regs es es.length).getD 0 0, 0) else (0, 5)
end
end Go.Proofs.YtaajbcflmaihgaaDoor
/- expr.Check in natural form. No conditions. -/
set_option linter.all false
namespace Go.Proofs.YtaajbcflmaihgaaDoor
open Go Ab
set_option maxRecDepth 100000
theorem alone4 {ty n nr ng : Int} (h : aloneV 4 ty n nr ng = 0) : 0 ≤ n ∧ n < nr := by
  unfold aloneV at h
  have e1 : sEq 4 4 = true := rfl
  rw [e1] at h
  generalize sIf (sNe 4 28) (sNot (specOp 4)) false = a at h
  cases a with
  | true => exact absurd h (by simp [sIf])
  | false =>
    by_cases hn : n < 0
    · rw [sLt_true hn] at h
      exact absurd h (by simp [sIf])
    · by_cases hr : nr ≤ n
      · rw [show sLe nr n = true from decide_eq_true hr] at h
        rw [sLt_false hn] at h
        exact absurd h (by simp [sIf])
      · omega
def xst10 (regs : List Int) (es : List Nod) (j : Nat) : List Sc := [Sc.i (j : Int), Sc.d (Sh.sl (Sh.int IntKind.i64)) (stkN regs es j)]
section
variable (regs : List Int) (gs : List gloS.den) (fs : List funS.den)
set_option maxHeartbeats 0 in
theorem xstep10 (es : List Nod) (j : Nat) (hb : es.length ≤ 150) (hj : j < es.length) :
    (errAt regs gs fs es j = 0 → xs10_0 es regs gs fs (xst10 regs es j) = (true, true, xst10 regs es (j + 1))) ∧
    (errAt regs gs fs es j ≠ 0 → (xs10_0 es regs gs fs (xst10 regs es j)).1 = true ∧ (xs10_0 es regs gs fs (xst10 regs es j)).2.1 = false) := by
  have h1 : sLt (j : Int) (es.length : Int) = true := sLt_true (by omega)
  have h0 : sLe 0 (j : Int) = true := decide_eq_true (by omega)
  have hsl := stkN_len regs es j
  have hsucc := stkN_succ regs es j hj
  have hget : es.getD j nodS.dflt = es[j] := by rw [List.getD_eq_getElem?_getD, List.getElem?_eq_getElem hj]; rfl
  unfold errAt
  rw [hget]
  have hw : IntKind.wrap .i64 ((j : Int) + 1) = ((j + 1 : Nat) : Int) := wrapL (show j < bigL by unfold bigL; omega)
  simp only [xs10_0, xst10, hd_cons, tl_cons, Sc.toI_i, Sc.toD_d', Int.toNat_natCast, Option.getD_some, Option.getD_none, h1, h0, hw, hsucc]
  have hget' : es.getD j (Sh.dflt (Sh.prod (Sh.int IntKind.i64) (Sh.prod (Sh.int IntKind.i64) (Sh.prod (Sh.int IntKind.i64) Sh.unit)))) = es[j] := hget
  rw [hget']
  generalize es[j] = e
  obtain ⟨op, ty, n, u⟩ := e
  generalize hst : stkN regs es j = st at hsl ⊢
  obtain ⟨ha0, ha4⟩ := arity_range op ty
  unfold errN nextN chkN topOf lowOf
  simp only
  by_cases hA : aloneV op ty n regs.length gs.length = 0
  rotate_left
  · have hAn : sNe (aloneV op ty n regs.length gs.length) 0 = true := by simpa [sNe] using hA
    refine ⟨fun h => absurd h (by rw [if_pos hA]; exact hA), fun _ => ?_⟩
    simp [sAnd, sOr, sNot, sIf, hAn]
  have hA0 : sNe (aloneV op ty n regs.length gs.length) 0 = false := by rw [hA]; rfl
  rw [if_neg (by simpa using hA)]
  have hwr : IntKind.wrap .i64 ((st.length : Int) - arity op ty) = (st.length : Int) - arity op ty := wrap_i64 (by omega) (by omega)
  rw [hwr]
  by_cases hS : (st.length : Int) < arity op ty
  · have hSt : sLt ((st.length : Int) - arity op ty) 0 = true := sLt_true (by omega)
    refine ⟨fun h => absurd h (by rw [if_pos hS]; decide), fun _ => ?_⟩
    simp [sAnd, sOr, sNot, sIf, hA0, hSt, sNe]
  have hSf : sLt ((st.length : Int) - arity op ty) 0 = false := sLt_false (by omega)
  rw [if_neg hS]
  have hsz : sLe (((st.length + [regs.getD (Int.toNat n) (Sh.dflt (Sh.int IntKind.i64))].length) * 8 : Nat) : Int) 140737488355328 = true := decide_eq_true (by simp; omega)
  by_cases h4 : op = 4
  · subst h4
    obtain ⟨hn0, hn1⟩ := alone4 hA
    have e1 : sLe 0 n = true := decide_eq_true hn0
    have e2 : sLt n (regs.length : Int) = true := sLt_true hn1
    rw [if_pos rfl, if_pos rfl]
    refine ⟨fun _ => ?_, fun h => absurd rfl h⟩
    simp only [hA0, hSf, hsz, e1, e2, show sEq 4 4 = true from rfl]
    simp [sAnd, sIf, sNe]
    try rfl
  have h4f : sEq op 4 = false := by simpa [sEq] using h4
  rw [if_neg h4, if_neg h4]
  have hm : ((st.length : Int) - arity op ty).toNat = st.length - (arity op ty).toNat := by omega
  have e3 : sLe 0 ((st.length : Int) - arity op ty) = true := decide_eq_true (by omega)
  have e4 : sLe ((st.length : Int) - arity op ty) (st.length : Int) = true := decide_eq_true (by omega)
  have e5 : sLe (st.length : Int) (st.length : Int) = true := decide_eq_true (by omega)
  generalize hmm : st.length - (arity op ty).toNat = m at hm ⊢
  have hml : m ≤ st.length := by omega
  have htk : List.take (st.length - m) (List.drop m st) = List.drop m st := List.take_of_length_le (by simp)
  have hk1 : len1000 (List.drop m st).length = true := by unfold len1000; rw [Nat.ble_eq]; simp; omega
  have hk2 : len1000 (rangeL (List.drop m st).length).length = true := by rw [rangeL_len]; exact hk1
  simp only [hA0, hSf, h4f, hm, e3, e4, e5, htk, hk1, hk2]
  generalize chkV op ty ((List.drop m st).length : Int) (rangeL (List.drop m st).length) (immOf op n) (symOf op n) 0 false (List.drop m st ++ [ty]) gs fs = C
  by_cases hC : C = 0
  · subst hC
    refine ⟨fun _ => ?_, fun h => absurd rfl h⟩
    have e6 : sLe (((m + [ty].length) * 8 : Nat) : Int) 140737488355328 = true := decide_eq_true (by simp; omega)
    have e7 : sLt 0 (([ty].length : Nat) : Int) = true := rfl
    have e8 : sLe 0 (m : Int) = true := decide_eq_true (by omega)
    simp only [Nat.sub_zero, e6, e7, show sNe 0 0 = false from rfl]
    rfl
  · have hCn : sNe C 0 = true := by simpa [sNe] using hC
    refine ⟨fun h => absurd h hC, fun _ => ?_⟩
    simp [sAnd, sOr, sNot, sIf, hCn, sNe]
theorem xstop10 (es : List Nod) : (xs10_0 es regs gs fs (xst10 regs es es.length)).1 = true ∧ (xs10_0 es regs gs fs (xst10 regs es es.length)).2.1 = false := by
  have h1 : sLt (es.length : Int) (es.length : Int) = false := sLt_false (by omega)
  simp only [xs10_0, xst10, hd_cons, tl_cons, Sc.toI_i, Sc.toD_d', h1]
  constructor <;> simp [sAnd, sIf]
theorem xrun10 (es : List Nod) (hb : es.length ≤ 150) : whileW (xs10_0 es regs gs fs) [Sc.i 0, Sc.d (Sh.sl (Sh.int IntKind.i64)) []] = some (xst10 regs es (endN regs gs fs es)) := by
  have hle := endN_le regs gs fs es
  have hend : (xs10_0 es regs gs fs (xst10 regs es (endN regs gs fs es))).1 = true ∧ (xs10_0 es regs gs fs (xst10 regs es (endN regs gs fs es))).2.1 = false := by
    rcases Nat.lt_or_ge (endN regs gs fs es) es.length with h | h
    · exact (xstep10 regs gs fs es _ hb h).2 (endN_at regs gs fs es h)
    · rw [show endN regs gs fs es = es.length by omega]
      exact xstop10 regs gs fs es
  exact whileW_upto (xst10 regs es) (endN regs gs fs es) rfl (fun j hj => (xstep10 regs gs fs es j hb (by omega)).1 (endN_before regs gs fs es hj)) hend.1 hend.2
set_option maxHeartbeats 0 in
theorem nat10x (es : List Nod) (fnm : ByteArray) (fps : List Int) (fres : Int) (fbl : List (Sh.den blkS)) (hb : es.length ≤ 150) :
    exFn (gX x6) Tryd.f10 [AV.dsl nodS es, funA fnm fps fres regs fbl, modA gs fs] = some (true, .tup [.int .i64 (checkV regs gs fs es).1, .int .i64 (checkV regs gs fs es).2]) := by
  rw [xf10]
  have L : xL10_0 es regs gs fs = xst10 regs es (endN regs gs fs es) := by unfold xL10_0; rw [xrun10 regs gs fs es hb]; rfl
  rw [L, xrun10 regs gs fs es hb]
  unfold checkV
  have hle := endN_le regs gs fs es
  rcases Nat.lt_or_ge (endN regs gs fs es) es.length with h | h
  · have hne := endN_at regs gs fs es h
    rw [if_pos h]
    generalize endN regs gs fs es = j at h hne
    have h1 : sLt (j : Int) (es.length : Int) = true := sLt_true (by omega)
    have h0 : sLe 0 (j : Int) = true := decide_eq_true (by omega)
    have hsl := stkN_len regs es j
    have hget : es.getD j nodS.dflt = es[j] := by rw [List.getD_eq_getElem?_getD, List.getElem?_eq_getElem h]; rfl
    have hget' : es.getD j (Sh.dflt (Sh.prod (Sh.int IntKind.i64) (Sh.prod (Sh.int IntKind.i64) (Sh.prod (Sh.int IntKind.i64) Sh.unit)))) = es[j] := hget
    unfold errAt at hne ⊢
    rw [hget] at hne ⊢
    simp only [xst10, hd_cons, tl_cons, Sc.toI_i, Sc.toD_d', Int.toNat_natCast, Option.getD_some, Option.getD_none, h1, h0]
    rw [hget']
    generalize es[j] = e at hne ⊢
    obtain ⟨op, ty, n, u⟩ := e
    generalize hst : stkN regs es j = st at hsl hne ⊢
    obtain ⟨ha0, ha4⟩ := arity_range op ty
    unfold errN chkN topOf at hne ⊢
    simp only at hne ⊢
    by_cases hA : aloneV op ty n regs.length gs.length = 0
    rotate_left
    · have hAn : sNe (aloneV op ty n regs.length gs.length) 0 = true := by simpa [sNe] using hA
      rw [if_pos hA]
      simp [sAnd, sOr, sNot, sIf, hAn, sSome]
    have hA0 : sNe (aloneV op ty n regs.length gs.length) 0 = false := by rw [hA]; rfl
    rw [if_neg (by simpa using hA)] at hne ⊢
    have hwr : IntKind.wrap .i64 ((st.length : Int) - arity op ty) = (st.length : Int) - arity op ty := wrap_i64 (by omega) (by omega)
    rw [hwr]
    by_cases hS : (st.length : Int) < arity op ty
    · have hSt : sLt ((st.length : Int) - arity op ty) 0 = true := sLt_true (by omega)
      rw [if_pos hS]
      simp [sAnd, sOr, sNot, sIf, hA0, hSt, sNe, sSome]
    have hSf : sLt ((st.length : Int) - arity op ty) 0 = false := sLt_false (by omega)
    rw [if_neg hS] at hne ⊢
    by_cases h4 : op = 4
    · rw [if_pos h4] at hne; exact absurd rfl hne
    have h4f : sEq op 4 = false := by simpa [sEq] using h4
    rw [if_neg h4] at hne ⊢
    have hm : ((st.length : Int) - arity op ty).toNat = st.length - (arity op ty).toNat := by omega
    have e3 : sLe 0 ((st.length : Int) - arity op ty) = true := decide_eq_true (by omega)
    have e4 : sLe ((st.length : Int) - arity op ty) (st.length : Int) = true := decide_eq_true (by omega)
    have e5 : sLe (st.length : Int) (st.length : Int) = true := decide_eq_true (by omega)
    generalize hmm : st.length - (arity op ty).toNat = m at hm hne ⊢
    have hml : m ≤ st.length := by omega
    have htk : List.take (st.length - m) (List.drop m st) = List.drop m st := List.take_of_length_le (by simp)
    have hk1 : len1000 (List.drop m st).length = true := by unfold len1000; rw [Nat.ble_eq]; simp; omega
    have hk2 : len1000 (rangeL (List.drop m st).length).length = true := by rw [rangeL_len]; exact hk1
    simp only [hA0, hSf, h4f, hm, e3, e4, e5, htk, hk1, hk2]
    generalize chkV op ty ((List.drop m st).length : Int) (rangeL (List.drop m st).length) (immOf op n) (symOf op n) 0 false (List.drop m st ++ [ty]) gs fs = C at hne ⊢
    have hCn : sNe C 0 = true := by simpa [sNe] using hne
    simp [sAnd, sOr, sNot, sIf, hCn, sNe, sSome]
  · have hN : endN regs gs fs es = es.length := by omega
    rw [if_neg (by omega), hN]
    have h1 : sLt (es.length : Int) (es.length : Int) = false := sLt_false (by omega)
    simp only [xst10, hd_cons, tl_cons, Sc.toI_i, Sc.toD_d', h1]
    generalize stkN regs es es.length = st
    match st with
    | [] => simp [sAnd, sOr, sNot, sIf, sSome, sEq]
    | [x] => simp [sAnd, sOr, sNot, sIf, sSome, sEq]
    | x :: y :: zs =>
      have e1 : sEq ((x :: y :: zs).length : Int) 0 = false := by simp [sEq]; omega
      have e2 : sEq ((x :: y :: zs).length : Int) 1 = false := by simp [sEq]; omega
      have e3 : ¬ (x :: y :: zs).length = 0 := by simp
      have e4 : ¬ (x :: y :: zs).length = 1 := by simp
      rw [if_neg e3, if_neg e4]
      simp only [e1, e2]
      simp [sAnd, sOr, sNot, sIf, sSome]
end
end Go.Proofs.YtaajbcflmaihgaaDoor
/- The instruction of a node is the same to the check, in the program's numbers and in the reference's. No conditions. -/
set_option linter.all false
namespace Go.Proofs.YtaajbcflmaihgaaDoor
open Go Ab
set_option maxRecDepth 100000
theorem xcount_eq (op sym : Int) (fs : List (Sh.den funS)) {a b : List Int} (h : a.length = b.length) : countV op a sym fs = countV op b sym fs := by
  unfold countV r32
  simp only [h]
theorem regsOf_L (ts : List Int) (ty : Int) : regsOf (rangeL ts.length) (ts ++ [ty]) = ts := by
  unfold regsOf rangeL
  rw [List.map_map]
  apply List.ext_getElem
  · simp
  · intro i h1 h2
    simp only [List.getElem_map, List.getElem_range, Function.comp]
    have : (Int.ofNat i).toNat = i := rfl
    rw [this, List.getD_eq_getElem?_getD, List.getElem?_append_left h2, List.getElem?_eq_getElem h2]
    rfl
theorem regsOf_M (ts : List Int) (ty : Int) : regsOf (rangeM ts.length) ([ty] ++ ts) = ts := by
  unfold regsOf rangeM
  rw [List.map_map]
  apply List.ext_getElem
  · simp
  · intro i h1 h2
    simp only [List.getElem_map, List.getElem_range, Function.comp]
    have : (Int.ofNat i + 1).toNat = i + 1 := rfl
    rw [this, List.getD_eq_getElem?_getD]
    simp [List.getElem?_eq_getElem h2]
theorem bad_L (ts : List Int) (ty : Int) : decide (badRN (rangeL ts.length) (ts ++ [ty]) < (rangeL ts.length).length) = false := by
  rw [decide_eq_false_iff_not]
  unfold badRN
  rw [List.findIdx_lt_length]
  rintro ⟨x, hx, hb⟩
  simp only [rangeL, List.mem_map, List.mem_range] at hx
  obtain ⟨i, hi, rfl⟩ := hx
  unfold badR at hb
  rw [sLt_false (show ¬ (Int.ofNat i < 0) by simp), sLe_eq, sLt_true (show Int.ofNat i < ((ts ++ [ty]).length : Int) by simp only [Int.ofNat_eq_natCast, List.length_append, List.length_singleton]; omega)] at hb
  exact absurd hb (by decide)
theorem bad_M (ts : List Int) (ty : Int) : decide (badRN (rangeM ts.length) ([ty] ++ ts) < (rangeM ts.length).length) = false := by
  rw [decide_eq_false_iff_not]
  unfold badRN
  rw [List.findIdx_lt_length]
  rintro ⟨x, hx, hb⟩
  simp only [rangeM, List.mem_map, List.mem_range] at hx
  obtain ⟨i, hi, rfl⟩ := hx
  unfold badR at hb
  rw [sLt_false (show ¬ (Int.ofNat i + 1 < 0) by have := Int.natCast_nonneg i; simp only [Int.ofNat_eq_natCast]; omega), sLe_eq, sLt_true (show Int.ofNat i + 1 < (([ty] ++ ts).length : Int) by simp only [Int.ofNat_eq_natCast, List.length_append, List.length_singleton]; omega)] at hb
  exact absurd hb (by decide)
theorem res_eq (op ty : Int) (ts : List Int) : resV op ty (ts.length : Int) (ts ++ [ty]) = resV op ty 0 ([ty] ++ ts) := by
  unfold resV r34
  have e1 : (ts ++ [ty]).getD (ts.length : Int).toNat 0 = ty := by simp
  have e2 : ([ty] ++ ts).getD (0 : Int).toNat 0 = ty := by simp
  have e3 : sEq (ts.length : Int) (-1) = false := by simp [sEq]
  have e4 : sEq 0 (-1) = false := rfl
  have e5 : sEq ty ty = true := by simp [sEq]
  simp only [e3, e4, e1, e2, boolOf]
theorem chk_eq (op ty imm sym : Int) (ts : List Int) (gs : List gloS.den) (fs : List funS.den) :
    chkV op ty (ts.length : Int) (rangeL ts.length) imm sym 0 false (ts ++ [ty]) gs fs = chkV op ty 0 (rangeM ts.length) imm sym 0 false ([ty] ++ ts) gs fs := by
  unfold chkV
  rw [xcount_eq op sym fs (show (rangeL ts.length).length = (rangeM ts.length).length by rw [rangeL_len, rangeM_len]), bad_L, bad_M, regsOf_L, regsOf_M, res_eq]
  rw [sLt_false (show ¬ ((ts.length : Int) < -1) by omega), sLt_false (show ¬ ((0 : Int) < -1) by omega), sLe_eq, sLe_eq, sLt_true (show (ts.length : Int) < ((ts ++ [ty]).length : Int) by simp only [List.length_append, List.length_singleton]; omega), sLt_true (show (0 : Int) < (([ty] ++ ts).length : Int) by simp only [List.length_append, List.length_singleton]; omega)]
end Go.Proofs.YtaajbcflmaihgaaDoor
