/- The law ExprExtends answers true. No conditions but the bound on numbers in memory. -/
import Derived.Test.YtaajbcflmaihgaaDoorExpLaw3
set_option linter.all false
namespace Go.Proofs.YtaajbcflmaihgaaDoor
open Go Ab
set_option maxRecDepth 100000
theorem xf4 (es : List Nod) (fnm : ByteArray) (fps : List Int) (fres : Int) (regs : List Int) (fbl : List blkS.den) (gs : List gloS.den) (fs : List funS.den) (t : Int) : exFn (gX w1) Tryd.f4 [AV.dsl nodS es, funA fnm fps fres regs fbl, modA gs fs, AV.int IntKind.i64 t] = (
 let q0 : Bool := (Tg.mix (bigV es regs gs fs) Tg.r Tg.n).isN;
  let q1 : Bool := sAnd true (sAnd true (sAnd true (sAnd (sAnd true (sAnd (len150 es.length) (wfNods es))) true)));
  let q2 : Bool := sNe (checkV regs gs fs es).snd 0;
  let q3 : Bool := (Tg.mix q2 Tg.r Tg.n).isN;
  let q4 : List (Sh.int IntKind.i64).den := [] ++ regs;
  let q5 : List (Sh.int IntKind.i64).den := [t];
  let q6 : List (Sh.str.prod ((Sh.int IntKind.i64).prod ((Sh.int IntKind.i64).prod ((Sh.int IntKind.i64).sl.prod (Sh.bool.prod Sh.unit))))).den := [];
  let q7 : List (Sh.str.prod ((Sh.int IntKind.i64).prod ((Sh.int IntKind.i64).prod ((Sh.int IntKind.i64).sl.prod (Sh.bool.prod Sh.unit))))).den := q6 ++ gs;
  let q8 : Int × Int := checkV (q4 ++ q5) (q7 ++ ({ data := { toList := [109, 111, 114, 101] } }, 2, 1, [], false, PUnit.unit) :: q6) fs es;
  let q9 : Bool := sEq q8.snd 0;
  let q10 : Bool := sNot q9;
  let q11 : Bool := sOr q10 true;
  let q12 : Bool := sIf q9 (sEq (checkV regs gs fs es).fst q8.fst) false;
  some
  (sAnd true
      (sIf true
        (sAnd (sAnd true (sIf true (sAnd true (sIf (bigV es regs gs fs) true true)) true))
          (sIf q0
            (sAnd q1
              (sIf true
                (sAnd
                  (sAnd true
                    (sIf true
                      (sAnd true
                        (sIf q2
                          (sAnd q1
                            (sIf true
                              (sAnd
                                (sAnd true
                                  (sAnd true
                                    (sAnd true (sAnd (sOr (sNot q2) true) (sAnd (sAnd true (sIf q2 q2 true)) true)))))
                                true)
                              true))
                          true))
                      true))
                  (sIf q3
                    (sAnd
                      (sAnd true
                        (sAnd true
                          (sAnd true
                            (sAnd (sAnd true (sLe (↑((0 + regs.length) * 8)) 140737488355328))
                              (sAnd true
                                (sAnd true
                                  (sAnd (sAnd true (sLe (↑((q4.length + q5.length) * 8)) 140737488355328)) true)))))))
                      (sIf true
                        (sAnd
                          (sAnd
                            (sAnd true
                              (sAnd true
                                (sAnd true
                                  (sAnd (sAnd true (sLe (↑((0 + gs.length) * 64)) 140737488355328))
                                    (sAnd true
                                      (sAnd true
                                        (sAnd (sAnd true (sLe (↑((q7.length + 1) * 64)) 140737488355328)) true)))))))
                            true)
                          (sIf true
                            (sAnd q1
                              (sIf true
                                (sAnd
                                  (sAnd true
                                    (sAnd true
                                      (sAnd true
                                        (sAnd q11
                                          (sAnd q11
                                            (sAnd (sOr q10 (sAnd (sAnd q9 q9) true))
                                              (sAnd (sAnd true (sIf q9 q9 true))
                                                (sAnd true
                                                  (sAnd (sOr (sNot q12) true)
                                                    (sAnd (sAnd true (sIf q12 q12 true)) true))))))))))
                                  true)
                                true))
                            true))
                        true))
                    true))
                true))
            true))
        true),
    AV.bool (sIf q0 (sIf q3 (sIf q12 true false) (sIf q2 true false)) true))) := by kernel_rfl


theorem sym_more {op sym : Int} {gs : List gloS.den} (x : gloS.den) {fs : List funS.den} (h : symV op sym gs fs = 0) : symV op sym (gs ++ [x]) fs = 0 := by
  unfold symV intOf r31 at h ⊢
  have hl : ((gs ++ [x]).length : Int) = gs.length + 1 := by simp
  rw [hl]
  simp [sIf, sEq, sLt, sLe] at h ⊢
  grind
theorem chk_more {op ty dst imm sym elem : Int} {iargs regs : List Int} {nw : Bool} {gs : List gloS.den} (x : gloS.den) {fs : List funS.den} (h : chkV op ty dst iargs imm sym elem nw regs gs fs = 0) :
    chkV op ty dst iargs imm sym elem nw regs (gs ++ [x]) fs = 0 := by
  unfold chkV at h ⊢
  by_cases hs : symV op sym gs fs = 0
  · rw [hs] at h
    rw [sym_more x hs]
    exact h
  · have : sNe (symV op sym gs fs) 0 = true := by simpa [sNe] using hs
    rw [this] at h
    exfalso
    revert h
    generalize bEq (nameOf op) (ByteArray.mk (Array.mk [])) = b
    generalize hf : fieldsV op imm sym elem nw = f
    cases b with
    | true => simp [sIf]
    | false =>
      by_cases h0 : f = 0
      · subst h0; simpa [sIf, sNe] using hs
      · have h2 : sNe f 0 = true := by simpa [sNe] using h0
        rw [h2]
        simpa [sIf] using h0
theorem alone_more {op ty n nr ng nr' ng' : Int} (h1 : nr ≤ nr') (h2 : ng ≤ ng') (h : aloneV op ty n nr ng = 0) : aloneV op ty n nr' ng' = 0 := by
  unfold aloneV at h ⊢
  simp only [sIf, sEq, sNe, sLt, sLe, sNot] at h ⊢
  grind
section
variable (regs : List Int) (t : Int) (gs : List gloS.den) (x : gloS.den) (fs : List funS.den)
theorem err_parts {st : List Int} {e : Nod} (h : errN regs gs fs st e = 0) : aloneV e.1 e.2.1 e.2.2.1 regs.length gs.length = 0 := by
  unfold errN at h
  by_cases ha : aloneV e.1 e.2.1 e.2.2.1 regs.length gs.length = 0
  · exact ha
  · rw [if_pos ha] at h
    exact absurd h ha
theorem next_more {st : List Int} {e : Nod} (h : errN regs gs fs st e = 0) : nextN (regs ++ [t]) st e = nextN regs st e := by
  have ha := err_parts regs gs fs h
  unfold nextN
  by_cases h4 : e.1 = 4
  · rw [if_pos h4, if_pos h4]
    rw [h4] at ha
    obtain ⟨h0, h1⟩ := alone4 ha
    congr 2
    rw [List.getD_eq_getElem?_getD, List.getD_eq_getElem?_getD, List.getElem?_append_left (by omega)]
  · rw [if_neg h4, if_neg h4]
theorem err_more {st : List Int} {e : Nod} (h : errN regs gs fs st e = 0) : errN (regs ++ [t]) (gs ++ [x]) fs st e = 0 := by
  have ha := err_parts regs gs fs h
  have ha' : aloneV e.1 e.2.1 e.2.2.1 (regs ++ [t]).length (gs ++ [x]).length = 0 := alone_more (by simp only [List.length_append, List.length_singleton]; omega) (by simp only [List.length_append, List.length_singleton]; omega) ha
  unfold errN at h ⊢
  rw [if_neg (by simpa using ha)] at h
  rw [if_neg (by simpa using ha')]
  by_cases h1 : (st.length : Int) < arity e.1 e.2.1
  · rw [if_pos h1] at h
    exact absurd h (by decide)
  · rw [if_neg h1] at h ⊢
    by_cases h4 : e.1 = 4
    · rw [if_pos h4]
    · rw [if_neg h4] at h ⊢
      exact chk_more x h
theorem stk_more (es : List Nod) (h : ∀ j, j < es.length → errAt regs gs fs es j = 0) : ∀ j, j ≤ es.length → stkN (regs ++ [t]) es j = stkN regs es j
  | 0, _ => rfl
  | j + 1, hj => by
    have hj' : j < es.length := by omega
    rw [stkN_succ _ es j hj', stkN_succ _ es j hj', stk_more es h j (by omega)]
    have he := h j hj'
    unfold errAt at he
    rw [show es.getD j nodS.dflt = es[j] by rw [List.getD_eq_getElem?_getD, List.getElem?_eq_getElem hj']; rfl] at he
    exact next_more regs t gs fs he
theorem endN_all {es : List Nod} (h : ∀ j, j < es.length → errAt regs gs fs es j = 0) : endN regs gs fs es = es.length := by
  rcases Nat.lt_or_ge (endN regs gs fs es) es.length with hl | hl
  · exact absurd (h _ hl) (endN_at regs gs fs es hl)
  · exact Nat.le_antisymm (endN_le regs gs fs es) hl
theorem check_more {es : List Nod} (h : (checkV regs gs fs es).2 = 0) : checkV (regs ++ [t]) (gs ++ [x]) fs es = checkV regs gs fs es := by
  have hle := endN_le regs gs fs es
  have hend : endN regs gs fs es = es.length := by
    rcases Nat.lt_or_ge (endN regs gs fs es) es.length with hl | hl
    · unfold checkV at h
      rw [if_pos hl] at h
      exact absurd h (endN_at regs gs fs es hl)
    · omega
  have hall : ∀ j, j < es.length → errAt regs gs fs es j = 0 := fun j hj => endN_before regs gs fs es (by omega)
  have hs := stk_more regs t gs fs es hall
  have hall' : ∀ j, j < es.length → errAt (regs ++ [t]) (gs ++ [x]) fs es j = 0 := fun j hj => by
    unfold errAt
    rw [hs j (by omega)]
    exact err_more regs t gs x fs (hall j hj)
  have hend' := endN_all (regs ++ [t]) (gs ++ [x]) fs hall'
  unfold checkV
  rw [hend, hend', hs es.length (by omega), if_neg (Nat.lt_irrefl _), if_neg (Nat.lt_irrefl _)]
end
theorem bigV_all {es : List Nod} {regs : List Int} {gs : List gloS.den} {fs : List funS.den} (h : bigV es regs gs fs = false) : es.length ≤ 150 ∧ regs.length ≤ 500 ∧ gs.length ≤ 100 := by
  unfold bigV at h
  simp only [sIf, sLt] at h
  grind
theorem check4 (es : List Nod) (fnm : ByteArray) (fps : List Int) (fres : Int) (regs : List Int) (fbl : List blkS.den) (gs : List gloS.den) (fs : List funS.den) (t : Int) (hwf : wfNods es = true) :
    exFn (gX w1) Tryd.f4 [AV.dsl nodS es, funA fnm fps fres regs fbl, modA gs fs, AV.int .i64 t] = some (true, .bool true) := by
  rw [xf4]
  by_cases hb : bigV es regs gs fs = true
  · rw [hb]; rfl
  · have hb : bigV es regs gs fs = false := by simpa using hb
    have hl : len150 es.length = true := Nat.ble_eq_true_of_le (bigV_len hb)
    obtain ⟨-, hr, hg⟩ := bigV_all hb
    simp only [hb, hl, hwf, List.nil_append]
    by_cases h : (checkV regs gs fs es).2 = 0
    · have hn : sNe (checkV regs gs fs es).2 0 = false := by rw [h]; rfl
      have he : sEq (checkV regs gs fs es).2 0 = true := by rw [h]; rfl
      have e1 : sLe (((0 + regs.length) * 8 : Nat) : Int) 140737488355328 = true := decide_eq_true (by omega)
      have e2 : sLe (((regs.length + [t].length) * 8 : Nat) : Int) 140737488355328 = true := decide_eq_true (by simp; omega)
      have e3 : sLe (((0 + gs.length) * 64 : Nat) : Int) 140737488355328 = true := decide_eq_true (by omega)
      have e4 : sLe (((gs.length + 1) * 64 : Nat) : Int) 140737488355328 = true := decide_eq_true (by omega)
      simp only [check_more regs t gs _ fs h, hn, he, e1, e2, e3, e4, sEq_self]
      rfl
    · have hn : sNe (checkV regs gs fs es).2 0 = true := by simpa [sNe] using h
      simp only [hn]
      rfl
end Go.Proofs.YtaajbcflmaihgaaDoor
