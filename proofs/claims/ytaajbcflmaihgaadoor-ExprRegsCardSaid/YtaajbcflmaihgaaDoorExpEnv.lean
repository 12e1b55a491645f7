/- Tables of contracts of all kinds: on data, in place, with new results. -/
import Derived.Test.YtaajbcflmaihgaaDoorAbRun
import Derived.Test.YtaajbcflmaihgaaDoorOpcRef8
set_option linter.all false
namespace Go.Proofs.YtaajbcflmaihgaaDoor
open Go Ab
set_option maxRecDepth 100000
abbrev ITab := List (FuncId × IC)
abbrev NTab := List (FuncId × (List AV → Option (Bool × ((s : Sh) × List s.den))))
structure XTab where
  k : Tab
  i : ITab := []
  j : Tab := []
  n : NTab := []
noncomputable def gX (x : XTab) : Fx := { P := Tryd.prog, G := Gw, K := fun f => x.k.lookup f, I := fun f => x.i.lookup f, J := fun f => x.j.lookup f, N := fun f => x.n.lookup f, res := [], W := whileW, rounds := 6 }
noncomputable abbrev E0 : Env := (gT t0).toEnv
structure XOk (x : XTab) : Prop where
  k : TabOk x.k
  i : ∀ f c, x.i.lookup f = some c → IOk E0 f c
  j : ∀ f c, x.j.lookup f = some c → KFr E0 f c
  n : ∀ f c, x.n.lookup f = some c → KNew E0 f c

theorem KFr.cast {E E' : Env} {f : FuncId} {c : List AV → Option (Bool × AV)} (H : KFr E f c) (hP : E.P = E'.P) (hG : E.G = E'.G) : KFr E' f c := by
  obtain ⟨P, G, K, I, J, N⟩ := E
  obtain ⟨P', G', K', I', J', N'⟩ := E'
  cases hP
  cases hG
  exact ⟨H.enter, H.valid⟩
theorem KNew.cast {E E' : Env} {f : FuncId} {c} (H : KNew E f c) (hP : E.P = E'.P) (hG : E.G = E'.G) : KNew E' f c := by
  obtain ⟨P, G, K, I, J, N⟩ := E
  obtain ⟨P', G', K', I', J', N'⟩ := E'
  cases hP
  cases hG
  exact ⟨H.enter, H.valid⟩
theorem XOk.env {x : XTab} (h : XOk x) : EnvOk (gX x).toEnv :=
  ⟨fun f c e => (h.k f c e).cast rfl rfl, fun f c e => (h.i f c e).cast rfl rfl, fun f c e => KFr.cast (h.j f c e) rfl rfl, fun f c e => KNew.cast (h.n f c e) rfl rfl⟩
theorem lookup_cons_ok {α : Type} {p : FuncId → α → Prop} {t : List (FuncId × α)} (h : ∀ f c, t.lookup f = some c → p f c) {f : FuncId} {c : α} (k : p f c) : ∀ f' c', List.lookup f' ((f, c) :: t) = some c' → p f' c' := by
  intro f' c' e
  rw [List.lookup_cons] at e
  split at e
  · rename_i hh; cases e; rw [beq_iff_eq] at hh; subst hh; exact k
  · exact h _ _ e
theorem XOk.consK {x : XTab} (h : XOk x) {f : Nat} {c} (k : KOk E0 f c) : XOk { x with k := (f, c) :: x.k } := ⟨h.k.cons k, h.i, h.j, h.n⟩
theorem XOk.consI {x : XTab} (h : XOk x) {f : Nat} {c} (k : IOk E0 f c) : XOk { x with i := (f, c) :: x.i } := ⟨h.k, lookup_cons_ok h.i k, h.j, h.n⟩
theorem XOk.consJ {x : XTab} (h : XOk x) {f : Nat} {c} (k : KFr E0 f c) : XOk { x with j := (f, c) :: x.j } := ⟨h.k, h.i, lookup_cons_ok h.j k, h.n⟩
theorem XOk.consN {x : XTab} (h : XOk x) {f : Nat} {c} (k : KNew E0 f c) : XOk { x with n := (f, c) :: x.n } := ⟨h.k, h.i, h.j, lookup_cons_ok h.n k⟩
section
variable {x : XTab} (h : XOk x) (hm : Tryd.prog.follows .mixedOrders = true) {f : Nat} {fn : Func} (hf : Tryd.prog.funcs[f]? = some fn) (hn : (fn.name == "runtime.NumGoroutine") = false) (hb : fn.body.isNone = false)
include h hm hf hn hb
/-- The contract of a function on data, out of its reading. -/
theorem XOk.read {C : List AV → Option (Bool × AV)} (hC : ∀ xs r, C xs = some (true, r) → exFn (gX x) fn xs = some (true, r)) : KOk E0 f C :=
  KOk.cast (E := (gX x).toEnv) (E' := E0) (exFnE_ok (Γ := gX x) (fn := fn) h.env wok_whileW hm hf (fun xs w => enter_of hf hn hb xs w) hC) rfl rfl
/-- Run closed. -/
theorem XOk.readC (k : Nat) {C : List AV → Option (Bool × AV)} (hC : ∀ xs r, C xs = some (true, r) → exFnC (gX x) k fn xs = some (true, r)) : KOk E0 f C :=
  KOk.cast (E := (gX x).toEnv) (E' := E0) (exFnCE_ok (Γ := gX x) k (fn := fn) h.env hm hf (fun xs w => enter_of hf hn hb xs w) hC) rfl rfl
/-- In place. -/
theorem XOk.readI : IOk E0 f (exFnI (gX x) fn) :=
  IOk.cast (E := (gX x).toEnv) (E' := E0) (exFnI_ok (Γ := gX x) (fn := fn) h.env wok_whileW hm hf (fun xs w => enter_of hf hn hb xs w)) rfl rfl
/-- In place, run closed. -/
theorem XOk.readCI (k : Nat) : IOk E0 f (exFnCI (gX x) k fn) :=
  IOk.cast (E := (gX x).toEnv) (E' := E0) (exFnCI_ok (Γ := gX x) k (fn := fn) h.env hm hf (fun xs w => enter_of hf hn hb xs w)) rfl rfl
/-- In place, run closed, some tests said beforehand. -/
theorem XOk.readCIo (orc : List (Nat × Bool)) (k : Nat) : IOk E0 f (exFnCI { gX x with orc := orc } k fn) :=
  IOk.cast (E := (gX x).toEnv) (E' := E0) (exFnCI_ok (Γ := { gX x with orc := orc }) k (fn := fn) h.env hm hf (fun xs w => enter_of hf hn hb xs w)) rfl rfl
/-- A test of a slice against nil first. -/
theorem XOk.readN {C : List AV → Option (Bool × ((s : Sh) × List s.den))} (hC : ∀ us s xs, C us = some (true, ⟨s, xs⟩) → nilTest (gX x) fn us = some (true, xs.length, ⟨s, xs⟩)) : KNew E0 f C :=
  KNew.cast (E := (gX x).toEnv) (E' := E0) (nilTest_ok (Γ := gX x) (fn := fn) h.env wok_whileW hm hf (fun xs w => enter_of hf hn hb xs w) hC) rfl rfl
end
end Go.Proofs.YtaajbcflmaihgaaDoor
/- slices.Clone of types. No conditions. -/
set_option linter.all false
namespace Go.Proofs.YtaajbcflmaihgaaDoor
open Go Ab
set_option maxRecDepth 100000
noncomputable def x0 : XTab := { k := e25T }
theorem xk0 (hm : Tryd.prog.follows .mixedOrders = true) : XOk x0 := ⟨ek25 hm, fun f c h => (by cases h), fun f c h => (by cases h), fun f c h => (by cases h)⟩
theorem xf44 (xs : List Int) : nilTest (gX x0) Tryd.f44 [AV.dsl (Sh.int IntKind.i64) xs] = (
 some
  (sAnd true
      (sAnd true
        (sAnd
          (sAnd
            (sAnd (sAnd true (sAnd true (sAnd (sAnd true (sLe (((0 + List.length xs) * 8 : Nat) : Int) 140737488355328)) true)))
              true)
            true)
          true)),
    List.length xs, Sigma.mk (Sh.int IntKind.i64) ([] ++ xs))) := by kernel_rfl
def len1e6 (n : Nat) : Bool := Nat.ble n 1000000
/-- slices.Clone of at most a million elements. -/
def xm44 : List AV → Option (Bool × ((s : Sh) × List s.den))
  | [.dsl (.int .i64) xs] => some (len1e6 xs.length, ⟨.int .i64, xs⟩)
  | _ => none
noncomputable def x1 : XTab := { x0 with n := (44, xm44) :: x0.n }
theorem xk1 (hm : Tryd.prog.follows .mixedOrders = true) : XOk x1 := (xk0 hm).consN ((xk0 hm).readN hm Tryd.func44 (by decide) (by rfl) (by
  intro us s xs h
  unfold xm44 at h
  split at h
  · rename_i ys
    simp only [Option.some.injEq, Prod.mk.injEq] at h
    obtain ⟨h1, h2⟩ := h
    cases h2
    rw [xf44]
    have hl : ys.length ≤ 1000000 := Nat.le_of_ble_eq_true h1
    have : sLe (((0 + List.length ys) * 8 : Nat) : Int) 140737488355328 = true := decide_eq_true (by omega)
    rw [this]
    rfl
  · cases h))
end Go.Proofs.YtaajbcflmaihgaaDoor
/- Classifications of nodes, in natural form. No conditions. -/
set_option linter.all false
namespace Go.Proofs.YtaajbcflmaihgaaDoor
open Go Ab
set_option maxRecDepth 100000
def hasN (op : Int) : Bool := decide (op = 4 ∨ op = 1 ∨ op = 25 ∨ op = 33)
def arity (op ty : Int) : Int :=
  if op = 4 ∨ op = 1 ∨ op = 2 ∨ op = 25 then 0 else if op = 22 ∨ op = 23 ∨ op = 24 ∨ op = 33 ∨ op = 28 then 1 else if op = 21 then 3 else if op = 32 then (if ty = 6 then 2 else 4) else 2
theorem xf43 (op : Int) : exFn (gX x1) Tryd.f43 [AV.int IntKind.i64 op] = (
 let q0 : Bool := sNot (sNot (sEq op 4));
  let q1 : Bool := sIf (sEq op 4) true (sEq op 1);
  let q2 : Bool := sNot q1;
  let q3 : Bool := sNot q2;
  let q4 : Bool := sIf q1 true (sEq op 25);
  let q5 : Bool := sNot q4;
  let q6 : Bool := sNot q5;
  some
  (sAnd true
      (sAnd
        (sAnd true
          (sAnd true
            (sAnd true
              (sAnd (sOr q0 true)
                (sAnd (sOr q0 (sAnd (sAnd (sNot (sEq op 4)) true) true))
                  (sAnd (sAnd true (sIf (sEq op 4) true (sNot (sEq op 4))))
                    (sAnd true
                      (sAnd (sOr q3 true)
                        (sAnd (sOr q3 (sAnd (sAnd q2 true) true))
                          (sAnd (sAnd true (sIf q1 true q2))
                            (sAnd true
                              (sAnd (sOr q6 true)
                                (sAnd (sOr q6 (sAnd (sAnd q5 true) true))
                                  (sAnd (sAnd true (sIf q4 true q5)) true))))))))))))))
        true),
    AV.bool (sIf q4 true (sEq op 33)))) := by kernel_rfl

theorem xf26 (op : Int) (ty : Int) (n : Int) : exFn (gX x1) Tryd.f26 [AV.agg [AV.int IntKind.i64 op, AV.int IntKind.i64 ty, AV.int IntKind.i64 n]] = (
 let q0 : Tg := Tg.mix (sEq op 4) Tg.n (Tg.mix (sEq op 1) Tg.n (Tg.mix (sEq op 2) Tg.n Tg.n));
  let q1 : Bool := sIf (sEq op 4) (sEq op 4) (sIf (sEq op 1) (sEq op 1) (sIf (sEq op 2) (sEq op 2) (sEq op 25)));
  let q2 : Tg := Tg.mix (sEq op 22) Tg.n (Tg.mix (sEq op 23) Tg.n (Tg.mix (sEq op 24) Tg.n (Tg.mix (sEq op 33) Tg.n Tg.n)));
  let q3 : Bool := sIf (sEq op 22) (sEq op 22) (sIf (sEq op 23) (sEq op 23) (sIf (sEq op 24) (sEq op 24) (sIf (sEq op 33) (sEq op 33) (sEq op 28))));
  let q4 : Tg := Tg.mix (sEq ty 6) Tg.r Tg.n;
  let q5 : Bool := Tg.isN q4;
  let q6 : Bool := Tg.isN (Tg.block 0 (Tg.thenN q0 (Tg.mix q1 Tg.r (Tg.thenN q2 (Tg.mix q3 Tg.r (Tg.mix (sEq op 21) Tg.r (Tg.mix (sEq op 32) (Tg.thenN q4 Tg.r) Tg.n)))))));
  some
  (sAnd true
      (sAnd
        (sAnd true
          (sAnd
            (sAnd true
              (sAnd true
                (sIf (sEq op 4) true
                  (sAnd true (sAnd true (sIf (sEq op 1) true (sAnd true (sAnd true (sIf (sEq op 2) true true)))))))))
            (sIf (Tg.isN q0)
              (sAnd true
                (sIf q1 true
                  (sAnd
                    (sAnd true
                      (sAnd true
                        (sIf (sEq op 22) true
                          (sAnd true
                            (sAnd true
                              (sIf (sEq op 23) true
                                (sAnd true
                                  (sAnd true
                                    (sIf (sEq op 24) true (sAnd true (sAnd true (sIf (sEq op 33) true true))))))))))))
                    (sIf (Tg.isN q2)
                      (sAnd true
                        (sIf q3 true
                          (sAnd true
                            (sAnd true
                              (sIf (sEq op 21) true
                                (sAnd true
                                  (sAnd true
                                    (sIf (sEq op 32)
                                      (sAnd (sAnd true (sAnd true (sIf (sEq ty 6) true true))) (sIf q5 true true))
                                      true))))))))
                      true))))
              true)))
        (sIf q6 true true)),
    AV.int IntKind.i64 (sIf q6 2 (sIf q1 0 (sIf q3 1 (sIf (sEq op 21) 3 (sIf q5 4 2))))))) := by kernel_rfl

theorem xf29 (op : Int) (ty : Int) (n : Int) : exFn (gX x1) Tryd.f29 [AV.agg [AV.int IntKind.i64 op, AV.int IntKind.i64 ty, AV.int IntKind.i64 n]] = (
 let q0 : Tg := Tg.mix (sEq op 4) Tg.n (Tg.mix (sEq op 1) Tg.n (Tg.mix (sEq op 2) Tg.n Tg.n));
  let q1 : Bool := sIf (sEq op 4) (sEq op 4) (sIf (sEq op 1) (sEq op 1) (sIf (sEq op 2) (sEq op 2) (sEq op 25)));
  let q2 : Tg := Tg.mix (sEq op 22) Tg.n (Tg.mix (sEq op 23) Tg.n (Tg.mix (sEq op 24) Tg.n (Tg.mix (sEq op 33) Tg.n Tg.n)));
  let q3 : Bool := sIf (sEq op 22) (sEq op 22) (sIf (sEq op 23) (sEq op 23) (sIf (sEq op 24) (sEq op 24) (sIf (sEq op 33) (sEq op 33) (sEq op 28))));
  let q4 : Bool := Tg.isN (Tg.block 0 (Tg.thenN q0 (Tg.mix q1 Tg.r (Tg.thenN q2 (Tg.mix q3 Tg.r (Tg.mix (sEq op 21) Tg.r (Tg.mix (sEq op 32) (Tg.mix (sNe ty 6) Tg.r Tg.n) Tg.n)))))));
  some
  (sAnd true
      (sAnd
        (sAnd true
          (sAnd
            (sAnd true
              (sAnd true
                (sIf (sEq op 4) true
                  (sAnd true (sAnd true (sIf (sEq op 1) true (sAnd true (sAnd true (sIf (sEq op 2) true true)))))))))
            (sIf (Tg.isN q0)
              (sAnd true
                (sIf q1 true
                  (sAnd
                    (sAnd true
                      (sAnd true
                        (sIf (sEq op 22) true
                          (sAnd true
                            (sAnd true
                              (sIf (sEq op 23) true
                                (sAnd true
                                  (sAnd true
                                    (sIf (sEq op 24) true (sAnd true (sAnd true (sIf (sEq op 33) true true))))))))))))
                    (sIf (Tg.isN q2)
                      (sAnd true
                        (sIf q3 true
                          (sAnd true
                            (sAnd true
                              (sIf (sEq op 21) true
                                (sAnd true
                                  (sAnd true
                                    (sIf (sEq op 32) (sAnd true (sAnd true (sIf (sNe ty 6) true true))) true))))))))
                      true))))
              true)))
        (sIf q4 true true)),
    AV.int IntKind.i64 (sIf q4 2 (sIf q1 0 (sIf q3 1 (sIf (sEq op 21) 3 4)))))) := by kernel_rfl

theorem nat43x (op : Int) : exFn (gX x1) Tryd.f43 [AV.int .i64 op] = some (true, .bool (hasN op)) := by
  rw [xf43]
  by_cases h1 : op = 4
  · subst h1; rfl
  by_cases h2 : op = 1
  · subst h2; rfl
  by_cases h3 : op = 25
  · subst h3; rfl
  by_cases h4 : op = 33
  · subst h4; rfl
  have e1 : sEq op 4 = false := by simpa [sEq] using h1
  have e2 : sEq op 1 = false := by simpa [sEq] using h2
  have e3 : sEq op 25 = false := by simpa [sEq] using h3
  have e4 : sEq op 33 = false := by simpa [sEq] using h4
  have eh : hasN op = false := by simp [hasN, h1, h2, h3, h4]
  rw [eh]
  simp only [e1, e2, e3, e4]
  rfl
theorem nat26x (op ty n : Int) : exFn (gX x1) Tryd.f26 [AV.agg [AV.int .i64 op, AV.int .i64 ty, AV.int .i64 n]] = some (true, .int .i64 (arity op ty)) := by
  rw [xf26]
  by_cases h1 : op = 4
  · subst h1; rfl
  by_cases h2 : op = 1
  · subst h2; rfl
  by_cases h3 : op = 2
  · subst h3; rfl
  by_cases h4 : op = 25
  · subst h4; rfl
  by_cases h5 : op = 22
  · subst h5; rfl
  by_cases h6 : op = 23
  · subst h6; rfl
  by_cases h7 : op = 24
  · subst h7; rfl
  by_cases h8 : op = 33
  · subst h8; rfl
  by_cases h9 : op = 28
  · subst h9; rfl
  by_cases h10 : op = 21
  · subst h10; rfl
  by_cases h11 : op = 32
  · subst h11
    by_cases ht : ty = 6
    · subst ht; rfl
    · have et : sEq ty 6 = false := by simpa [sEq] using ht
      have ea : arity 32 ty = 4 := by simp [arity, ht]
      rw [ea]
      simp only [et]
      rfl
  have e1 : sEq op 4 = false := by simpa [sEq] using h1
  have e2 : sEq op 1 = false := by simpa [sEq] using h2
  have e3 : sEq op 2 = false := by simpa [sEq] using h3
  have e4 : sEq op 25 = false := by simpa [sEq] using h4
  have e5 : sEq op 22 = false := by simpa [sEq] using h5
  have e6 : sEq op 23 = false := by simpa [sEq] using h6
  have e7 : sEq op 24 = false := by simpa [sEq] using h7
  have e8 : sEq op 33 = false := by simpa [sEq] using h8
  have e9 : sEq op 28 = false := by simpa [sEq] using h9
  have e10 : sEq op 21 = false := by simpa [sEq] using h10
  have e11 : sEq op 32 = false := by simpa [sEq] using h11
  have ea : arity op ty = 2 := by simp [arity, h1, h2, h3, h4, h5, h6, h7, h8, h9, h10, h11]
  rw [ea]
  simp only [e1, e2, e3, e4, e5, e6, e7, e8, e9, e10, e11]
  rfl
theorem nat29x (op ty n : Int) : exFn (gX x1) Tryd.f29 [AV.agg [AV.int .i64 op, AV.int .i64 ty, AV.int .i64 n]] = some (true, .int .i64 (arity op ty)) := by
  rw [xf29]
  by_cases h1 : op = 4
  · subst h1; rfl
  by_cases h2 : op = 1
  · subst h2; rfl
  by_cases h3 : op = 2
  · subst h3; rfl
  by_cases h4 : op = 25
  · subst h4; rfl
  by_cases h5 : op = 22
  · subst h5; rfl
  by_cases h6 : op = 23
  · subst h6; rfl
  by_cases h7 : op = 24
  · subst h7; rfl
  by_cases h8 : op = 33
  · subst h8; rfl
  by_cases h9 : op = 28
  · subst h9; rfl
  by_cases h10 : op = 21
  · subst h10; rfl
  by_cases h11 : op = 32
  · subst h11
    by_cases ht : ty = 6
    · subst ht; rfl
    · have et : sNe ty 6 = true := by simpa [sNe] using ht
      have ea : arity 32 ty = 4 := by simp [arity, ht]
      rw [ea]
      simp only [et]
      rfl
  have e1 : sEq op 4 = false := by simpa [sEq] using h1
  have e2 : sEq op 1 = false := by simpa [sEq] using h2
  have e3 : sEq op 2 = false := by simpa [sEq] using h3
  have e4 : sEq op 25 = false := by simpa [sEq] using h4
  have e5 : sEq op 22 = false := by simpa [sEq] using h5
  have e6 : sEq op 23 = false := by simpa [sEq] using h6
  have e7 : sEq op 24 = false := by simpa [sEq] using h7
  have e8 : sEq op 33 = false := by simpa [sEq] using h8
  have e9 : sEq op 28 = false := by simpa [sEq] using h9
  have e10 : sEq op 21 = false := by simpa [sEq] using h10
  have e11 : sEq op 32 = false := by simpa [sEq] using h11
  have ea : arity op ty = 2 := by simp [arity, h1, h2, h3, h4, h5, h6, h7, h8, h9, h10, h11]
  rw [ea]
  simp only [e1, e2, e3, e4, e5, e6, e7, e8, e9, e10, e11]
  rfl
def xm43 : List AV → Option (Bool × AV)
  | [.int .i64 op] => some (true, .bool (hasN op))
  | _ => none
def xm26 : List AV → Option (Bool × AV)
  | [.agg [.int .i64 op, .int .i64 ty, .int .i64 n]] => some (true, .int .i64 (arity op ty))
  | _ => none
noncomputable def x2 : XTab := { k := (43, xm43) :: (26, xm26) :: (29, xm26) :: e25T, n := x1.n }
theorem xk2 (hm : Tryd.prog.follows .mixedOrders = true) : XOk x2 := (((xk1 hm).consK ((xk1 hm).read hm Tryd.func29 (by decide) (by rfl) (by
  intro xs r h
  unfold xm26 at h
  split at h
  · cases h; exact nat29x _ _ _
  · cases h))).consK ((xk1 hm).read hm Tryd.func26 (by decide) (by rfl) (by
  intro xs r h
  unfold xm26 at h
  split at h
  · cases h; exact nat26x _ _ _
  · cases h))).consK ((xk1 hm).read hm Tryd.func43 (by decide) (by rfl) (by
  intro xs r h
  unfold xm43 at h
  split at h
  · cases h; exact nat43x _
  · cases h))
theorem xf25 (op : Int) (ty : Int) (n : Int) (fnm : ByteArray) (fps : List Int) (fres : Int) (regs : List Int) (fbl : List (Sh.den blkS)) (gs : List (Sh.den gloS)) (fs : List (Sh.den funS)) : exFn (gX x2) Tryd.f25 [AV.agg [AV.int IntKind.i64 op, AV.int IntKind.i64 ty, AV.int IntKind.i64 n], funA fnm fps fres regs fbl, modA gs fs] = (
 let q0 : Bool := sOr (sNot (sNe op 28)) (sNe op 28);
  let q1 : Bool := sIf (sNe op 28) (sNot (specOp op)) false;
  let q2 : Bool := sOr (sNot (sEq op 4)) true;
  let q3 : Bool := sOr (sNot (sEq op 4)) (sEq op 4);
  let q4 : Bool := sOr (sNot (sEq op 4)) (sAnd (sAnd (sEq op 4) true) true);
  let q5 : Bool := sAnd (sEq op 4) (sNot (sLt n 0));
  let q6 : Bool := sNot q5;
  let q7 : Bool := sOr q6 true;
  let q8 : Bool := sOr q6 q5;
  let q9 : Bool := sAnd (sAnd true (sIf (sEq op 4) (sEq op 4) true)) true;
  let q10 : Bool := sIf (sEq op 4) (sIf (sLt n 0) true (sLe (↑(List.length regs)) n)) false;
  let q11 : Bool := sOr (sNot (sEq op 25)) (sEq op 25);
  let q12 : Bool := sAnd (sEq op 25) (sNot (sLt n 0));
  let q13 : Bool := sNot q12;
  let q14 : Bool := sOr q13 true;
  let q15 : Bool := sOr q13 q12;
  let q16 : Bool := sIf (sEq op 25) (sIf (sLt n 0) true (sLe (↑(List.length gs)) n)) false;
  let q17 : Bool := sIf (sEq op 4) (sNe ty 0) false;
  let q18 : Bool := sOr (sNot (sNe n 0)) (sNe n 0);
  let q19 : Tg := Tg.mix q17 Tg.n Tg.n;
  let q20 : Bool := sIf q17 q17 (sIf (sNe n 0) (sNot (hasN op)) false);
  let q21 : Bool := Tg.isN (Tg.block 0 (Tg.mix q1 Tg.r (Tg.mix q10 Tg.r (Tg.mix q16 Tg.r (Tg.thenN q19 (Tg.mix q20 Tg.r Tg.n))))));
  some
  (sAnd true
      (sAnd
        (sAnd
          (sAnd true
            (sAnd true
              (sAnd true
                (sAnd true
                  (sAnd (sOr (sNot (sNe op 28)) true)
                    (sAnd q0
                      (sAnd (sOr (sNot (sNe op 28)) (sAnd (sAnd (sNe op 28) true) true))
                        (sAnd q0 (sAnd (sAnd true (sIf (sNe op 28) (sNe op 28) true)) true)))))))))
          (sAnd true
            (sIf q1 true
              (sAnd
                (sAnd true
                  (sAnd true
                    (sAnd true
                      (sAnd true
                        (sAnd q2
                          (sAnd q3
                            (sAnd q4
                              (sAnd q3
                                (sAnd q7
                                  (sAnd q8
                                    (sAnd q7
                                      (sAnd q8
                                        (sAnd q8
                                          (sAnd (sOr q6 (sAnd (sAnd q5 q5) true))
                                            (sAnd (sOr (sNot (sEq op 4)) (sAnd (sEq op 4) (sIf (sLt n 0) true q5)))
                                              q9)))))))))))))))
                (sAnd true
                  (sIf q10 true
                    (sAnd
                      (sAnd true
                        (sAnd true
                          (sAnd true
                            (sAnd true
                              (sAnd (sOr (sNot (sEq op 25)) true)
                                (sAnd q11
                                  (sAnd (sOr (sNot (sEq op 25)) (sAnd (sAnd (sEq op 25) true) true))
                                    (sAnd q11
                                      (sAnd q14
                                        (sAnd q15
                                          (sAnd q14
                                            (sAnd q15
                                              (sAnd q15
                                                (sAnd (sOr q13 (sAnd (sAnd q12 q12) true))
                                                  (sAnd
                                                    (sOr (sNot (sEq op 25)) (sAnd (sEq op 25) (sIf (sLt n 0) true q12)))
                                                    (sAnd (sAnd true (sIf (sEq op 25) (sEq op 25) true))
                                                      true))))))))))))))))
                      (sAnd true
                        (sIf q16 true
                          (sAnd
                            (sAnd (sAnd true (sAnd true (sAnd true (sAnd true (sAnd q2 (sAnd q3 (sAnd q4 q9)))))))
                              (sAnd true
                                (sIf q17 true
                                  (sAnd true
                                    (sAnd true
                                      (sAnd true
                                        (sAnd true
                                          (sAnd (sOr (sNot (sNe n 0)) true)
                                            (sAnd q18
                                              (sAnd (sOr (sNot (sNe n 0)) (sAnd (sAnd (sNe n 0) true) true))
                                                (sAnd q18
                                                  (sAnd (sAnd true (sIf (sNe n 0) (sNe n 0) true)) true))))))))))))
                            (sIf (Tg.isN q19) (sAnd true (sIf q20 true true)) true)))))))))))
        (sIf q21 true true)),
    AV.int IntKind.i64 (sIf q21 0 (sIf q1 9 (sIf q10 8 (sIf q16 8 3)))))) := by kernel_rfl

/-- What is said of a node alone. -/
def aloneV (op ty n nr ng : Int) : Int :=
  sIf (sIf (sNe op 28) (sNot (specOp op)) false) 9 (sIf (sIf (sEq op 4) (sIf (sLt n 0) true (sLe nr n)) false) 8 (sIf (sIf (sEq op 25) (sIf (sLt n 0) true (sLe ng n)) false) 8
    (sIf (sIf (sIf (sEq op 4) (sNe ty 0) false) true (sIf (sNe n 0) (sNot (hasN op)) false)) 3 0)))
theorem nat25x (op : Int) (ty : Int) (n : Int) (fnm : ByteArray) (fps : List Int) (fres : Int) (regs : List Int) (fbl : List (Sh.den blkS)) (gs : List (Sh.den gloS)) (fs : List (Sh.den funS)) : exFn (gX x2) Tryd.f25 [AV.agg [AV.int IntKind.i64 op, AV.int IntKind.i64 ty, AV.int IntKind.i64 n], funA fnm fps fres regs fbl, modA gs fs] =
    some (true, .int .i64 (aloneV op ty n regs.length gs.length)) := by
  rw [xf25]
  unfold aloneV
  generalize sNe op 28 = a
  generalize specOp op = b
  generalize sEq op 4 = c
  generalize sLt n 0 = d
  generalize sLe (regs.length : Int) n = e
  generalize sEq op 25 = f
  generalize sLe (gs.length : Int) n = g
  generalize sNe ty 0 = h
  generalize sNe n 0 = i
  generalize hasN op = j
  cases a <;> cases b <;> first | rfl | (cases c <;> cases d <;> first | rfl | (cases e <;> cases f <;> first | rfl | (cases g <;> first | rfl | (cases h <;> cases i <;> first | rfl | (cases j <;> rfl)))))
def xm25 : List AV → Option (Bool × AV)
  | [.agg [.int .i64 op, .int .i64 ty, .int .i64 n], f, m] => (asFun f).bind fun f => (asMod m).bind fun m => some (true, .int .i64 (aloneV op ty n f.2.2.2.1.length m.1.length))
  | _ => none
noncomputable def x3 : XTab := { x2 with k := (25, xm25) :: x2.k }
theorem xk3 (hm : Tryd.prog.follows .mixedOrders = true) : XOk x3 := (xk2 hm).consK ((xk2 hm).read hm Tryd.func25 (by decide) (by rfl) (by
  intro xs r h
  unfold xm25 at h
  split at h
  · simp only [Option.bind_eq_some_iff, Option.some.injEq, Prod.mk.injEq] at h
    obtain ⟨f, hf, m, hm, _, rfl⟩ := h
    rw [asFun_eq hf, asMod_eq hm]
    exact nat25x _ _ _ _ _ _ _ _ _ _
  · cases h))
end Go.Proofs.YtaajbcflmaihgaaDoor
/- The checks of opcode with arguments brought into a known form. No conditions. -/
set_option linter.all false
namespace Go.Proofs.YtaajbcflmaihgaaDoor
open Go Ab
set_option maxRecDepth 100000
noncomputable def p24 := preC (argsT Tryd.prog Tryd.f28) n24
noncomputable def p25 := preC (argsT Tryd.prog Tryd.f52) n25
noncomputable def x4 : XTab := { x3 with k := (28, p24) :: (52, p25) :: x3.k }
theorem lookup_n24 : e25T.lookup 28 = some n24 := rfl
theorem lookup_n25 : e25T.lookup 52 = some n25 := rfl
theorem xk4 (hm : Tryd.prog.follows .mixedOrders = true) : XOk x4 := ((xk3 hm).consK (KOk.preC ((ek25 hm) 52 n25 lookup_n25) _)).consK (KOk.preC ((ek25 hm) 28 n24 lookup_n24) _)
end Go.Proofs.YtaajbcflmaihgaaDoor
