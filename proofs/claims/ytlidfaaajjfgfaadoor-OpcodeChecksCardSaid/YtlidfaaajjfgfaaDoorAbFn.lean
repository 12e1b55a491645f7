import Derived.Test.YtlidfaaajjfgfaaDoorAbProg
set_option linter.unusedVariables false
set_option linter.all false
namespace Go.Proofs.YtlidfaaajjfgfaaDoor.Ab
open Go.RowKit

/-! ### Functions -/
def isTmpB : ResultVar → Bool | .tmp _ => true | _ => false

def packR : List AV → AV
  | [v] => v
  | vs => .tup vs

/-- What a function makes of data. -/
def exFn (Γ : Fx) (fn : Func) (args : List AV) : Option (Bool × AV) :=
  match fn.body with
  | none => none
  | some c =>
    if AV.allL (fun _ _ => false) args ∧ fn.results.toList.all isTmpB then
      (ex { Γ with res := fn.results.toList } c { tmps := TMap.ofL args fn.ntmps, rows := [], dt := .nil, dr := .nil }).bind fun o =>
        if o.exs.isEmpty then match o.nrm with
        | none => o.ret.map fun vs => (o.ok, packR vs)
        | some S1 => (retAV Γ.toEnv S1 fn.results.toList).bind fun (ok2, us) => (joinR o.tag.isN (some us) o.ret).bind fun r => r.map fun vs => (sAnd o.ok (sIf o.tag.isN ok2 true), packR vs)
        else none
    else none

theorem results_run {P : Program} {fn : Func} {a : Act} {w : World} (h : fn.results.toList.all isTmpB = true) :
    (results fn a.tmps).run P w = .ok (if (resVals fn.results.toList a).length = 1 then (resVals fn.results.toList a).getD 0 undef else .tuple (resVals fn.results.toList a).toArray) w := by
  have key : ∀ (g : ResultVar → Sem Value), (∀ t, g (.tmp t) = pure (a.tmps.getD t undef)) → ∀ (rs : List ResultVar), rs.all isTmpB = true → (rs.mapM g).run P w = .ok (resVals rs a) w := by
    intro g hg rs
    induction rs with
    | nil => intro _; rfl
    | cons r rs ih =>
      intro hr
      simp only [List.all_cons, Bool.and_eq_true] at hr
      cases r with
      | cell _ _ => simp [isTmpB] at hr
      | tmp t =>
        rw [List.mapM_cons, Sem.run_bind, hg, Sem.run_pure, Result.andThen_ok, Sem.run_bind, ih hr.2]
        rfl
  unfold results
  rw [Array.mapM_eq_mapM_toList, Sem.run_bind, Sem.run_map, key _ (fun t => rfl) _ h]
  simp only [Result.andThen_ok, Sem.run_pure, List.size_toArray]
  split
  · rename_i e
    congr 1
    simp [List.getD, List.getElem?_eq_getElem (show 0 < (resVals fn.results.toList a).length by omega)]
  · rfl

theorem packR_rel {X : Cx} {vs : List AV} {us : List Value} (h : RelL X vs us) : Rel X (packR vs) (if us.length = 1 then us.getD 0 undef else .tuple us.toArray) := by
  have hl := RelL.length h
  unfold packR
  split
  · rename_i v
    simp only [RelL] at h
    obtain ⟨u, r, rfl, hu, rfl⟩ := h
    simpa using hu
  · rename_i hne
    have : us.length ≠ 1 := by
      intro e
      rw [hl] at e
      match vs, e with
      | [v], _ => exact hne v rfl
    rw [if_neg this]
    simp only [Rel]
    exact ⟨_, rfl, by simpa using h⟩

theorem exFn_ok {Γ : Fx} (hK : ∀ f c, Γ.K f = some c → KOk Γ.toEnv f c) (hW : WOk Γ.W) (hm : Γ.P.follows .mixedOrders = true) {f : FuncId} {fn : Func} (hf : Γ.P.funcs[f]? = some fn)
    (hin : ∀ (args : Array Value) (w : World), (callFunc f args).run Γ.P w = .ok (.enter f args) w) {C : List AV → Option (Bool × AV)} (hC : ∀ as r, C as = some (true, r) → exFn Γ fn as = some (true, r)) : KOk Γ.toEnv f C := by
  refine ⟨hin, fun F w as us r hG hF hrel hc => ?_⟩
  have hex := hC as r hc
  unfold exFn at hex
  split at hex
  · cases hex
  · rename_i c hb
    split at hex
    · rename_i hcond
      obtain ⟨hall, htmp⟩ := hcond
      simp only [Option.bind_eq_some_iff] at hex
      obtain ⟨o, ho, hex⟩ := hex
      split at hex
      rotate_left
      · cases hex
      rename_i hexs
      have hexs' : o.exs = [] := by simpa using hexs
      let X : Cx := ⟨F, fun _ => none, [], w.heap⟩
      let w0 : Start := ⟨w, F⟩
      have hlen := RelL.length hrel
      have R : RowsOk w.heap.size w0 0 X w := ⟨rfl, Below.refl _ _, fun b hb => .inl hb, Nat.le_refl _, hF, fun r x h => by simp [X, Rows.get] at h, fun r x b o h => by simp [X, Rows.get] at h,
        fun r r' x x' b o b' o' h => by simp [X, Rows.get] at h, fun r cs h => by simp [X, Rows.get] at h⟩
      have hsim : SimE Γ.toEnv w.heap.size w0 { tmps := TMap.ofL as fn.ntmps, rows := [], dt := .nil, dr := .nil } { tmps := us.toArray ++ Array.replicate (fn.ntmps - us.toArray.size) undef, defers := [] } w := by
        refine ⟨X, rfl, R, by simp [TMap.length_ofL, hlen], rfl, fun t v hv => ?_, fun g s x hg => hG g s x hg⟩
        rw [TMap.getElem?_ofL] at hv
        by_cases ht : t < as.length
        · rw [if_pos (by omega), List.getD_eq_getElem?_getD, List.getElem?_eq_getElem ht] at hv
          simp only [Option.getD_some, Option.some.injEq] at hv
          have hv : as[t]? = some v := by rw [List.getElem?_eq_getElem ht, hv]
          obtain ⟨u, hu, hr⟩ := RelL.get t v hrel hv
          have hva : v.all (fun _ _ => false) = true := by
            have : ∀ (l : List AV) (t : Nat), AV.allL (fun _ _ => false) l = true → l[t]? = some v → v.all (fun _ _ => false) = true := by
              intro l
              induction l with
              | nil => intro t _ h; simp at h
              | cons a l ih =>
                intro t h1 h2
                simp only [AV.allL, Bool.and_eq_true] at h1
                cases t with
                | zero => simp at h2; subst h2; exact h1.1
                | succ t => exact ih t h1.2 (by simpa using h2)
            exact this as t hall hv
          refine ⟨AV.all_imp (fun _ _ h => by cases h) v hva, ?_⟩
          have : (us.toArray ++ Array.replicate (fn.ntmps - us.toArray.size) undef).getD t undef = u := by
            have h1 : t < us.length := by omega
            have h2 : (us.toArray ++ Array.replicate (fn.ntmps - us.toArray.size) undef)[t]? = some u := by
              rw [Array.getElem?_append_left (by simpa using h1)]
              simpa using hu
            rw [Array.getD_eq_getD_getElem?, h2]; rfl
          rw [this]
          exact hr
        · rw [List.getD_eq_getElem?_getD, List.getElem?_eq_none (by omega)] at hv
          split at hv
          · cases hv; exact ⟨rfl, by simp [Rel]⟩
          · cases hv
      have fin : ∀ (vs : List AV) (a : Act) (w' : World) (r : AV), packR vs = r → RetE w.heap.size w0 fn.results.toList vs a w' → bodyPost Γ.P fn (fun e w' => ∃ (F' : Nat → Prop) (u : Value), e = .returned u ∧ Below w.heap.size w w' ∧ (∀ b, F b → F' b) ∧
          (∀ b, F' b → F b ∨ w.heap.size ≤ b) ∧ (∀ b, F' b → b < w'.heap.size) ∧ Rel ⟨F', fun _ => none, [], w'.heap⟩ r u) .ret a w' := by
        intro vs a w' r hp hr
        obtain ⟨hd, X', hX, hφ, R', hl, hal⟩ := hr
        refine ⟨hd, _, results_run htmp, ?_⟩
        refine ⟨fun b => X'.F b ∨ F b, _, rfl, R'.keeps, fun b h => .inr h, fun b h => ?_, fun b h => ?_, ?_⟩
        · rcases h with h | h
          · exact R'.sub b h
          · exact .inl h
        · rcases h with h | h
          · exact R'.fresh b h
          · exact Nat.lt_of_lt_of_le (hF b h) R'.keeps.size
        · rw [← hp]
          refine packR_rel (RelL.mono (p := fun _ _ => false) ?_ vs _ hal hl)
          exact Stab.data (fun _ h => .inl h) (fun b hb => by rw [R'.heap])
      refine calls_of_wp hf hb (Code.wp_mono (fun e a w' hq => ?_) (ex_ok { Γ with res := fn.results.toList } hK hW hm c _ o _ w ho ?_ hsim))
      · cases hn : o.nrm with
        | none =>
          rw [hn] at hex
          simp only [Option.map_eq_some_iff, Prod.mk.injEq] at hex
          obtain ⟨vs, hv, hok, hp⟩ := hex
          cases e with
          | normal => obtain ⟨_, S', e', _⟩ := hq; rw [hn] at e'; cases e'
          | ret =>
            obtain ⟨_, vs', e', hr⟩ := hq
            rw [hv] at e'
            cases e'
            exact fin vs a w' r hp hr
          | exit id => obtain ⟨ht, S', e', _⟩ := hq; rw [hexs'] at e'; cases e'
          | goto l => exact hq.elim
          | panic ch => exact hq.elim
          | outgrown => exact hq.elim
        | some S1 =>
          rw [hn] at hex
          simp only [Option.bind_eq_some_iff, Option.map_eq_some_iff, Prod.exists, Prod.mk.injEq] at hex
          obtain ⟨ok2, vs2, hr2, r0, hj, vs, rfl, hok, hp⟩ := hex
          simp only [Bool.and_eq_true] at hok
          cases e with
          | normal =>
            obtain ⟨ht, S', e', X1, H1⟩ := hq
            rw [hn] at e'
            cases e'
            have hN : o.tag.isN = true := by rw [ht]; rfl
            have hok2 : ok2 = true := by have := hok.2; rw [hN] at this; simpa using this
            obtain ⟨h2, h3⟩ := retAV_ok H1 hr2 hok2
            have hre : RetE w.heap.size w0 fn.results.toList vs2 a w' := ⟨H1.defers, X1.lent, rfl, rfl, lent_ok H1.ok, h2, h3⟩
            obtain ⟨vs', e', hre'⟩ := joinR_ok (base := w.heap.size) (w0 := w0) (res := fn.results.toList) (a := a) (w := w') hj (fun _ => ⟨vs2, rfl, hre⟩) (fun hf => by rw [hN] at hf; cases hf)
            cases e'
            exact fin vs a w' r hp hre'
          | ret =>
            obtain ⟨ht, vs', e', hr⟩ := hq
            have hN : o.tag.isN = false := by rw [ht]; rfl
            obtain ⟨vs'', e'', hre'⟩ := joinR_ok (base := w.heap.size) (w0 := w0) (res := fn.results.toList) (a := a) (w := w') hj (fun hf => by rw [hN] at hf; cases hf) (fun _ => ⟨vs', e', hr⟩)
            cases e''
            exact fin vs a w' r hp hre'
          | exit id => obtain ⟨ht, S', e', _⟩ := hq; rw [hexs'] at e'; cases e'
          | goto l => exact hq.elim
          | panic ch => exact hq.elim
          | outgrown => exact hq.elim
      · cases hn : o.nrm with
        | none =>
          rw [hn] at hex
          simp only [Option.map_eq_some_iff, Prod.mk.injEq] at hex
          obtain ⟨vs, hv, hok, hp⟩ := hex
          exact hok
        | some S1 =>
          rw [hn] at hex
          simp only [Option.bind_eq_some_iff, Option.map_eq_some_iff, Prod.exists, Prod.mk.injEq, Bool.and_eq_true] at hex
          obtain ⟨ok2, vs2, hr2, r0, hj, vs, rfl, hok, hp⟩ := hex
          exact hok.1
    · cases hex

/-- A way to find where a loop ends: by rounds, at most k. -/
theorem wok_whileN (k : Nat) : WOk (fun f x => whileN f k x) := fun f x y h => ⟨k, h⟩

/-- Where a loop ends, whatever the number of rounds. -/
noncomputable def whileW (f : List Sc → Bool × Bool × List Sc) (x : List Sc) : Option (List Sc) :=
  open Classical in if h : ∃ k y, whileN f k x = some y then some h.choose_spec.choose else none

theorem wok_whileW : WOk whileW := by
  intro f x y h
  unfold whileW at h
  split at h
  · rename_i hx
    cases h
    exact ⟨_, hx.choose_spec.choose_spec⟩
  · cases h

theorem whileN_mono {f : List Sc → Bool × Bool × List Sc} : ∀ {k m : Nat} {x y : List Sc}, whileN f k x = some y → k ≤ m → whileN f m x = some y
  | 0, m, x, y, h, _ => by cases h
  | k + 1, 0, x, y, h, hm => by omega
  | k + 1, m + 1, x, y, h, hm => by
    simp only [whileN] at h ⊢
    split at h
    · exact whileN_mono h (by omega)
    · exact h
    · cases h

theorem whileW_of {f : List Sc → Bool × Bool × List Sc} {k : Nat} {x y : List Sc} (h : whileN f k x = some y) : whileW f x = some y := by
  unfold whileW
  have hx : ∃ k y, whileN f k x = some y := ⟨k, y, h⟩
  rw [dif_pos hx]
  have h2 := hx.choose_spec.choose_spec
  have h3 := whileN_mono h (Nat.le_max_left k hx.choose)
  have h4 := whileN_mono h2 (Nat.le_max_right k hx.choose)
  rw [h3] at h4
  rw [← Option.some.inj h4]

/-! ### Contracts whose results stand in a form known beforehand -/
def outS (tmpl : AV) (x : Option (Bool × AV)) : Bool × List Sc :=
  match x with
  | some (ok, v) => match tmpl.coe (fun _ => none) (fun _ => none) v with
    | some xs => (ok, xs)
    | none => (false, [])
  | none => (false, [])

def mkC (tmpl : AV) (h : List AV → Option (Bool × AV)) : List AV → Option (Bool × AV) := fun as => some ((outS tmpl (h as)).1, (tmpl.fill (outS tmpl (h as)).2).1)

theorem KOk.mkC {E : Env} {f : FuncId} {h : List AV → Option (Bool × AV)} (H : KOk E f h) (tmpl : AV) : KOk E f (mkC tmpl h) := by
  refine ⟨H.enter, fun F w as us r hG hF hrel hc => ?_⟩
  simp only [Ab.mkC, Option.some.injEq, Prod.mk.injEq] at hc
  obtain ⟨h1, rfl⟩ := hc
  unfold outS at h1 ⊢
  split at h1
  · rename_i ok v hv
    split at h1
    · rename_i xs hx
      simp only at h1
      subst h1
      refine (H.valid F w as us v hG hF hrel hv).mono fun e w' he => ?_
      obtain ⟨F', u, e1, e2, e3, e4, e5, e6⟩ := he
      refine ⟨F', u, e1, e2, e3, e4, e5, ?_⟩
      have := (AV.coe_ok (Turn.nil ⟨F', fun _ => none, [], w'.heap⟩ rfl) tmpl v xs [] u hx e6).2
      simpa using this
    · cases h1
  · cases h1

/-- The arguments brought into a known form first. -/
def preC (ts : List AV) (h : List AV → Option (Bool × AV)) : List AV → Option (Bool × AV) := fun as => (AV.coeL (fun _ => none) (fun _ => none) ts as).bind fun xs => h (AV.fillL ts xs).1

theorem KOk.preC {E : Env} {f : FuncId} {h : List AV → Option (Bool × AV)} (H : KOk E f h) (ts : List AV) : KOk E f (preC ts h) := by
  refine ⟨H.enter, fun F w as us r hG hF hrel hc => ?_⟩
  simp only [Ab.preC, Option.bind_eq_some_iff] at hc
  obtain ⟨xs, h1, h2⟩ := hc
  have := (AV.coeL_ok (Turn.nil ⟨F, fun _ => none, [], w.heap⟩ rfl) ts as xs [] us h1 hrel).2
  exact H.valid F w _ us r hG hF (by simpa using this) h2

theorem KOk.cast {E E' : Env} {f : FuncId} {c : List AV → Option (Bool × AV)} (H : KOk E f c) (hP : E.P = E'.P) (hG : E.G = E'.G) : KOk E' f c := by
  obtain ⟨P, G, K⟩ := E
  obtain ⟨P', G', K'⟩ := E'
  cases hP
  cases hG
  exact ⟨H.enter, H.valid⟩

/-- A function with a body is entered. -/
theorem enter_of {P : Program} {f : FuncId} {fn : Func} (hf : P.funcs[f]? = some fn) (hn : (fn.name == "runtime.NumGoroutine") = false) (hb : fn.body.isNone = false) (args : Array Value) (w : World) : (callFunc f args).run P w = .ok (.enter f args) w := by
  unfold callFunc
  rw [Sem.run_bind]
  show Sem.run P (match P.funcs[f]? with | none => _ | some fn => _) w = _
  rw [hf]
  simp only [hn, hb, Bool.false_eq_true, if_false]
  rfl

/-- The form of a function's results. -/
def resOne (P : Program) (t : TypeId) : AV :=
  match shOf P 20 t with
  | some s => match aggB P t with
    | some true => .agg (cellsOf s s.dflt)
    | _ => (cellsOf s s.dflt).getD 0 .unk
  | none => .unk
def argsT (P : Program) (fn : Func) : List AV := fn.params.toList.map (resOne P)
def resT (P : Program) (fn : Func) : AV :=
  match fn.resultTypes.toList with
  | [t] => resOne P t
  | ts => .tup (ts.map (resOne P))
end Go.Proofs.YtlidfaaajjfgfaaDoor.Ab
