/- Closed runs: a reading that takes only the branch that is taken, and runs a loop round by round. -/
import Derived.Test.YtnjofponcdcfcaaDoorAbProg
import Derived.ProofKit
import Derived.OpenShut
import Derived.SizedLaws
import Derived.Deep.Slices
import Derived.Carry
import Derived.ChangeOld
import Derived.Below
set_option linter.all false
namespace Go.Proofs.YtnjofponcdcfcaaDoor.Ab
open Go.RowKit

/-- Where a closed run comes out. -/
inductive OC where
  | n (ok : Bool) (S : St)
  | x (ok : Bool) (id : Nat) (S : St)
  | r (ok : Bool) (vs : List AV)
  | q (ok : Bool) (S : St)

def OC.and (b : Bool) : OC → OC
  | .n ok S => .n (sAnd b ok) S
  | .x ok id S => .x (sAnd b ok) id S
  | .r ok vs => .r (sAnd b ok) vs
  | .q ok S => .q (sAnd b ok) S
def OC.ok : OC → Bool
  | .n ok _ => ok
  | .x ok _ _ => ok
  | .r ok _ => ok
  | .q ok _ => ok

/-- Round after round. -/
def loopC (body : St → Option OC) : Nat → St → Option OC
  | 0, _ => none
  | k + 1, S => match body S with
    | some (.n ok S1) => (loopC body k S1).map (OC.and ok)
    | o => o

def exC (Γ : Fx) (k : Nat) : Code → St → Option OC
  | .skip, S => some (.n true S)
  | .label _, S => some (.n true S)
  | .region _ ops draw, S => (if draw then exDraw Γ.toEnv ops S else exOpsO Γ ops ops.toList S).map fun (ok, S') => .n ok S'
  | .seq a b, S => match exC Γ k a S with
    | some (.n ok S1) => (exC Γ k b S1).map (OC.and ok)
    | o => o
  | .cond c x y, S => match S.opd Γ.toEnv c with
    | some (ok, .bool b) => match orcOf Γ c with
      | some true => (exC Γ k x S).map (OC.and (sAnd ok b))
      | some false => (exC Γ k y S).map (OC.and (sAnd ok (sNot b)))
      | none => if isPanic x then (exC Γ k y S).map (OC.and (sAnd ok (sNot b))) else (bif b then exC Γ k x S else exC Γ k y S).map (OC.and ok)
    | _ => none
  | .block id c, S => match exC Γ k c S with
    | some (.x ok id' S') => if id' = id then some (.n ok S') else some (.x ok id' S')
    | o => o
  | .loop c, S => loopC (exC Γ k c) k S
  | .exit id, S => some (.x true id S)
  | .ret, S => if Γ.inp then some (.q true S) else (retAV Γ.toEnv S Γ.res).map fun (ok, vs) => .r ok vs
  | _, _ => none

def OutC (E : Env) (base : Nat) (w0 : Start) (res : List ResultVar) (o : OC) (e : Exit) (a : Act) (w : World) : Prop :=
  match o, e with
  | .n _ S, .normal => SimE E base w0 S a w
  | .x _ id S, .exit id' => id' = id ∧ SimE E base w0 S a w
  | .r _ vs, .ret => RetE base w0 res vs a w
  | .q _ S, .ret => SimE E base w0 S a w
  | _, _ => False

theorem OutC.and {E : Env} {base : Nat} {w0 : Start} {res : List ResultVar} {b : Bool} {o : OC} {e : Exit} {a : Act} {w : World} (h : OutC E base w0 res o e a w) : OutC E base w0 res (o.and b) e a w := by
  cases o <;> cases e <;> exact h
theorem OC.and_ok {b : Bool} {o : OC} (h : (o.and b).ok = true) : b = true ∧ o.ok = true := by
  cases o <;> simpa [OC.and, OC.ok] using h

theorem loopC_ok {P : Program} {E : Env} {base : Nat} {w0 : Start} {res : List ResultVar} {c : Code} {body : St → Option OC}
    (hb : ∀ (S : St) (o : OC) (a : Act) (w : World), body S = some o → o.ok = true → SimE E base w0 S a w → c.wp P (OutC E base w0 res o) a w) :
    ∀ (k : Nat) (S : St) (o : OC) (a : Act) (w : World), loopC body k S = some o → o.ok = true → SimE E base w0 S a w → Code.rounds P c (OutC E base w0 res o) k a w
  | 0, _, _, _, _, h, _, _ => by cases h
  | k + 1, S, o, a, w, h, hok, H => by
    unfold loopC at h
    rw [rounds_succ]
    split at h
    · rename_i ok S1 h1
      simp only [Option.map_eq_some_iff] at h
      obtain ⟨o', h2, rfl⟩ := h
      obtain ⟨hok1, hok2⟩ := OC.and_ok hok
      refine Code.wp_mono (fun e a w hq => ?_) (hb S _ a w h1 hok1 H)
      cases e with
      | normal =>
        have ih := loopC_ok hb k S1 o' a w h2 hok2 hq
        exact rounds_mono (fun e a w h => OutC.and h) k a w ih
      | _ => exact hq.elim
    · rename_i hne
      refine Code.wp_mono (fun e a w hq => ?_) (hb S o a w h hok H)
      cases e with
      | normal =>
        cases o with
        | n ok S1 => exact absurd h (hne ok S1)
        | _ => exact hq.elim
      | _ => exact hq
where
  rounds_mono {P : Program} {c : Code} {Q Q' : Exit → Act → World → Prop} (h : ∀ e a w, Q e a w → Q' e a w) : ∀ (n : Nat) (a : Act) (w : World), Code.rounds P c Q n a w → Code.rounds P c Q' n a w
    | 0, _, _, h0 => h0.elim
    | n + 1, a, w, h0 => by
      rw [rounds_succ] at h0 ⊢
      refine Code.wp_mono (fun e a w hq => ?_) h0
      cases e with
      | normal => exact rounds_mono h n a w hq
      | _ => exact h _ _ _ hq

theorem exC_ok (Γ : Fx) (k : Nat) (hK : EnvOk Γ.toEnv) (hm : Γ.P.follows .mixedOrders = true) {base : Nat} {w0 : Start} : ∀ (c : Code) (S : St) (o : OC) (a : Act) (w : World), exC Γ k c S = some o → o.ok = true → SimE Γ.toEnv base w0 S a w →
    c.wp Γ.P (OutC Γ.toEnv base w0 Γ.res o) a w
  | .skip, S, o, a, w, h, hok, H => by
    simp only [exC, Option.some.injEq] at h
    subst h
    exact wp_skip H
  | .label _, S, o, a, w, h, hok, H => by
    simp only [exC, Option.some.injEq] at h
    subst h
    exact wp_label H
  | .region id ops draw, S, o, a, w, h, hok, H => by
    simp only [exC, Option.map_eq_some_iff, Prod.exists] at h
    obtain ⟨ok, S1, h1, rfl⟩ := h
    split at h1
    · rename_i hd
      subst hd
      exact exDraw_wp hK hm H h1 hok (fun a' w' H' => H')
    · rename_i hd
      have : draw = false := by simpa using hd
      subst this
      exact wp_region_list (exOpsO_wp hK H h1 hok (fun a' w' H' => H'))
  | .seq x y, S, o, a, w, h, hok, H => by
    unfold exC at h
    split at h
    · rename_i ok S1 h1
      simp only [Option.map_eq_some_iff] at h
      obtain ⟨o', h2, rfl⟩ := h
      obtain ⟨hok1, hok2⟩ := OC.and_ok hok
      refine wp_seq (Code.wp_mono (fun e a w hq => ?_) (exC_ok Γ k hK hm x S _ a w h1 hok1 H))
      cases e with
      | normal => exact Code.wp_mono (fun e a w h => OutC.and h) (exC_ok Γ k hK hm y S1 o' a w h2 hok2 hq)
      | _ => exact hq.elim
    · rename_i hne
      refine wp_seq (Code.wp_mono (fun e a w hq => ?_) (exC_ok Γ k hK hm x S o a w h hok H))
      cases e with
      | normal =>
        cases o with
        | n ok S1 => exact absurd h (hne ok S1)
        | _ => exact hq.elim
      | _ => exact hq
  | .cond c x y, S, o, a, w, h, hok, H => by
    unfold exC at h
    split at h
    · rename_i okc b hc
      split at h
      · simp only [Option.map_eq_some_iff] at h
        obtain ⟨o', h1, rfl⟩ := h
        obtain ⟨hok1, hok2⟩ := OC.and_ok hok
        simp only [Bool.and_eq_true] at hok1
        obtain ⟨hok1, rfl⟩ := hok1
        obtain ⟨X, HX⟩ := H
        have hcv := (opd_ok HX hc hok1).1
        simp only [Rel] at hcv
        refine wp_cond_split hcv (fun hb => ?_) (fun hb => by cases hb)
        exact Code.wp_mono (fun e a w h => OutC.and h) (exC_ok Γ k hK hm x S o' a w h1 hok2 ⟨X, HX⟩)
      · simp only [Option.map_eq_some_iff] at h
        obtain ⟨o', h1, rfl⟩ := h
        obtain ⟨hok1, hok2⟩ := OC.and_ok hok
        simp only [Bool.and_eq_true, Bool.not_eq_true'] at hok1
        obtain ⟨hok1, rfl⟩ := hok1
        obtain ⟨X, HX⟩ := H
        have hcv := (opd_ok HX hc hok1).1
        simp only [Rel] at hcv
        refine wp_cond_split hcv (fun hb => by cases hb) (fun hb => ?_)
        exact Code.wp_mono (fun e a w h => OutC.and h) (exC_ok Γ k hK hm y S o' a w h1 hok2 ⟨X, HX⟩)
      split at h
      · simp only [Option.map_eq_some_iff] at h
        obtain ⟨o', h1, rfl⟩ := h
        obtain ⟨hok1, hok2⟩ := OC.and_ok hok
        simp only [Bool.and_eq_true, Bool.not_eq_true'] at hok1
        obtain ⟨hok1, rfl⟩ := hok1
        obtain ⟨X, HX⟩ := H
        have hcv := (opd_ok HX hc hok1).1
        simp only [Rel] at hcv
        refine wp_cond_split hcv (fun hb => by cases hb) (fun hb => ?_)
        exact Code.wp_mono (fun e a w h => OutC.and h) (exC_ok Γ k hK hm y S o' a w h1 hok2 ⟨X, HX⟩)
      simp only [Option.map_eq_some_iff] at h
      obtain ⟨o', h1, rfl⟩ := h
      obtain ⟨hok1, hok2⟩ := OC.and_ok hok
      obtain ⟨X, HX⟩ := H
      have hcv := (opd_ok HX hc hok1).1
      simp only [Rel] at hcv
      have H : SimE Γ.toEnv base w0 S a w := ⟨X, HX⟩
      refine wp_cond_split hcv (fun hb => ?_) (fun hb => ?_)
      · subst hb
        exact Code.wp_mono (fun e a w h => OutC.and h) (exC_ok Γ k hK hm x S o' a w h1 hok2 H)
      · subst hb
        exact Code.wp_mono (fun e a w h => OutC.and h) (exC_ok Γ k hK hm y S o' a w h1 hok2 H)
    · cases h
  | .block id c, S, o, a, w, h, hok, H => by
    unfold exC at h
    split at h
    · rename_i ok id' S' h1
      refine wp_block (Code.wp_mono (fun e a w hq => ?_) (exC_ok Γ k hK hm c S _ a w h1 (by split at h <;> cases h <;> exact hok) H))
      cases e with
      | exit id'' =>
        obtain ⟨rfl, hs⟩ := hq
        simp only [Exit.inBlock]
        split at h
        · rename_i e
          cases h
          rw [if_pos e]
          exact hs
        · rename_i e
          cases h
          rw [if_neg e]
          exact ⟨rfl, hs⟩
      | _ => exact hq.elim
    · rename_i hne
      refine wp_block (Code.wp_mono (fun e a w hq => ?_) (exC_ok Γ k hK hm c S o a w h hok H))
      cases e with
      | exit id'' =>
        cases o with
        | x ok id' S' => exact absurd h (hne ok id' S')
        | _ => exact hq.elim
      | normal => exact hq
      | ret => exact hq
      | goto l => exact hq
      | panic ch => exact hq
      | outgrown => exact hq
  | .loop c, S, o, a, w, h, hok, H => by
    unfold exC at h
    exact wp_loop_rounds k (loopC_ok (fun S o a w h hok H => exC_ok Γ k hK hm c S o a w h hok H) k S o a w h hok H)
  | .exit id, S, o, a, w, h, hok, H => by
    simp only [exC, Option.some.injEq] at h
    subst h
    exact wp_exit ⟨rfl, H⟩
  | .ret, S, o, a, w, h, hok, H => by
    simp only [exC] at h
    split at h
    · cases h
      exact wp_ret H
    simp only [Option.map_eq_some_iff, Prod.exists] at h
    obtain ⟨ok, vs, h1, rfl⟩ := h
    obtain ⟨X, HX⟩ := H
    obtain ⟨h2, h3⟩ := retAV_ok HX h1 hok
    exact wp_ret ⟨HX.defers, X.lent, rfl, rfl, lent_ok HX.ok, h2, h3⟩
  | .rangeFunc _ _ _ _, S, o, a, w, h, hok, H => by simp only [exC, reduceCtorEq] at h
  | .scope _, S, o, a, w, h, hok, H => by simp only [exC, reduceCtorEq] at h
  | .goto _, S, o, a, w, h, hok, H => by simp only [exC, reduceCtorEq] at h
  | .refuse _, S, o, a, w, h, hok, H => by simp only [exC, reduceCtorEq] at h

/-- What a function makes of given data, run closed. -/
def exFnC (Γ : Fx) (k : Nat) (fn : Func) (args : List AV) : Option (Bool × AV) :=
  match fn.body with
  | none => none
  | some c =>
    if AV.allL (fun _ _ => false) args ∧ fn.results.toList.all isTmpB then
      (exC { Γ with res := fn.results.toList, inp := false } k c { tmps := TMap.ofL args fn.ntmps, rows := [], dt := .nil, dr := .nil }).bind fun o => match o with
        | .r ok vs => some (ok, packR vs)
        | .n ok S1 => (retAV Γ.toEnv S1 fn.results.toList).map fun (ok2, vs) => (sAnd ok ok2, packR vs)
        | .x _ _ _ => none
        | .q _ _ => none
    else none

theorem exFnCE_ok {Γ : Fx} (k : Nat) (hK : EnvOk Γ.toEnv) (hm : Γ.P.follows .mixedOrders = true) {f : FuncId} {fn : Func} (hf : Γ.P.funcs[f]? = some fn)
    (hin : ∀ (args : Array Value) (w : World), (callFunc f args).run Γ.P w = .ok (.enter f args) w) {C : List AV → Option (Bool × AV)} (hC : ∀ as r, C as = some (true, r) → exFnC Γ k fn as = some (true, r)) : KOk Γ.toEnv f C := by
  refine ⟨hin, fun F w as us r hG hF hrel hc => ?_⟩
  have hex := hC as r hc
  unfold exFnC at hex
  split at hex
  · cases hex
  · rename_i c hb
    split at hex
    · rename_i hcond
      obtain ⟨hall, htmp⟩ := hcond
      simp only [Option.bind_eq_some_iff] at hex
      obtain ⟨o, ho, hex⟩ := hex
      let X : Cx := ⟨F, fun _ => none, [], w.heap⟩
      let w0 : Start := ⟨w, F, []⟩
      have hlen := RelL.length hrel
      have R : RowsOk w.heap.size w0 0 X w := ⟨rfl, Below.refl _ _, fun b hb => .inl hb, Nat.le_refl _, hF, fun r x h => by simp [X, Rows.get] at h, fun r x b o h => by simp [X, Rows.get] at h,
        fun r r' x x' b o b' o' h => by simp [X, Rows.get] at h, fun r cs h => by simp [X, Rows.get] at h⟩
      have hsim : SimE Γ.toEnv w.heap.size w0 { tmps := TMap.ofL as fn.ntmps, rows := [], dt := .nil, dr := .nil } { tmps := us.toArray ++ Array.replicate (fn.ntmps - us.toArray.size) undef, defers := [] } w := by
        refine ⟨X, rfl, R, by simp [TMap.length_ofL, hlen], rfl, fun t v hv => ?_, fun g s x hg => hG g s x hg, rfl, rfl⟩
        rw [TMap.getElem?_ofL] at hv
        by_cases ht : t < as.length
        · rw [if_pos (by omega), List.getD_eq_getElem?_getD, List.getElem?_eq_getElem ht] at hv
          simp only [Option.getD_some, Option.some.injEq] at hv
          have hv : as[t]? = some v := by rw [List.getElem?_eq_getElem ht, hv]
          obtain ⟨u, hu, hr⟩ := RelL.get t v hrel hv
          have hva : v.all (fun _ _ => false) = true := by
            have : ∀ (l : List AV) (t : Nat), AV.allL (fun _ _ => false) l = true → l[t]? = some v → v.all (fun _ _ => false) = true := by
              intro l
              induction l with
              | nil => intro t _ h; simp at h
              | cons a l ih =>
                intro t h1 h2
                simp only [AV.allL, Bool.and_eq_true] at h1
                cases t with
                | zero => simp at h2; subst h2; exact h1.1
                | succ t => exact ih t h1.2 (by simpa using h2)
            exact this as t hall hv
          refine ⟨AV.all_imp (fun _ _ h => by cases h) v hva, ?_⟩
          have : (us.toArray ++ Array.replicate (fn.ntmps - us.toArray.size) undef).getD t undef = u := by
            have h1 : t < us.length := by omega
            have h2 : (us.toArray ++ Array.replicate (fn.ntmps - us.toArray.size) undef)[t]? = some u := by
              rw [Array.getElem?_append_left (by simpa using h1)]
              simpa using hu
            rw [Array.getD_eq_getD_getElem?, h2]; rfl
          rw [this]
          exact hr
        · rw [List.getD_eq_getElem?_getD, List.getElem?_eq_none (by omega)] at hv
          split at hv
          · cases hv; exact ⟨rfl, by simp [Rel]⟩
          · cases hv
      have fin : ∀ (vs : List AV) (a : Act) (w' : World) (r : AV), packR vs = r → RetE w.heap.size w0 fn.results.toList vs a w' → bodyPost Γ.P fn (fun e w' => ∃ (F' : Nat → Prop) (u : Value), e = .returned u ∧ Below w.heap.size w w' ∧ (∀ b, F b → F' b) ∧
          (∀ b, F' b → F b ∨ w.heap.size ≤ b) ∧ (∀ b, F' b → b < w'.heap.size) ∧ Rel ⟨F', fun _ => none, [], w'.heap⟩ r u) .ret a w' := by
        intro vs a w' r hp hr
        obtain ⟨hd, X', hX, hφ, R', hl, hal⟩ := hr
        refine ⟨hd, _, results_run htmp, ?_⟩
        refine ⟨fun b => X'.F b ∨ F b, _, rfl, R'.keeps, fun b h => .inr h, fun b h => ?_, fun b h => ?_, ?_⟩
        · rcases h with h | h
          · exact R'.sub b h
          · exact .inl h
        · rcases h with h | h
          · exact R'.fresh b h
          · exact Nat.lt_of_lt_of_le (hF b h) R'.keeps.size
        · rw [← hp]
          refine packR_rel (RelL.mono (p := fun _ _ => false) ?_ vs _ hal hl)
          exact Stab.data (fun _ h => .inl h) (fun b hb => by rw [R'.heap])
      have hok : o.ok = true := by
        cases o with
        | n ok S1 =>
          simp only [Option.map_eq_some_iff, Prod.exists, Prod.mk.injEq, Bool.and_eq_true] at hex
          obtain ⟨ok2, vs, h1, h2, _⟩ := hex
          exact h2.1
        | r ok vs =>
          simp only [Option.some.injEq, Prod.mk.injEq] at hex
          exact hex.1
        | x ok id S1 => cases hex
        | q ok S1 => cases hex
      refine calls_of_wp hf hb (Code.wp_mono (fun e a w' hq => ?_) (exC_ok { Γ with res := fn.results.toList, inp := false } k hK hm c _ o _ w ho hok hsim))
      cases o with
      | n ok S1 =>
        simp only [Option.map_eq_some_iff, Prod.exists, Prod.mk.injEq, Bool.and_eq_true] at hex
        obtain ⟨ok2, vs, h1, h2, hp⟩ := hex
        cases e with
        | normal =>
          obtain ⟨X1, H1⟩ := hq
          obtain ⟨h3, h4⟩ := retAV_ok H1 h1 h2.2
          exact fin vs a w' r hp ⟨H1.defers, X1.lent, rfl, rfl, lent_ok H1.ok, h3, h4⟩
        | _ => exact hq.elim
      | r ok vs =>
        simp only [Option.some.injEq, Prod.mk.injEq] at hex
        cases e with
        | ret => exact fin vs a w' r hex.2 hq
        | _ => exact hq.elim
      | x ok id S1 => cases hex
      | q ok S1 => cases hex
    · cases hex

theorem exFnC_ok {Γ : Fx} (k : Nat) (hK : ∀ f c, Γ.K f = some c → KOk Γ.toEnv f c) (hm : Γ.P.follows .mixedOrders = true) {f : FuncId} {fn : Func} (hf : Γ.P.funcs[f]? = some fn)
    (hin : ∀ (args : Array Value) (w : World), (callFunc f args).run Γ.P w = .ok (.enter f args) w) {C : List AV → Option (Bool × AV)} (hC : ∀ as r, C as = some (true, r) → exFnC Γ k fn as = some (true, r))
    (hI : ∀ f c, Γ.I f = some c → IOk Γ.toEnv f c := by intro _ _ h; cases h) (hJ : ∀ f c, Γ.J f = some c → KFr Γ.toEnv f c := by intro _ _ h; cases h)
    (hN : ∀ f c, Γ.N f = some c → KNew Γ.toEnv f c := by intro _ _ h; cases h) : KOk Γ.toEnv f C := exFnCE_ok k ⟨hK, hI, hJ, hN⟩ hm hf hin hC

theorem exC_agree (Γ : Fx) (k : Nat) (hK : EnvOk Γ.toEnv) : ∀ (c : Code) (S : St) (o : OC), exC Γ k c S = some o → match o with | .n _ S' => Agree S S' | .x _ _ S' => Agree S S' | .r _ _ => True | .q _ S' => Agree S S'
  | .skip, S, o, h => by cases h; exact Agree.refl S
  | .label _, S, o, h => by cases h; exact Agree.refl S
  | .region _ ops draw, S, o, h => by
    simp only [exC, Option.map_eq_some_iff, Prod.exists] at h
    obtain ⟨ok, S1, h1, rfl⟩ := h
    split at h1
    · exact exDraw_agree hK h1
    · exact exOpsO_agree hK h1
  | .seq a b, S, o, h => by
    unfold exC at h
    split at h
    · rename_i ok S1 h1
      have a1 := exC_agree Γ k hK a S _ h1
      simp only [Option.map_eq_some_iff] at h
      obtain ⟨o', h2, rfl⟩ := h
      have a2 := exC_agree Γ k hK b S1 o' h2
      cases o' with
      | n _ _ => exact Agree.trans a1 a2
      | x _ _ _ => exact Agree.trans a1 a2
      | r _ _ => trivial
      | q _ _ => exact Agree.trans a1 a2
    · exact exC_agree Γ k hK a S o h
  | .cond c x y, S, o, h => by
    unfold exC at h
    split at h
    · rename_i okc b hc
      split at h
      · simp only [Option.map_eq_some_iff] at h
        obtain ⟨o', h1, rfl⟩ := h
        have a1 := exC_agree Γ k hK x S o' h1
        cases o' <;> exact a1
      · simp only [Option.map_eq_some_iff] at h
        obtain ⟨o', h1, rfl⟩ := h
        have a1 := exC_agree Γ k hK y S o' h1
        cases o' <;> exact a1
      split at h
      · simp only [Option.map_eq_some_iff] at h
        obtain ⟨o', h1, rfl⟩ := h
        have a1 := exC_agree Γ k hK y S o' h1
        cases o' <;> exact a1
      simp only [Option.map_eq_some_iff] at h
      obtain ⟨o', h1, rfl⟩ := h
      cases b with
      | true =>
        have a1 := exC_agree Γ k hK x S o' h1
        cases o' <;> exact a1
      | false =>
        have a1 := exC_agree Γ k hK y S o' h1
        cases o' <;> exact a1
    · cases h
  | .block id c, S, o, h => by
    unfold exC at h
    split at h
    · rename_i ok id' S' h1
      have a1 := exC_agree Γ k hK c S _ h1
      split at h <;> cases h <;> exact a1
    · exact exC_agree Γ k hK c S o h
  | .loop c, S, o, h => by
    unfold exC at h
    have : ∀ (m : Nat) (S : St) (o : OC), loopC (exC Γ k c) m S = some o → match o with | .n _ S' => Agree S S' | .x _ _ S' => Agree S S' | .r _ _ => True | .q _ S' => Agree S S' := by
      intro m
      induction m with
      | zero => intro S o h; cases h
      | succ m ih =>
        intro S o h
        unfold loopC at h
        split at h
        · rename_i ok S1 h1
          have a1 := exC_agree Γ k hK c S _ h1
          simp only [Option.map_eq_some_iff] at h
          obtain ⟨o', h2, rfl⟩ := h
          have a2 := ih S1 o' h2
          cases o' with
          | n _ _ => exact Agree.trans a1 a2
          | x _ _ _ => exact Agree.trans a1 a2
          | r _ _ => trivial
          | q _ _ => exact Agree.trans a1 a2
        · exact exC_agree Γ k hK c S o h
    exact this k S o h
  | .exit id, S, o, h => by cases h; exact Agree.refl S
  | .ret, S, o, h => by
    simp only [exC] at h
    split at h
    · cases h; exact Agree.refl S
    · simp only [Option.map_eq_some_iff, Prod.exists] at h
      obtain ⟨ok, vs, h1, rfl⟩ := h
      trivial
  | .rangeFunc _ _ _ _, S, o, h => by simp only [exC, reduceCtorEq] at h
  | .scope _, S, o, h => by simp only [exC, reduceCtorEq] at h
  | .goto _, S, o, h => by simp only [exC, reduceCtorEq] at h
  | .refuse _, S, o, h => by simp only [exC, reduceCtorEq] at h

/-- A function read in place, on given rows, run closed. -/
def exFnCI (Γ : Fx) (k : Nat) (fn : Func) : IC := fun rows gho args =>
  match fn.body with
  | none => none
  | some c =>
    if fn.results.toList.all isResB then
      match exC { Γ with res := fn.results.toList, inp := true } k c (startI fn rows gho args) with
      | some (.q ok S) => (resAV Γ.toEnv S fn.results.toList).map fun (ok2, vs) => (sAnd ok ok2, packR vs, S.rows, S.dr)
      | some (.n ok S) => (resAV Γ.toEnv S fn.results.toList).map fun (ok2, vs) => (sAnd ok ok2, packR vs, S.rows, S.dr)
      | _ => none
    else none

theorem exFnCI_ok {Γ : Fx} (k : Nat) (hK : EnvOk Γ.toEnv) (hm : Γ.P.follows .mixedOrders = true) {f : FuncId} {fn : Func} (hf : Γ.P.funcs[f]? = some fn)
    (hin : ∀ (args : Array Value) (w : World), (callFunc f args).run Γ.P w = .ok (.enter f args) w) : IOk Γ.toEnv f (exFnCI Γ k fn) := by
  refine ⟨hin, fun rows gho as ok r rows' d h => ?_, fun base w0 X w gho as us r rows' d R hG hg1 hg2 ha hrel h => ?_⟩
  · unfold exFnCI at h
    split at h
    · cases h
    · rename_i c hb
      split at h
      · split at h
        · rename_i ok1 S ho
          simp only [Option.map_eq_some_iff, Prod.exists, Prod.mk.injEq] at h
          obtain ⟨ok2, vs, hv, _, _, rfl, rfl⟩ := h
          have A : Agree (startI fn rows gho as) S := exC_agree { Γ with res := fn.results.toList, inp := true } k hK c _ _ ho
          exact ⟨A.rlen, fun q hq hn => A.row q hq hn⟩
        · rename_i ok1 S ho
          simp only [Option.map_eq_some_iff, Prod.exists, Prod.mk.injEq] at h
          obtain ⟨ok2, vs, hv, _, _, rfl, rfl⟩ := h
          have A : Agree (startI fn rows gho as) S := exC_agree { Γ with res := fn.results.toList, inp := true } k hK c _ _ ho
          exact ⟨A.rlen, fun q hq hn => A.row q hq hn⟩
        · cases h
      · cases h
  · unfold exFnCI at h
    split at h
    · cases h
    · rename_i c hb
      split at h
      · rename_i htmp
        have st := start_sim (E := Γ.toEnv) fn R hG hg1 hg2 ha hrel
        split at h
        · rename_i ok1 S ho
          simp only [Option.map_eq_some_iff, Prod.exists, Prod.mk.injEq] at h
          obtain ⟨ok2, vs, hv, hok, rfl, rfl, rfl⟩ := h
          simp only [Bool.and_eq_true] at hok
          obtain ⟨hok1, hok2⟩ := hok
          have A : Agree (startI fn X.rows gho as) S := exC_agree { Γ with res := fn.results.toList, inp := true } k hK c _ _ ho
          refine calls_of_wp hf hb (Code.wp_mono (fun e a w' hq => ?_) (exC_ok { Γ with res := fn.results.toList, inp := true } k hK hm c _ _ _ w ho hok1 st))
          cases e with
          | ret => exact end_post htmp hq A.gho hv hok2
          | _ => exact hq.elim
        · rename_i ok1 S ho
          simp only [Option.map_eq_some_iff, Prod.exists, Prod.mk.injEq] at h
          obtain ⟨ok2, vs, hv, hok, rfl, rfl, rfl⟩ := h
          simp only [Bool.and_eq_true] at hok
          obtain ⟨hok1, hok2⟩ := hok
          have A : Agree (startI fn X.rows gho as) S := exC_agree { Γ with res := fn.results.toList, inp := true } k hK c _ _ ho
          refine calls_of_wp hf hb (Code.wp_mono (fun e a w' hq => ?_) (exC_ok { Γ with res := fn.results.toList, inp := true } k hK hm c _ _ _ w ho hok1 st))
          cases e with
          | normal => exact end_post htmp hq A.gho hv hok2
          | _ => exact hq.elim
        · cases h
      · cases h
end Go.Proofs.YtnjofponcdcfcaaDoor.Ab
/- From a function read in place to its contracts on data: as data, as new data, as a new slice. -/
set_option linter.unusedVariables false
set_option linter.all false
namespace Go.Proofs.YtnjofponcdcfcaaDoor.Ab
open Go.RowKit

mutual
/-- Built of scalars and of slices of the call's own that point nowhere. -/
def AV.fresh (rows : Rows) : AV → Bool
  | .bool _ | .int _ _ | .str _ | .nilp | .nilf | .nili | .nils => true
  | .own r g | .osl r g _ _ => match rows.get r with | some (.arr g' s _) => g == g' && s.flat | _ => false
  | .agg cs => AV.freshL rows cs
  | .tup cs => AV.freshL rows cs
  | _ => false
def AV.freshL (rows : Rows) : List AV → Bool
  | [] => true
  | a :: as => a.fresh rows && AV.freshL rows as
end

/-- The memory of the call's own, as data. -/
def Cx.mine (X : Cx) : Cx := { F := fun b => ∃ r x o, X.rows.get r = some x ∧ X.φ r = some (b, o), φ := fun _ => none, rows := [], heap := X.heap }

mutual
theorem fresh_ok {base n : Nat} {w0 : Start} {w : World} {X : Cx} (H : RowsOk base w0 n X w) : ∀ (v v' : AV) (u : Value), v.fresh X.rows = true → v.lend X.rows = some v' → Rel X v u → Rel X.mine v' u
  | .own r g, v', u, hf, h, hr => by
    simp only [AV.lend] at h
    simp only [AV.fresh] at hf
    split at h
    · rename_i g' s xs hrow
      rw [hrow] at hf
      simp only [Bool.and_eq_true] at hf
      split at h
      · rename_i e
        subst e
        cases h
        simp only [Rel] at hr ⊢
        rcases hr s xs hrow with ⟨h1, h2, rfl⟩ | ⟨b, o, cap, h1, rfl, h3, h4⟩
        · have : xs = [] := List.eq_nil_of_length_eq_zero h2
          subst this
          exact ⟨none, 0, rfl, Nat.le_refl _, fun _ => ⟨rfl, rfl⟩, fun p hp => by cases hp⟩
        · refine ⟨_, cap, rfl, h3, fun e => (by cases e), fun p hp => ?_⟩
          cases hp
          refine ⟨fun _ => rfl, fun i hi => ?_⟩
          rcases H.row r _ hrow with ⟨h5, _⟩ | ⟨b', o', c, T, h5, h6, h7, h8⟩
          · rw [h5] at h1; cases h1
          · rw [h5] at h1; cases h1
            obtain ⟨es, he, hd⟩ := h8 i hi
            exact ⟨⟨r, _, o, hrow, h5⟩, es, he, Den.flat s _ _ hf.2 hd⟩
      · cases h
    · cases h
  | .osl r g st len, v', u, hf, h, hr => by
    simp only [AV.lend] at h
    simp only [AV.fresh] at hf
    split at h
    · rename_i g' s xs hrow
      rw [hrow] at hf
      simp only [Bool.and_eq_true] at hf
      split at h
      · rename_i e
        subst e
        cases h
        simp only [Rel] at hr ⊢
        obtain ⟨hle, hc⟩ := hr s xs hrow
        have hlen : ((xs.drop st).take len).length = len := by simp; omega
        rcases hc with ⟨h1, h2, rfl⟩ | ⟨b, o, ad, cap, h1, rfl, h3, h4⟩
        · have h0 : len = 0 := by omega
          subst h0
          simp only [List.take_zero]
          exact ⟨none, 0, rfl, Nat.le_refl _, fun _ => ⟨rfl, rfl⟩, fun p hp => by cases hp⟩
        · refine ⟨some ad, cap, by rw [hlen], by omega, fun e => (by cases e), fun p hp => ?_⟩
          cases hp
          rcases h4 with h4 | ⟨rfl, h5⟩
          · have h0 : len = 0 := by omega
            subst h0
            exact ⟨fun _ => h4.2.1, fun i hi => by simp at hi⟩
          · refine ⟨fun _ => rfl, fun i hi => ?_⟩
            rw [hlen] at hi
            rcases H.row r _ hrow with ⟨h6, _⟩ | ⟨b', o', c, T, h6, h7, h8, h9⟩
            · rw [h6] at h1; cases h1
            · rw [h6] at h1; cases h1
              obtain ⟨es, he, hd⟩ := h9 (st + i) (by omega)
              refine ⟨⟨r, _, o, hrow, h6⟩, es, ?_, ?_⟩
              · rw [Nat.add_mul, ← Nat.add_assoc] at he
                exact he
              · rw [show ((xs.drop st).take len)[i]'(by omega) = xs[st + i]'(by omega) by simp]
                exact Den.flat s _ _ hf.2 hd
      · cases h
    · cases h
  | .agg cs, v', u, hf, h, hr => by
    simp only [AV.lend, Option.map_eq_some_iff] at h
    obtain ⟨cs', h, rfl⟩ := h
    simp only [Rel] at hr ⊢
    obtain ⟨vs, e, hr⟩ := hr
    exact ⟨vs, e, freshL_ok H cs cs' _ (by simpa [AV.fresh] using hf) h hr⟩
  | .tup cs, v', u, hf, h, hr => by
    simp only [AV.lend, Option.map_eq_some_iff] at h
    obtain ⟨cs', h, rfl⟩ := h
    simp only [Rel] at hr ⊢
    obtain ⟨vs, e, hr⟩ := hr
    exact ⟨vs, e, freshL_ok H cs cs' _ (by simpa [AV.fresh] using hf) h hr⟩
  | .bool _, v', u, hf, h, hr | .int _ _, v', u, hf, h, hr | .str _, v', u, hf, h, hr | .nilp, v', u, hf, h, hr | .nilf, v', u, hf, h, hr | .nili, v', u, hf, h, hr | .nils, v', u, hf, h, hr => by
    simp only [AV.lend, Option.some.injEq] at h; subst h; simpa [Rel] using hr
  | .unk, v', u, hf, h, hr | .dsl _ _, v', u, hf, h, hr | .dptr _ _ _, v', u, hf, h, hr | .ptr _ _, v', u, hf, h, hr | .bsl _ _ _ _, v', u, hf, h, hr | .eptr _ _ _ _, v', u, hf, h, hr | .iface _ _, v', u, hf, h, hr | .clo _ _, v', u, hf, h, hr
  | .opt _ _, v', u, hf, h, hr | .gopt _ _, v', u, hf, h, hr => by simp only [AV.fresh, Bool.false_eq_true] at hf
theorem freshL_ok {base n : Nat} {w0 : Start} {w : World} {X : Cx} (H : RowsOk base w0 n X w) : ∀ (as bs : List AV) (us : List Value), AV.freshL X.rows as = true → AV.lendL X.rows as = some bs → RelL X as us → RelL X.mine bs us
  | [], bs, us, _, h, hr => by
    simp only [AV.lendL, Option.some.injEq] at h; subst h; simpa [RelL] using hr
  | a :: as, bs, us, hf, h, hr => by
    simp only [AV.freshL, Bool.and_eq_true] at hf
    simp only [AV.lendL, Option.bind_eq_some_iff, Option.map_eq_some_iff] at h
    obtain ⟨b, h1, bs', h2, rfl⟩ := h
    simp only [RelL] at hr ⊢
    obtain ⟨v, r, e, hv, hr⟩ := hr
    exact ⟨v, r, e, fresh_ok H a b v hf.1 h1 hv, freshL_ok H as bs' r hf.2 h2 hr⟩
end

/-- As data. -/
def dataC (c : IC) : List AV → Option (Bool × AV) := fun as =>
  if AV.allL (fun _ _ => false) as then (c [] [] as).bind fun (ok, r, rows', _) => (r.lend rows').bind fun r' => if r'.all (fun _ _ => false) then some (ok, r') else none else none
/-- As new data. -/
def freshC (c : IC) : List AV → Option (Bool × AV) := fun as =>
  if AV.allL (fun _ _ => false) as then (c [] [] as).bind fun (ok, r, rows', _) => if r.fresh rows' then (r.lend rows').bind fun r' => if r'.all (fun _ _ => false) then some (ok, r') else none else none else none
/-- As a new slice. -/
def newC (c : IC) : List AV → Option (Bool × ((s : Sh) × List s.den)) := fun as =>
  if AV.allL (fun _ _ => false) as then (c [] [] as).bind fun (ok, r, rows', _) => match r with
    | .own q g => match rows'.get q with
      | some (.arr g' s xs) => if g = g' then some (ok, ⟨s, xs⟩) else none
      | _ => none
    | _ => none
  else none

theorem IOk.run {E : Env} {f : FuncId} {c : IC} (H : IOk E f c) {F : Nat → Prop} {w : World} {as : List AV} {us : List Value} {r : AV} {rows' : Rows} {d : Nat}
    (hG : ∀ g s x, E.G g = some ⟨s, x⟩ → GRel ⟨F, fun _ => none, [], w.heap⟩ g s x) (hF : ∀ b, F b → b < w.heap.size)
    (hrel : RelL ⟨F, fun _ => none, [], w.heap⟩ as us) (hall : AV.allL (fun _ _ => false) as = true) (hc : c [] [] as = some (true, r, rows', d)) :
    Calls E.P f us.toArray w fun e w' => ∃ (X' : Cx) (u : Value), e = .returned u ∧ X'.rows = rows' ∧ RowsOk w.heap.size ⟨w, F, []⟩ rows'.length X' w' ∧ Rel X' r u := by
  let X : Cx := ⟨F, fun _ => none, [], w.heap⟩
  have R : RowsOk w.heap.size ⟨w, F, []⟩ 0 X w := ⟨rfl, Below.refl _ _, fun b hb => .inl hb, Nat.le_refl _, hF, fun r x h => by simp [X, Rows.get] at h, fun r x b o h => by simp [X, Rows.get] at h,
    fun r r' x x' b o b' o' h => by simp [X, Rows.get] at h, fun r cs h => by simp [X, Rows.get] at h⟩
  refine (H.valid w.heap.size ⟨w, F, []⟩ X w [] as us r rows' d R hG rfl rfl (AV.allL_imp (fun _ _ h => by cases h) as hall) hrel hc).mono fun e w' he => ?_
  obtain ⟨X', u, h1, h2, h3, _, _, _, h4⟩ := he
  exact ⟨X', u, h1, h2, h3, h4⟩

theorem IOk.data {E : Env} {f : FuncId} {c : IC} (H : IOk E f c) : KOk E f (dataC c) := by
  refine ⟨H.enter, fun F w as us r hG hF hrel hc => ?_⟩
  unfold dataC at hc
  split at hc
  · rename_i hall
    simp only [Option.bind_eq_some_iff, Prod.exists] at hc
    obtain ⟨ok, r0, rows', d, hc, r', hl, hc2⟩ := hc
    split at hc2
    · rename_i hra
      cases hc2
      refine (H.run hG hF hrel hall hc).mono fun e w' he => ?_
      obtain ⟨X', u, rfl, rfl, R, hr⟩ := he
      refine ⟨fun b => X'.lent.F b ∨ F b, u, rfl, R.keeps, fun b h => .inr h, fun b h => ?_, fun b h => ?_, ?_⟩
      · rcases h with h | h
        · exact (lent_ok R).sub b h
        · exact .inl h
      · rcases h with h | h
        · exact (lent_ok R).fresh b h
        · exact Nat.lt_of_lt_of_le (hF b h) R.keeps.size
      · refine Rel.mono (p := fun _ _ => false) ?_ _ _ hra (lend_ok R r0 r u hl hr)
        exact Stab.data (fun _ h => .inl h) (fun b hb => by rw [(lent_ok R).heap])
    · cases hc2
  · cases hc

theorem IOk.fresh {E : Env} {f : FuncId} {c : IC} (H : IOk E f c) : KFr E f (freshC c) := by
  refine ⟨H.enter, fun F w as us r hG hF hrel hc => ?_⟩
  unfold freshC at hc
  split at hc
  · rename_i hall
    simp only [Option.bind_eq_some_iff, Prod.exists] at hc
    obtain ⟨ok, r0, rows', d, hc, hc2⟩ := hc
    split at hc2
    · rename_i hfr
      simp only [Option.bind_eq_some_iff] at hc2
      obtain ⟨r', hl, hc2⟩ := hc2
      split at hc2
      · rename_i hra
        cases hc2
        refine (H.run hG hF hrel hall hc).mono fun e w' he => ?_
        obtain ⟨X', u, rfl, rfl, R, hr⟩ := he
        refine ⟨X'.mine.F, u, rfl, R.keeps, fun b h => ?_, ?_⟩
        · obtain ⟨q, x, o, hq, hφ⟩ := h
          exact ⟨(R.own q x b o hq hφ).1, R.lt hq hφ⟩
        · refine Rel.mono (p := fun _ _ => false) ?_ _ _ hra (fresh_ok R r0 r u hfr hl hr)
          exact Stab.data (fun _ h => h) (fun b hb => by rw [show X'.mine.heap = X'.heap from rfl, R.heap])
      · cases hc2
    · cases hc2
  · cases hc

theorem IOk.new {E : Env} {f : FuncId} {c : IC} (H : IOk E f c) : KNew E f (newC c) := by
  refine ⟨H.enter, fun F w as us s xs hG hF hrel hc => ?_⟩
  unfold newC at hc
  split at hc
  · rename_i hall
    simp only [Option.bind_eq_some_iff, Prod.exists] at hc
    obtain ⟨ok, r0, rows', d, hc, hc2⟩ := hc
    split at hc2
    · rename_i q g
      split at hc2
      · rename_i g' s' xs' hrow
        split at hc2
        · rename_i e
          subst e
          simp only [Option.some.injEq, Prod.mk.injEq] at hc2
          obtain ⟨rfl, hc2⟩ := hc2
          cases hc2
          refine (H.run hG hF hrel hall hc).mono fun e w' he => ?_
          obtain ⟨X', u, rfl, rfl, R, hr⟩ := he
          have hF' : ∀ b, F b → b < w'.heap.size := fun b h => Nat.lt_of_lt_of_le (hF b h) R.keeps.size
          refine ⟨fun b => X'.F b ∨ F b, X'.φ q, u, rfl, R.keeps, fun b h => .inr h, fun b h => ?_, fun b h => ?_, fun b o e => ?_, ?_, ?_⟩
          · rcases h with h | h
            · exact R.sub b h
            · exact .inl h
          · rcases h with h | h
            · exact R.fresh b h
            · exact hF' b h
          · have h1 := R.own q _ b o hrow e
            refine ⟨h1.1, fun h => ?_⟩
            rcases h with h | h
            · exact h1.2 h
            · have := hF b h
              have := h1.1
              omega
          · rcases R.row q _ hrow with ⟨h1, h2⟩ | ⟨b, o, c', T, h1, h2, h3, h4⟩
            · exact .inl ⟨h1, h2⟩
            · refine .inr ⟨b, o, c', T, h1, by rw [← R.heap]; exact h2, h3, fun i hi => ?_⟩
              obtain ⟨es, he, hd⟩ := h4 i hi
              exact ⟨es, by rw [← R.heap]; exact he, by rw [← R.heap]; exact Den.mono (fun _ h => .inl h) (fun _ _ => rfl) s _ es hd⟩
          · simp only [Rel] at hr ⊢
            intro s2 zs hz
            have hz' : some (Row.arr 0 s xs) = some (Row.arr 0 s2 zs) := hz
            obtain ⟨_, hs', hz2⟩ := Row.arr.inj (Option.some.inj hz')
            subst hs'
            cases hz2
            have := hr s xs hrow
            rw [← R.heap]
            exact this
        · cases hc2
      · cases hc2
    · cases hc2
  · cases hc

/-- As a new slice, of the first elements of a row or of none at all. -/
def trimC (s : Sh) (c : IC) : List AV → Option (Bool × ((s : Sh) × List s.den)) := fun as =>
  if AV.allL (fun _ _ => false) as then (c [] [] as).bind fun (ok, r, rows', _) => match r with
    | .osl q g 0 k => match rows'.get q with
      | some (.arr g' s xs) => if g = g' then some (ok, ⟨s, xs.take k⟩) else none
      | _ => none
    | .nils => some (ok, ⟨s, []⟩)
    | _ => none
  else none

theorem IOk.trim {E : Env} {f : FuncId} {c : IC} (H : IOk E f c) (s0 : Sh) : KNew E f (trimC s0 c) := by
  refine ⟨H.enter, fun F w as us s xs hG hF hrel hc => ?_⟩
  unfold trimC at hc
  split at hc
  · rename_i hall
    simp only [Option.bind_eq_some_iff, Prod.exists] at hc
    obtain ⟨ok, r0, rows', d, hc, hc2⟩ := hc
    split at hc2
    · rename_i q g k
      split at hc2
      · rename_i g' s' xs' hrow
        split at hc2
        · rename_i e
          subst e
          simp only [Option.some.injEq, Prod.mk.injEq] at hc2
          obtain ⟨rfl, hc2⟩ := hc2
          cases hc2
          refine (H.run hG hF hrel hall hc).mono fun e w' he => ?_
          obtain ⟨X', u, rfl, rfl, R, hr⟩ := he
          have hF' : ∀ b, F b → b < w'.heap.size := fun b h => Nat.lt_of_lt_of_le (hF b h) R.keeps.size
          refine ⟨fun b => X'.F b ∨ F b, X'.φ q, u, rfl, R.keeps, fun b h => .inr h, fun b h => ?_, fun b h => ?_, fun b o e => ?_, ?_, ?_⟩
          · rcases h with h | h
            · exact R.sub b h
            · exact .inl h
          · rcases h with h | h
            · exact R.fresh b h
            · exact hF' b h
          · have h1 := R.own q _ b o hrow e
            refine ⟨h1.1, fun h => ?_⟩
            rcases h with h | h
            · exact h1.2 h
            · have := hF b h
              have := h1.1
              omega
          · rcases R.row q _ hrow with ⟨h1, h2⟩ | ⟨b, o, c', T, h1, h2, h3, h4⟩
            · exact .inl ⟨h1, by rw [h2, List.take_nil]⟩
            · have hl : (xs'.take k).length ≤ xs'.length := by rw [List.length_take]; omega
              refine .inr ⟨b, o, c', T, h1, by rw [← R.heap]; exact h2, Nat.le_trans (Nat.add_le_add_left (Nat.mul_le_mul_right _ hl) _) h3, fun i hi => ?_⟩
              obtain ⟨es, he, hd⟩ := h4 i (by omega)
              refine ⟨es, by rw [← R.heap]; exact he, ?_⟩
              rw [show (xs'.take k)[i] = xs'[i]'(by omega) from List.getElem_take ..]
              rw [← R.heap]
              exact Den.mono (fun _ h => .inl h) (fun _ _ => rfl) _ _ es hd
          · simp only [Rel] at hr ⊢
            intro s2 zs hz
            have hz' : some (Row.arr 0 s (xs'.take k)) = some (Row.arr 0 s2 zs) := hz
            obtain ⟨_, hs', hz2⟩ := Row.arr.inj (Option.some.inj hz')
            subst hs'
            cases hz2
            obtain ⟨hle, hr⟩ := hr s xs' hrow
            have hl : (xs'.take k).length = k := by rw [List.length_take]; omega
            rcases hr with ⟨h1, h2, h3⟩ | ⟨b, o, a, cap, h1, h2, h3, h4⟩
            · exact .inl ⟨h1, by omega, h3⟩
            · refine .inr ⟨b, o, cap, h1, ?_, by omega, fun c T fr hcc => ?_⟩
              · rw [hl, h2]
                rcases h4 with ⟨_, _, h5⟩ | ⟨h5, _⟩
                · rw [h5 trivial]
                · rw [h5, Nat.zero_mul, Nat.add_zero]
              · rcases h4 with ⟨h5, _, _⟩ | ⟨_, h6⟩
                · subst h5
                  rw [Nat.zero_mul, Nat.add_zero]
                  rcases R.row q _ hrow with ⟨g1, _⟩ | ⟨b', o', c', T', g1, g2, g3, _⟩
                  · rw [g1] at h1; cases h1
                  · rw [g1] at h1
                    cases h1
                    rw [R.heap] at g2
                    rw [g2] at hcc
                    cases hcc
                    omega
                · have := h6 c T fr (by rw [R.heap]; exact hcc)
                  rw [Nat.zero_add] at this
                  exact this
        · cases hc2
      · cases hc2
    · simp only [Option.some.injEq, Prod.mk.injEq] at hc2
      obtain ⟨rfl, hc2⟩ := hc2
      cases hc2
      refine (H.run hG hF hrel hall hc).mono fun e w' he => ?_
      obtain ⟨X', u, rfl, rfl, R, hr⟩ := he
      have hF' : ∀ b, F b → b < w'.heap.size := fun b h => Nat.lt_of_lt_of_le (hF b h) R.keeps.size
      refine ⟨fun b => X'.F b ∨ F b, none, u, rfl, R.keeps, fun b h => .inr h, fun b h => ?_, fun b h => ?_, fun b o e => (by cases e), .inl ⟨rfl, rfl⟩, ?_⟩
      · rcases h with h | h
        · exact R.sub b h
        · exact .inl h
      · rcases h with h | h
        · exact R.fresh b h
        · exact hF' b h
      · simp only [Rel] at hr ⊢
        intro s2 zs hz
        have hz' : some (Row.arr 0 s0 []) = some (Row.arr 0 s2 zs) := hz
        obtain ⟨_, hs', hz2⟩ := Row.arr.inj (Option.some.inj hz')
        subst hs'
        cases hz2
        first | exact .inl ⟨rfl, rfl, hr⟩ | exact .inl ⟨trivial, rfl, hr⟩ | exact .inl ⟨trivial, trivial, hr⟩
    · cases hc2
  · cases hc

theorem KFr.preC {E : Env} {f : FuncId} {h : List AV → Option (Bool × AV)} (H : KFr E f h) (ts : List AV) : KFr E f (preC ts h) := by
  refine ⟨H.enter, fun F w as us r hG hF hrel hc => ?_⟩
  simp only [Ab.preC, Option.bind_eq_some_iff] at hc
  obtain ⟨xs, h1, h2⟩ := hc
  have := (AV.coeL_ok (Turn.nil ⟨F, fun _ => none, [], w.heap⟩ rfl) ts as xs [] us h1 hrel).2
  exact H.valid F w _ us r hG hF (by simpa using this) h2

/-- A contract out of several. -/
theorem KNew.cases {E : Env} {f : FuncId} {c c1 c2} (h1 : KNew E f c1) (h2 : KNew E f c2) (hc : ∀ as r, c as = some (true, r) → c1 as = some (true, r) ∨ c2 as = some (true, r)) : KNew E f c :=
  ⟨h1.enter, fun F w as us s xs hG hF hrel h => by
    rcases hc as _ h with h | h
    · exact h1.valid F w as us s xs hG hF hrel h
    · exact h2.valid F w as us s xs hG hF hrel h⟩
theorem KFr.cases {E : Env} {f : FuncId} {c c1 c2} (h1 : KFr E f c1) (h2 : KFr E f c2) (hc : ∀ as r, c as = some (true, r) → c1 as = some (true, r) ∨ c2 as = some (true, r)) : KFr E f c :=
  ⟨h1.enter, fun F w as us r hG hF hrel h => by
    rcases hc as _ h with h | h
    · exact h1.valid F w as us r hG hF hrel h
    · exact h2.valid F w as us r hG hF hrel h⟩
theorem KOk.cases {E : Env} {f : FuncId} {c c1 c2} (h1 : KOk E f c1) (h2 : KOk E f c2) (hc : ∀ as r, c as = some (true, r) → c1 as = some (true, r) ∨ c2 as = some (true, r)) : KOk E f c :=
  ⟨h1.enter, fun F w as us r hG hF hrel h => by
    rcases hc as _ h with h | h
    · exact h1.valid F w as us r hG hF hrel h
    · exact h2.valid F w as us r hG hF hrel h⟩
/-- The arguments of a new slice brought into a known form first. -/
def preN (ts : List AV) (h : List AV → Option (Bool × ((s : Sh) × List s.den))) : List AV → Option (Bool × ((s : Sh) × List s.den)) := fun as => (AV.coeL (fun _ => none) (fun _ => none) ts as).bind fun xs => h (AV.fillL ts xs).1
theorem KNew.preN {E : Env} {f : FuncId} {h} (H : KNew E f h) (ts : List AV) : KNew E f (preN ts h) := by
  refine ⟨H.enter, fun F w as us s ys hG hF hrel hc => ?_⟩
  simp only [Ab.preN, Option.bind_eq_some_iff] at hc
  obtain ⟨xs, h1, h2⟩ := hc
  have := (AV.coeL_ok (Turn.nil ⟨F, fun _ => none, [], w.heap⟩ rfl) ts as xs [] us h1 hrel).2
  exact H.valid F w _ us s ys hG hF (by simpa using this) h2
end Go.Proofs.YtnjofponcdcfcaaDoor.Ab
/- Loops of readings: how far they run, and the words that clear a reading's form. -/
set_option linter.all false
namespace Go.Proofs.YtnjofponcdcfcaaDoor.Ab

/-- A loop that goes on through n states and stops at the state n. -/
theorem whileN_upto {f : List Sc → Bool × Bool × List Sc} (st : Nat → List Sc) : ∀ (n : Nat) (i : Nat), (∀ j, i ≤ j → j < i + n → f (st j) = (true, true, st (j + 1))) → (f (st (i + n))).1 = true → (f (st (i + n))).2.1 = false →
    whileN f (n + 1) (st i) = some (st (i + n))
  | 0, i, _, h1, h2 => by
    simp only [Nat.add_zero] at h1 h2 ⊢
    unfold whileN
    match h : f (st i), h1, h2 with
    | (a, b, y), h1, h2 =>
      simp only at h1 h2
      subst h1 h2
      rfl
  | n + 1, i, h, h1, h2 => by
    unfold whileN
    rw [h i (Nat.le_refl _) (by omega)]
    have e : i + (n + 1) = (i + 1) + n := by omega
    rw [e] at h1 h2 ⊢
    exact whileN_upto st n (i + 1) (fun j h3 h4 => h j (by omega) (by omega)) h1 h2

theorem whileW_upto {f : List Sc → Bool × Bool × List Sc} {x : List Sc} (st : Nat → List Sc) (n : Nat) (h0 : x = st 0) (h : ∀ j, j < n → f (st j) = (true, true, st (j + 1))) (h1 : (f (st n)).1 = true) (h2 : (f (st n)).2.1 = false) :
    whileW f x = some (st n) := by
  have := whileN_upto st n 0 (fun j _ hj => h j (by omega)) (by simpa using h1) (by simpa using h2)
  rw [h0]
  exact whileW_of (by simpa using this)

@[simp] theorem Tg.isN_n : Tg.isN .n = true := rfl
@[simp] theorem Tg.isN_x (i : Nat) : Tg.isN (.x i) = false := rfl
@[simp] theorem Tg.isN_r : Tg.isN .r = false := rfl
@[simp] theorem Tg.isN_mix (c : Bool) (a b : Tg) : Tg.isN (Tg.mix c a b) = (bif c then a.isN else b.isN) := by cases c <;> rfl
@[simp] theorem Tg.mix_true (a b : Tg) : Tg.mix true a b = a := rfl
@[simp] theorem Tg.mix_false (a b : Tg) : Tg.mix false a b = b := rfl
@[simp] theorem Tg.thenN_n (u : Tg) : Tg.thenN .n u = u := rfl
@[simp] theorem Tg.thenN_x (i : Nat) (u : Tg) : Tg.thenN (.x i) u = .x i := rfl
@[simp] theorem Tg.thenN_r (u : Tg) : Tg.thenN .r u = .r := rfl
@[simp] theorem Tg.isN_thenN (t u : Tg) : Tg.isN (Tg.thenN t u) = (t.isN && u.isN) := by cases t <;> simp
@[simp] theorem Tg.thenN_mix (c : Bool) (a b u : Tg) : Tg.thenN (Tg.mix c a b) u = Tg.mix c (Tg.thenN a u) (Tg.thenN b u) := by cases c <;> rfl
@[simp] theorem Tg.block_n (i : Nat) : Tg.block i .n = .n := rfl
@[simp] theorem Tg.block_r (i : Nat) : Tg.block i .r = .r := rfl
@[simp] theorem Tg.block_x (i j : Nat) : Tg.block i (.x j) = if j = i then .n else .x j := rfl
@[simp] theorem Tg.block_mix (i : Nat) (c : Bool) (a b : Tg) : Tg.block i (Tg.mix c a b) = Tg.mix c (Tg.block i a) (Tg.block i b) := by cases c <;> rfl
@[simp] theorem Sc.toI_i (n : Int) : Sc.toI (.i n) = n := rfl
@[simp] theorem Sc.toB_b (n : Bool) : Sc.toB (.b n) = n := rfl
@[simp] theorem Sc.toN_n (n : Nat) : Sc.toN (.n n) = n := rfl
@[simp] theorem Sc.toS_s (n : ByteArray) : Sc.toS (.s n) = n := rfl
@[simp] theorem Sc.toD_d' (s : Sh) (x : s.den) : Sc.toD s (.d s x) = x := Sc.toD_d s x

attribute [simp] hd_cons tl_cons
theorem bEq_iff (x y : ByteArray) : bEq x y = true ↔ x = y := by
  obtain ⟨⟨x⟩⟩ := x
  obtain ⟨⟨y⟩⟩ := y
  simp [bEq]
theorem bEq_decide (x y : ByteArray) : bEq x y = decide (x = y) := by
  rw [Bool.eq_iff_iff, bEq_iff, decide_eq_true_iff]
theorem wrap_i64 {n : Int} (h1 : -9223372036854775808 ≤ n) (h2 : n ≤ 9223372036854775807) : IntKind.wrap .i64 n = n := by
  unfold IntKind.wrap
  simp [IntKind.signed, IntKind.bits]
  omega
end Go.Proofs.YtnjofponcdcfcaaDoor.Ab
/- Arguments that can be read as data: each reads as plain data of the shape of its type, each number, text and list within its bounds; and reads as it read when memory was only added to. -/
set_option linter.all false
namespace Go.Proofs.YtnjofponcdcfcaaDoor.Ab
open Go.RowKit Go.ChangeShapes Go.WideShapes

/-- The bytes that data takes, at the least. -/
def Sh.byt : Sh → Nat
  | .unit => 0
  | .bool => 1
  | .int k => k.bits / 8
  | .str => 16
  | .sl _ => 24
  | .arr n e => n * e.byt
  | .prod a b => a.byt + b.byt

/-- Data within its bounds. -/
def Sh.Wf : (s : Sh) → s.den → Prop
  | .unit, _ => True
  | .bool, _ => True
  | .int k, n => (Lit.int k n).wf = true
  | .str, x => x.size ≤ maxLen
  | .sl e, xs => (xs.length ≤ maxLen ∧ xs.length * e.byt ≤ 140737488351232) ∧ ∀ x ∈ xs, e.Wf x
  | .arr n e, xs => xs.length = n ∧ ∀ x ∈ xs, e.Wf x
  | .prod a b, x => a.Wf x.1 ∧ b.Wf x.2

def shCL (P : Program) (f : TypeId → Option Sh) : Nat → List Field → Option Sh
  | _, [] => some .unit
  | off, x :: xs => if x.offset = off then (f x.type).bind fun a => (shCL P f (off + a.size) xs).bind fun b => some (.prod a b) else none
/-- The shape of a type, its sizes checked. -/
def shC (P : Program) : Nat → TypeId → Option Sh
  | 0, _ => none
  | d + 1, t => match P.underlying t with
    | some .bool => if P.cellsOf t = 1 then some .bool else none
    | some (.int k) => if P.cellsOf t = 1 then some (.int k) else none
    | some .string => if P.cellsOf t = 1 then some .str else none
    | some (.slice e) => if P.cellsOf t = 1 then (shC P d e).bind fun s => if 0 < s.size ∧ s.byt ≤ P.bytesOf e then some (.sl s) else none else none
    | some (.struct fs) => (shCL P (shC P d) 0 fs.toList).bind fun s => if P.cellsOf t = s.size then some s else none
    | some (.array n e) => (shC P d e).bind fun s => if P.cellsOf t = n * s.size then some (.arr n s) else none
    | _ => none

theorem cells_get' {w : World} {base : Nat} {a : Addr} {n : Nat} {cs : List Value} (h : w.cells? base a n = some cs) : cs.length = n ∧ ∀ i u, cs[i]? = some u → w.cell? (a.add i) = some u := by
  unfold World.cells? at h
  split at h
  · have hl := mapM_some_length h
    rw [List.length_range] at hl
    refine ⟨hl, fun i u hu => ?_⟩
    have hi : i < n := by rw [← hl]; exact (List.getElem?_eq_some_iff.1 hu).1
    have := mapM_some_get h i i (by rw [List.getElem?_range hi])
    rw [this]; exact hu
  · cases h
theorem add_add'' (a : Addr) (i j : Nat) : (a.add i).add j = a.add (i + j) := by
  unfold Addr.add
  by_cases h : j = 0
  · subst h; simp
  · by_cases hi : i = 0
    · subst hi; simp [h]
    · rw [if_neg h, if_neg hi, if_neg (by omega)]; simp [Nat.add_assoc]
theorem cellsAt_of {w : World} {b o : Nat} {cs : List Value} (h0 : 0 < cs.length) (h : ∀ i u, cs[i]? = some u → w.cell? ⟨b, o + i, none⟩ = some u) : b < w.heap.size ∧ cellsAt w.heap b o cs := by
  have h1 := h 0 cs[0] (List.getElem?_eq_getElem h0)
  unfold World.cell? at h1
  split at h1
  · rename_i c T fr hb
    refine ⟨(Array.getElem?_eq_some_iff.1 hb).1, c, T, fr, hb, fun j hj => ?_⟩
    have h2 := h j cs[j] (List.getElem?_eq_getElem hj)
    unfold World.cell? at h2
    simp only [hb] at h2
    rw [List.getElem?_eq_getElem hj]
    simpa using h2
  · cases h1

/-- What a type's reading gives. -/
def Opn (P : Program) (t : TypeId) (s : Sh) : Prop :=
  P.cellsOf t = s.size ∧ ∀ {H : Type} (enc : TypeId × Value → H) (w : World) (spare : Nat → Bool) (held : Bool) (fuel : Nat) (cs : List Value) (x : DataW H × List MemPlace),
    DataW.trod enc P w 0 spare held fuel t cs = some x → (∀ n ∈ x.1.weights P t, n ≤ 140737488351232) → ∃ y : s.den, Den (fun b => b < w.heap.size) w.heap s y cs ∧ s.Wf y

theorem weightsAll_mem' {H : Type} {P : Program} {e : TypeId} {l : List (DataW H)} {d : DataW H} (h : d ∈ l) {n : Nat} (hn : n ∈ d.weights P e) : n ∈ DataW.weightsAll P e l := by
  induction l with
  | nil => cases h
  | cons a l ih =>
    rw [DataW.weightsAll, List.mem_append]
    rcases List.mem_cons.1 h with rfl | h
    · exact .inl hn
    · exact .inr (ih h)
theorem opn_slice {P : Program} {t e : TypeId} {s : Sh} (ht : P.underlying t = some (.slice e)) (hc : P.cellsOf t = 1) (h0 : 0 < s.size) (hby : s.byt ≤ P.bytesOf e) (he : Opn P e s) : Opn P t (.sl s) := by
  refine ⟨hc, fun enc w spare held fuel cs x h hs => ?_⟩
  rcases Deep.open_slice ht h with ⟨rfl, _⟩ | ⟨a, len, cap, m, n, D, Pl, rfl, _, hl, hm, hmm, rfl, hel⟩
  · exact ⟨[], ⟨none, 0, rfl, Nat.le_refl _, fun _ => ⟨rfl, rfl⟩, fun p hp => by cases hp⟩, ⟨Nat.zero_le _, by simp⟩, fun x hx => by cases hx⟩
  · have hlm : len ≤ m := by rw [hmm]; split <;> omega
    have hw : ∀ i, i < len → ∀ q ∈ (D i).weights P e, q ≤ 140737488351232 := by
      intro i hi q hq
      refine hs q ?_
      show q ∈ DataW.weights P t (.slice _ _)
      rw [DataW.weights, ht]
      refine List.mem_cons_of_mem _ (List.mem_append_left _ (weightsAll_mem' (d := D i) ?_ hq))
      exact List.mem_map.2 ⟨i, List.mem_range.2 hi, rfl⟩
    have hbytes : len * s.byt ≤ 140737488351232 := by
      have h1 := hs ((len + (m - len)) * P.bytesOf e) (by
        show _ ∈ DataW.weights P t (.slice _ _)
        rw [DataW.weights, ht]
        simp)
      exact Nat.le_trans (Nat.mul_le_mul (Nat.le_add_right _ _) hby) h1
    have hex : ∀ i, i < len → ∃ y : s.den, s.Wf y ∧ a.spot = none ∧ a.block < w.heap.size ∧ ∃ es, cellsAt w.heap a.block (a.off + i * s.size) es ∧ Den (fun b => b < w.heap.size) w.heap s y es := by
      intro i hi
      obtain ⟨c, h1, h2⟩ := hel i (by omega)
      obtain ⟨hcl, hcg⟩ := cells_get' h1
      obtain ⟨y, hy, hw⟩ := he.2 enc w spare held n c _ h2 (hw i hi)
      have hpos : 0 < c.length := by rw [hcl, he.1]; exact h0
      have hsp : a.spot = none := by
        obtain ⟨c0, k1, k2⟩ := hel 0 (by omega)
        obtain ⟨kcl, kcg⟩ := cells_get' k1
        have kpos : 0 < c0.length := by rw [kcl, he.1]; exact h0
        have k3 := kcg 0 c0[0] (List.getElem?_eq_getElem kpos)
        rw [add_add'', Nat.zero_mul] at k3
        have := World.cell?_spot k3
        unfold Addr.add at this
        simpa using this
      obtain ⟨b, o, sp⟩ := a
      cases hsp
      obtain ⟨h4, h5⟩ := cellsAt_of (b := b) (o := o + i * s.size) hpos (fun j u hu => by
        have := hcg j u hu
        rw [add_add'', addr_add, he.1] at this
        rw [Nat.add_assoc]
        exact this)
      exact ⟨y, hw, rfl, h4, c, h5, hy⟩
    rcases Nat.eq_zero_or_pos len with h00 | h00
    · subst h00
      exact ⟨[], ⟨some a, cap, rfl, Nat.zero_le _, fun e => (by cases e), fun p hp => ⟨fun h => absurd h (by simp), fun i hi => absurd hi (by simp)⟩⟩, ⟨Nat.zero_le _, by simp⟩, fun x hx => by cases hx⟩
    · obtain ⟨y0, _⟩ := hex 0 h00
      have hex2 : ∀ i, ∃ y : s.den, i < len → s.Wf y ∧ a.spot = none ∧ a.block < w.heap.size ∧ ∃ es, cellsAt w.heap a.block (a.off + i * s.size) es ∧ Den (fun b => b < w.heap.size) w.heap s y es := by
        intro i
        by_cases hi : i < len
        · obtain ⟨y, hy⟩ := hex i hi; exact ⟨y, fun _ => hy⟩
        · exact ⟨y0, fun h => absurd h hi⟩
      obtain ⟨G, hG⟩ := Classical.axiomOfChoice hex2
      have hlen : ((List.range len).map G).length = len := by simp
      refine ⟨(List.range len).map G, ⟨some a, cap, by rw [hlen], by rw [hlen]; exact hl, fun e => (by cases e), fun p hp => ?_⟩, ⟨by rw [hlen]; omega, by rw [hlen]; exact hbytes⟩, fun x hx => ?_⟩
      · cases hp
        refine ⟨fun _ => (hG 0 h00).2.1, fun i hi => ?_⟩
        rw [hlen] at hi
        obtain ⟨h1, h2, h3, es, h4, h5⟩ := hG i hi
        refine ⟨h3, es, h4, ?_⟩
        simpa using h5
      · obtain ⟨i, hi, rfl⟩ := List.mem_map.1 hx
        exact (hG i (List.mem_range.1 hi)).1

theorem opn_fields {P : Program} {f : TypeId → Option Sh} (hf : ∀ t s, f t = some s → Opn P t s) : ∀ (fs : List Field) (off : Nat) (s : Sh), shCL P f off fs = some s →
    ∀ {H : Type} (enc : TypeId × Value → H) (w : World) (spare : Nat → Bool) (held : Bool) (n : Nat) (cs : List Value) (xs : List (DataW H × List MemPlace)),
    cs.length = off + s.size → xs.length = fs.length → (∀ (i : Nat) (g : Field), fs[i]? = some g → DataW.trod enc P w 0 spare held n g.type ((cs.drop g.offset).take (P.cellsOf g.type)) = xs[i]?) →
    (∀ q ∈ DataW.weightsEach P (fs.map (·.type)) (xs.map (·.1)), q ≤ 140737488351232) →
    ∃ y : s.den, Den (fun b => b < w.heap.size) w.heap s y (cs.drop off) ∧ s.Wf y
  | [], off, s, h, H, enc, w, spare, held, n, cs, xs, hl, hx, hr, hs => by
    cases h
    refine ⟨(), ?_, trivial⟩
    show cs.drop off = []
    exact List.drop_eq_nil_of_le (by rw [hl]; exact Nat.le_refl _)
  | g :: gs, off, s, h, H, enc, w, spare, held, n, cs, xs, hl, hx, hr, hs => by
    unfold shCL at h
    split at h
    · rename_i ho
      simp only [Option.bind_eq_some_iff, Option.some.injEq] at h
      obtain ⟨a, ha, b, hb, rfl⟩ := h
      have hA := hf _ _ ha
      cases xs with
      | nil => simp at hx
      | cons x xs =>
        have h0 := hr 0 g rfl
        rw [ho] at h0
        have hsz : (Sh.prod a b).size = a.size + b.size := rfl
        obtain ⟨y0, hy0, hw0⟩ := hA.2 enc w spare held n _ x h0 (fun q hq => hs q (by simp [DataW.weightsEach, hq]))
        obtain ⟨y1, hy1, hw1⟩ := opn_fields hf gs (off + a.size) b hb enc w spare held n cs xs (by rw [hl, hsz]; omega) (by simpa using hx) (fun i k hk => hr (i + 1) k (by simpa using hk)) (fun q hq => hs q (by simp [DataW.weightsEach, hq]))
        refine ⟨(y0, y1), ⟨(cs.drop off).take (P.cellsOf g.type), cs.drop (off + a.size), ?_, hy0, hy1⟩, hw0, hw1⟩
        rw [hA.1, ← List.drop_drop, List.take_append_drop]
    · cases h

theorem opn_items {P : Program} {e : TypeId} {s : Sh} (he : Opn P e s) {H : Type} (enc : TypeId × Value → H) (w : World) (spare : Nat → Bool) (held : Bool) (m : Nat) : ∀ (n : Nat) (cs : List Value) (xs : List (DataW H × List MemPlace)),
    cs.length = n * s.size → xs.length = n → (∀ (i : Nat), i < n → DataW.trod enc P w 0 spare held m e ((cs.drop (i * P.cellsOf e)).take (P.cellsOf e)) = xs[i]?) →
    (∀ q ∈ DataW.weightsAll P e (xs.map (·.1)), q ≤ 140737488351232) →
    ∃ ys : List s.den, ys.length = n ∧ AllD (Den (fun b => b < w.heap.size) w.heap s) ys cs ∧ ∀ y ∈ ys, s.Wf y
  | 0, cs, xs, hl, hx, hr, hs => by
    refine ⟨[], rfl, ?_, fun y hy => by cases hy⟩
    show cs = []
    exact List.eq_nil_of_length_eq_zero (by simpa using hl)
  | n + 1, cs, xs, hl, hx, hr, hs => by
    cases xs with
    | nil => simp at hx
    | cons x xs =>
      have h0 := hr 0 (by omega)
      rw [Nat.zero_mul, List.drop_zero] at h0
      obtain ⟨y0, hy0, hw0⟩ := he.2 enc w spare held m _ x h0 (fun q hq => hs q (by simp [DataW.weightsAll, hq]))
      obtain ⟨ys, h1, h2, h3⟩ := opn_items he enc w spare held m n (cs.drop (P.cellsOf e)) xs (by rw [List.length_drop, hl, he.1, Nat.add_mul]; omega) (by simpa using hx) (fun i hi => by
        have := hr (i + 1) (by omega)
        rw [Nat.add_mul, Nat.one_mul] at this
        rw [List.drop_drop, Nat.add_comm]
        simpa using this) (fun q hq => hs q (by simp [DataW.weightsAll, hq]))
      refine ⟨y0 :: ys, by simp [h1], ⟨cs.take (P.cellsOf e), cs.drop (P.cellsOf e), (List.take_append_drop _ _).symm, hy0, h2⟩, fun y hy => ?_⟩
      rcases List.mem_cons.1 hy with rfl | hy
      · exact hw0
      · exact h3 y hy
theorem okWide_array {P : Program} {w : World} {r : Reach} {base : Nat} {t : TypeId} {v : Value} {n : Nat} {e : TypeId} (ht : P.underlying t = some (.array n e)) (h : Value.okWide P w r base t v) : ∃ cs, v = .agg cs ∧ cs.size = P.cellsOf t := by
  simp only [Value.okWide, ht] at h
  obtain ⟨cs, h1, h2, _⟩ := h
  exact ⟨cs, h1, h2⟩
theorem opn {P : Program} : ∀ (d : Nat) (t : TypeId) (s : Sh), shC P d t = some s → Opn P t s
  | 0, _, _, h => by cases h
  | d + 1, t, s, h => by
    unfold shC at h
    split at h
    · rename_i ht
      split at h
      · rename_i hc
        cases h
        refine ⟨hc, fun enc w spare held fuel cs x hx hs => ?_⟩
        obtain ⟨b, rfl, _⟩ := DataW.trod_bool ht hx
        exact ⟨b, rfl, trivial⟩
      · cases h
    · rename_i k ht
      split at h
      · rename_i hc
        cases h
        refine ⟨hc, fun enc w spare held fuel cs x hx hs => ?_⟩
        obtain ⟨n, rfl, _, hw⟩ := DataW.trod_int ht hx
        exact ⟨n, rfl, hw⟩
      · cases h
    · rename_i ht
      split at h
      · rename_i hc
        cases h
        refine ⟨hc, fun enc w spare held fuel cs x hx hs => ?_⟩
        obtain ⟨z, rfl, rfl, hz⟩ := DataW.trod_string ht hx
        exact ⟨z, rfl, hz⟩
      · cases h
    · rename_i e ht
      split at h
      · rename_i hc
        simp only [Option.bind_eq_some_iff] at h
        obtain ⟨a, ha, h⟩ := h
        split at h
        · rename_i h0
          cases h
          exact opn_slice ht hc h0.1 h0.2 (opn d e a ha)
        · cases h
      · cases h
    · rename_i fs ht
      simp only [Option.bind_eq_some_iff] at h
      obtain ⟨a, ha, h⟩ := h
      split at h
      · rename_i hc
        cases h
        refine ⟨hc, fun enc w spare held fuel cs x hx hs => ?_⟩
        obtain ⟨xs, n, rfl, rfl, hlen, hxl, hf⟩ := DataW.trod_struct ht hx
        obtain ⟨y, hy, hw⟩ := opn_fields (P := P) (f := shC P d) (fun t s h => opn d t s h) fs.toList 0 s ha enc w spare held n cs xs (by rw [hlen, hc]; omega) (by rw [hxl]; simp) (fun i f hi => hf i f (by simpa using hi)) (fun q hq => hs q (by show q ∈ DataW.weights P t (.agg _); rw [DataW.weights, ht]; exact hq))
        exact ⟨y, by simpa using hy, hw⟩
      · cases h
    · rename_i n e ht
      simp only [Option.bind_eq_some_iff] at h
      obtain ⟨a, ha, h⟩ := h
      split at h
      · rename_i hc
        cases h
        refine ⟨hc, fun enc w spare held fuel cs x hx hs => ?_⟩
        obtain ⟨xs, m, rfl, rfl, hlen, hxl, hf⟩ := DataW.trod_array ht hx
        obtain ⟨ys, h1, h2, h3⟩ := opn_items (opn d e a ha) enc w spare held m n cs xs (by rw [hlen, hc]) hxl hf (fun q hq => hs q (by show q ∈ DataW.weights P t (.agg _); rw [DataW.weights, ht]; exact hq))
        exact ⟨ys, ⟨h1, h2⟩, h1, h3⟩
      · cases h
    · cases h

/-- An argument as a plain value. -/
def argV (P : Program) (t : TypeId) (s : Sh) (y : s.den) : AV := match aggB P t with | some true => .agg (cellsOf s y) | _ => (cellsOf s y).getD 0 .unk

theorem opens_arg {P : Program} {d : Nat} {t : TypeId} {s : Sh} (hs : shC P d t = some s) {W : World} {base : Nat} {v : Value} (hval : Value.okWide P W .any base t v)
    {H : Type} {enc : TypeId × Value → H} {spare : Nat → Bool} {held : Bool} {dd : DataW H} {ps : List MemPlace} (h : DataW.Trod enc P W 0 spare held t v dd ps) {ts : List TypeId} {dds : List (DataW H)} {j : Nat} (hsz : (DataW.weightsEach P ts dds).all (· ≤ reachBytes) = true) (htj : ts[j]? = some t) (hdj : dds[j]? = some dd) :
    ∃ y : s.den, Rel ⟨fun b => b < W.heap.size, fun _ => none, [], W.heap⟩ (argV P t s y) v ∧ s.Wf y := by
  obtain ⟨fuel, hf⟩ := h
  obtain ⟨y, hy, hw⟩ := (opn d t s hs).2 enc W spare held fuel _ _ hf (fun n hn => by
    have := List.all_eq_true.1 hsz n (DataW.weights_mem_each htj hdj n hn)
    exact of_decide_eq_true this)
  refine ⟨y, ?_, hw⟩
  have hr := Den.rel (X := ⟨fun b => b < W.heap.size, fun _ => none, [], W.heap⟩) s y _ hy
  have one : v.cells.toList = [v] → Rel ⟨fun b => b < W.heap.size, fun _ => none, [], W.heap⟩ ((cellsOf s y).getD 0 .unk) v := by
    intro e
    rw [e] at hr
    match hcs : cellsOf s y, hr with
    | [], hr => simp [RelL] at hr
    | a :: as, hr =>
      simp only [RelL] at hr
      obtain ⟨u, r, e1, e2, _⟩ := hr
      cases e1
      simpa using e2
  cases d with
  | zero => cases hs
  | succ d =>
    unfold shC at hs
    unfold argV aggB
    split at hs
    · rename_i ht; rw [ht]; obtain ⟨b, rfl⟩ := okWide_bool ht hval; exact one rfl
    · rename_i ht; rw [ht]; obtain ⟨b, rfl⟩ := okWide_int ht hval; exact one rfl
    · rename_i ht; rw [ht]; obtain ⟨b, rfl⟩ := okWide_string ht hval; exact one rfl
    · rename_i ht; rw [ht]; obtain ⟨a, b, c, rfl⟩ := okWide_slice ht hval; exact one rfl
    · rename_i ht
      rw [ht]
      obtain ⟨cs, rfl, _⟩ := okWide_struct ht hval
      simp only [Rel]
      exact ⟨cs, rfl, hr⟩
    · rename_i ht
      rw [ht]
      obtain ⟨cs, rfl, _⟩ := okWide_array ht hval
      simp only [Rel]
      exact ⟨cs, rfl, hr⟩
    · cases hs

/-- What was read is read again when memory was only added to. -/
theorem below_trodAll {H : Type} {enc : TypeId × Value → H} {P : Program} (hl : laidOutB P = true) {W W' : World} (hb : Below W.heap.size W W') : ∀ {ts : List TypeId} {vs : List Value} {ds : List (DataW H)} {ps : List MemPlace},
    ts.all (fun t => P.readableRec t && decide (t < P.types.size)) = true → DataW.TrodAll enc P W 0 (fun _ => true) true ts vs ds ps → DataW.TrodAll enc P W' 0 (fun b => decide (b < W.heap.size)) true ts vs ds ps
  | [], [], [], ps, _, h => h
  | t :: ts, v :: vs, d :: ds, ps, ht, ⟨p, q, h1, h2, e⟩ => by
    simp only [List.all_cons, Bool.and_eq_true, decide_eq_true_eq] at ht
    have lt0 : ∀ x ∈ p, x.block < W.heap.size := by obtain ⟨m, hm⟩ := h1; exact DataW.trod_lt m _ _ _ hm
    exact ⟨p, q, Below.trod hl ht.1.1 ht.1.2 h1 hb lt0, below_trodAll hl hb ht.2 h2, e⟩
  | [], [], _ :: _, _, _, h | [], _ :: _, _, _, _, h | _ :: _, [], _, _, _, h | _ :: _, _ :: _, [], _, _, h => by exact h.elim
end Go.Proofs.YtnjofponcdcfcaaDoor.Ab
