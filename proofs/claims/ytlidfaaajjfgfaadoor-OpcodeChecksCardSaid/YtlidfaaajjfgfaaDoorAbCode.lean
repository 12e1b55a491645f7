import Derived.Test.YtlidfaaajjfgfaaDoorAbAppend
set_option linter.unusedVariables false
set_option linter.all false
namespace Go.Proofs.YtlidfaaajjfgfaaDoor.Ab
open Go.RowKit

/-! ### Operations that turn a row -/
def noRefB (S : St) (r g : Nat) : Bool :=
  S.tmps.all (fun v => v.all fun q h => !(q == r && h == g)) && S.rows.all fun x => match x with | some (.box cs) => AV.allL (fun q h => !(q == r && h == g)) cs | _ => true

/-- What an append to a slice of the call's own makes: whether it goes well, the slice, the rows, the row that turned. -/
def qAppend (P : Program) (S : St) (n id : Nat) (t : TypeId) (x y : AV) : Option (Bool × AV × Rows × Nat) :=
  match appTy P t with
  | some (s, bytes) => match x with
    | .own r g => match S.rows.get r with
      | some (.arr g' s' xs) => if h : s' = s then
          (if g = g' ∧ noRefB S r (g + 1) then (srcOf S.rows s y).map fun ys => (sLe ((((h ▸ xs : List s.den).length + ys.length) * bytes : Nat) : Int) 140737488355328, .own r (g + 1), S.rows.set r (some (.arr (g + 1) s ((h ▸ xs : List s.den) ++ ys))), r) else none)
        else none
      | _ => none
    | .nils => if noRefB S id 1 && noRefB S id 0 then
        (srcOf S.rows s y).map fun ys => (sLe ((ys.length * bytes : Nat) : Int) 140737488355328, .own id 1, (S.rows.put id (.arr 0 s [])).set id (some (.arr 1 s ys)), id) else none
    | _ => none
  | none => none

def loud (E : Env) (S : St) (n id : Nat) (op : Op) : Option (Bool × AV × Rows × Nat) :=
  match op with
  | .store t x y => match S.opd E x, S.opd E y with
    | some (okx, p), some (oky, v) => (qStore E.P S.rows n t p v).map fun (r, row) => (sAnd okx oky, .unk, S.rows.set r (some row), r)
    | _, _ => none
  | .call c => match c.callee with
    | .builtin .append => match c.args.toList, c.argTypes.toList with
      | [x, y], [t, t'] => if t = t' then
          (match S.opd E x, S.opd E y with
          | some (okx, vx), some (oky, vy) => (qAppend E.P S n id t vx vy).map fun (ok, v, rows, r) => (sAnd (sAnd okx oky) ok, v, rows, r)
          | _, _ => none) else none
      | _, _ => none
    | _ => none
  | _ => none

def St.loudly (S : St) (dst : Option Tmp) (v : AV) (rows : Rows) (r : Nat) : St := (forceN r fun q => forceN S.dr fun d => { S with rows := rows, dr := addN q d } : St).putT dst v

mutual
theorem AV.all_and {p q : Nat → Nat → Bool} : ∀ {a : AV}, a.all p = true → a.all q = true → a.all (fun r g => p r g && q r g) = true
  | .unk, _, _ | .bool _, _, _ | .int _ _, _, _ | .str _, _, _ | .nilp, _, _ | .nilf, _, _ | .nili, _, _ | .nils, _, _ | .dsl _ _, _, _ | .dptr _ _ _, _, _ => rfl
  | .ptr r _, e, f | .eptr r _ _ _, e, f | .osl r _ _ _, e, f | .own r _, e, f => by simp only [AV.all] at e f ⊢; rw [e, f]; rfl
  | .agg cs, e, f | .tup cs, e, f | .clo _ cs, e, f => by simp only [AV.all] at e f ⊢; exact AV.allL_and e f
  | .iface _ v, e, f | .opt _ v, e, f | .gopt _ v, e, f => by simp only [AV.all] at e f ⊢; exact AV.all_and e f
theorem AV.allL_and {p q : Nat → Nat → Bool} : ∀ {as : List AV}, AV.allL p as = true → AV.allL q as = true → AV.allL (fun r g => p r g && q r g) as = true
  | [], _, _ => rfl
  | a :: as, e, f => by
    simp only [AV.allL, Bool.and_eq_true] at e f ⊢
    exact ⟨AV.all_and e.1 f.1, AV.allL_and e.2 f.2⟩
end

section
variable {E : Env} {base n : Nat} {w0 : Start} {w w' : World} {X X' : Cx} {S : St} {a : Act}

theorem Sim.turn' (H : Sim E base w0 n X S a w) (R : RowsOk base w0 n X' w') {S' : St} (hrows : X'.rows = S'.rows) {dst : Option Tmp} {v : AV} {val : Value} {p : Nat → Nat → Bool}
    (hst : Stab X X' p) (hall : ∀ (t : Nat) (v : AV), S.tmps[t]? = some v → v.all p = true) (htm : S'.tmps = match dst with | some t => S.tmps.set t v | none => S.tmps)
    (hok : ∀ q, S.rows.okid n q = true → S'.rows.okid n q = true)
    (hv : dst ≠ none → v.all (fun q _ => S'.rows.okid n q) = true ∧ Rel X' v val) : Sim E base w0 n X' S' (a.put dst val) w' where
  rows := hrows
  ok := R
  size := by rw [put_size, H.size, htm]; cases dst <;> simp
  defers := by rw [put_defers]; exact H.defers
  tmp t u hu := by
    have old : ∀ u, S.tmps[t]? = some u → u.all (fun q _ => S'.rows.okid n q) = true ∧ Rel X' u (a.tmps.getD t undef) := by
      intro u hu
      obtain ⟨h1, h2⟩ := H.tmp t u hu
      exact ⟨AV.all_imp (fun q _ h => hok q h) u h1, Rel.mono hst u _ (hall t u hu) h2⟩
    rw [htm] at hu
    cases dst with
    | none => exact old u hu
    | some d =>
      simp only at hu
      by_cases e : t = d
      · subst e
        have hlt : t < S.tmps.length := by
          have := TMap.getElem?_lt hu
          simpa using this
        rw [TMap.getElem?_set_self hlt] at hu
        cases hu
        refine ⟨(hv (by simp)).1, ?_⟩
        have : (a.put (some t) val).tmps.getD t undef = val := by
          have hs : t < a.tmps.size := by rw [H.size]; exact hlt
          simp [Act.put, hs]
        rw [this]
        exact (hv (by simp)).2
      · rw [TMap.getElem?_set_ne (by omega)] at hu
        have : (a.put (some d) val).tmps.getD t undef = a.tmps.getD t undef := by
          simp [Act.put, Array.getElem?_setIfInBounds_ne (show d ≠ t from fun h => e h.symm)]
        rw [this]
        exact old u hu
  glob g s x hg := by
    have := H.glob g s x hg
    exact Rel.mono hst (.dptr s x 0) _ rfl this

theorem noRefB_tmp {r g : Nat} (h : noRefB S r g = true) {t : Nat} {v : AV} (hv : S.tmps[t]? = some v) : v.all (fun q h => !(q == r && h == g)) = true := by
  simp only [noRefB, Bool.and_eq_true] at h
  exact TMap.all_at (by simp [AV.all]) h.1 hv
theorem noRefB_box {r g : Nat} (h : noRefB S r g = true) {q : Nat} {cs : List AV} (hv : S.rows.get q = some (.box cs)) : AV.allL (fun q h => !(q == r && h == g)) cs = true := by
  simp only [noRefB, Bool.and_eq_true, List.all_eq_true] at h
  unfold Rows.get at hv
  cases hr : S.rows[q]? with
  | none => rw [hr] at hv; cases hv
  | some x =>
    rw [hr] at hv
    simp only [Option.join_some] at hv
    subst hv
    exact h.2 _ (List.mem_of_getElem? hr)

theorem okid_set {rows : Rows} {r : Nat} {x : Row} (hlt : r < rows.length) {q : Nat} (h : rows.okid n q = true) : Rows.okid (rows.set r (some x)) n q = true := by
  unfold Rows.okid at h ⊢
  unfold Rows.get at h ⊢
  by_cases e : q = r
  · subst e; rw [List.getElem?_set_self hlt]; simp
  · rw [List.getElem?_set_ne (by omega)]; exact h

theorem loudly_tmps (S : St) (dst : Option Tmp) (v : AV) (rows : Rows) (r : Nat) : (S.loudly dst v rows r).tmps = match dst with | some t => S.tmps.set t v | none => S.tmps := by
  unfold St.loudly; rw [forceN_eq, forceN_eq]; cases dst <;> first | rfl | (simp only [St.putT]; rw [St.setT_eq])
theorem loudly_rows (S : St) (dst : Option Tmp) (v : AV) (rows : Rows) (r : Nat) : (S.loudly dst v rows r).rows = rows := by
  unfold St.loudly; rw [forceN_eq, forceN_eq]; cases dst <;> first | rfl | (simp only [St.putT]; rw [St.setT_eq])

theorem loud_wp (H : Sim E base w0 n X S a w) {id : Nat} (hid : n ≤ id) (hno : S.rows.get id = none) {op : Op} {dst : Option Tmp} {ty : TypeId} {pos : String} {after : Array Edge} {guard : Option (Nat × Bool)}
    {ok : Bool} {v : AV} {rows : Rows} {r : Nat} (h : loud E S n id op = some (ok, v, rows, r)) (hok : ok = true) (hrefs : v.all (fun q _ => rows.okid n q) = true)
    {K : Act → World → Prop} {Q : Exit → Act → World → Prop} (hk : ∀ val w' X', Sim E base w0 n X' (S.loudly dst v rows r) (a.put dst val) w' → K (a.put dst val) w') :
    Oper.wp E.P { dst, op, type := ty, pos, after, guard } a w K Q := by
  unfold loud at h
  split at h
  · rename_i t x y
    split at h
    · rename_i okx p oky u hx hy
      simp only [Option.map_eq_some_iff, Prod.exists, Prod.mk.injEq] at h
      obtain ⟨r', row, hs, rfl, rfl, rfl, rfl⟩ := h
      simp only [Bool.and_eq_true] at hok
      have hxr := (opd_ok H hx hok.1).1
      have hyr := (opd_ok H hy hok.2).1
      obtain ⟨w', X', hrun, R, hrows, hlt, hst⟩ := store_ok (P := E.P) H.ok (by rw [H.rows]; exact hs) hxr hyr
      have hrun' : (execOp a.eval { dst, op := .store t x y, type := ty, pos, after, guard }).run E.P w = .ok .skip w' := by simp [execOp, hrun]
      unfold Oper.wp
      rw [hrun', Oper.upon_skip]
      refine hk undef w' X' (Sim.turn' H R (by rw [hrows, loudly_rows, H.rows]) hst (fun t v hv => AV.all_imp (fun _ _ _ => rfl) v (H.tmp t v hv).1) (loudly_tmps ..) (fun q hq => by
        rw [loudly_rows]; exact okid_set (by rw [← H.rows]; exact hlt) hq) (fun _ => ⟨rfl, by simp [Rel]⟩))
    · cases h
  · rename_i c
    obtain ⟨callee, args, argTypes⟩ := c
    obtain ⟨args⟩ := args
    obtain ⟨argTypes⟩ := argTypes
    split at h
    · rename_i hcal
      simp only at hcal
      subst hcal
      split at h
      · rename_i x y t t' hargs htys
        simp only at hargs htys
        subst hargs htys
        split at h
        · rename_i htt
          subst htt
          split at h
          · rename_i okx vx oky vy hx hy
            simp only [Option.map_eq_some_iff, Prod.exists, Prod.mk.injEq] at h
            obtain ⟨ok', v', rows', r', hq, h1, rfl, rfl, rfl⟩ := h
            subst h1
            simp only [Bool.and_eq_true] at hok
            obtain ⟨⟨hok1, hok2⟩, hok3⟩ := hok
            have hxr := (opd_ok H hx hok1).1
            have hyr := (opd_ok H hy hok2).1
            have fin : ∀ (val : Value) (w' : World) (X' : Cx) (p : Nat → Nat → Bool), (Builtin.append_ #[t, t] ty #[a.eval x, a.eval y]).run E.P w = .ok val w' → RowsOk base w0 n X' w' → X'.rows = rows' → Stab X X' p →
                (∀ (t : Nat) (v : AV), S.tmps[t]? = some v → v.all p = true) → (∀ q, S.rows.okid n q = true → Rows.okid rows' n q = true) → Rel X' v' val →
                Oper.wp E.P { dst, op := .call { callee := .builtin .append, args := ⟨[x, y]⟩, argTypes := ⟨[t, t]⟩ }, type := ty, pos, after, guard } a w K Q := by
              intro val w' X' p hrun R hrows hst hall hokid hrel
              have hrun' : (execOp a.eval { dst, op := .call { callee := .builtin .append, args := ⟨[x, y]⟩, argTypes := ⟨[t, t]⟩ }, type := ty, pos, after, guard }).run E.P w = .ok (.value val) w' := by
                simp [execOp, resolve, invoke, BigFrame.builtin_append, hrun]
              unfold Oper.wp
              rw [hrun', Oper.upon_value]
              exact hk val w' X' (Sim.turn' H R (by rw [hrows, loudly_rows]) hst hall (loudly_tmps ..) (fun q hq => by rw [loudly_rows]; exact hokid q hq) (fun _ => ⟨by rw [loudly_rows]; exact hrefs, hrel⟩))
            unfold qAppend at hq
            split at hq
            · rename_i s bytes hT
              have HT := appTy_ok hT
              split at hq
              · rename_i q g
                split at hq
                · rename_i g' s' xs hrow
                  split at hq
                  · rename_i es
                    subst es
                    split at hq
                    · rename_i hc
                      obtain ⟨rfl, hnr⟩ := hc
                      simp only [Option.map_eq_some_iff, Prod.mk.injEq] at hq
                      obtain ⟨ys, hys, h1, rfl, rfl, rfl⟩ := hq
                      subst h1
                      simp only [decide_eq_true_eq] at hok3
                      obtain ⟨p, cap, hu, hsrc⟩ := srcOf_ok H.ok (by rw [H.rows]; exact hys) hyr
                      obtain ⟨val, w', X', hrun, R, hrows, hst, hrel⟩ := append_own (P := E.P) (ty := ty) H.ok HT (by rw [H.rows]; exact hrow) hxr hu hsrc (Int.ofNat_le.1 hok3) (fun k cs hcs => noRefB_box hnr (by rw [← H.rows]; exact hcs))
                      exact fin val w' X' _ hrun R (by rw [hrows, H.rows]) hst (fun t v hv => noRefB_tmp hnr hv) (fun k hk => okid_set (rows_get_lt hrow) hk) hrel
                    · cases hq
                  · cases hq
                · cases hq
              · split at hq
                · rename_i hnr
                  simp only [Bool.and_eq_true] at hnr
                  simp only [Option.map_eq_some_iff, Prod.mk.injEq] at hq
                  obtain ⟨ys, hys, h1, rfl, rfl, rfl⟩ := hq
                  subst h1
                  simp only [decide_eq_true_eq] at hok3
                  have hno' : X.rows.get id = none := by rw [H.rows]; exact hno
                  have R1 := RowsOk.claim H.ok hid (loc := none) (x := .arr 0 s []) hno' (fun b o e => by cases e) (.inl ⟨by simp [Cx.claim], rfl⟩) (fun cs e => by cases e)
                  have S1 := Stab.claim (X := X) (n := n) (id := id) (x := .arr 0 s []) (loc := none) hid hno'
                  have hget : (X.claim id (.arr 0 s []) none).rows.get id = some (.arr 0 s []) := by simp [Cx.claim, Rows.get_put]
                  simp only [Rel] at hxr
                  obtain ⟨p, cap, hu, hsrc⟩ := srcOf_ok H.ok (by rw [H.rows]; exact hys) hyr
                  have hbox : ∀ k cs, (X.claim id (.arr 0 s []) none).rows.get k = some (.box cs) → AV.allL (fun q h => !(q == id && h == 0 + 1)) cs = true := by
                    intro k cs hk
                    rw [Cx.claim, Rows.get_put] at hk
                    split at hk
                    · cases hk
                    · exact noRefB_box hnr.1 (by rw [← H.rows]; exact hk)
                  obtain ⟨val, w', X', hrun, R, hrows, hst, hrel⟩ := append_own (P := E.P) (ty := ty) R1 HT hget (u := a.eval x) (xs := []) (by
                    simp only [Rel]
                    intro s' zs hz
                    rw [hget] at hz
                    obtain ⟨_, hs', hz'⟩ := Row.arr.inj (Option.some.inj hz)
                    subst hs'
                    cases hz'
                    exact .inl ⟨by simp [Cx.claim], rfl, hxr⟩) hu hsrc (by simpa using Int.ofNat_le.1 hok3) hbox
                  refine fin val w' X' (fun q h => S.rows.okid n q && !(q == id && h == 1)) hrun R (by rw [hrows]; simp [Cx.claim, H.rows]) ?_ (fun t v hv => ?_) (fun k hk => ?_) hrel
                  · refine ⟨fun b hb => hst.F b (S1.F b hb), fun b hb => (hst.heap b (S1.F b hb)).trans (S1.heap b hb), fun q g hp cs' hq => ?_, fun q g hp s' xs' hq => ?_⟩
                    · simp only [Bool.and_eq_true] at hp
                      obtain ⟨⟨cs, hcs⟩, hφ⟩ := hst.box q g (by simpa using hp.2) cs' hq
                      obtain ⟨h2, hφ2⟩ := S1.box q g (by rw [H.rows]; exact hp.1) cs hcs
                      exact ⟨h2, hφ.trans hφ2⟩
                    · simp only [Bool.and_eq_true] at hp
                      obtain ⟨ws, hws, hl, hφ, hs⟩ := hst.arr q g (by simpa using hp.2) s' xs' hq
                      obtain ⟨vs, hvs, hl2, hφ2, hs2⟩ := S1.arr q g (by rw [H.rows]; exact hp.1) s' ws hws
                      refine ⟨vs, hvs, hl.trans hl2, hφ.trans hφ2, fun b o hb c' T' fr' hc' => ?_⟩
                      exact hs b o (hφ2.trans hb) c' T' fr' hc'
                  · have h1 := (H.tmp t v hv).1
                    have h2 := noRefB_tmp hnr.1 hv
                    exact AV.all_and h1 h2
                  · exact okid_set (by unfold Rows.put; simp; omega) (Rows.okid_put hk)
                · cases hq
              · cases hq
            · cases hq
          · cases h
        · cases h
      · cases h
    · cases h
  · cases h
end
end Go.Proofs.YtlidfaaajjfgfaaDoor.Ab
