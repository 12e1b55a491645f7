import Derived.Test.YtlidfaaajjfgfaaDoorAbExec
import Derived.Laws.OwnMore
set_option linter.unusedVariables false
set_option linter.all false
namespace Go.Proofs.YtlidfaaajjfgfaaDoor.Ab
open Go.RowKit

/-- The world behind a store into one row of the call's own. -/
structure Stored (X : Cx) (w w' : World) (b : Nat) : Prop where
  os : w'.os = w.os
  tape : w'.tape = w.tape
  output : w'.output = w.output
  size : w'.heap.size = w.heap.size
  block : ∀ k, k ≠ b → w'.heap[k]? = w.heap[k]?

theorem Stab.store {base n : Nat} {w0 : Start} {w w' : World} {X : Cx} (H : RowsOk base w0 n X w) {r b o : Nat} {x x' : Row} (hr : X.rows.get r = some x) (hφ : X.φ r = some (b, o)) (hs : Stored X w w' b)
    (hlt : r < X.rows.length) {c c' : Array Value} {T : TypeId} (hc : w.heap[b]? = some (.cells c T (0, 0))) (hc' : w'.heap[b]? = some (.cells c' T (0, 0))) (hsz : c'.size = c.size)
    (hkind : match x, x' with | .box _, .box _ => True | .arr g s xs, .arr g' s' xs' => g = g' ∧ ∃ e : s = s', (e ▸ xs : List s'.den).length = xs'.length | _, _ => False) :
    Stab X { X with rows := X.rows.set r (some x'), heap := w'.heap } (fun _ _ => true) := by
  have hget : ∀ q, Rows.get (X.rows.set r (some x')) q = if q = r then some x' else X.rows.get q := by
    intro q
    unfold Rows.get
    by_cases e : q = r
    · subst e; rw [List.getElem?_set_self hlt]; simp
    · rw [List.getElem?_set_ne (by omega), if_neg e]
  have hown := H.own r x b o hr hφ
  have hblk : ∀ k, k ≠ b → w'.heap[k]? = X.heap[k]? := fun k hk => by rw [H.heap]; exact hs.block k hk
  refine ⟨fun _ h => h, fun k hk => hblk k (fun e => hown.2 (e ▸ hk)), fun q g _ cs' hq => ?_, fun q g _ s xs' hq => ?_⟩
  · simp only [hget] at hq
    split at hq
    · rename_i e
      subst e
      cases hq
      cases x with
      | box cs => exact ⟨⟨cs, hr⟩, rfl⟩
      | arr _ _ _ => exact hkind.elim
    · exact ⟨⟨cs', hq⟩, rfl⟩
  · have hcell : ∀ k o', X.φ q = some (k, o') → ∀ c1 T1 fr1, w'.heap[k]? = some (.cells c1 T1 fr1) → ∃ c0 T0 fr0, X.heap[k]? = some (Obj.cells c0 T0 fr0) ∧ c0.size = c1.size := by
      intro k o' hk c1 T1 fr1 h1
      by_cases e : k = b
      · subst e
        rw [hc'] at h1
        cases h1
        exact ⟨c, T, (0, 0), by rw [H.heap]; exact hc, hsz.symm⟩
      · exact ⟨c1, T1, fr1, by rw [← hblk k e]; exact h1, rfl⟩
    simp only [hget] at hq
    split at hq
    · rename_i e
      subst e
      cases hq
      cases x with
      | box cs => exact hkind.elim
      | arr g0 s0 xs0 =>
        obtain ⟨rfl, rfl, hl⟩ := hkind
        exact ⟨xs0, hr, hl.symm, rfl, hcell⟩
    · exact ⟨xs', hq, rfl, rfl, hcell⟩


theorem RowsOk.store {base n : Nat} {w0 : Start} {w w' : World} {X : Cx} (H : RowsOk base w0 n X w) {r b o : Nat} {x x' : Row} (hr : X.rows.get r = some x) (hφ : X.φ r = some (b, o)) (hs : Stored X w w' b)
    (hlt : r < X.rows.length) {c c' : Array Value} {T : TypeId} (hc : w.heap[b]? = some (.cells c T (0, 0))) (hc' : w'.heap[b]? = some (.cells c' T (0, 0))) (hsz : c'.size = c.size)
    (hkind : match x, x' with | .box _, .box _ => True | .arr g s xs, .arr g' s' xs' => g = g' ∧ ∃ e : s = s', (e ▸ xs : List s'.den).length = xs'.length | _, _ => False)
    (hrow : RowOk { X with rows := X.rows.set r (some x'), heap := w'.heap } r x') (hrefs : ∀ cs, x' = .box cs → AV.allL (fun q _ => X.rows.okid n q) cs = true) :
    RowsOk base w0 n { X with rows := X.rows.set r (some x'), heap := w'.heap } w' ∧ Stab X { X with rows := X.rows.set r (some x'), heap := w'.heap } (fun _ _ => true) := by
  have hget : ∀ q, Rows.get (X.rows.set r (some x')) q = if q = r then some x' else X.rows.get q := by
    intro q
    unfold Rows.get
    by_cases e : q = r
    · subst e; rw [List.getElem?_set_self hlt]; simp
    · rw [List.getElem?_set_ne (by omega), if_neg e]
  have hown := H.own r x b o hr hφ
  have hblk : ∀ k, k ≠ b → w'.heap[k]? = X.heap[k]? := fun k hk => by rw [H.heap]; exact hs.block k hk
  have hst : Stab X { X with rows := X.rows.set r (some x'), heap := w'.heap } (fun _ _ => true) := Stab.store H hr hφ hs hlt hc hc' hsz hkind
  refine ⟨⟨rfl, H.keeps.trans ⟨hs.os, hs.tape, hs.output, by rw [hs.size]; exact Nat.le_refl _, fun k hk => hs.block k (by have := hown.1; omega)⟩, H.sub, by rw [hs.size]; exact H.hb, fun k hk => by rw [hs.size]; exact H.fresh k hk, ?_, ?_, ?_, ?_⟩, hst⟩
  · intro q y hq
    simp only [hget] at hq
    split at hq
    · rename_i e
      subst e
      cases hq
      exact hrow
    · rename_i e
      refine RowOk.mono hst rfl (fun k o' hk => hblk k fun eb => e ?_) y (fun cs ec => ?_) (H.row q y hq)
      · exact H.apart q r y x k o' b o hq hr hk hφ eb
      · subst ec
        exact AV.allL_imp (fun _ _ _ => rfl) cs (H.refs q cs hq)
  · intro q y k o' hq hk
    simp only [hget] at hq
    split at hq
    · rename_i e
      subst e
      exact H.own q x k o' hr hk
    · exact H.own q y k o' hq hk
  · intro q q' y y' k o1 k' o2 hq hq' hk hk' e
    have ex : ∀ q y, Rows.get (X.rows.set r (some x')) q = some y → ∃ z, X.rows.get q = some z := by
      intro q y hq
      rw [hget] at hq
      split at hq
      · rename_i e; subst e; exact ⟨x, hr⟩
      · exact ⟨y, hq⟩
    obtain ⟨z, hz⟩ := ex q y hq
    obtain ⟨z', hz'⟩ := ex q' y' hq'
    exact H.apart q q' z z' k o1 k' o2 hz hz' hk hk' e
  · intro q cs hq
    simp only [hget] at hq
    have him : ∀ (p : Nat), X.rows.okid n p = true → Rows.okid (X.rows.set r (some x')) n p = true := by
      intro p hp
      unfold Rows.okid at hp ⊢
      rw [hget]
      split
      · simp
      · exact hp
    split at hq
    · cases hq
      exact AV.allL_imp (fun _ _ h => him _ h) cs (hrefs cs rfl)
    · exact AV.allL_imp (fun _ _ h => him _ h) cs (H.refs q cs hq)

/-- What a store makes of the rows. -/
def qStore (P : Program) (rows : Rows) (n : Nat) (t : TypeId) (p v : AV) : Option (Nat × Row) :=
  (cellsAV rows v).bind fun vs =>
    if sizeIs P t vs.length then
      match p with
      | .ptr r off => match rows.get r with
        | some (.box cs) => if off + vs.length ≤ cs.length ∧ AV.allL (fun q _ => rows.okid n q) vs = true ∧ AV.allL (fun q _ => rows.okid n q) cs = true then some (r, .box (splice cs off vs)) else none
        | _ => none
      | .eptr r g i off => match rows.get r with
        | some (.arr g' s xs) => if g = g' ∧ off + vs.length ≤ s.size then
            match ofCells s (splice (cellsOf s (xs.getD i s.dflt)) off vs) with
            | some (y, []) => some (r, .arr g s (xs.set i y))
            | _ => none
          else none
        | _ => none
      | _ => none
    else none

theorem splice_get {α : Type} (l : List α) (off : Nat) (vs : List α) (h : off + vs.length ≤ l.length) (k : Nat) :
    (splice l off vs)[k]? = if off ≤ k ∧ k < off + vs.length then vs[k - off]? else l[k]? := by
  unfold splice
  have h1 : (l.take off).length = off := by simp; omega
  by_cases h2 : k < off
  · rw [List.append_assoc, List.getElem?_append_left (by omega), List.getElem?_take, if_pos h2, if_neg (by omega)]
  · by_cases h3 : k < off + vs.length
    · rw [List.append_assoc, List.getElem?_append_right (by omega), h1, List.getElem?_append_left (by omega), if_pos ⟨by omega, h3⟩]
    · rw [List.getElem?_append_right (by simp; omega), if_neg (by omega), List.getElem?_drop]
      congr 1
      simp; omega

theorem splice_length {α : Type} (l : List α) (off : Nat) (vs : List α) (h : off + vs.length ≤ l.length) : (splice l off vs).length = l.length := by
  unfold splice
  simp; omega

theorem run_storeVar {P : Program} {w : World} {t : TypeId} {b o : Nat} {v : Value} {c : Array Value} {T : TypeId} (hs : sizeIs P t v.cells.size = true) (hc : w.heap[b]? = some (.cells c T (0, 0)))
    (hle : o + v.cells.size ≤ c.size) (h1 : ∀ u ∈ v.cells.toList, u.oneCell' = true) :
    (storeVar t ⟨b, o, none⟩ v).run P w = .ok () (w.setRow b (splice c.toList o v.cells.toList).toArray) := by
  have h := run_storeCells_at P b o T v.cells.toList 0 c w hc (by simp; omega) h1
  simp only [Nat.add_zero] at h
  simp only [storeVar, Sem.run_bind, run_sizeOf hs, Result.andThen_ok]
  rw [if_neg (by simp)]
  exact h

theorem stored_setRow {X : Cx} {w : World} {b : Nat} (cs : Array Value) : Stored X w (w.setRow b cs) b :=
  ⟨rfl, rfl, rfl, by simp, fun k hk => setRow_other w b k cs hk⟩

theorem rows_get_lt {rows : Rows} {r : Nat} {x : Row} (h : rows.get r = some x) : r < rows.length := by
  rcases Nat.lt_or_ge r rows.length with h' | h'
  · exact h'
  · unfold Rows.get at h; rw [List.getElem?_eq_none h'] at h; cases h

theorem store_ok {P : Program} {base n : Nat} {w0 : Start} {w : World} {X : Cx} (H : RowsOk base w0 n X w) {t : TypeId} {p v : AV} {up uv : Value} {r : Nat} {x' : Row}
    (h : qStore P X.rows n t p v = some (r, x')) (hp : Rel X p up) (hv : Rel X v uv) :
    ∃ w' X', (Instr.storeAt t up uv).run P w = .ok () w' ∧ RowsOk base w0 n X' w' ∧ X'.rows = X.rows.set r (some x') ∧ r < X.rows.length ∧ Stab X X' (fun _ _ => true) := by
  simp only [qStore, Option.bind_eq_some_iff] at h
  obtain ⟨vs, hvs, h⟩ := h
  obtain ⟨hrel, hone⟩ := cellsAV_rel rfl hvs hv
  have hlen := RelL.length hrel
  simp only [Array.length_toList] at hlen
  split at h
  · rename_i hsz
    rw [← hlen] at hsz
    split at h
    · rename_i q off
      split at h
      · rename_i cs hrow
        split at h
        · rename_i hc
          obtain ⟨hle, ha1, ha2⟩ := hc
          simp only [Option.some.injEq, Prod.mk.injEq] at h
          obtain ⟨hq, rfl⟩ := h
          subst hq
          simp only [Rel] at hp
          obtain ⟨b, hb, rfl⟩ := hp cs hrow
          obtain ⟨_, c, T, hcb, hl⟩ := H.row q _ hrow b 0 hb
          rw [H.heap] at hcb
          have hcl := RelL.length hl
          simp only [Array.length_toList] at hcl
          have hrun := run_storeVar (P := P) (t := t) (b := b) (o := off) (v := uv) hsz hcb (by omega) hone
          have hc' := setRow_heap w b c (splice c.toList off uv.cells.toList).toArray T (0, 0) hcb
          have hst := stored_setRow (X := X) (w := w) (b := b) (splice c.toList off uv.cells.toList).toArray
          have hs2 : ((splice c.toList off uv.cells.toList).toArray).size = c.size := by
            simp only [List.size_toArray]
            rw [splice_length _ _ _ (by simp; omega)]; simp
          have S1 := Stab.store (x' := .box (splice cs off vs)) H hrow hb hst (rows_get_lt hrow) hcb hc' hs2 trivial
          obtain ⟨R, S2⟩ := RowsOk.store (x' := .box (splice cs off vs)) H hrow hb hst (rows_get_lt hrow) hcb hc' hs2 trivial (by
            intro b' o' hbo
            simp only at hbo
            rw [hb] at hbo
            cases hbo
            refine ⟨rfl, _, T, hc', ?_⟩
            exact RelL.splice off (RelL.mono S1 cs _ (AV.allL_imp (fun _ _ _ => rfl) cs ha2) hl) (RelL.mono S1 vs _ (AV.allL_imp (fun _ _ _ => rfl) vs ha1) hrel)) (by
            intro ds hd
            cases hd
            have app : ∀ (l m : List AV), AV.allL (fun q _ => X.rows.okid n q) l = true → AV.allL (fun q _ => X.rows.okid n q) m = true → AV.allL (fun q _ => X.rows.okid n q) (l ++ m) = true := by
              intro l
              induction l with
              | nil => intro m _ h; exact h
              | cons a l ih =>
                intro m h1 h2
                simp only [AV.allL, Bool.and_eq_true, List.cons_append] at h1 ⊢
                exact ⟨h1.1, ih m h1.2 h2⟩
            have tk : ∀ (k : Nat) (l : List AV), AV.allL (fun q _ => X.rows.okid n q) l = true → AV.allL (fun q _ => X.rows.okid n q) (l.take k) = true ∧ AV.allL (fun q _ => X.rows.okid n q) (l.drop k) = true := by
              intro k l
              induction l generalizing k with
              | nil => intro h; cases k <;> simp [AV.allL]
              | cons a l ih =>
                intro h
                simp only [AV.allL, Bool.and_eq_true] at h
                cases k with
                | zero => simp [AV.allL, h.1, h.2]
                | succ k => simp only [List.take_succ_cons, List.drop_succ_cons, AV.allL, Bool.and_eq_true]; exact ⟨⟨h.1, (ih k h.2).1⟩, (ih k h.2).2⟩
            unfold splice
            exact app _ _ (app _ _ (tk _ _ ha2).1 ha1) (tk _ _ ha2).2)
          exact ⟨_, _, by simp [Instr.storeAt, Instr.sureAddr, hrun], R, rfl, rows_get_lt hrow, S2⟩
        · cases h
      · cases h
    · rename_i q g i off
      split at h
      · rename_i g' s xs hrow
        split at h
        · rename_i hc
          obtain ⟨rfl, hle⟩ := hc
          split at h
          · rename_i y hy
            simp only [Option.some.injEq, Prod.mk.injEq] at h
            obtain ⟨hq, rfl⟩ := h
            subst hq
            simp only [Rel] at hp
            obtain ⟨hi, b, o, hb, rfl⟩ := hp s xs hrow
            rcases H.row q _ hrow with ⟨h1, _⟩ | ⟨b', o', c, T, h1, hcb, h3, h4⟩
            · rw [h1] at hb; cases hb
            · rw [h1] at hb; cases hb
              rw [H.heap] at hcb
              have hmul : o + i * s.size + s.size ≤ c.size := by
                have : (i + 1) * s.size ≤ xs.length * s.size := Nat.mul_le_mul_right _ hi
                rw [Nat.add_mul] at this
                omega
              have hrun := run_storeVar (P := P) (t := t) (b := b) (o := o + i * s.size + off) (v := uv) hsz hcb (by omega) hone
              have hc' := setRow_heap w b c (splice c.toList (o + i * s.size + off) uv.cells.toList).toArray T (0, 0) hcb
              have hst := stored_setRow (X := X) (w := w) (b := b) (splice c.toList (o + i * s.size + off) uv.cells.toList).toArray
              have hs2 : ((splice c.toList (o + i * s.size + off) uv.cells.toList).toArray).size = c.size := by
                simp only [List.size_toArray]
                rw [splice_length _ _ _ (by simp; omega)]; simp
              have hkind : g = g ∧ ∃ e : s = s, (e ▸ xs : List s.den).length = (xs.set i y).length := ⟨rfl, rfl, by simp⟩
              have S1 := Stab.store (x' := .arr g s (xs.set i y)) H hrow h1 hst (rows_get_lt hrow) hcb hc' hs2 hkind
              have hF : ∀ k, X.F k → (w.setRow b (splice c.toList (o + i * s.size + off) uv.cells.toList).toArray).heap[k]? = X.heap[k]? := S1.heap
              obtain ⟨R, S2⟩ := RowsOk.store (x' := .arr g s (xs.set i y)) H hrow h1 hst (rows_get_lt hrow) hcb hc' hs2 hkind (by
                refine .inr ⟨b, o, _, T, h1, hc', by rw [List.length_set, hs2]; exact h3, fun j hj => ?_⟩
                simp only [List.length_set] at hj
                obtain ⟨es, ⟨c1, T1, fr1, he1, he2⟩, hd⟩ := h4 j hj
                rw [H.heap, hcb] at he1
                cases he1
                have hel := Den.length s _ es hd
                by_cases e : j = i
                · subst e
                  have hre : RelL X (splice (cellsOf s xs[j]) off vs) (splice es off uv.cells.toList) := RelL.splice off (Den.rel s _ es hd) hrel
                  rw [show xs.getD j s.dflt = xs[j] by simp [List.getD, List.getElem?_eq_getElem hi]] at hy
                  obtain ⟨v1, v2, ev, hdy, hr2⟩ := ofCells_den s _ y [] _ hy hre
                  have : v2 = [] := by simpa [RelL] using hr2
                  subst this
                  rw [List.append_nil] at ev
                  refine ⟨v1, ⟨_, T, (0, 0), hc', fun k hk => ?_⟩, ?_⟩
                  · rw [← ev] at hk ⊢
                    rw [splice_length _ _ _ (by simp; omega)] at hk
                    rw [← Array.getElem?_toList, List.toList_toArray, splice_get _ _ _ (by simp; omega), splice_get _ _ _ (by simp; omega)]
                    by_cases hin : off ≤ k ∧ k < off + uv.cells.toList.length
                    · rw [if_pos hin, if_pos (by omega)]
                      congr 1; omega
                    · rw [if_neg hin, if_neg (by omega)]
                      rw [Array.getElem?_toList]
                      exact he2 k hk
                  · rw [List.getElem_set_self]
                    exact Den.mono (fun _ h => h) hF s y v1 hdy
                · refine ⟨es, ⟨_, T, (0, 0), hc', fun k hk => ?_⟩, ?_⟩
                  · rw [← Array.getElem?_toList, List.toList_toArray, splice_get _ _ _ (by simp; omega), if_neg]
                    · rw [Array.getElem?_toList]; exact he2 k hk
                    · intro hin
                      simp only [Array.length_toList] at hin
                      rcases Nat.lt_or_gt_of_ne e with hlt | hgt
                      · have : (j + 1) * s.size ≤ i * s.size := Nat.mul_le_mul_right _ hlt
                        rw [Nat.add_mul] at this
                        omega
                      · have : (i + 1) * s.size ≤ j * s.size := Nat.mul_le_mul_right _ hgt
                        rw [Nat.add_mul] at this
                        omega
                  · rw [List.getElem_set_ne (by omega)]
                    exact Den.mono (fun _ h => h) hF s _ es hd) (fun cs hcs => by cases hcs)
              exact ⟨_, _, by simp [Instr.storeAt, Instr.sureAddr, hrun], R, rfl, rows_get_lt hrow, S2⟩
          · cases h
        · cases h
      · cases h
    · cases h
  · cases h
end Go.Proofs.YtlidfaaajjfgfaaDoor.Ab
