/- LexerJoins: Join of any tokens is that of the reference; for every list of tokens. -/
import Derived.Test.YtjfpaglnadfppaaPx11
import Derived.Test.YtjfpaglnadfppaaLexJoinImpl
import Derived.Test.YtjfpaglnadfppaaLexAwake
namespace Go.Proofs.Ytjfpaglnadfppaa.Pure
open Go.RowKit Go.Proofs.Ytjfpaglnadfppaa.P Go.Proofs.YtjfpaglnadfppaaW.PrintWords Go.Proofs.YtjfpaglnadfppaaW.PrintLast Lex

def I64 (v : Int) : Prop := -9223372036854775808 ≤ v ∧ v ≤ 9223372036854775807
/-- What a token adds to the words. -/
def wordS (x : S34) : List (List UInt8) := if x.f0 = 1 ∨ x.f0 = 3 then [L x.f3] else if x.f0 = 2 then [fmtL x.f2] else []
def wordsS (l : List S34) : List (List UInt8) := l.flatMap wordS
theorem bas_L (ws : List (List UInt8)) : (bas ws).map (fun x => x.data.toList) = ws := by unfold bas; rw [List.map_map]; exact List.map_id' ws
theorem mk_L (s : ByteArray) : (⟨(L s).toArray⟩ : ByteArray) = s := by refine L_inj ?_; rw [L_mk]
theorem joinS_l0 (toks : List S34) (hr : ∀ x ∈ toks, I64 x.f2) (hn : toks.length ≤ 1000000) : ∀ (d i : Nat) (ws : List (List UInt8)), toks.length - i = d → i ≤ toks.length → ws.length ≤ i →
    (joinB (ws ++ wordsS (toks.drop i))).length ≤ 140737488355328 →
    Ev (fun k => lexer_Join.l0 k (bas ws) toks (toks.length : Int) (i : Int)) (⟨(joinB (ws ++ wordsS (toks.drop i))).toArray⟩ : ByteArray) := by
  intro d
  induction d with
  | zero =>
    intro i ws hd hi hw hj
    have g : ((i : Int) < (toks.length : Int)) = False := eq_false (by omega)
    rw [List.drop_eq_nil_of_le (by omega), show wordsS [] = [] from rfl, List.append_nil] at hj ⊢
    have hs : strings_Join.f (bas ws) (⟨#[32]⟩ : ByteArray) = some ⟨(joinB ws).toArray⟩ := by
      unfold strings_Join.f
      rw [bas_L, show (⟨#[32]⟩ : ByteArray).data.toList = [32] from rfl, lib_join, if_pos ⟨by unfold bas; rw [List.length_map]; omega, hj⟩]
    refine Ev_up ?_
    simp only [lexer_Join.l0, g, if_false, hs, Option.bind_some]; exact Ev.now _
  | succ d ih =>
    intro i ws hd hi hw hj
    have hlt : i < toks.length := by omega
    have q1 : toks.length - (i + 1) = d := by omega
    have q2 : i + 1 ≤ toks.length := by omega
    obtain ⟨x, hx⟩ : ∃ x, x = toks[i] := ⟨_, rfl⟩
    have hdr : toks.drop i = x :: toks.drop (i + 1) := by rw [hx]; exact List.drop_eq_getElem_cons hlt
    have hxr := hr x (by rw [hx]; exact List.getElem_mem hlt)
    have r1 : rd_T34 toks (i : Int) = x := by
      unfold rd_T34; rw [Int.toNat_natCast, List.getD_eq_getElem?_getD, List.getElem?_eq_getElem hlt, hx]; rfl
    have g : ((i : Int) < (toks.length : Int)) = True := eq_true (by omega)
    have g1 : (0 ≤ (i : Int)) = True := eq_true (by omega)
    have hwr : wrap64 ((i : Int) + 1) = ((i + 1 : Nat) : Int) := by rw [show (i : Int) + 1 = ((i + 1 : Nat) : Int) by omega]; exact wrap_nat _ (by omega)
    have g3 : ((bas ws).length < 8796093022208) = True := eq_true (by unfold bas; rw [List.length_map]; omega)
    have hb : ∀ y : List UInt8, bas ws ++ [(⟨y.toArray⟩ : ByteArray)] = bas (ws ++ [y]) := fun y => by unfold bas; rw [List.map_append]; rfl
    have hb3 : bas ws ++ [x.f3] = bas (ws ++ [L x.f3]) := by rw [← hb, mk_L]
    have hwd : wordsS (x :: toks.drop (i + 1)) = wordS x ++ wordsS (toks.drop (i + 1)) := List.flatMap_cons
    rw [hdr, hwd] at hj ⊢
    refine Ev_up ?_
    simp only [lexer_Join.l0, g, g1, if_true, r1]
    by_cases h1 : x.f0 = 1
    · have hwo : wordS x = [L x.f3] := by rw [wordS, if_pos (.inl h1)]
      rw [hwo] at hj ⊢
      have e1 : (x.f0 = 1) = True := eq_true h1
      have e2 : (x.f0 == 1) = true := beq_iff_eq.2 h1
      simp only [e1, if_true, e2]
      refine Ev_up ?_
      simp only [lexer_Join.j1, if_true, g3, hwr, hb3]
      have := ih (i + 1) (ws ++ [L x.f3]) q1 q2 (by rw [List.length_append, List.length_singleton]; omega)
      rw [List.append_assoc] at this
      exact this hj
    · have e1 : (x.f0 = 1) = False := eq_false h1
      simp only [e1, if_false]
      refine Ev_up ?_
      by_cases h3 : x.f0 = 3
      · have hwo : wordS x = [L x.f3] := by rw [wordS, if_pos (.inr h3)]
        rw [hwo] at hj ⊢
        have e2 : (x.f0 == 3) = true := beq_iff_eq.2 h3
        simp only [lexer_Join.j1, e2, if_true, g3, hwr, hb3]
        have := ih (i + 1) (ws ++ [L x.f3]) q1 q2 (by rw [List.length_append, List.length_singleton]; omega)
        rw [List.append_assoc] at this
        exact this hj
      · have e2 : (x.f0 == 3) = false := beq_eq_false_iff_ne.2 h3
        by_cases h2 : x.f0 = 2
        · have hwo : wordS x = [fmtL x.f2] := by rw [wordS, if_neg (by omega), if_pos h2]
          rw [hwo] at hj ⊢
          have e3 : (x.f0 = 2) = True := eq_true h2
          simp only [lexer_Join.j1, e2, Bool.false_eq_true, if_false, e3, if_true]
          refine Ev.bind (format_f x.f2 hxr) ?_
          simp only [g3, if_true, hwr, hb]
          have := ih (i + 1) (ws ++ [fmtL x.f2]) q1 q2 (by rw [List.length_append, List.length_singleton]; omega)
          rw [List.append_assoc] at this
          exact this hj
        · have hwo : wordS x = [] := by rw [wordS, if_neg (by omega), if_neg h2]
          rw [hwo, List.nil_append] at hj ⊢
          have e3 : (x.f0 = 2) = False := eq_false h2
          simp only [lexer_Join.j1, e2, Bool.false_eq_true, if_false, e3, hwr]
          exact ih (i + 1) ws q1 q2 (by omega) hj

/-! the reference's decimal texts -/
def pre (f u : Nat) : List UInt8 := if u = 0 then [] else (revDig f u).reverse
theorem rfmt_l0 (v : Int) : ∀ (f u : Nat) (out : List UInt8), u < 10 ^ f → u < 18446744073709551616 → out ≠ [] → out.length ≤ 1000 →
    f + out.length ≤ 1000 → Ev (fun k => burnishref13_FormatInt.l0 k v (u : Int) ⟨out.toArray⟩) (⟨((if v < 0 then [45] else []) ++ (pre f u ++ out)).toArray⟩ : ByteArray) := by
  intro f
  induction f with
  | zero =>
    intro u out hu hb ho hl hfl
    have hu0 : u = 0 := by simpa using hu
    subst hu0
    have g1 : (((0 : Nat) : Int) > 0) = False := eq_false (by omega)
    have g2 : ((⟨out.toArray⟩ : ByteArray).toList = []) = False := eq_false (by rw [L_toList, L_mk]; exact ho)
    have g3 : (1 + (⟨out.toArray⟩ : ByteArray).size ≤ 9223372036854775807) = True := eq_true (by rw [show (⟨out.toArray⟩ : ByteArray).size = out.length by simp [ByteArray.size]]; omega)
    refine Ev_up ?_
    simp only [burnishref13_FormatInt.l0, g1, g2, g3, if_false, if_true]
    by_cases hv : v < 0
    · simp only [hv, if_true]; exact Ev_now (by refine L_inj ?_; rw [L_mk]; simp [L, pre])
    · simp only [hv, if_false]; exact Ev_now (by simp [pre])
  | succ f ih =>
    intro u out hu hb ho hl hfl
    by_cases hz : u = 0
    · subst hz
      have g1 : (((0 : Nat) : Int) > 0) = False := eq_false (by omega)
      have g2 : ((⟨out.toArray⟩ : ByteArray).toList = []) = False := eq_false (by rw [L_toList, L_mk]; exact ho)
      have g3 : (1 + (⟨out.toArray⟩ : ByteArray).size ≤ 9223372036854775807) = True := eq_true (by rw [show (⟨out.toArray⟩ : ByteArray).size = out.length by simp [ByteArray.size]]; omega)
      refine Ev_up ?_
      simp only [burnishref13_FormatInt.l0, g1, g2, g3, if_false, if_true]
      by_cases hv : v < 0
      · simp only [hv, if_true]; exact Ev_now (by refine L_inj ?_; rw [L_mk]; simp [L, pre])
      · simp only [hv, if_false]; exact Ev_now (by simp [pre])
    · have g1 : ((u : Int) > 0) = True := eq_true (by omega)
      have hd : (IntKind.u64.wrap (48 + (Int.tmod (u : Int) 10))) % 256 = ((UInt8.ofNat (48 + u % 10)).toNat : Int) := by
        rw [Int.tmod_eq_emod_of_nonneg (by omega), IntKind.wrap_u64, UInt8.toNat_ofNat']; omega
      have hw : IntKind.u64.wrap (Int.tdiv (u : Int) 10) = ((u / 10 : Nat) : Int) := by rw [Int.tdiv_eq_ediv_of_nonneg (by omega), IntKind.wrap_u64]; omega
      have hs : strOfNums [((UInt8.ofNat (48 + u % 10)).toNat : Int)] = ⟨[UInt8.ofNat (48 + u % 10)].toArray⟩ := str_nms [UInt8.ofNat (48 + u % 10)]
      have ha : (⟨[UInt8.ofNat (48 + u % 10)].toArray⟩ : ByteArray) ++ (⟨out.toArray⟩ : ByteArray) = ⟨(UInt8.ofNat (48 + u % 10) :: out).toArray⟩ := by refine L_inj ?_; rw [L_mk]; simp [L]
      have g3 : ((⟨[UInt8.ofNat (48 + u % 10)].toArray⟩ : ByteArray).size + (⟨out.toArray⟩ : ByteArray).size ≤ 9223372036854775807) = True := eq_true (by rw [show (⟨out.toArray⟩ : ByteArray).size = out.length by simp [ByteArray.size], show (⟨[UInt8.ofNat (48 + u % 10)].toArray⟩ : ByteArray).size = 1 from rfl]; omega)
      have hu2 : u / 10 < 10 ^ f := by rw [Nat.div_lt_iff_lt_mul (by omega)]; rw [Nat.pow_succ] at hu; exact hu
      have := ih (u / 10) (UInt8.ofNat (48 + u % 10) :: out) hu2 (by omega) (by simp) (by rw [List.length_cons]; omega) (by rw [List.length_cons]; omega)
      refine Ev_up ?_
      simp only [burnishref13_FormatInt.l0, g1, if_true, Option.bind_some, hd, hs, g3, hw, ha]
      have e : pre f (u / 10) ++ (UInt8.ofNat (48 + u % 10) :: out) = pre (f + 1) u ++ out := by
        unfold pre
        rw [if_neg hz, revDig]
        by_cases h2 : u / 10 = 0
        · rw [if_pos h2, if_pos h2]; rfl
        · rw [if_neg h2, if_neg h2, List.reverse_cons, List.append_assoc]; rfl
      rw [e] at this
      exact this
theorem rfmt_f (v : Int) (h : I64 v) : Ev (fun k => burnishref13_FormatInt.f k v) (⟨(fmtL v).toArray⟩ : ByteArray) := by
  unfold I64 at h
  have hnat : v.natAbs < 18446744073709551616 := by omega
  have key : Ev (fun k => burnishref13_FormatInt.l0 k v ((v.natAbs : Nat) : Int) (⟨#[]⟩ : ByteArray)) (⟨(fmtL v).toArray⟩ : ByteArray) := by
    obtain ⟨u, hu⟩ : ∃ u, u = v.natAbs := ⟨_, rfl⟩
    rw [← hu] at hnat ⊢
    have hd : (IntKind.u64.wrap (48 + (Int.tmod (u : Int) 10))) % 256 = ((UInt8.ofNat (48 + u % 10)).toNat : Int) := by
      rw [Int.tmod_eq_emod_of_nonneg (by omega), IntKind.wrap_u64, UInt8.toNat_ofNat']; omega
    have hw : IntKind.u64.wrap (Int.tdiv (u : Int) 10) = ((u / 10 : Nat) : Int) := by rw [Int.tdiv_eq_ediv_of_nonneg (by omega), IntKind.wrap_u64]; omega
    have hs : strOfNums [((UInt8.ofNat (48 + u % 10)).toNat : Int)] = ⟨[UInt8.ofNat (48 + u % 10)].toArray⟩ := str_nms [UInt8.ofNat (48 + u % 10)]
    have ha : (⟨[UInt8.ofNat (48 + u % 10)].toArray⟩ : ByteArray) ++ (⟨#[]⟩ : ByteArray) = ⟨[UInt8.ofNat (48 + u % 10)].toArray⟩ := by refine L_inj ?_; rw [L_mk]; simp [L]
    have g3 : ((⟨[UInt8.ofNat (48 + u % 10)].toArray⟩ : ByteArray).size + (⟨#[]⟩ : ByteArray).size ≤ 9223372036854775807) = True := eq_true (by rw [show (⟨#[]⟩ : ByteArray).size = 0 from rfl, show (⟨[UInt8.ofNat (48 + u % 10)].toArray⟩ : ByteArray).size = 1 from rfl]; omega)
    have e19 : (10 : Nat) ^ 19 = 10000000000000000000 := by decide
    have := rfmt_l0 v 19 (u / 10) [UInt8.ofNat (48 + u % 10)] (by rw [e19]; omega) (by omega) (by simp) (by simp) (by simp)
    have hres : (if v < 0 then [45] else []) ++ (pre 19 (u / 10) ++ [UInt8.ofNat (48 + u % 10)]) = fmtL v := by
      unfold fmtL pre
      have e20 : revDig 20 u = UInt8.ofNat (48 + u % 10) :: (if u / 10 = 0 then [] else revDig 19 (u / 10)) := rfl
      rw [← hu, e20]
      by_cases h2 : u / 10 = 0
      · rw [if_pos h2, if_pos h2]; rfl
      · rw [if_neg h2, if_neg h2, List.reverse_cons]
    rw [hres] at this
    refine Ev_up ?_
    by_cases hz : u = 0
    · subst hz
      have g1 : (((0 : Nat) : Int) > 0) = False := eq_false (by omega)
      have g2 : ((⟨#[]⟩ : ByteArray).toList = ([] : List UInt8)) = True := eq_true (by rw [L_toList]; rfl)
      simp only [burnishref13_FormatInt.l0, g1, g2, if_true, if_false, Option.bind_some, hd, hs, g3, hw, ha]
      exact this
    · have g1 : ((u : Int) > 0) = True := eq_true (by omega)
      simp only [burnishref13_FormatInt.l0, g1, if_true, Option.bind_some, hd, hs, g3, hw, ha]
      exact this
  have hj : Ev (fun k => burnishref13_FormatInt.j0 k v ((v.natAbs : Nat) : Int)) (⟨(fmtL v).toArray⟩ : ByteArray) := by
    refine Ev_up ?_
    simp only [burnishref13_FormatInt.j0]
    exact key
  unfold burnishref13_FormatInt.f
  by_cases hv : v < 0
  · have e : IntKind.u64.wrap (-(IntKind.u64.wrap v)) = ((v.natAbs : Nat) : Int) := by rw [IntKind.wrap_u64, IntKind.wrap_u64]; omega
    simp only [hv, if_true, e]; exact hj
  · have e : IntKind.u64.wrap v = ((v.natAbs : Nat) : Int) := by rw [IntKind.wrap_u64]; omega
    simp only [hv, if_false, e]; exact hj

/-! the reference's Join -/
theorem joinB_snoc (y : List UInt8) : ∀ (ws : List (List UInt8)), ws ≠ [] → joinB (ws ++ [y]) = joinB ws ++ 32 :: y
  | [], h => absurd rfl h
  | [x], _ => rfl
  | x :: z :: r, _ => by
    have ih := joinB_snoc y (z :: r) (by simp)
    show x ++ 32 :: joinB ((z :: r) ++ [y]) = (x ++ 32 :: joinB (z :: r)) ++ 32 :: y
    rw [ih, List.append_assoc]; rfl
theorem joinB_len : ∀ (ws : List (List UInt8)), (∀ w ∈ ws, w.length ≤ 300) → (joinB ws).length ≤ 301 * ws.length
  | [], _ => by simp [joinB]
  | [x], h => by have := h x (by simp); show x.length ≤ _; simp; omega
  | x :: z :: r, h => by
    have ih := joinB_len (z :: r) (fun w hw => h w (List.mem_cons_of_mem _ hw))
    have := h x (by simp)
    show (x ++ 32 :: joinB (z :: r)).length ≤ _
    rw [List.length_append, List.length_cons, List.length_cons]; omega
theorem bytesOf_L (s : ByteArray) : Go.Proofs.YtjfpaglnadfppaaW.PrintWords.bytesOf s = nms (L s) := rfl
theorem nms_len (l : List UInt8) : (nms l).length = l.length := by unfold nms; rw [List.length_map]
theorem nms_app (a b : List UInt8) : nms a ++ nms b = nms (a ++ b) := by unfold nms; rw [List.map_append]
def wordR (x : S36) : List (List UInt8) := if x.f0 = 1 ∨ x.f0 = 3 then [L x.f3] else if x.f0 = 2 then [fmtL x.f2] else []
def wordsR (l : List S36) : List (List UInt8) := l.flatMap wordR
theorem L_size (s : ByteArray) : s.size = (L s).length := rfl
theorem rj_tail (rs : List S36) (n : Int) (i : Nat) (x : S36) (ws : List (List UInt8)) (y : List UInt8) (R : ByteArray) (hx : I64 x.f2)
    (hy : y = if x.f0 = 2 then fmtL x.f2 else L x.f3) (hb : (joinB ws).length + y.length ≤ 1000000) (hw : ws.length ≤ 1000000) (hi : i ≤ 1000000)
    (h : Ev (fun k => burnishref13_Join.l0 k (nms (joinB (ws ++ [y]))) ((ws ++ [y]).length : Int) rs n ((i + 1 : Nat) : Int)) R) :
    Ev (fun k => burnishref13_Join.j1 k (nms (joinB ws)) (ws.length : Int) rs n (i : Int) false x.f0 x.f1 x.f2 x.f3) R := by
  have hwr : wrap64 ((i : Int) + 1) = ((i + 1 : Nat) : Int) := by rw [show (i : Int) + 1 = ((i + 1 : Nat) : Int) by omega]; exact wrap_nat _ (by omega)
  have hwl : wrap64 ((ws.length : Int) + 1) = ((ws ++ [y]).length : Int) := by
    rw [List.length_append, List.length_singleton, show (ws.length : Int) + 1 = ((ws.length + 1 : Nat) : Int) by omega]; exact wrap_nat _ (by omega)
  have g0 : ((nms (joinB ws)).length < 140737488355328) = True := eq_true (by rw [nms_len]; omega)
  refine Ev_up ?_
  simp only [burnishref13_Join.j1, Bool.false_eq_true, if_false, g0, if_true, Option.bind_some, hwr, hwl]
  by_cases h0 : ws = []
  · subst h0
    have g1 : (((([] : List (List UInt8)).length : Nat) : Int) > 0) = False := eq_false (by simp)
    simp only [g1, if_false]
    by_cases h2 : x.f0 = 2
    · rw [if_pos h2] at hy
      simp only [h2, if_true]
      refine Ev.bind (rfmt_f x.f2 hx) ?_
      have e : nms (joinB []) ++ bytesOf (⟨(fmtL x.f2).toArray⟩ : ByteArray) = nms (joinB ([] ++ [y])) := by rw [bytesOf_L, L_mk, ← hy]; rfl
      have g2 : ((nms (joinB [])).length + (⟨(fmtL x.f2).toArray⟩ : ByteArray).size < 140737488355328) = True := eq_true (by rw [L_size, L_mk, nms_len, ← hy]; omega)
      simp only [g2, if_true, e]; exact h
    · rw [if_neg h2] at hy
      have e : nms (joinB []) ++ bytesOf x.f3 = nms (joinB ([] ++ [y])) := by rw [bytesOf_L, ← hy]; rfl
      have g2 : ((nms (joinB [])).length + x.f3.size < 140737488355328) = True := eq_true (by rw [L_size, nms_len, ← hy]; omega)
      have g3 : (x.f0 = 2) = False := eq_false h2
      simp only [g3, if_false, g2, if_true, e]; exact h
  · have g1 : ((ws.length : Int) > 0) = True := eq_true (by have := List.length_pos_iff.2 h0; omega)
    have e0 : nms (joinB ws) ++ [32] = nms (joinB ws ++ [32]) := by rw [← nms_app]; rfl
    have e1 : ∀ z, joinB ws ++ [32] ++ z = joinB (ws ++ [z]) := fun z => by rw [joinB_snoc z ws h0, List.append_assoc]; rfl
    simp only [g1, if_true, e0]
    by_cases h2 : x.f0 = 2
    · rw [if_pos h2] at hy
      simp only [h2, if_true]
      refine Ev.bind (rfmt_f x.f2 hx) ?_
      have e : nms (joinB ws ++ [32]) ++ bytesOf (⟨(fmtL x.f2).toArray⟩ : ByteArray) = nms (joinB (ws ++ [y])) := by rw [bytesOf_L, L_mk, ← hy, nms_app, e1]
      have g2 : ((nms (joinB ws ++ [32])).length + (⟨(fmtL x.f2).toArray⟩ : ByteArray).size < 140737488355328) = True := eq_true (by rw [L_size, L_mk, nms_len, ← hy, List.length_append, List.length_singleton]; omega)
      simp only [g2, if_true, e]; exact h
    · rw [if_neg h2] at hy
      have e : nms (joinB ws ++ [32]) ++ bytesOf x.f3 = nms (joinB (ws ++ [y])) := by rw [bytesOf_L, ← hy, nms_app, e1]
      have g2 : ((nms (joinB ws ++ [32])).length + x.f3.size < 140737488355328) = True := eq_true (by rw [L_size, nms_len, ← hy, List.length_append, List.length_singleton]; omega)
      have g3 : (x.f0 = 2) = False := eq_false h2
      simp only [g3, if_false, g2, if_true, e]; exact h
theorem fmtL_len (v : Int) : (fmtL v).length ≤ 21 := by
  unfold fmtL
  rw [List.length_append, List.length_reverse]
  have := revDig_len 20 v.natAbs
  split <;> simp <;> omega
theorem rjoin_l0 (rs : List S36) (hr : ∀ x ∈ rs, I64 x.f2 ∧ (L x.f3).length ≤ 300) (hn : rs.length ≤ 300) : ∀ (d i : Nat) (ws : List (List UInt8)), rs.length - i = d → i ≤ rs.length → ws.length ≤ i → (∀ w ∈ ws, w.length ≤ 300) →
    Ev (fun k => burnishref13_Join.l0 k (nms (joinB ws)) (ws.length : Int) rs (rs.length : Int) (i : Int)) (⟨(joinB (ws ++ wordsR (rs.drop i))).toArray⟩ : ByteArray) := by
  intro d
  induction d with
  | zero =>
    intro i ws hd hi hw ha
    have g : ((i : Int) < (rs.length : Int)) = False := eq_false (by omega)
    rw [List.drop_eq_nil_of_le (by omega), show wordsR [] = [] from rfl, List.append_nil]
    refine Ev_up ?_
    simp only [burnishref13_Join.l0, g, if_false, str_nms]; exact Ev.now _
  | succ d ih =>
    intro i ws hd hi hw ha
    have hlt : i < rs.length := by omega
    have q1 : rs.length - (i + 1) = d := by omega
    have q2 : i + 1 ≤ rs.length := by omega
    obtain ⟨x, hx⟩ : ∃ x, x = rs[i] := ⟨_, rfl⟩
    have hdr : rs.drop i = x :: rs.drop (i + 1) := by rw [hx]; exact List.drop_eq_getElem_cons hlt
    have hxr := hr x (by rw [hx]; exact List.getElem_mem hlt)
    have r1 : rd_T36 rs (i : Int) = x := by
      unfold rd_T36; rw [Int.toNat_natCast, List.getD_eq_getElem?_getD, List.getElem?_eq_getElem hlt, hx]; rfl
    have g : ((i : Int) < (rs.length : Int)) = True := eq_true (by omega)
    have g1 : (0 ≤ (i : Int)) = True := eq_true (by omega)
    have hwr : wrap64 ((i : Int) + 1) = ((i + 1 : Nat) : Int) := by rw [show (i : Int) + 1 = ((i + 1 : Nat) : Int) by omega]; exact wrap_nat _ (by omega)
    have hjl := joinB_len ws ha
    have hwd : wordsR (x :: rs.drop (i + 1)) = wordR x ++ wordsR (rs.drop (i + 1)) := List.flatMap_cons
    rw [hdr, hwd]
    have f21 := fmtL_len x.f2
    have fin : ∀ y : List UInt8, y.length ≤ 300 → wordR x = [y] → (y = if x.f0 = 2 then fmtL x.f2 else L x.f3) →
        Ev (fun k => burnishref13_Join.j1 k (nms (joinB ws)) (ws.length : Int) rs (rs.length : Int) (i : Int) false x.f0 x.f1 x.f2 x.f3) (⟨(joinB (ws ++ (wordR x ++ wordsR (rs.drop (i + 1))))).toArray⟩ : ByteArray) := by
      intro y hyl hwo hy
      refine rj_tail rs _ i x ws y _ hxr.1 hy (by omega) (by omega) (by omega) ?_
      have := ih (i + 1) (ws ++ [y]) q1 q2 (by rw [List.length_append, List.length_singleton]; omega) (by
        intro w hw'
        rcases List.mem_append.1 hw' with h | h
        · exact ha w h
        · rw [List.mem_singleton.1 h]; exact hyl)
      rw [List.append_assoc] at this
      rw [hwo]; exact this
    refine Ev_up ?_
    simp only [burnishref13_Join.l0, g, g1, if_true, r1]
    by_cases h1 : x.f0 = 1
    · have e1 : (x.f0 = 1) = True := eq_true h1
      simp only [e1, if_true]
      exact fin (L x.f3) hxr.2 (by rw [wordR, if_pos (.inl h1)]) (by rw [if_neg (by omega)])
    · have e1 : (x.f0 = 1) = False := eq_false h1
      by_cases h2 : x.f0 = 2
      · have e2 : (x.f0 = 2) = True := eq_true h2
        simp only [e1, if_false, e2, if_true]
        exact fin (fmtL x.f2) (by omega) (by rw [wordR, if_neg (by omega), if_pos h2]) (by rw [if_pos h2])
      · have e2 : (x.f0 = 2) = False := eq_false h2
        by_cases h3 : x.f0 = 3
        · have e3 : (x.f0 != 3) = false := by rw [h3]; rfl
          simp only [e1, if_false, e2, e3]
          exact fin (L x.f3) hxr.2 (by rw [wordR, if_pos (.inr h3)]) (by rw [if_neg h2])
        · have e3 : (x.f0 != 3) = true := by rw [bne_iff_ne]; exact h3
          simp only [e1, if_false, e2, e3]
          refine Ev_up ?_
          simp only [burnishref13_Join.j1, if_true, hwr]
          have := ih (i + 1) ws q1 q2 (by omega) ha
          rw [show wordR x = [] by rw [wordR, if_neg (by omega), if_neg h2], List.nil_append]
          exact this

/-! the law -/
def cvR (x : S34) : S36 := ⟨x.f0, x.f1, x.f2, x.f3⟩
theorem wordsR_cv (l : List S34) : wordsR (l.map cvR) = wordsS l := by
  induction l with
  | nil => rfl
  | cons x l ih =>
    have e : wordsR (cvR x :: l.map cvR) = wordR (cvR x) ++ wordsR (l.map cvR) := List.flatMap_cons
    have e2 : wordsS (x :: l) = wordS x ++ wordsS l := List.flatMap_cons
    rw [List.map_cons, e, e2, ih]; rfl
theorem wordsS_len (l : List S34) : (wordsS l).length ≤ l.length := by
  induction l with
  | nil => simp [wordsS]
  | cons x l ih =>
    have e2 : wordsS (x :: l) = wordS x ++ wordsS l := List.flatMap_cons
    rw [e2, List.length_append, List.length_cons]
    have : (wordS x).length ≤ 1 := by unfold wordS; split <;> (try split) <;> simp
    omega
theorem wordsS_all (l : List S34) (h : ∀ x ∈ l, (L x.f3).length ≤ 300) : ∀ w ∈ wordsS l, w.length ≤ 300 := by
  intro w hw
  obtain ⟨x, hx, hm⟩ := List.mem_flatMap.1 hw
  have h3 := h x hx
  have h21 := fmtL_len x.f2
  unfold wordS at hm
  split at hm
  · rw [List.mem_singleton.1 hm]; exact h3
  · split at hm
    · rw [List.mem_singleton.1 hm]; omega
    · cases hm
theorem joins_l0 (toks : List S34) (hr : ∀ x ∈ toks, I64 x.f2) (hn : toks.length ≤ 300) : ∀ (d i : Nat), toks.length - i = d → i ≤ toks.length → (∀ x ∈ toks.take i, (L x.f3).length ≤ 300) →
    Ev (fun k => burnishlaw13_LexerJoins.l0 k toks ((toks.take i).map cvR) toks (toks.length : Int) (i : Int)) true := by
  intro d
  induction d with
  | zero =>
    intro i hd hi ha
    have g : ((i : Int) < (toks.length : Int)) = False := eq_false (by omega)
    have ht : toks.take i = toks := List.take_of_length_le (by omega)
    rw [ht] at ha ⊢
    have hall := wordsS_all toks ha
    have hjl := joinB_len (wordsS toks) hall
    have hwl := wordsS_len toks
    refine Ev_up ?_
    simp only [burnishlaw13_LexerJoins.l0, g, if_false]
    refine Ev.bind awake_ok ?_
    simp only [if_true]
    have h1 : Ev (fun k => lexer_Join.f k toks) (⟨(joinB (wordsS toks)).toArray⟩ : ByteArray) := by
      have := joinS_l0 toks hr (by omega) toks.length 0 [] (by omega) (by omega) (by simp) (by rw [List.nil_append, List.drop_zero]; omega)
      rw [List.nil_append, List.drop_zero] at this
      exact this
    have h2 : Ev (fun k => burnishref13_Join.f k (toks.map cvR)) (⟨(joinB (wordsS toks)).toArray⟩ : ByteArray) := by
      have := rjoin_l0 (toks.map cvR) (by
        intro x hx
        obtain ⟨y, hy, rfl⟩ := List.mem_map.1 hx
        exact ⟨hr y hy, ha y hy⟩) (by rw [List.length_map]; exact hn) (toks.map cvR).length 0 [] (by omega) (by omega) (by simp) (by simp)
      rw [List.nil_append, List.drop_zero, wordsR_cv] at this
      exact this
    refine Ev.bind h1 ?_
    refine Ev.bind h2 ?_
    exact Ev_now (by rw [beq_self_eq_true])
  | succ d ih =>
    intro i hd hi ha
    have hlt : i < toks.length := by omega
    have q1 : toks.length - (i + 1) = d := by omega
    have q2 : i + 1 ≤ toks.length := by omega
    obtain ⟨x, hx⟩ : ∃ x, x = toks[i] := ⟨_, rfl⟩
    have r1 : rd_T34 toks (i : Int) = x := by
      unfold rd_T34; rw [Int.toNat_natCast, List.getD_eq_getElem?_getD, List.getElem?_eq_getElem hlt, hx]; rfl
    have g : ((i : Int) < (toks.length : Int)) = True := eq_true (by omega)
    have g1 : (0 ≤ (i : Int)) = True := eq_true (by omega)
    have hwr : wrap64 ((i : Int) + 1) = ((i + 1 : Nat) : Int) := by rw [show (i : Int) + 1 = ((i + 1 : Nat) : Int) by omega]; exact wrap_nat _ (by omega)
    have g2 : (((toks.take i).map cvR).length < 3518437208883) = True := eq_true (by rw [List.length_map, List.length_take]; omega)
    have ht : (toks.take i).map cvR ++ [(⟨x.f0, x.f1, x.f2, x.f3⟩ : S36)] = (toks.take (i + 1)).map cvR := by
      rw [List.take_succ_eq_append_getElem hlt, List.map_append, hx]; rfl
    refine Ev_up ?_
    simp only [burnishlaw13_LexerJoins.l0, g, g1, if_true, r1]
    by_cases h3 : (x.f3.size : Int) > 300
    · have e : ((x.f3.size : Int) > 300) = True := eq_true h3
      simp only [e, if_true]
      refine Ev.bind awake_ok ?_
      exact Ev.now _
    · have e : ((x.f3.size : Int) > 300) = False := eq_false h3
      simp only [e, if_false, g2, if_true, hwr, ht]
      refine ih (i + 1) q1 q2 ?_
      intro y hy
      rw [List.take_succ_eq_append_getElem hlt] at hy
      rcases List.mem_append.1 hy with h | h
      · exact ha y h
      · rw [List.mem_singleton.1 h, ← hx, ← L_size]; omega
theorem LexerJoins (toks : List S34) (hr : ∀ x ∈ toks, I64 x.f2) : ∃ k, burnishlaw13_LexerJoins.f k toks = some true := by
  have : Ev (fun k => burnishlaw13_LexerJoins.f k toks) true := by
    by_cases h : (toks.length : Int) > 300
    · have e : ((toks.length : Int) > 300) = True := eq_true h
      simp only [burnishlaw13_LexerJoins.f, e, if_true]
      exact Ev.bind awake_ok (Ev.now _)
    · have e : ((toks.length : Int) > 300) = False := eq_false h
      simp only [burnishlaw13_LexerJoins.f, e, if_false]
      exact joins_l0 toks hr (by omega) toks.length 0 (by omega) (by omega) (by simp)
  obtain ⟨k, hk⟩ := this
  exact ⟨k, hk k (Nat.le_refl _)⟩
end Go.Proofs.Ytjfpaglnadfppaa.Pure
