/- What the program's Join and FormatInt answer, in the words of the plain law. -/
import Derived.Test.YtjfpaglnadfppaaPx10
import Derived.Test.YtjfpaglnadfppaaLexImpl
import Derived.Test.YtjfpaglnadfppaaLexJoin
namespace Go.Proofs.Ytjfpaglnadfppaa.Pure
open Go.RowKit Go.Proofs.Ytjfpaglnadfppaa.P Go.Proofs.YtjfpaglnadfppaaW.PrintWords Go.Proofs.YtjfpaglnadfppaaW.PrintLast Lex

/-! the reversal of a slice in place -/
def Rv (xs : List Int) (i : Nat) : List Int := (List.range xs.length).map fun p => if i ≤ p ∧ p + i < xs.length then xs.getD (xs.length - 1 - p) 0 else xs.getD p 0
theorem Rv_done (xs : List Int) (i : Nat) (h : xs.length ≤ 2 * i + 1) : Rv xs i = xs := by
  apply List.ext_getElem
  · simp [Rv]
  · intro p h1 h2
    simp only [Rv, List.getElem_map, List.getElem_range]
    have e : xs.getD p 0 = xs[p] := by rw [List.getD_eq_getElem?_getD, List.getElem?_eq_getElem h2]; rfl
    by_cases hc : i ≤ p ∧ p + i < xs.length
    · rw [if_pos hc, show xs.length - 1 - p = p by omega, e]
    · rw [if_neg hc, e]
theorem Rv_step (xs : List Int) (i : Nat) (h : 2 * i + 1 < xs.length) :
    Rv ((xs.set i (xs.getD (xs.length - 1 - i) 0)).set (xs.length - 1 - i) (xs.getD i 0)) (i + 1) = Rv xs i := by
  obtain ⟨n, hn⟩ : ∃ n, n = xs.length := ⟨_, rfl⟩
  have hl : ((xs.set i (xs.getD (xs.length - 1 - i) 0)).set (xs.length - 1 - i) (xs.getD i 0)).length = n := by rw [List.length_set, List.length_set, hn]
  unfold Rv
  rw [hl, ← hn]
  apply List.map_congr_left
  intro p hp
  rw [List.mem_range] at hp
  have g : ∀ q, q < n → ((xs.set i (xs.getD (n - 1 - i) 0)).set (n - 1 - i) (xs.getD i 0)).getD q 0 = if q = n - 1 - i then xs.getD i 0 else if q = i then xs.getD (n - 1 - i) 0 else xs.getD q 0 := by
    intro q hq
    simp only [List.getD_eq_getElem?_getD, List.getElem?_set, List.length_set]
    by_cases h1 : n - 1 - i = q
    · rw [if_pos h1, if_pos h1.symm, if_pos (by omega)]; rfl
    · have h1' : ¬ q = n - 1 - i := fun e => h1 e.symm
      by_cases h2 : i = q
      · rw [if_neg h1, if_pos h2, if_neg h1', if_pos h2.symm, if_pos (by omega)]; rfl
      · rw [if_neg h1, if_neg h2, if_neg h1', if_neg (fun e => h2 e.symm)]
  by_cases hc : i + 1 ≤ p ∧ p + (i + 1) < n
  · rw [if_pos hc, g _ (by omega), if_neg (by omega), if_neg (by omega), if_pos (by omega)]
  · rw [if_neg hc, g _ hp]
    by_cases h1 : p = n - 1 - i
    · rw [if_pos h1, if_pos (by omega), show n - 1 - p = i by omega]
    · rw [if_neg h1]
      by_cases h2 : p = i
      · rw [if_pos h2, if_pos (by omega), h2]
      · rw [if_neg h2, if_neg (by omega)]
theorem Rv_zero (xs : List Int) : Rv xs 0 = xs.reverse := by
  apply List.ext_getElem
  · simp [Rv]
  · intro p h1 h2
    simp only [Rv, List.getElem_map, List.getElem_range]
    rw [List.length_reverse] at h2
    rw [if_pos ⟨Nat.zero_le _, by omega⟩, List.getElem_reverse, List.getD_eq_getElem?_getD, List.getElem?_eq_getElem (by omega)]; rfl
theorem rd_D (xs : List Int) (i : Nat) : rd xs (i : Int) = xs.getD i 0 := by unfold rd; rw [Int.toNat_natCast]
theorem reverse_l0 : ∀ (d : Nat) (xs : List Int) (i : Nat), xs.length ≤ 140737488355328 → xs.length - 2 * i ≤ d → 2 * i ≤ xs.length →
    Ev (fun k => slices_Reverse_byte_byte.l0 k xs (i : Int) ((xs.length : Int) - 1 - (i : Int))) (Rv xs i) := by
  intro d
  induction d with
  | zero =>
    intro xs i hb hd hi
    have g : ((i : Int) < (xs.length : Int) - 1 - (i : Int)) = False := eq_false (by omega)
    refine Ev_up ?_
    simp only [slices_Reverse_byte_byte.l0, g, if_false]
    rw [Rv_done xs i (by omega)]; exact Ev.now _
  | succ d ih =>
    intro xs i hb hd hi
    by_cases hlt : 2 * i + 1 < xs.length
    · obtain ⟨j, hj⟩ : ∃ j : Nat, j = xs.length - 1 - i := ⟨_, rfl⟩
      have ej : (xs.length : Int) - 1 - (i : Int) = (j : Int) := by omega
      have g : ((i : Int) < (j : Int)) = True := eq_true (by omega)
      have g1 : (0 ≤ (j : Int)) = True := eq_true (by omega)
      have g2 : ((j : Int) < (xs.length : Int)) = True := eq_true (by omega)
      have g3 : (0 ≤ (i : Int)) = True := eq_true (by omega)
      have g4 : ((i : Int) < (xs.length : Int)) = True := eq_true (by omega)
      have hw : wrap64 ((i : Int) + 1) = ((i + 1 : Nat) : Int) := by rw [show (i : Int) + 1 = ((i + 1 : Nat) : Int) by omega]; exact wrap_nat _ (by omega)
      have hw2 : wrap64 ((j : Int) - 1) = ((j - 1 : Nat) : Int) := by rw [show (j : Int) - 1 = ((j - 1 : Nat) : Int) by omega]; exact wrap_nat _ (by omega)
      rw [ej]
      refine Ev_up ?_
      simp only [slices_Reverse_byte_byte.l0, g, g1, g2, g3, g4, if_true, hw, hw2, Int.toNat_natCast, rd_D]
      have hs := Rv_step xs i hlt
      rw [← hj] at hs
      have hl : ((xs.set i (xs.getD j 0)).set j (xs.getD i 0)).length = xs.length := by rw [List.length_set, List.length_set]
      have := ih ((xs.set i (xs.getD j 0)).set j (xs.getD i 0)) (i + 1) (by rw [hl]; exact hb) (by rw [hl]; omega) (by rw [hl]; omega)
      rw [hs, hl, show (xs.length : Int) - 1 - ((i + 1 : Nat) : Int) = ((j - 1 : Nat) : Int) by omega] at this
      exact this
    · have g : ((i : Int) < (xs.length : Int) - 1 - (i : Int)) = False := eq_false (by omega)
      refine Ev_up ?_
      simp only [slices_Reverse_byte_byte.l0, g, if_false]
      rw [Rv_done xs i (by omega)]; exact Ev.now _
theorem reverse_f (xs : List Int) (h : xs.length ≤ 140737488355328) : Ev (fun k => slices_Reverse_byte_byte.f k xs) xs.reverse := by
  have := reverse_l0 xs.length xs 0 h (by omega) (by omega)
  rw [Rv_zero] at this
  unfold slices_Reverse_byte_byte.f
  rw [show wrap64 ((xs.length : Int) - 1) = (xs.length : Int) - 1 - ((0 : Nat) : Int) by unfold wrap64; omega]
  exact this

/-! decimal texts -/
def nms (l : List UInt8) : List Int := l.map fun b => (b.toNat : Int)
theorem str_nms (l : List UInt8) : strOfNums (nms l) = ⟨l.toArray⟩ := by
  refine L_inj ?_
  rw [L_mk]
  show (nms l).map (fun n => UInt8.ofNat n.toNat) = l
  induction l with
  | nil => rfl
  | cons c t ih =>
    have e : nms (c :: t) = (c.toNat : Int) :: nms t := rfl
    rw [e, List.map_cons, ih, Int.toNat_natCast, UInt8.ofNat_toNat]
theorem nms_rev (l : List UInt8) : (nms l).reverse = nms l.reverse := by unfold nms; rw [List.map_reverse]
theorem revDig_len : ∀ f u, (revDig f u).length ≤ f := by
  intro f
  induction f with
  | zero => intro u; simp [revDig]
  | succ f ih =>
    intro u
    rw [revDig, List.length_cons]
    split
    · simp
    · have := ih (u / 10); omega
theorem format_end (v : Int) (acc : List UInt8) (ha : acc.length ≤ 1000) :
    Ev (fun k => (if v < 0 then (if (nms acc).length < 140737488355328 then ((slices_Reverse_byte_byte.f k (nms acc ++ [45])).bind fun t241 => (some (strOfNums t241))) else (none)) else ((slices_Reverse_byte_byte.f k (nms acc)).bind fun t242 => (some (strOfNums t242))))) (⟨(acc ++ (if v < 0 then [45] else [])).reverse.toArray⟩ : ByteArray) := by
  have hl : (nms acc).length = acc.length := by unfold nms; rw [List.length_map]
  have g : ((nms acc).length < 140737488355328) = True := eq_true (by rw [hl]; omega)
  by_cases hv : v < 0
  · simp only [hv, g, if_true]
    have e : nms acc ++ [45] = nms (acc ++ [45]) := by unfold nms; rw [List.map_append]; rfl
    rw [e]
    refine Ev.bind (reverse_f _ (by unfold nms; rw [List.length_map, List.length_append, List.length_singleton]; omega)) ?_
    rw [nms_rev, str_nms]; exact Ev.now _
  · simp only [hv, if_false]
    refine Ev.bind (reverse_f _ (by rw [hl]; omega)) ?_
    rw [nms_rev, str_nms, List.append_nil]; exact Ev.now _
theorem format_l0 (v : Int) : ∀ (f u : Nat) (acc : List UInt8), u < 10 ^ (f + 1) → u < 18446744073709551616 → acc.length + f ≤ 900 →
    Ev (fun k => lexer_FormatInt.l0 k v (u : Int) (nms acc)) (⟨((acc ++ revDig (f + 1) u) ++ (if v < 0 then [45] else [])).reverse.toArray⟩ : ByteArray) := by
  intro f
  induction f with
  | zero =>
    intro u acc hu hb ha
    have hl : (nms acc).length = acc.length := by unfold nms; rw [List.length_map]
    have g : ((nms acc).length < 140737488355328) = True := eq_true (by rw [hl]; omega)
    have hu' : u < 10 := by simpa using hu
    have hd : (IntKind.u64.wrap (48 + (Int.tmod (u : Int) 10))) % 256 = ((UInt8.ofNat (48 + u % 10)).toNat : Int) := by
      rw [Int.tmod_eq_emod_of_nonneg (by omega), IntKind.wrap_u64, UInt8.toNat_ofNat']; omega
    have hq : (IntKind.u64.wrap (Int.tdiv (u : Int) 10) = 0) = True := eq_true (by rw [Int.tdiv_eq_ediv_of_nonneg (by omega), IntKind.wrap_u64]; omega)
    have e : nms acc ++ [((UInt8.ofNat (48 + u % 10)).toNat : Int)] = nms (acc ++ revDig (0 + 1) u) := by
      rw [revDig, if_pos (by omega)]; unfold nms; rw [List.map_append]; rfl
    refine Ev_up ?_
    simp only [lexer_FormatInt.l0, g, if_true, Option.bind_some, hd, hq, e]
    exact format_end v (acc ++ revDig (0 + 1) u) (by rw [List.length_append]; have := revDig_len (0 + 1) u; omega)
  | succ f ih =>
    intro u acc hu hb ha
    have hl : (nms acc).length = acc.length := by unfold nms; rw [List.length_map]
    have g : ((nms acc).length < 140737488355328) = True := eq_true (by rw [hl]; omega)
    have hd : (IntKind.u64.wrap (48 + (Int.tmod (u : Int) 10))) % 256 = ((UInt8.ofNat (48 + u % 10)).toNat : Int) := by
      rw [Int.tmod_eq_emod_of_nonneg (by omega), IntKind.wrap_u64, UInt8.toNat_ofNat']; omega
    have hw : IntKind.u64.wrap (Int.tdiv (u : Int) 10) = ((u / 10 : Nat) : Int) := by rw [Int.tdiv_eq_ediv_of_nonneg (by omega), IntKind.wrap_u64]; omega
    have e : nms acc ++ [((UInt8.ofNat (48 + u % 10)).toNat : Int)] = nms (acc ++ [UInt8.ofNat (48 + u % 10)]) := by
      unfold nms; rw [List.map_append]; rfl
    refine Ev_up ?_
    simp only [lexer_FormatInt.l0, g, if_true, Option.bind_some, hd, hw, e]
    rw [revDig]
    by_cases hz : u / 10 = 0
    · have hq : (((u / 10 : Nat) : Int) = 0) = True := eq_true (by omega)
      simp only [hq, if_true]
      rw [if_pos hz]
      exact format_end v (acc ++ [UInt8.ofNat (48 + u % 10)]) (by rw [List.length_append, List.length_singleton]; omega)
    · have hq : (((u / 10 : Nat) : Int) = 0) = False := eq_false (by omega)
      simp only [hq, if_false]
      rw [if_neg hz]
      have hu2 : u / 10 < 10 ^ (f + 1) := by rw [Nat.div_lt_iff_lt_mul (by omega)]; rw [Nat.pow_succ] at hu; exact hu
      have := ih (u / 10) (acc ++ [UInt8.ofNat (48 + u % 10)]) hu2 (by omega) (by rw [List.length_append, List.length_singleton]; omega)
      rw [List.append_assoc acc] at this
      exact this
theorem format_f (v : Int) (h : -9223372036854775808 ≤ v ∧ v ≤ 9223372036854775807) : Ev (fun k => lexer_FormatInt.f k v) (⟨(fmtL v).toArray⟩ : ByteArray) := by
  have hres : (([] ++ revDig (19 + 1) v.natAbs) ++ (if v < 0 then [45] else [])).reverse = fmtL v := by
    unfold fmtL
    rw [List.nil_append, List.reverse_append]
    by_cases hv : v < 0
    · simp [hv]
    · simp [hv]
  have hnat : v.natAbs < 18446744073709551616 := by omega
  have e10 : (10 : Nat) ^ (19 + 1) = 100000000000000000000 := by decide
  have hp : v.natAbs < 10 ^ (19 + 1) := by rw [e10]; omega
  have := format_l0 v 19 v.natAbs [] hp hnat (by simp)
  rw [hres] at this
  have hj : Ev (fun k => lexer_FormatInt.j0 k v ((v.natAbs : Nat) : Int)) (⟨(fmtL v).toArray⟩ : ByteArray) := by
    refine Ev_up ?_
    simp only [lexer_FormatInt.j0]
    exact this
  unfold lexer_FormatInt.f
  by_cases hv : v < 0
  · have e : IntKind.u64.wrap (-(IntKind.u64.wrap v)) = ((v.natAbs : Nat) : Int) := by rw [IntKind.wrap_u64, IntKind.wrap_u64]; omega
    simp only [hv, if_true, e]; exact hj
  · have e : IntKind.u64.wrap v = ((v.natAbs : Nat) : Int) := by rw [IntKind.wrap_u64]; omega
    simp only [hv, if_false, e]; exact hj

/-! joined tokens -/
theorem lib_join (l : List (List UInt8)) : Go.Lib.join l [32] = joinB l := by
  induction l with
  | nil => rfl
  | cons x l ih =>
    cases l with
    | nil => simp [Go.Lib.join, joinB, List.intercalate]
    | cons y r =>
      rw [joinB, ← ih]
      simp [Go.Lib.join, List.intercalate, List.intersperse]
/-- What a token adds to the words: nothing, where its kind is none of the three. -/
def wordsOf : List Tk → List (List UInt8)
  | [] => []
  | x :: l => if x.kind = 1 ∨ x.kind = 3 then x.text :: wordsOf l else if x.kind = 2 then fmtL x.val :: wordsOf l else wordsOf l
def InRange (x : Tk) : Prop := -9223372036854775808 ≤ x.val ∧ x.val ≤ 9223372036854775807
def bas (l : List (List UInt8)) : List ByteArray := l.map fun x => ⟨x.toArray⟩
theorem join_l0 (toks : List Tk) (hr : ∀ x ∈ toks, InRange x) (hn : toks.length ≤ 1000000) : ∀ (d i : Nat) (ws : List (List UInt8)), toks.length - i = d → i ≤ toks.length → ws.length ≤ i →
    (joinB (ws ++ wordsOf (toks.drop i))).length ≤ 140737488355328 →
    Ev (fun k => lexer_Join.l0 k (bas ws) (toks.map to34) (toks.length : Int) (i : Int)) (⟨(joinB (ws ++ wordsOf (toks.drop i))).toArray⟩ : ByteArray) := by
  intro d
  induction d with
  | zero =>
    intro i ws hd hi hw hj
    have g : ((i : Int) < (toks.length : Int)) = False := eq_false (by omega)
    rw [List.drop_eq_nil_of_le (by omega), wordsOf, List.append_nil] at hj ⊢
    have hm : (bas ws).map (fun x => x.data.toList) = ws := by unfold bas; rw [List.map_map]; exact List.map_id' ws
    have hs : strings_Join.f (bas ws) (⟨#[32]⟩ : ByteArray) = some ⟨(joinB ws).toArray⟩ := by
      unfold strings_Join.f
      rw [hm, show (⟨#[32]⟩ : ByteArray).data.toList = [32] from rfl, lib_join, if_pos ⟨by unfold bas; rw [List.length_map]; omega, hj⟩]
    refine Ev_up ?_
    simp only [lexer_Join.l0, g, if_false, hs, Option.bind_some]; exact Ev.now _
  | succ d ih =>
    intro i ws hd hi hw hj
    have hlt : i < toks.length := by omega
    have q1 : toks.length - (i + 1) = d := by omega
    have q2 : i + 1 ≤ toks.length := by omega
    obtain ⟨x, hx⟩ : ∃ x, x = toks[i] := ⟨_, rfl⟩
    have hdr : toks.drop i = x :: toks.drop (i + 1) := by rw [hx]; exact List.drop_eq_getElem_cons hlt
    have hxr := hr x (by rw [hx]; exact List.getElem_mem hlt)
    have r1 : rd_T34 (toks.map to34) (i : Int) = to34 x := by
      unfold rd_T34; rw [Int.toNat_natCast, List.getD_eq_getElem?_getD, List.getElem?_map, List.getElem?_eq_getElem hlt, hx]; rfl
    have g : ((i : Int) < (toks.length : Int)) = True := eq_true (by omega)
    have g1 : (0 ≤ (i : Int)) = True := eq_true (by omega)
    have hwr : wrap64 ((i : Int) + 1) = ((i + 1 : Nat) : Int) := by rw [show (i : Int) + 1 = ((i + 1 : Nat) : Int) by omega]; exact wrap_nat _ (by omega)
    have g3 : ((bas ws).length < 8796093022208) = True := eq_true (by unfold bas; rw [List.length_map]; omega)
    have hb : ∀ y : List UInt8, bas ws ++ [(⟨y.toArray⟩ : ByteArray)] = bas (ws ++ [y]) := fun y => by unfold bas; rw [List.map_append]; rfl
    rw [hdr] at hj ⊢
    refine Ev_up ?_
    simp only [lexer_Join.l0, g, g1, if_true, List.length_map, r1, to34]
    by_cases h1 : x.kind = 1
    · have hwo : wordsOf (x :: toks.drop (i + 1)) = x.text :: wordsOf (toks.drop (i + 1)) := by rw [wordsOf, if_pos (.inl h1)]
      rw [hwo] at hj ⊢
      have e1 : (x.kind = 1) = True := eq_true h1
      have e2 : (x.kind == 1) = true := beq_iff_eq.2 h1
      simp only [e1, if_true, e2]
      refine Ev_up ?_
      simp only [lexer_Join.j1, if_true, g3, hwr, hb]
      have := ih (i + 1) (ws ++ [x.text]) q1 q2 (by rw [List.length_append, List.length_singleton]; omega)
      rw [List.append_assoc, List.singleton_append] at this
      exact this hj
    · have e1 : (x.kind = 1) = False := eq_false h1
      simp only [e1, if_false]
      refine Ev_up ?_
      by_cases h3 : x.kind = 3
      · have hwo : wordsOf (x :: toks.drop (i + 1)) = x.text :: wordsOf (toks.drop (i + 1)) := by rw [wordsOf, if_pos (.inr h3)]
        rw [hwo] at hj ⊢
        have e2 : (x.kind == 3) = true := beq_iff_eq.2 h3
        simp only [lexer_Join.j1, e2, if_true, g3, hwr, hb]
        have := ih (i + 1) (ws ++ [x.text]) q1 q2 (by rw [List.length_append, List.length_singleton]; omega)
        rw [List.append_assoc, List.singleton_append] at this
        exact this hj
      · have e2 : (x.kind == 3) = false := beq_eq_false_iff_ne.2 h3
        by_cases h2 : x.kind = 2
        · have hwo : wordsOf (x :: toks.drop (i + 1)) = fmtL x.val :: wordsOf (toks.drop (i + 1)) := by rw [wordsOf, if_neg (by omega), if_pos h2]
          rw [hwo] at hj ⊢
          have e3 : (x.kind = 2) = True := eq_true h2
          simp only [lexer_Join.j1, e2, Bool.false_eq_true, if_false, e3, if_true]
          refine Ev.bind (format_f x.val hxr) ?_
          simp only [g3, if_true, hwr, hb]
          have := ih (i + 1) (ws ++ [fmtL x.val]) q1 q2 (by rw [List.length_append, List.length_singleton]; omega)
          rw [List.append_assoc, List.singleton_append] at this
          exact this hj
        · have hwo : wordsOf (x :: toks.drop (i + 1)) = wordsOf (toks.drop (i + 1)) := by rw [wordsOf, if_neg (by omega), if_neg h2]
          rw [hwo] at hj ⊢
          have e3 : (x.kind = 2) = False := eq_false h2
          simp only [lexer_Join.j1, e2, Bool.false_eq_true, if_false, e3, hwr]
          exact ih (i + 1) ws q1 q2 (by omega) hj
theorem join_f (toks : List Tk) (hr : ∀ x ∈ toks, InRange x) (hn : toks.length ≤ 1000000) (hj : (joinB (wordsOf toks)).length ≤ 140737488355328) :
    Ev (fun k => lexer_Join.f k (toks.map to34)) (⟨(joinB (wordsOf toks)).toArray⟩ : ByteArray) := by
  have := join_l0 toks hr hn toks.length 0 [] (by omega) (by omega) (by simp) (by simpa using hj)
  unfold lexer_Join.f
  rw [List.length_map]
  simp only [List.drop_zero, List.nil_append] at this
  exact this
end Go.Proofs.Ytjfpaglnadfppaa.Pure
