/- The contracts of the parts of the check of an instruction. No conditions. -/
import Derived.Test.YtlidfaaajjfgfaaDoorOpcParts
set_option linter.all false
namespace Go.Proofs.YtlidfaaajjfgfaaDoor
open Go Ab
open Classical in
noncomputable def fitsB (op : Int) (n : Nat) (sym : Int) (fs : List funS.den) : Bool := decide (fits op n sym fs)
open Classical in
theorem fits_of {op : Int} {n : Nat} {sym : Int} {fs : List funS.den} (h : fitsB op n sym fs = true) : fits op n sym fs := of_decide_eq_true h
open Classical in
theorem of_fits {op : Int} {n : Nat} {sym : Int} {fs : List funS.den} (h : fits op n sym fs) : fitsB op n sym fs = true := decide_eq_true h
def okC (op sym : Int) (fs : List funS.den) : Bool := decide (1 ≤ op) && (decide (op ≤ 33) && (if op = 30 then decide (0 ≤ sym) && decide (sym < (fs.length : Int)) else true))
def okR (ty dst : Int) (regs : List Int) : Bool := decide (ty = 0 ∨ dst = -1 ∨ (0 ≤ dst ∧ dst < (regs.length : Int)))
def okI (op : Int) (n : Nat) : Bool := decide (op = 33 → 1 ≤ n)
noncomputable def n30 (xs : List AV) : Option (Bool × AV) :=
  match xs with
  | [a] => (asIns a).bind fun i => some (true, .int .i64 (fieldsV i.1 i.2.2.2.2.1 i.2.2.2.2.2.1 i.2.2.2.2.2.2.1 i.2.2.2.2.2.2.2))
  | _ => none
noncomputable def d30 : Tab := (30, n30) :: b46
theorem dk30 (hm : Tryd.prog.follows .mixedOrders = true) : TabOk d30 := (bk46 hm).cons (TabOk.readW (bk46 hm) hm Tryd.func30 (by decide) (by rfl) (by
  intro xs r h
  unfold n30 at h
  split at h
  · simp only [Option.bind_eq_some_iff, Option.some.injEq, Prod.mk.injEq] at h
    obtain ⟨i, hi, h1, rfl⟩ := h
    rw [asIns_eq hi]
    exact (nf30 _ _ _ _ _ _ _ _).trans (eta30 _ _ _ _ _ (good30 _ _ _ _ _))
  · cases h))
noncomputable def n31 (xs : List AV) : Option (Bool × AV) :=
  match xs with
  | [a, c] => (asIns a).bind fun i => (asMod c).bind fun m => some (true, .int .i64 (symV i.1 i.2.2.2.2.2.1 m.1 m.2))
  | _ => none
noncomputable def d31 : Tab := (31, n31) :: d30
theorem dk31 (hm : Tryd.prog.follows .mixedOrders = true) : TabOk d31 := (dk30 hm).cons (TabOk.readW (bk46 hm) hm Tryd.func31 (by decide) (by rfl) (by
  intro xs r h
  unfold n31 at h
  split at h
  · simp only [Option.bind_eq_some_iff, Option.some.injEq, Prod.mk.injEq] at h
    obtain ⟨i, hi, m, hm, h1, rfl⟩ := h
    rw [asIns_eq hi, asMod_eq hm]
    exact (nf31 _ _ _ _ _ _ _ _ _ _).trans (eta31 _ _ _ _ (good31 _ _ _ _))
  · cases h))
noncomputable def n32 (xs : List AV) : Option (Bool × AV) :=
  match xs with
  | [a, c] => (asIns a).bind fun i => (asMod c).bind fun m => some (okC i.1 i.2.2.2.2.2.1 m.2, .int .i64 (countV i.1 i.2.2.2.1 i.2.2.2.2.2.1 m.2))
  | _ => none
noncomputable def d32 : Tab := (32, n32) :: d31
theorem dk32 (hm : Tryd.prog.follows .mixedOrders = true) : TabOk d32 := (dk31 hm).cons (TabOk.readW (bk46 hm) hm Tryd.func32 (by decide) (by rfl) (by
  intro xs r h
  unfold n32 at h
  split at h
  · simp only [Option.bind_eq_some_iff, Option.some.injEq, Prod.mk.injEq] at h
    obtain ⟨i, hi, m, hm, h1, rfl⟩ := h
    rw [asIns_eq hi, asMod_eq hm]
    exact (nf32 _ _ _ _ _ _ _ _ _ _).trans (eta32 _ _ _ _ (by simp only [okC, Bool.and_eq_true, decide_eq_true_eq] at h1; exact good32 _ _ _ _ h1.1 h1.2.1 (fun e => by have := h1.2.2; rw [if_pos e] at this; simpa using this)))
  · cases h))
noncomputable def n33 (xs : List AV) : Option (Bool × AV) :=
  match xs with
  | [a, b, c] => (asIns a).bind fun i => (asInts b).bind fun l => (asMod c).bind fun m => some (fitsB i.1 l.length i.2.2.2.2.2.1 m.2, .bool (typedV i.1 i.2.1 i.2.2.2.2.2.1 l m.2))
  | _ => none
noncomputable def d33 : Tab := (33, n33) :: d32
theorem dk33 (hm : Tryd.prog.follows .mixedOrders = true) : TabOk d33 := (dk32 hm).cons (TabOk.readW (bk46 hm) hm Tryd.func33 (by decide) (by rfl) (by
  intro xs r h
  unfold n33 at h
  split at h
  · simp only [Option.bind_eq_some_iff, Option.some.injEq, Prod.mk.injEq] at h
    obtain ⟨i, hi, l, hl, m, hm, h1, rfl⟩ := h
    rw [asIns_eq hi, asInts_eq hl, asMod_eq hm]
    exact (nf33 _ _ _ _ _ _ _ _ _ _ _).trans (eta33 _ _ _ _ _ (good33 _ _ _ _ _ (fits_of h1)))
  · cases h))
noncomputable def n34 (xs : List AV) : Option (Bool × AV) :=
  match xs with
  | [a, c] => (asIns a).bind fun i => (asFun c).bind fun f => some (okR i.2.1 i.2.2.1 f.2.2.2.1, .bool (resV i.1 i.2.1 i.2.2.1 f.2.2.2.1))
  | _ => none
noncomputable def d34 : Tab := (34, n34) :: d33
theorem dk34 (hm : Tryd.prog.follows .mixedOrders = true) : TabOk d34 := (dk33 hm).cons (TabOk.readW (bk46 hm) hm Tryd.func34 (by decide) (by rfl) (by
  intro xs r h
  unfold n34 at h
  split at h
  · simp only [Option.bind_eq_some_iff, Option.some.injEq, Prod.mk.injEq] at h
    obtain ⟨i, hi, f, hf, h1, rfl⟩ := h
    rw [asIns_eq hi, asFun_eq hf]
    exact (nf34 _ _ _ _ _ _ _ _ _ _ _ _ _).trans (eta34 _ _ _ _ (by simp only [okR, decide_eq_true_eq] at h1; exact good34 _ _ _ _ (fun e1 e2 => by rcases h1 with h | h | h; exact absurd h e1; exact absurd h e2; exact h)))
  · cases h))
noncomputable def n35 (xs : List AV) : Option (Bool × AV) :=
  match xs with
  | [a, b] => (asIns a).bind fun i => (asInts b).bind fun l => some (okI i.1 l.length, .int .i64 (immV i.1 i.2.1 i.2.2.2.2.1 i.2.2.2.2.2.2.1 l))
  | _ => none
noncomputable def d35 : Tab := (35, n35) :: d34
theorem dk35 (hm : Tryd.prog.follows .mixedOrders = true) : TabOk d35 := (dk34 hm).cons (TabOk.readW (bk46 hm) hm Tryd.func35 (by decide) (by rfl) (by
  intro xs r h
  unfold n35 at h
  split at h
  · simp only [Option.bind_eq_some_iff, Option.some.injEq, Prod.mk.injEq] at h
    obtain ⟨i, hi, l, hl, h1, rfl⟩ := h
    rw [asIns_eq hi, asInts_eq hl]
    exact (nf35 _ _ _ _ _ _ _ _ _).trans (eta35 _ _ _ _ _ (by simp only [okI, decide_eq_true_eq] at h1; exact good35 _ _ _ _ _ h1))
  · cases h))
end Go.Proofs.YtlidfaaajjfgfaaDoor
