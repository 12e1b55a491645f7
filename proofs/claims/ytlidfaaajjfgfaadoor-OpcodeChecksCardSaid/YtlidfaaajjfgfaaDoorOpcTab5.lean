/- The contract of the reference's check. No conditions. -/
import Derived.Test.YtlidfaaajjfgfaaDoorOpcRef8
set_option linter.all false
namespace Go.Proofs.YtlidfaaajjfgfaaDoor
open Go Ab
def okImm (n : Int) : Bool := decide (-9223372036854775808 ≤ n ∧ n ≤ 9223372036854775807)
noncomputable def n25 (xs : List AV) : Option (Bool × AV) :=
  match xs with
  | [a, b, c] => (asIns a).bind fun i => (asFun b).bind fun f => (asMod c).bind fun m => some (sAnd (len1000 i.2.2.2.1.length) (okImm i.2.2.2.2.1), .int .i64 (chkV i.1 i.2.1 i.2.2.1 i.2.2.2.1 i.2.2.2.2.1 i.2.2.2.2.2.1 i.2.2.2.2.2.2.1 i.2.2.2.2.2.2.2 f.2.2.2.1 m.1 m.2))
  | _ => none
noncomputable def e25T : Tab := (25, n25) :: e39T
theorem ek25 (hm : Tryd.prog.follows .mixedOrders = true) : TabOk e25T := (ek39 hm).cons (TabOk.readW (ek39 hm) hm Tryd.func25 (by decide) (by rfl) (by
  intro xs r h
  unfold n25 at h
  split at h
  · simp only [Option.bind_eq_some_iff, Option.some.injEq, Prod.mk.injEq] at h
    obtain ⟨i, hi, f, hf, m, hm, h1, rfl⟩ := h
    simp only [sAnd, Bool.and_eq_true, okImm, decide_eq_true_eq] at h1
    rw [asIns_eq hi, asFun_eq hf, asMod_eq hm]
    exact nat25 (Nat.le_of_ble_eq_true h1.1) h1.2.1 h1.2.2
  · cases h))
end Go.Proofs.YtlidfaaajjfgfaaDoor
