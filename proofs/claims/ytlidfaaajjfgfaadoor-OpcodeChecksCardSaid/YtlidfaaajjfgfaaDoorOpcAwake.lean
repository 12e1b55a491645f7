/- The results that the document fixes are as it says: the law's own wake-up test answers true. No conditions. -/
import Derived.Test.YtlidfaaajjfgfaaDoorOpcChain
set_option linter.all false
namespace Go.Proofs.YtlidfaaajjfgfaaDoor
open Go Ab
set_option maxRecDepth 100000
theorem awake_says : exFn (gT t25) Tryd.f23 [] = some (true, .bool true) := of_isTru (by kernel_rfl)
def n23 : List AV → Option (Bool × AV)
  | [] => some (true, .bool true)
  | _ => none
noncomputable def tA : Tab := (23, n23) :: t25
theorem okA (hm : Tryd.prog.follows .mixedOrders = true) : TabOk tA := (ok25 hm).cons ((ok25 hm).read hm Tryd.func23 (by decide) (by rfl) (by
  intro xs r h
  match xs, h with
  | [], h => cases h; exact awake_says
  | _ :: _, h => cases h))
end Go.Proofs.YtlidfaaajjfgfaaDoor
