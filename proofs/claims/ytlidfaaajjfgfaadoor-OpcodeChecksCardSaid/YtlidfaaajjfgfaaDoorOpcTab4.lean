/- The table of contracts for the laws on the check of an instruction. -/
import Derived.Test.YtlidfaaajjfgfaaDoorOpcChk
set_option linter.all false
namespace Go.Proofs.YtlidfaaajjfgfaaDoor
open Go Ab
noncomputable def dA : Tab := (23, n23) :: d24
theorem dkA (hm : Tryd.prog.follows .mixedOrders = true) : TabOk dA := (dk24 hm).cons (okA hm 23 n23 (by rfl))
end Go.Proofs.YtlidfaaajjfgfaaDoor
