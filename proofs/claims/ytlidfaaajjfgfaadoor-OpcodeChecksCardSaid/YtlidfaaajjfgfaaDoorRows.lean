/-
  NARROWER THAN 'FOR EVERY INPUT', by the rows' own cells (each row's printed sentence says how): OpcodeTells: laid · OpcodeChecks: laid · OpcodeNames: laid · OpcodeOnce: laid.
  DERIVED. THE GIVEN ROWS OF THIS SEAT. 4 by the template 'for every input the law returns true; each argument reads behind the call as it read before'; 0 by the template 'total and deterministic' (their statements: YtlidfaaajjfgfaaDoorTotals.lean).
  GIVEN WITH THE SEED: the statements are not yours to turn. If you find one false, say at which input.
  Laid BY PROGRAM, IN A SANDBOX (cutbox-rows.mjs): the forced cells as the released guide's own fill.sh prints them over the translation 3948367ddaeec19d… (all of the seat's roots in one cut). By AI agents, Wed Nov 11 2026. No macro, syntax, notation, axiom, sorry.
-/
import Derived.Test.YtlidfaaajjfgfaaDoorChecked
import GoSem.Claim
import GoSem.ClaimJoined
import GoSem.ClaimMapViews
import Derived.JoinedTies
import Derived.KernelRfl
namespace Go.Proofs.YtlidfaaajjfgfaaDoor
/- THE CELL 'sum', in the pinned program and in every row, IS THE sha256 OF THE DUMP (.gsa) THAT YtlidfaaajjfgfaaDoorProg.lean LOADS. Nothing in Lean hashes anything: it is a label: what it is worth is what the hold of that sum in a sandbox is worth. -/
noncomputable def Tryd.pinned : Pinned := { name := "ytlidfaaajjfgfaadoor", sum := "3948367ddaeec19dead93eba108099a1ee6691a6bd82e0169a56e9bcb0365a90", checked := Tryd.checked }
namespace Rows
def none {H : Type} : Left H := { results := [], args := [] }

/- WHAT THE LISTED PACKAGE-LEVEL VARIABLES READ AS WHEN THE CALL BEGINS. Each datum BY PROGRAM (the guide's laid-datum.mjs) off the statement by which the dump's own 'gosem.cut.vars' lays the variable. In a bare row this is a premise. The card (YtlidfaaajjfgfaaDoorCards.lean) ties it to the program's text. -/
def laid_burnish_intn_widths {H : Type} : DataW H := .agg [.lit (.int .i64 0), .lit (.int .i64 1), .lit (.int .i64 8), .lit (.int .i64 32), .lit (.int .i64 64)]

/-- 'burnishlaw12.OpcodeTells': WHATEVER THE INPUT: true; the input reads as it did. -/
def opcodeTellsSpec : ChangeSpec := { name := "opcodeTells", fn := fun _ => fun
  | [d1, d2, d3] => { results := [.lit (.bool true)], args := [d1, d2, d3] }
  | _ => none }
def opcodeTellsRow : OpenClaim := { program := "ytlidfaaajjfgfaadoor", sum := "3948367ddaeec19dead93eba108099a1ee6691a6bd82e0169a56e9bcb0365a90", func := "burnish/burnishlaw12.OpcodeTells", spec := "opcodeTells", named := ["burnish/intn.widths"], apart := false, laid := [("burnish/intn.widths", laid_burnish_intn_widths)] }
def OpcodeTellsSaid : Prop := opcodeTellsRow.holds Tryd.pinned (OpenSpec.ofChange opcodeTellsSpec)

/-- ITS FALSE NEIGHBOUR: 'it returns false'. Refute it at one input. -/
def opcodeTellsWrong : ChangeSpec := { name := "opcodeTells", fn := fun _ => fun
  | [d1, d2, d3] => { results := [.lit (.bool false)], args := [d1, d2, d3] }
  | _ => none }
def OpcodeTellsWrongFalsely : Prop := opcodeTellsRow.holds Tryd.pinned (OpenSpec.ofChange opcodeTellsWrong)

/-- 'burnishlaw12.OpcodeChecks': WHATEVER THE INPUT: true; the input reads as it did. -/
def opcodeChecksSpec : ChangeSpec := { name := "opcodeChecks", fn := fun _ => fun
  | [d1, d2, d3] => { results := [.lit (.bool true)], args := [d1, d2, d3] }
  | _ => none }
def opcodeChecksRow : OpenClaim := { program := "ytlidfaaajjfgfaadoor", sum := "3948367ddaeec19dead93eba108099a1ee6691a6bd82e0169a56e9bcb0365a90", func := "burnish/burnishlaw12.OpcodeChecks", spec := "opcodeChecks", named := ["burnish/intn.widths"], apart := false, laid := [("burnish/intn.widths", laid_burnish_intn_widths)] }
def OpcodeChecksSaid : Prop := opcodeChecksRow.holds Tryd.pinned (OpenSpec.ofChange opcodeChecksSpec)

/-- ITS FALSE NEIGHBOUR: 'it returns false'. Refute it at one input. -/
def opcodeChecksWrong : ChangeSpec := { name := "opcodeChecks", fn := fun _ => fun
  | [d1, d2, d3] => { results := [.lit (.bool false)], args := [d1, d2, d3] }
  | _ => none }
def OpcodeChecksWrongFalsely : Prop := opcodeChecksRow.holds Tryd.pinned (OpenSpec.ofChange opcodeChecksWrong)

/-- 'burnishlaw12.OpcodeNames': WHATEVER THE INPUT: true; the input reads as it did. -/
def opcodeNamesSpec : ChangeSpec := { name := "opcodeNames", fn := fun _ => fun
  | [] => { results := [.lit (.bool true)], args := [] }
  | _ => none }
def opcodeNamesRow : OpenClaim := { program := "ytlidfaaajjfgfaadoor", sum := "3948367ddaeec19dead93eba108099a1ee6691a6bd82e0169a56e9bcb0365a90", func := "burnish/burnishlaw12.OpcodeNames", spec := "opcodeNames", named := ["burnish/intn.widths"], apart := false, laid := [("burnish/intn.widths", laid_burnish_intn_widths)] }
def OpcodeNamesSaid : Prop := opcodeNamesRow.holds Tryd.pinned (OpenSpec.ofChange opcodeNamesSpec)

/-- ITS FALSE NEIGHBOUR: 'it returns false'. Refute it at one input. -/
def opcodeNamesWrong : ChangeSpec := { name := "opcodeNames", fn := fun _ => fun
  | [] => { results := [.lit (.bool false)], args := [] }
  | _ => none }
def OpcodeNamesWrongFalsely : Prop := opcodeNamesRow.holds Tryd.pinned (OpenSpec.ofChange opcodeNamesWrong)

/-- 'burnishlaw12.OpcodeOnce': WHATEVER THE INPUT: true; the input reads as it did. -/
def opcodeOnceSpec : ChangeSpec := { name := "opcodeOnce", fn := fun _ => fun
  | [d1, d2, d3, d4] => { results := [.lit (.bool true)], args := [d1, d2, d3, d4] }
  | _ => none }
def opcodeOnceRow : OpenClaim := { program := "ytlidfaaajjfgfaadoor", sum := "3948367ddaeec19dead93eba108099a1ee6691a6bd82e0169a56e9bcb0365a90", func := "burnish/burnishlaw12.OpcodeOnce", spec := "opcodeOnce", named := ["burnish/intn.widths"], apart := false, laid := [("burnish/intn.widths", laid_burnish_intn_widths)] }
def OpcodeOnceSaid : Prop := opcodeOnceRow.holds Tryd.pinned (OpenSpec.ofChange opcodeOnceSpec)

/-- ITS FALSE NEIGHBOUR: 'it returns false'. Refute it at one input. -/
def opcodeOnceWrong : ChangeSpec := { name := "opcodeOnce", fn := fun _ => fun
  | [d1, d2, d3, d4] => { results := [.lit (.bool false)], args := [d1, d2, d3, d4] }
  | _ => none }
def OpcodeOnceWrongFalsely : Prop := opcodeOnceRow.holds Tryd.pinned (OpenSpec.ofChange opcodeOnceWrong)

/- THE SECOND FORM. 'bulk': how many values and letters a reading holds, each counted each time it is reached (what is shared counts as often as it is met; a slice's spare places count too). A statement '..UptoSaid' is the law's where the arguments, and the package variables that the reading takes, are together of bulk at most 1048576: NARROWER than '..Said'. Prove '..Said' where nothing that the law and all that it calls make is longer than what came in: it says more and counts as full. Else prove '..UptoSaid'. A law counts once. -/
mutual
def uptoBulk {H : Type} : DataW H → Nat
  | .lit (.string bytes) => bytes.length + 1
  | .lit _ => 1
  | .nil => 1
  | .ptr d => uptoBulk d + 1
  | .slice elems spare => uptoBulkAll elems + uptoBulkAll spare + 1
  | .agg parts => uptoBulkAll parts + 1
  | .iface _ d => uptoBulk d + 1
  | .map entries => uptoBulkEntries entries + 1
  | .held _ => 1
def uptoBulkAll {H : Type} : List (DataW H) → Nat
  | [] => 0
  | d :: r => uptoBulk d + uptoBulkAll r
def uptoBulkEntries {H : Type} : List (Lit × DataW H) → Nat
  | [] => 0
  | x :: r => uptoBulkEntry x + uptoBulkEntries r
def uptoBulkEntry {H : Type} : Lit × DataW H → Nat
  | (.string bytes, d) => bytes.length + uptoBulk d + 1
  | (_, d) => uptoBulk d + 1
 end
def uptoSmall : (H : Type) → List (DataW H) → Bool := fun _ ds => decide (uptoBulkAll ds ≤ 1048576)
def OpenSpec.upto (s : _root_.Go.ChangeSpec) : _root_.Go.OpenSpec := { _root_.Go.OpenSpec.ofChange s with cond := some uptoSmall }

/-- 'burnishlaw12.OpcodeTells', WHERE WHAT IT READS IS OF BULK AT MOST 1048576: true; the input reads as it did. -/
def opcodeTellsUptoRow : OpenClaim := { program := "ytlidfaaajjfgfaadoor", sum := "3948367ddaeec19dead93eba108099a1ee6691a6bd82e0169a56e9bcb0365a90", func := "burnish/burnishlaw12.OpcodeTells", spec := "opcodeTells", named := ["burnish/intn.widths"], apart := false, laid := [("burnish/intn.widths", laid_burnish_intn_widths)], narrowed := true }
def OpcodeTellsUptoSaid : Prop := opcodeTellsUptoRow.holds Tryd.pinned (OpenSpec.upto opcodeTellsSpec)

/-- 'burnishlaw12.OpcodeChecks', WHERE WHAT IT READS IS OF BULK AT MOST 1048576: true; the input reads as it did. -/
def opcodeChecksUptoRow : OpenClaim := { program := "ytlidfaaajjfgfaadoor", sum := "3948367ddaeec19dead93eba108099a1ee6691a6bd82e0169a56e9bcb0365a90", func := "burnish/burnishlaw12.OpcodeChecks", spec := "opcodeChecks", named := ["burnish/intn.widths"], apart := false, laid := [("burnish/intn.widths", laid_burnish_intn_widths)], narrowed := true }
def OpcodeChecksUptoSaid : Prop := opcodeChecksUptoRow.holds Tryd.pinned (OpenSpec.upto opcodeChecksSpec)

/-- 'burnishlaw12.OpcodeNames', WHERE WHAT IT READS IS OF BULK AT MOST 1048576: true; the input reads as it did. -/
def opcodeNamesUptoRow : OpenClaim := { program := "ytlidfaaajjfgfaadoor", sum := "3948367ddaeec19dead93eba108099a1ee6691a6bd82e0169a56e9bcb0365a90", func := "burnish/burnishlaw12.OpcodeNames", spec := "opcodeNames", named := ["burnish/intn.widths"], apart := false, laid := [("burnish/intn.widths", laid_burnish_intn_widths)], narrowed := true }
def OpcodeNamesUptoSaid : Prop := opcodeNamesUptoRow.holds Tryd.pinned (OpenSpec.upto opcodeNamesSpec)

/-- 'burnishlaw12.OpcodeOnce', WHERE WHAT IT READS IS OF BULK AT MOST 1048576: true; the input reads as it did. -/
def opcodeOnceUptoRow : OpenClaim := { program := "ytlidfaaajjfgfaadoor", sum := "3948367ddaeec19dead93eba108099a1ee6691a6bd82e0169a56e9bcb0365a90", func := "burnish/burnishlaw12.OpcodeOnce", spec := "opcodeOnce", named := ["burnish/intn.widths"], apart := false, laid := [("burnish/intn.widths", laid_burnish_intn_widths)], narrowed := true }
def OpcodeOnceUptoSaid : Prop := opcodeOnceUptoRow.holds Tryd.pinned (OpenSpec.upto opcodeOnceSpec)

end Rows
end Go.Proofs.YtlidfaaajjfgfaaDoor
