/-
  DERIVED. GIVEN WITH THE SEED: THE CARDS: each row of YtaajbcflmaihgaaDoorRows.lean that lists a variable, with what it lists TIED to the program's text (the seventh form; the later family's looks); each row that meets fmt, with fmt's text TOLD by the authors' own Lean function (tested against real Go, not proved from fmt's source: count such statements apart). THE CARD IS WHAT COUNTS. Prove the row's statement (the work); the ties are given (YtaajbcflmaihgaaDoorTie.lean); close each card by the builder's one call (the guide's Derived/Test/ToyasCard.lean, 'card_holds'). Laid BY PROGRAM, IN A SANDBOX (cutbox-door.mjs). By AI agents, Wed Nov 11 2026. No macro, syntax, notation, axiom, sorry.
-/
import Derived.Test.YtaajbcflmaihgaaDoorRows
import GoSem.ClaimSeven
namespace Go.Proofs.YtaajbcflmaihgaaDoor
namespace Rows

/-- THE TIED CARD OF 'burnishlaw23.ExprCheck'. -/
def exprCheckCard : Claim7 := { stood := { row := exprCheckRow, standIns := [], harness := (true, "e3e77abe8c292be50afa2067cfe352d4da47f37a105ad0f145fa46281e25d5c5"), looks := false }, kinds := [], alts := [], laidByText := true, laidKinds := [.data, .data, .data, .data], laidTests := true, laidLooks := .later }
def ExprCheckCardSaid : Prop := Claim7.holds Tryd.pinned (.plain (OpenSpec.ofChange exprCheckSpec)) exprCheckCard

/-- THE TIED CARD OF 'burnishlaw23.ExprExtends'. -/
def exprExtendsCard : Claim7 := { stood := { row := exprExtendsRow, standIns := [], harness := (true, "e3e77abe8c292be50afa2067cfe352d4da47f37a105ad0f145fa46281e25d5c5"), looks := false }, kinds := [], alts := [], laidByText := true, laidKinds := [.data, .data, .data, .data], laidTests := true, laidLooks := .later }
def ExprExtendsCardSaid : Prop := Claim7.holds Tryd.pinned (.plain (OpenSpec.ofChange exprExtendsSpec)) exprExtendsCard

/-- THE TIED CARD OF 'burnishlaw23.ExprBuilds'. -/
def exprBuildsCard : Claim7 := { stood := { row := exprBuildsRow, standIns := [], harness := (true, "e3e77abe8c292be50afa2067cfe352d4da47f37a105ad0f145fa46281e25d5c5"), looks := false }, kinds := [], alts := [], laidByText := true, laidKinds := [.data, .data, .data, .data], laidTests := true, laidLooks := .later }
def ExprBuildsCardSaid : Prop := Claim7.holds Tryd.pinned (.plain (OpenSpec.ofChange exprBuildsSpec)) exprBuildsCard

/-- THE TIED CARD OF 'burnishlaw23.ExprFormat'. -/
def exprFormatCard : Claim7 := { stood := { row := exprFormatRow, standIns := [], harness := (true, "e3e77abe8c292be50afa2067cfe352d4da47f37a105ad0f145fa46281e25d5c5"), looks := false }, kinds := [], alts := [], laidByText := true, laidKinds := [.data, .data, .data, .data], laidTests := true, laidLooks := .later }
def ExprFormatCardSaid : Prop := Claim7.holds Tryd.pinned (.plain (OpenSpec.ofChange exprFormatSpec)) exprFormatCard

/-- THE TIED CARD OF 'burnishlaw23.ExprRegs'. -/
def exprRegsCard : Claim7 := { stood := { row := exprRegsRow, standIns := [], harness := (true, "e3e77abe8c292be50afa2067cfe352d4da47f37a105ad0f145fa46281e25d5c5"), looks := false }, kinds := [], alts := [], laidByText := true, laidKinds := [.data, .data, .data, .data], laidTests := true, laidLooks := .later }
def ExprRegsCardSaid : Prop := Claim7.holds Tryd.pinned (.plain (OpenSpec.ofChange exprRegsSpec)) exprRegsCard

/-- THE SECOND FORM's CARD OF 'burnishlaw23.ExprCheck'. -/
def exprCheckUptoCard : Claim7 := { stood := { row := exprCheckUptoRow, standIns := [], harness := (true, "e3e77abe8c292be50afa2067cfe352d4da47f37a105ad0f145fa46281e25d5c5"), looks := false }, kinds := [], alts := [], laidByText := true, laidKinds := [.data, .data, .data, .data], laidTests := true, laidLooks := .later }
def ExprCheckUptoCardSaid : Prop := Claim7.holds Tryd.pinned (.plain (OpenSpec.upto exprCheckSpec)) exprCheckUptoCard

/-- THE SECOND FORM's CARD OF 'burnishlaw23.ExprExtends'. -/
def exprExtendsUptoCard : Claim7 := { stood := { row := exprExtendsUptoRow, standIns := [], harness := (true, "e3e77abe8c292be50afa2067cfe352d4da47f37a105ad0f145fa46281e25d5c5"), looks := false }, kinds := [], alts := [], laidByText := true, laidKinds := [.data, .data, .data, .data], laidTests := true, laidLooks := .later }
def ExprExtendsUptoCardSaid : Prop := Claim7.holds Tryd.pinned (.plain (OpenSpec.upto exprExtendsSpec)) exprExtendsUptoCard

/-- THE SECOND FORM's CARD OF 'burnishlaw23.ExprBuilds'. -/
def exprBuildsUptoCard : Claim7 := { stood := { row := exprBuildsUptoRow, standIns := [], harness := (true, "e3e77abe8c292be50afa2067cfe352d4da47f37a105ad0f145fa46281e25d5c5"), looks := false }, kinds := [], alts := [], laidByText := true, laidKinds := [.data, .data, .data, .data], laidTests := true, laidLooks := .later }
def ExprBuildsUptoCardSaid : Prop := Claim7.holds Tryd.pinned (.plain (OpenSpec.upto exprBuildsSpec)) exprBuildsUptoCard

/-- THE SECOND FORM's CARD OF 'burnishlaw23.ExprFormat'. -/
def exprFormatUptoCard : Claim7 := { stood := { row := exprFormatUptoRow, standIns := [], harness := (true, "e3e77abe8c292be50afa2067cfe352d4da47f37a105ad0f145fa46281e25d5c5"), looks := false }, kinds := [], alts := [], laidByText := true, laidKinds := [.data, .data, .data, .data], laidTests := true, laidLooks := .later }
def ExprFormatUptoCardSaid : Prop := Claim7.holds Tryd.pinned (.plain (OpenSpec.upto exprFormatSpec)) exprFormatUptoCard

/-- THE SECOND FORM's CARD OF 'burnishlaw23.ExprRegs'. -/
def exprRegsUptoCard : Claim7 := { stood := { row := exprRegsUptoRow, standIns := [], harness := (true, "e3e77abe8c292be50afa2067cfe352d4da47f37a105ad0f145fa46281e25d5c5"), looks := false }, kinds := [], alts := [], laidByText := true, laidKinds := [.data, .data, .data, .data], laidTests := true, laidLooks := .later }
def ExprRegsUptoCardSaid : Prop := Claim7.holds Tryd.pinned (.plain (OpenSpec.upto exprRegsSpec)) exprRegsUptoCard
end Rows
end Go.Proofs.YtaajbcflmaihgaaDoor
