/-
  DERIVED. GIVEN WITH THE SEED: THE CARDS: each row of YtlidfaaajjfgfaaDoorRows.lean that lists a variable, with what it lists TIED to the program's text (the seventh form; the later family's looks); each row that meets fmt, with fmt's text TOLD by the authors' own Lean function (tested against real Go, not proved from fmt's source: count such statements apart). THE CARD IS WHAT COUNTS. Prove the row's statement (the work); the ties are given (YtlidfaaajjfgfaaDoorTie.lean); close each card by the builder's one call (the guide's Derived/Test/ToyasCard.lean, 'card_holds'). Laid BY PROGRAM, IN A SANDBOX (cutbox-door.mjs). By AI agents, Wed Nov 11 2026. No macro, syntax, notation, axiom, sorry.
-/
import Derived.Test.YtlidfaaajjfgfaaDoorRows
import GoSem.ClaimSeven
namespace Go.Proofs.YtlidfaaajjfgfaaDoor
namespace Rows

/-- THE TIED CARD OF 'burnishlaw12.OpcodeTells'. -/
def opcodeTellsCard : Claim7 := { stood := { row := opcodeTellsRow, standIns := [], harness := (true, "079c9b5a7fe1ac23821c047d6b0535eafb0c4d9b315298a3374d76c632ca51dc"), looks := false }, kinds := [], alts := [], laidByText := true, laidKinds := [.data], laidTests := true, laidLooks := .later }
def OpcodeTellsCardSaid : Prop := Claim7.holds Tryd.pinned (.plain (OpenSpec.ofChange opcodeTellsSpec)) opcodeTellsCard

/-- THE TIED CARD OF 'burnishlaw12.OpcodeChecks'. -/
def opcodeChecksCard : Claim7 := { stood := { row := opcodeChecksRow, standIns := [], harness := (true, "079c9b5a7fe1ac23821c047d6b0535eafb0c4d9b315298a3374d76c632ca51dc"), looks := false }, kinds := [], alts := [], laidByText := true, laidKinds := [.data], laidTests := true, laidLooks := .later }
def OpcodeChecksCardSaid : Prop := Claim7.holds Tryd.pinned (.plain (OpenSpec.ofChange opcodeChecksSpec)) opcodeChecksCard

/-- THE TIED CARD OF 'burnishlaw12.OpcodeNames'. -/
def opcodeNamesCard : Claim7 := { stood := { row := opcodeNamesRow, standIns := [], harness := (true, "079c9b5a7fe1ac23821c047d6b0535eafb0c4d9b315298a3374d76c632ca51dc"), looks := false }, kinds := [], alts := [], laidByText := true, laidKinds := [.data], laidTests := true, laidLooks := .later }
def OpcodeNamesCardSaid : Prop := Claim7.holds Tryd.pinned (.plain (OpenSpec.ofChange opcodeNamesSpec)) opcodeNamesCard

/-- THE TIED CARD OF 'burnishlaw12.OpcodeOnce'. -/
def opcodeOnceCard : Claim7 := { stood := { row := opcodeOnceRow, standIns := [], harness := (true, "079c9b5a7fe1ac23821c047d6b0535eafb0c4d9b315298a3374d76c632ca51dc"), looks := false }, kinds := [], alts := [], laidByText := true, laidKinds := [.data], laidTests := true, laidLooks := .later }
def OpcodeOnceCardSaid : Prop := Claim7.holds Tryd.pinned (.plain (OpenSpec.ofChange opcodeOnceSpec)) opcodeOnceCard

/-- THE SECOND FORM's CARD OF 'burnishlaw12.OpcodeTells'. -/
def opcodeTellsUptoCard : Claim7 := { stood := { row := opcodeTellsUptoRow, standIns := [], harness := (true, "079c9b5a7fe1ac23821c047d6b0535eafb0c4d9b315298a3374d76c632ca51dc"), looks := false }, kinds := [], alts := [], laidByText := true, laidKinds := [.data], laidTests := true, laidLooks := .later }
def OpcodeTellsUptoCardSaid : Prop := Claim7.holds Tryd.pinned (.plain (OpenSpec.upto opcodeTellsSpec)) opcodeTellsUptoCard

/-- THE SECOND FORM's CARD OF 'burnishlaw12.OpcodeChecks'. -/
def opcodeChecksUptoCard : Claim7 := { stood := { row := opcodeChecksUptoRow, standIns := [], harness := (true, "079c9b5a7fe1ac23821c047d6b0535eafb0c4d9b315298a3374d76c632ca51dc"), looks := false }, kinds := [], alts := [], laidByText := true, laidKinds := [.data], laidTests := true, laidLooks := .later }
def OpcodeChecksUptoCardSaid : Prop := Claim7.holds Tryd.pinned (.plain (OpenSpec.upto opcodeChecksSpec)) opcodeChecksUptoCard

/-- THE SECOND FORM's CARD OF 'burnishlaw12.OpcodeNames'. -/
def opcodeNamesUptoCard : Claim7 := { stood := { row := opcodeNamesUptoRow, standIns := [], harness := (true, "079c9b5a7fe1ac23821c047d6b0535eafb0c4d9b315298a3374d76c632ca51dc"), looks := false }, kinds := [], alts := [], laidByText := true, laidKinds := [.data], laidTests := true, laidLooks := .later }
def OpcodeNamesUptoCardSaid : Prop := Claim7.holds Tryd.pinned (.plain (OpenSpec.upto opcodeNamesSpec)) opcodeNamesUptoCard

/-- THE SECOND FORM's CARD OF 'burnishlaw12.OpcodeOnce'. -/
def opcodeOnceUptoCard : Claim7 := { stood := { row := opcodeOnceUptoRow, standIns := [], harness := (true, "079c9b5a7fe1ac23821c047d6b0535eafb0c4d9b315298a3374d76c632ca51dc"), looks := false }, kinds := [], alts := [], laidByText := true, laidKinds := [.data], laidTests := true, laidLooks := .later }
def OpcodeOnceUptoCardSaid : Prop := Claim7.holds Tryd.pinned (.plain (OpenSpec.upto opcodeOnceSpec)) opcodeOnceUptoCard
end Rows
end Go.Proofs.YtlidfaaajjfgfaaDoor
