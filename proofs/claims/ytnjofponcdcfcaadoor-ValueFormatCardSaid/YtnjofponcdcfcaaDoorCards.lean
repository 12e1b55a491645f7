/-
  DERIVED. GIVEN WITH THE SEED: THE CARDS: each row of YtnjofponcdcfcaaDoorRows.lean that lists a variable, with what it lists TIED to the program's text (the seventh form; the later family's looks); each row that meets fmt, with fmt's text TOLD by the authors' own Lean function (tested against real Go, not proved from fmt's source: count such statements apart). THE CARD IS WHAT COUNTS. Prove the row's statement (the work); the ties are given (YtnjofponcdcfcaaDoorTie.lean); close each card by the builder's one call (the guide's Derived/Test/ToyasCard.lean, 'card_holds'). Laid BY PROGRAM, IN A SANDBOX (cutbox-door.mjs). By AI agents, Wed Nov 11 2026. No macro, syntax, notation, axiom, sorry.
-/
import Derived.Test.YtnjofponcdcfcaaDoorRows
import GoSem.ClaimSeven
namespace Go.Proofs.YtnjofponcdcfcaaDoor
namespace Rows

/-- THE TIED CARD OF 'burnishlaw11.ValueMakes'. -/
def valueMakesCard : Claim7 := { stood := { row := valueMakesRow, standIns := [], harness := (true, "38ce631d83da990025bc5ba59973ef358fa8d73bb1ccf494d672810587526115"), looks := false }, kinds := [], alts := [], laidByText := true, laidKinds := [.data, .data, .data, .data, .data, .data], laidTests := true, laidLooks := .later }
def ValueMakesCardSaid : Prop := Claim7.holds Tryd.pinned (.plain (OpenSpec.ofChange valueMakesSpec)) valueMakesCard

/-- THE TIED CARD OF 'burnishlaw11.ValueIntegers'. -/
def valueIntegersCard : Claim7 := { stood := { row := valueIntegersRow, standIns := [], harness := (true, "38ce631d83da990025bc5ba59973ef358fa8d73bb1ccf494d672810587526115"), looks := false }, kinds := [], alts := [], laidByText := true, laidKinds := [.data, .data, .data, .data, .data, .data], laidTests := true, laidLooks := .later }
def ValueIntegersCardSaid : Prop := Claim7.holds Tryd.pinned (.plain (OpenSpec.ofChange valueIntegersSpec)) valueIntegersCard

/-- THE TIED CARD OF 'burnishlaw11.ValueMonotone'. -/
def valueMonotoneCard : Claim7 := { stood := { row := valueMonotoneRow, standIns := [], harness := (true, "38ce631d83da990025bc5ba59973ef358fa8d73bb1ccf494d672810587526115"), looks := false }, kinds := [], alts := [], laidByText := true, laidKinds := [.data, .data, .data, .data, .data, .data], laidTests := true, laidLooks := .later }
def ValueMonotoneCardSaid : Prop := Claim7.holds Tryd.pinned (.plain (OpenSpec.ofChange valueMonotoneSpec)) valueMonotoneCard

/-- THE TIED CARD OF 'burnishlaw11.ValueFormat'. -/
def valueFormatCard : Claim7 := { stood := { row := valueFormatRow, standIns := [], harness := (true, "38ce631d83da990025bc5ba59973ef358fa8d73bb1ccf494d672810587526115"), looks := false }, kinds := [], alts := [], laidByText := true, laidKinds := [.data, .data, .data, .data, .data, .data], laidTests := true, laidLooks := .later }
def ValueFormatCardSaid : Prop := Claim7.holds Tryd.pinned (.plain (OpenSpec.ofChange valueFormatSpec)) valueFormatCard

/-- THE TIED CARD OF 'burnishlaw11.ValueOrder'. -/
def valueOrderCard : Claim7 := { stood := { row := valueOrderRow, standIns := [], harness := (true, "38ce631d83da990025bc5ba59973ef358fa8d73bb1ccf494d672810587526115"), looks := false }, kinds := [], alts := [], laidByText := true, laidKinds := [.data, .data, .data, .data, .data, .data], laidTests := true, laidLooks := .later }
def ValueOrderCardSaid : Prop := Claim7.holds Tryd.pinned (.plain (OpenSpec.ofChange valueOrderSpec)) valueOrderCard

/-- THE TIED CARD OF 'burnishlaw11.ValueValid'. -/
def valueValidCard : Claim7 := { stood := { row := valueValidRow, standIns := [], harness := (true, "38ce631d83da990025bc5ba59973ef358fa8d73bb1ccf494d672810587526115"), looks := false }, kinds := [], alts := [], laidByText := true, laidKinds := [.data, .data, .data, .data, .data, .data], laidTests := true, laidLooks := .later }
def ValueValidCardSaid : Prop := Claim7.holds Tryd.pinned (.plain (OpenSpec.ofChange valueValidSpec)) valueValidCard

/-- THE SECOND FORM's CARD OF 'burnishlaw11.ValueMakes'. -/
def valueMakesUptoCard : Claim7 := { stood := { row := valueMakesUptoRow, standIns := [], harness := (true, "38ce631d83da990025bc5ba59973ef358fa8d73bb1ccf494d672810587526115"), looks := false }, kinds := [], alts := [], laidByText := true, laidKinds := [.data, .data, .data, .data, .data, .data], laidTests := true, laidLooks := .later }
def ValueMakesUptoCardSaid : Prop := Claim7.holds Tryd.pinned (.plain (OpenSpec.upto valueMakesSpec)) valueMakesUptoCard

/-- THE SECOND FORM's CARD OF 'burnishlaw11.ValueIntegers'. -/
def valueIntegersUptoCard : Claim7 := { stood := { row := valueIntegersUptoRow, standIns := [], harness := (true, "38ce631d83da990025bc5ba59973ef358fa8d73bb1ccf494d672810587526115"), looks := false }, kinds := [], alts := [], laidByText := true, laidKinds := [.data, .data, .data, .data, .data, .data], laidTests := true, laidLooks := .later }
def ValueIntegersUptoCardSaid : Prop := Claim7.holds Tryd.pinned (.plain (OpenSpec.upto valueIntegersSpec)) valueIntegersUptoCard

/-- THE SECOND FORM's CARD OF 'burnishlaw11.ValueMonotone'. -/
def valueMonotoneUptoCard : Claim7 := { stood := { row := valueMonotoneUptoRow, standIns := [], harness := (true, "38ce631d83da990025bc5ba59973ef358fa8d73bb1ccf494d672810587526115"), looks := false }, kinds := [], alts := [], laidByText := true, laidKinds := [.data, .data, .data, .data, .data, .data], laidTests := true, laidLooks := .later }
def ValueMonotoneUptoCardSaid : Prop := Claim7.holds Tryd.pinned (.plain (OpenSpec.upto valueMonotoneSpec)) valueMonotoneUptoCard

/-- THE SECOND FORM's CARD OF 'burnishlaw11.ValueFormat'. -/
def valueFormatUptoCard : Claim7 := { stood := { row := valueFormatUptoRow, standIns := [], harness := (true, "38ce631d83da990025bc5ba59973ef358fa8d73bb1ccf494d672810587526115"), looks := false }, kinds := [], alts := [], laidByText := true, laidKinds := [.data, .data, .data, .data, .data, .data], laidTests := true, laidLooks := .later }
def ValueFormatUptoCardSaid : Prop := Claim7.holds Tryd.pinned (.plain (OpenSpec.upto valueFormatSpec)) valueFormatUptoCard

/-- THE SECOND FORM's CARD OF 'burnishlaw11.ValueOrder'. -/
def valueOrderUptoCard : Claim7 := { stood := { row := valueOrderUptoRow, standIns := [], harness := (true, "38ce631d83da990025bc5ba59973ef358fa8d73bb1ccf494d672810587526115"), looks := false }, kinds := [], alts := [], laidByText := true, laidKinds := [.data, .data, .data, .data, .data, .data], laidTests := true, laidLooks := .later }
def ValueOrderUptoCardSaid : Prop := Claim7.holds Tryd.pinned (.plain (OpenSpec.upto valueOrderSpec)) valueOrderUptoCard

/-- THE SECOND FORM's CARD OF 'burnishlaw11.ValueValid'. -/
def valueValidUptoCard : Claim7 := { stood := { row := valueValidUptoRow, standIns := [], harness := (true, "38ce631d83da990025bc5ba59973ef358fa8d73bb1ccf494d672810587526115"), looks := false }, kinds := [], alts := [], laidByText := true, laidKinds := [.data, .data, .data, .data, .data, .data], laidTests := true, laidLooks := .later }
def ValueValidUptoCardSaid : Prop := Claim7.holds Tryd.pinned (.plain (OpenSpec.upto valueValidSpec)) valueValidUptoCard
end Rows
end Go.Proofs.YtnjofponcdcfcaaDoor
