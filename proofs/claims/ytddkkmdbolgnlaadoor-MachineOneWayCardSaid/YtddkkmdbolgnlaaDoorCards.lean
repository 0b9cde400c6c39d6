/-
  DERIVED. GIVEN WITH THE SEED: THE CARDS: each row of YtddkkmdbolgnlaaDoorRows.lean that lists a variable, with what it lists TIED to the program's text (the seventh form; the later family's looks); each row that meets fmt, with fmt's text TOLD by the authors' own Lean function (tested against real Go, not proved from fmt's source: count such statements apart). THE CARD IS WHAT COUNTS. Prove the row's statement (the work); the ties are given (YtddkkmdbolgnlaaDoorTie.lean); close each card by the builder's one call (the guide's Derived/Test/ToyasCard.lean, 'card_holds'). Laid BY PROGRAM, IN A SANDBOX (cutbox-door.mjs). By AI agents, Wed Nov 11 2026. No macro, syntax, notation, axiom, sorry.
-/
import Derived.Test.YtddkkmdbolgnlaaDoorRows
import GoSem.ClaimSeven
namespace Go.Proofs.YtddkkmdbolgnlaaDoor
namespace Rows

/-- THE TIED CARD OF 'loanwordlaw27.MachineOneWay'. -/
def machineOneWayCard : Claim7 := { stood := { row := machineOneWayRow, standIns := [], harness := (true, "64685ee0358602344606397135cdb713634979017a766077dbfb615e03fe4249"), looks := true }, kinds := [], alts := [], laidByText := true, laidKinds := [.listed, .data], laidTests := true, laidLooks := .later }
def MachineOneWayCardSaid : Prop := Claim7.holds Tryd.pinned (.plain (OpenSpec.ofChange machineOneWaySpec)) machineOneWayCard

/-- THE SECOND FORM's CARD OF 'loanwordlaw27.MachineOneWay'. -/
def machineOneWayUptoCard : Claim7 := { stood := { row := machineOneWayUptoRow, standIns := [], harness := (true, "64685ee0358602344606397135cdb713634979017a766077dbfb615e03fe4249"), looks := true }, kinds := [], alts := [], laidByText := true, laidKinds := [.listed, .data], laidTests := true, laidLooks := .later }
def MachineOneWayUptoCardSaid : Prop := Claim7.holds Tryd.pinned (.plain (OpenSpec.upto machineOneWaySpec)) machineOneWayUptoCard
end Rows
end Go.Proofs.YtddkkmdbolgnlaaDoor
