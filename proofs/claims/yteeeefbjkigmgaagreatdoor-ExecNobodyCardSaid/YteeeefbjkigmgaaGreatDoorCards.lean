/-
  DERIVED. GIVEN WITH THE SEED: THE CARDS: each row of YteeeefbjkigmgaaGreatDoorRows.lean that lists a variable, with what it lists TIED to the program's text (the seventh form; the later family's looks); each row that meets fmt, with fmt's text TOLD by the authors' own Lean function (tested against real Go, not proved from fmt's source: count such statements apart). THE CARD IS WHAT COUNTS. Prove the row's statement (the work); the ties are given (YteeeefbjkigmgaaGreatDoorTie.lean); close each card by the builder's one call (the guide's Derived/Test/ToyasCard.lean, 'card_holds'). Laid BY PROGRAM, IN A SANDBOX (cutbox-door.mjs). By AI agents, Wed Nov 11 2026. No macro, syntax, notation, axiom, sorry.
-/
import Derived.Test.YteeeefbjkigmgaaGreatDoorRows
import GoSem.ClaimSeven
namespace Go.Proofs.YteeeefbjkigmgaaGreatDoor
namespace Rows

/-- THE TIED CARD OF 'cobweblaw26.ExecNobody'. -/
def execNobodyCard : Claim7 := { stood := { row := execNobodyRow, standIns := [], harness := (true, "5f91f6bf6714c21e4513ad7069a974a21837a0822dbdf85305e4a52d4bd1bab7"), looks := true }, kinds := [], alts := [], laidByText := true, laidKinds := [.data, .data, .data], laidTests := true, laidLooks := .later }
def ExecNobodyCardSaid : Prop := Claim7.holds Tryz.pinned (.plain (OpenSpec.ofChange execNobodySpec)) execNobodyCard

/-- THE SECOND FORM's CARD OF 'cobweblaw26.ExecNobody'. -/
def execNobodyUptoCard : Claim7 := { stood := { row := execNobodyUptoRow, standIns := [], harness := (true, "5f91f6bf6714c21e4513ad7069a974a21837a0822dbdf85305e4a52d4bd1bab7"), looks := true }, kinds := [], alts := [], laidByText := true, laidKinds := [.data, .data, .data], laidTests := true, laidLooks := .later }
def ExecNobodyUptoCardSaid : Prop := Claim7.holds Tryz.pinned (.plain (OpenSpec.upto execNobodySpec)) execNobodyUptoCard
end Rows
end Go.Proofs.YteeeefbjkigmgaaGreatDoor
