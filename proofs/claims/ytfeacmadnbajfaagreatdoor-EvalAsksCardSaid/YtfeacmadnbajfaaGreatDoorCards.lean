/-
  DERIVED. GIVEN WITH THE SEED: THE CARDS: each row of YtfeacmadnbajfaaGreatDoorRows.lean that lists a variable, with what it lists TIED to the program's text (the seventh form; the later family's looks); each row that meets fmt, with fmt's text TOLD by the authors' own Lean function (tested against real Go, not proved from fmt's source: count such statements apart). THE CARD IS WHAT COUNTS. Prove the row's statement (the work); the ties are given (YtfeacmadnbajfaaGreatDoorTie.lean); close each card by the builder's one call (the guide's Derived/Test/ToyasCard.lean, 'card_holds'). Laid BY PROGRAM, IN A SANDBOX (cutbox-door.mjs). By AI agents, Wed Nov 11 2026. No macro, syntax, notation, axiom, sorry.
-/
import Derived.Test.YtfeacmadnbajfaaGreatDoorRows
import GoSem.ClaimSeven
namespace Go.Proofs.YtfeacmadnbajfaaGreatDoor
namespace Rows

/-- THE TIED CARD OF 'cobweblaw22.EvalSums'. -/
def evalSumsCard : Claim7 := { stood := { row := evalSumsRow, standIns := [], harness := (true, "cddd5b2167865e3090ea5ec631ccd5c7f4e3f06deb270ee8b0aef542fbed2006"), looks := false }, kinds := [], alts := [], laidByText := true, laidKinds := [.data, .data, .data], laidTests := true, laidLooks := .later }
def EvalSumsCardSaid : Prop := Claim7.holds Tryz.pinned (.plain (OpenSpec.ofChange evalSumsSpec)) evalSumsCard

/-- THE TIED CARD OF 'cobweblaw22.EvalTurns'. -/
def evalTurnsCard : Claim7 := { stood := { row := evalTurnsRow, standIns := [], harness := (true, "cddd5b2167865e3090ea5ec631ccd5c7f4e3f06deb270ee8b0aef542fbed2006"), looks := false }, kinds := [], alts := [], laidByText := true, laidKinds := [.data, .data, .data], laidTests := true, laidLooks := .later }
def EvalTurnsCardSaid : Prop := Claim7.holds Tryz.pinned (.plain (OpenSpec.ofChange evalTurnsSpec)) evalTurnsCard

/-- THE TIED CARD OF 'cobweblaw22.EvalAsks'. -/
def evalAsksCard : Claim7 := { stood := { row := evalAsksRow, standIns := [], harness := (true, "cddd5b2167865e3090ea5ec631ccd5c7f4e3f06deb270ee8b0aef542fbed2006"), looks := false }, kinds := [], alts := [], laidByText := true, laidKinds := [.data, .data, .data], laidTests := true, laidLooks := .later }
def EvalAsksCardSaid : Prop := Claim7.holds Tryz.pinned (.plain (OpenSpec.ofChange evalAsksSpec)) evalAsksCard

/-- THE TIED CARD OF 'cobweblaw22.EvalSplits'. -/
def evalSplitsCard : Claim7 := { stood := { row := evalSplitsRow, standIns := [], harness := (true, "cddd5b2167865e3090ea5ec631ccd5c7f4e3f06deb270ee8b0aef542fbed2006"), looks := false }, kinds := [], alts := [], laidByText := true, laidKinds := [.data, .data, .data], laidTests := true, laidLooks := .later }
def EvalSplitsCardSaid : Prop := Claim7.holds Tryz.pinned (.plain (OpenSpec.ofChange evalSplitsSpec)) evalSplitsCard

/-- THE TIED CARD OF 'cobweblaw21.TypesNames'. -/
def typesNamesCard : Claim7 := { stood := { row := typesNamesRow, standIns := [], harness := (true, "cddd5b2167865e3090ea5ec631ccd5c7f4e3f06deb270ee8b0aef542fbed2006"), looks := false }, kinds := [], alts := [], laidByText := true, laidKinds := [.data, .data, .data], laidTests := true, laidLooks := .later }
def TypesNamesCardSaid : Prop := Claim7.holds Tryz.pinned (.plain (OpenSpec.ofChange typesNamesSpec)) typesNamesCard

/-- THE TIED CARD OF 'cobweblaw19.SyntaxTells'. -/
def syntaxTellsCard : Claim7 := { stood := { row := syntaxTellsRow, standIns := [], harness := (true, "cddd5b2167865e3090ea5ec631ccd5c7f4e3f06deb270ee8b0aef542fbed2006"), looks := false }, kinds := [], alts := [], laidByText := true, laidKinds := [.data, .data, .data], laidTests := true, laidLooks := .later }
def SyntaxTellsCardSaid : Prop := Claim7.holds Tryz.pinned (.plain (OpenSpec.ofChange syntaxTellsSpec)) syntaxTellsCard

/-- THE SECOND FORM's CARD OF 'cobweblaw22.EvalSums'. -/
def evalSumsUptoCard : Claim7 := { stood := { row := evalSumsUptoRow, standIns := [], harness := (true, "cddd5b2167865e3090ea5ec631ccd5c7f4e3f06deb270ee8b0aef542fbed2006"), looks := false }, kinds := [], alts := [], laidByText := true, laidKinds := [.data, .data, .data], laidTests := true, laidLooks := .later }
def EvalSumsUptoCardSaid : Prop := Claim7.holds Tryz.pinned (.plain (OpenSpec.upto evalSumsSpec)) evalSumsUptoCard

/-- THE SECOND FORM's CARD OF 'cobweblaw22.EvalTurns'. -/
def evalTurnsUptoCard : Claim7 := { stood := { row := evalTurnsUptoRow, standIns := [], harness := (true, "cddd5b2167865e3090ea5ec631ccd5c7f4e3f06deb270ee8b0aef542fbed2006"), looks := false }, kinds := [], alts := [], laidByText := true, laidKinds := [.data, .data, .data], laidTests := true, laidLooks := .later }
def EvalTurnsUptoCardSaid : Prop := Claim7.holds Tryz.pinned (.plain (OpenSpec.upto evalTurnsSpec)) evalTurnsUptoCard

/-- THE SECOND FORM's CARD OF 'cobweblaw22.EvalAsks'. -/
def evalAsksUptoCard : Claim7 := { stood := { row := evalAsksUptoRow, standIns := [], harness := (true, "cddd5b2167865e3090ea5ec631ccd5c7f4e3f06deb270ee8b0aef542fbed2006"), looks := false }, kinds := [], alts := [], laidByText := true, laidKinds := [.data, .data, .data], laidTests := true, laidLooks := .later }
def EvalAsksUptoCardSaid : Prop := Claim7.holds Tryz.pinned (.plain (OpenSpec.upto evalAsksSpec)) evalAsksUptoCard

/-- THE SECOND FORM's CARD OF 'cobweblaw22.EvalSplits'. -/
def evalSplitsUptoCard : Claim7 := { stood := { row := evalSplitsUptoRow, standIns := [], harness := (true, "cddd5b2167865e3090ea5ec631ccd5c7f4e3f06deb270ee8b0aef542fbed2006"), looks := false }, kinds := [], alts := [], laidByText := true, laidKinds := [.data, .data, .data], laidTests := true, laidLooks := .later }
def EvalSplitsUptoCardSaid : Prop := Claim7.holds Tryz.pinned (.plain (OpenSpec.upto evalSplitsSpec)) evalSplitsUptoCard

/-- THE SECOND FORM's CARD OF 'cobweblaw21.TypesNames'. -/
def typesNamesUptoCard : Claim7 := { stood := { row := typesNamesUptoRow, standIns := [], harness := (true, "cddd5b2167865e3090ea5ec631ccd5c7f4e3f06deb270ee8b0aef542fbed2006"), looks := false }, kinds := [], alts := [], laidByText := true, laidKinds := [.data, .data, .data], laidTests := true, laidLooks := .later }
def TypesNamesUptoCardSaid : Prop := Claim7.holds Tryz.pinned (.plain (OpenSpec.upto typesNamesSpec)) typesNamesUptoCard

/-- THE SECOND FORM's CARD OF 'cobweblaw19.SyntaxTells'. -/
def syntaxTellsUptoCard : Claim7 := { stood := { row := syntaxTellsUptoRow, standIns := [], harness := (true, "cddd5b2167865e3090ea5ec631ccd5c7f4e3f06deb270ee8b0aef542fbed2006"), looks := false }, kinds := [], alts := [], laidByText := true, laidKinds := [.data, .data, .data], laidTests := true, laidLooks := .later }
def SyntaxTellsUptoCardSaid : Prop := Claim7.holds Tryz.pinned (.plain (OpenSpec.upto syntaxTellsSpec)) syntaxTellsUptoCard
end Rows
end Go.Proofs.YtfeacmadnbajfaaGreatDoor
