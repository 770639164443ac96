/-
  DERIVED. GIVEN WITH THE SEED: THE CARDS: each row of YtlpfdgkfdgehnaaDoorRows.lean that lists a variable, with what it lists TIED to the program's text (the seventh form; the later family's looks); each row that meets fmt, with fmt's text TOLD by the authors' own Lean function (tested against real Go, not proved from fmt's source: count such statements apart). THE CARD IS WHAT COUNTS. Prove the row's statement (the work); the ties are given (YtlpfdgkfdgehnaaDoorTie.lean); close each card by the builder's one call (the guide's Derived/Test/ToyasCard.lean, 'card_holds'). Laid BY PROGRAM, IN A SANDBOX (cutbox-door.mjs). By AI agents, Wed Nov 11 2026. No macro, syntax, notation, axiom, sorry.
-/
import Derived.Test.YtlpfdgkfdgehnaaDoorRows
import GoSem.ClaimSeven
namespace Go.Proofs.YtlpfdgkfdgehnaaDoor
namespace Rows

/-- THE TIED CARD OF 'cobweblaw19.SyntaxApart'. -/
def syntaxApartCard : Claim7 := { stood := { row := syntaxApartRow, standIns := [], harness := (true, "a3fce499bd088b4576b71c43709e8f50847a23db03466610ccb8e06333c53093"), looks := false }, kinds := [], alts := [], laidByText := true, laidKinds := [.data, .data, .data], laidTests := true, laidLooks := .later }
def SyntaxApartCardSaid : Prop := Claim7.holds Tryd.pinned (.plain (OpenSpec.ofChange syntaxApartSpec)) syntaxApartCard

/-- THE SECOND FORM's CARD OF 'cobweblaw19.SyntaxApart'. -/
def syntaxApartUptoCard : Claim7 := { stood := { row := syntaxApartUptoRow, standIns := [], harness := (true, "a3fce499bd088b4576b71c43709e8f50847a23db03466610ccb8e06333c53093"), looks := false }, kinds := [], alts := [], laidByText := true, laidKinds := [.data, .data, .data], laidTests := true, laidLooks := .later }
def SyntaxApartUptoCardSaid : Prop := Claim7.holds Tryd.pinned (.plain (OpenSpec.upto syntaxApartSpec)) syntaxApartUptoCard
end Rows
end Go.Proofs.YtlpfdgkfdgehnaaDoor
