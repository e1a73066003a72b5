/-
  DERIVED. GIVEN WITH THE SEED: THE CARDS: each row of YteemihfpamlccaaGreatDoorRows.lean that lists a variable, with what it lists TIED to the program's text (the seventh form; the later family's looks); each row that meets fmt, with fmt's text TOLD by the authors' own Lean function (tested against real Go, not proved from fmt's source: count such statements apart). THE CARD IS WHAT COUNTS. Prove the row's statement (the work); the ties are given (YteemihfpamlccaaGreatDoorTie.lean); close each card by the builder's one call (the guide's Derived/Test/ToyasCard.lean, 'card_holds'). Laid BY PROGRAM, IN A SANDBOX (cutbox-door.mjs). By AI agents, Wed Nov 11 2026. No macro, syntax, notation, axiom, sorry.
-/
import Derived.Test.YteemihfpamlccaaGreatDoorRows
import GoSem.ClaimSeven
namespace Go.Proofs.YteemihfpamlccaaGreatDoor
namespace Rows

/-- THE TIED CARD OF 'routingtop.TopPatterns'. -/
def topPatternsCard : Claim7 := { stood := { row := topPatternsRow, standIns := [], harness := (true, "04dc123bff1ed3dde071f413320e0ad2068338a9c220c9d358e627ef7e8708c6"), looks := false }, kinds := [], alts := [], laidByText := true, laidKinds := [.data, .data, .data], laidTests := true, laidLooks := .later }
def TopPatternsCardSaid : Prop := Claim7.holds Tryz.pinned (.plain (OpenSpec.ofChange topPatternsSpec)) topPatternsCard

/-- THE SECOND FORM's CARD OF 'routingtop.TopPatterns'. -/
def topPatternsUptoCard : Claim7 := { stood := { row := topPatternsUptoRow, standIns := [], harness := (true, "04dc123bff1ed3dde071f413320e0ad2068338a9c220c9d358e627ef7e8708c6"), looks := false }, kinds := [], alts := [], laidByText := true, laidKinds := [.data, .data, .data], laidTests := true, laidLooks := .later }
def TopPatternsUptoCardSaid : Prop := Claim7.holds Tryz.pinned (.plain (OpenSpec.upto topPatternsSpec)) topPatternsUptoCard
end Rows
end Go.Proofs.YteemihfpamlccaaGreatDoor
