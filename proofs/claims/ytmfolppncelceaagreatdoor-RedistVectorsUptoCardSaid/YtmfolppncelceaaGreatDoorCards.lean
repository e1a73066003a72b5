/-
  DERIVED. GIVEN WITH THE SEED: THE CARDS: each row of YtmfolppncelceaaGreatDoorRows.lean that lists a variable, with what it lists TIED to the program's text (the seventh form; the later family's looks); each row that meets fmt, with fmt's text TOLD by the authors' own Lean function (tested against real Go, not proved from fmt's source: count such statements apart). THE CARD IS WHAT COUNTS. Prove the row's statement (the work); the ties are given (YtmfolppncelceaaGreatDoorTie.lean); close each card by the builder's one call (the guide's Derived/Test/ToyasCard.lean, 'card_holds'). Laid BY PROGRAM, IN A SANDBOX (cutbox-door.mjs). By AI agents, Wed Nov 11 2026. No macro, syntax, notation, axiom, sorry.
-/
import Derived.Test.YtmfolppncelceaaGreatDoorRows
import GoSem.ClaimSeven
namespace Go.Proofs.YtmfolppncelceaaGreatDoor
namespace Rows

/-- THE TIED CARD OF 'routinglaw50.RedistChecks'. -/
def redistChecksCard : Claim7 := { stood := { row := redistChecksRow, standIns := [], harness := (true, "2a53a39f8a138243290129e7fa71613fad27049c83ce2f4e51f60a8abfeed82a"), looks := false }, kinds := [], alts := [], laidByText := true, laidKinds := [.data, .data, .data], laidTests := true, laidLooks := .later }
def RedistChecksCardSaid : Prop := Claim7.holds Tryz.pinned (.plain (OpenSpec.ofChange redistChecksSpec)) redistChecksCard

/-- THE TIED CARD OF 'routinglaw50.RedistExternals'. -/
def redistExternalsCard : Claim7 := { stood := { row := redistExternalsRow, standIns := [], harness := (true, "2a53a39f8a138243290129e7fa71613fad27049c83ce2f4e51f60a8abfeed82a"), looks := false }, kinds := [], alts := [], laidByText := true, laidKinds := [.data, .data, .data], laidTests := true, laidLooks := .later }
def RedistExternalsCardSaid : Prop := Claim7.holds Tryz.pinned (.plain (OpenSpec.ofChange redistExternalsSpec)) redistExternalsCard

/-- THE TIED CARD OF 'routinglaw50.RedistVectors'. -/
def redistVectorsCard : Claim7 := { stood := { row := redistVectorsRow, standIns := [], harness := (true, "2a53a39f8a138243290129e7fa71613fad27049c83ce2f4e51f60a8abfeed82a"), looks := false }, kinds := [], alts := [], laidByText := true, laidKinds := [.data, .data, .data], laidTests := true, laidLooks := .later }
def RedistVectorsCardSaid : Prop := Claim7.holds Tryz.pinned (.plain (OpenSpec.ofChange redistVectorsSpec)) redistVectorsCard

/-- THE TIED CARD OF 'routinglaw50.RedistPlain'. -/
def redistPlainCard : Claim7 := { stood := { row := redistPlainRow, standIns := [], harness := (true, "2a53a39f8a138243290129e7fa71613fad27049c83ce2f4e51f60a8abfeed82a"), looks := false }, kinds := [], alts := [], laidByText := true, laidKinds := [.data, .data, .data], laidTests := true, laidLooks := .later }
def RedistPlainCardSaid : Prop := Claim7.holds Tryz.pinned (.plain (OpenSpec.ofChange redistPlainSpec)) redistPlainCard

/-- THE TIED CARD OF 'routinglaw50.RedistOrder'. -/
def redistOrderCard : Claim7 := { stood := { row := redistOrderRow, standIns := [], harness := (true, "2a53a39f8a138243290129e7fa71613fad27049c83ce2f4e51f60a8abfeed82a"), looks := false }, kinds := [], alts := [], laidByText := true, laidKinds := [.data, .data, .data], laidTests := true, laidLooks := .later }
def RedistOrderCardSaid : Prop := Claim7.holds Tryz.pinned (.plain (OpenSpec.ofChange redistOrderSpec)) redistOrderCard

/-- THE SECOND FORM's CARD OF 'routinglaw50.RedistChecks'. -/
def redistChecksUptoCard : Claim7 := { stood := { row := redistChecksUptoRow, standIns := [], harness := (true, "2a53a39f8a138243290129e7fa71613fad27049c83ce2f4e51f60a8abfeed82a"), looks := false }, kinds := [], alts := [], laidByText := true, laidKinds := [.data, .data, .data], laidTests := true, laidLooks := .later }
def RedistChecksUptoCardSaid : Prop := Claim7.holds Tryz.pinned (.plain (OpenSpec.upto redistChecksSpec)) redistChecksUptoCard

/-- THE SECOND FORM's CARD OF 'routinglaw50.RedistExternals'. -/
def redistExternalsUptoCard : Claim7 := { stood := { row := redistExternalsUptoRow, standIns := [], harness := (true, "2a53a39f8a138243290129e7fa71613fad27049c83ce2f4e51f60a8abfeed82a"), looks := false }, kinds := [], alts := [], laidByText := true, laidKinds := [.data, .data, .data], laidTests := true, laidLooks := .later }
def RedistExternalsUptoCardSaid : Prop := Claim7.holds Tryz.pinned (.plain (OpenSpec.upto redistExternalsSpec)) redistExternalsUptoCard

/-- THE SECOND FORM's CARD OF 'routinglaw50.RedistVectors'. -/
def redistVectorsUptoCard : Claim7 := { stood := { row := redistVectorsUptoRow, standIns := [], harness := (true, "2a53a39f8a138243290129e7fa71613fad27049c83ce2f4e51f60a8abfeed82a"), looks := false }, kinds := [], alts := [], laidByText := true, laidKinds := [.data, .data, .data], laidTests := true, laidLooks := .later }
def RedistVectorsUptoCardSaid : Prop := Claim7.holds Tryz.pinned (.plain (OpenSpec.upto redistVectorsSpec)) redistVectorsUptoCard

/-- THE SECOND FORM's CARD OF 'routinglaw50.RedistPlain'. -/
def redistPlainUptoCard : Claim7 := { stood := { row := redistPlainUptoRow, standIns := [], harness := (true, "2a53a39f8a138243290129e7fa71613fad27049c83ce2f4e51f60a8abfeed82a"), looks := false }, kinds := [], alts := [], laidByText := true, laidKinds := [.data, .data, .data], laidTests := true, laidLooks := .later }
def RedistPlainUptoCardSaid : Prop := Claim7.holds Tryz.pinned (.plain (OpenSpec.upto redistPlainSpec)) redistPlainUptoCard

/-- THE SECOND FORM's CARD OF 'routinglaw50.RedistOrder'. -/
def redistOrderUptoCard : Claim7 := { stood := { row := redistOrderUptoRow, standIns := [], harness := (true, "2a53a39f8a138243290129e7fa71613fad27049c83ce2f4e51f60a8abfeed82a"), looks := false }, kinds := [], alts := [], laidByText := true, laidKinds := [.data, .data, .data], laidTests := true, laidLooks := .later }
def RedistOrderUptoCardSaid : Prop := Claim7.holds Tryz.pinned (.plain (OpenSpec.upto redistOrderSpec)) redistOrderUptoCard
end Rows
end Go.Proofs.YtmfolppncelceaaGreatDoor
