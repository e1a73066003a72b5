/-
  DERIVED. GIVEN WITH THE SEED: THE CARDS: each row of YtifgipebbagfcaaDoorRows.lean that lists a variable, with what it lists TIED to the program's text (the seventh form; the later family's looks); each row that meets fmt, with fmt's text TOLD by the authors' own Lean function (tested against real Go, not proved from fmt's source: count such statements apart). THE CARD IS WHAT COUNTS. Prove the row's statement (the work); the ties are given (YtifgipebbagfcaaDoorTie.lean); close each card by the builder's one call (the guide's Derived/Test/ToyasCard.lean, 'card_holds'). Laid BY PROGRAM, IN A SANDBOX (cutbox-door.mjs). By AI agents, Wed Nov 11 2026. No macro, syntax, notation, axiom, sorry.
-/
import Derived.Test.YtifgipebbagfcaaDoorRows
import GoSem.ClaimSeven
namespace Go.Proofs.YtifgipebbagfcaaDoor
namespace Rows

/-- THE TIED CARD OF 'routinglaw15.RegexCheck'. -/
def regexCheckCard : Claim7 := { stood := { row := regexCheckRow, standIns := [], harness := (true, "e3f80b5caf63177ee680584248498434ed72c4fcae6f7725d1116f2372c59b44"), looks := false }, kinds := [], alts := [], laidByText := true, laidKinds := [.data, .data, .data], laidTests := true, laidLooks := .later }
def RegexCheckCardSaid : Prop := Claim7.holds Tryd.pinned (.plain (OpenSpec.ofChange regexCheckSpec)) regexCheckCard

/-- THE TIED CARD OF 'routinglaw15.RegexBack'. -/
def regexBackCard : Claim7 := { stood := { row := regexBackRow, standIns := [], harness := (true, "e3f80b5caf63177ee680584248498434ed72c4fcae6f7725d1116f2372c59b44"), looks := false }, kinds := [], alts := [], laidByText := true, laidKinds := [.data, .data, .data], laidTests := true, laidLooks := .later }
def RegexBackCardSaid : Prop := Claim7.holds Tryd.pinned (.plain (OpenSpec.ofChange regexBackSpec)) regexBackCard

/-- THE TIED CARD OF 'routinglaw15.RegexParse'. -/
def regexParseCard : Claim7 := { stood := { row := regexParseRow, standIns := [], harness := (true, "e3f80b5caf63177ee680584248498434ed72c4fcae6f7725d1116f2372c59b44"), looks := false }, kinds := [], alts := [], laidByText := true, laidKinds := [.data, .data, .data], laidTests := true, laidLooks := .later }
def RegexParseCardSaid : Prop := Claim7.holds Tryd.pinned (.plain (OpenSpec.ofChange regexParseSpec)) regexParseCard

/-- THE TIED CARD OF 'routinglaw15.RegexMatch'. -/
def regexMatchCard : Claim7 := { stood := { row := regexMatchRow, standIns := [], harness := (true, "e3f80b5caf63177ee680584248498434ed72c4fcae6f7725d1116f2372c59b44"), looks := false }, kinds := [], alts := [], laidByText := true, laidKinds := [.data, .data, .data], laidTests := true, laidLooks := .later }
def RegexMatchCardSaid : Prop := Claim7.holds Tryd.pinned (.plain (OpenSpec.ofChange regexMatchSpec)) regexMatchCard

/-- THE TIED CARD OF 'routinglaw15.RegexDerive'. -/
def regexDeriveCard : Claim7 := { stood := { row := regexDeriveRow, standIns := [], harness := (true, "e3f80b5caf63177ee680584248498434ed72c4fcae6f7725d1116f2372c59b44"), looks := false }, kinds := [], alts := [], laidByText := true, laidKinds := [.data, .data, .data], laidTests := true, laidLooks := .later }
def RegexDeriveCardSaid : Prop := Claim7.holds Tryd.pinned (.plain (OpenSpec.ofChange regexDeriveSpec)) regexDeriveCard

/-- THE TIED CARD OF 'routinglaw15.RegexSame'. -/
def regexSameCard : Claim7 := { stood := { row := regexSameRow, standIns := [], harness := (true, "e3f80b5caf63177ee680584248498434ed72c4fcae6f7725d1116f2372c59b44"), looks := false }, kinds := [], alts := [], laidByText := true, laidKinds := [.data, .data, .data], laidTests := true, laidLooks := .later }
def RegexSameCardSaid : Prop := Claim7.holds Tryd.pinned (.plain (OpenSpec.ofChange regexSameSpec)) regexSameCard

/-- THE TIED CARD OF 'routinglaw15.RegexAlgebra'. -/
def regexAlgebraCard : Claim7 := { stood := { row := regexAlgebraRow, standIns := [], harness := (true, "e3f80b5caf63177ee680584248498434ed72c4fcae6f7725d1116f2372c59b44"), looks := false }, kinds := [], alts := [], laidByText := true, laidKinds := [.data, .data, .data], laidTests := true, laidLooks := .later }
def RegexAlgebraCardSaid : Prop := Claim7.holds Tryd.pinned (.plain (OpenSpec.ofChange regexAlgebraSpec)) regexAlgebraCard

/-- THE SECOND FORM's CARD OF 'routinglaw15.RegexCheck'. -/
def regexCheckUptoCard : Claim7 := { stood := { row := regexCheckUptoRow, standIns := [], harness := (true, "e3f80b5caf63177ee680584248498434ed72c4fcae6f7725d1116f2372c59b44"), looks := false }, kinds := [], alts := [], laidByText := true, laidKinds := [.data, .data, .data], laidTests := true, laidLooks := .later }
def RegexCheckUptoCardSaid : Prop := Claim7.holds Tryd.pinned (.plain (OpenSpec.upto regexCheckSpec)) regexCheckUptoCard

/-- THE SECOND FORM's CARD OF 'routinglaw15.RegexBack'. -/
def regexBackUptoCard : Claim7 := { stood := { row := regexBackUptoRow, standIns := [], harness := (true, "e3f80b5caf63177ee680584248498434ed72c4fcae6f7725d1116f2372c59b44"), looks := false }, kinds := [], alts := [], laidByText := true, laidKinds := [.data, .data, .data], laidTests := true, laidLooks := .later }
def RegexBackUptoCardSaid : Prop := Claim7.holds Tryd.pinned (.plain (OpenSpec.upto regexBackSpec)) regexBackUptoCard

/-- THE SECOND FORM's CARD OF 'routinglaw15.RegexParse'. -/
def regexParseUptoCard : Claim7 := { stood := { row := regexParseUptoRow, standIns := [], harness := (true, "e3f80b5caf63177ee680584248498434ed72c4fcae6f7725d1116f2372c59b44"), looks := false }, kinds := [], alts := [], laidByText := true, laidKinds := [.data, .data, .data], laidTests := true, laidLooks := .later }
def RegexParseUptoCardSaid : Prop := Claim7.holds Tryd.pinned (.plain (OpenSpec.upto regexParseSpec)) regexParseUptoCard

/-- THE SECOND FORM's CARD OF 'routinglaw15.RegexMatch'. -/
def regexMatchUptoCard : Claim7 := { stood := { row := regexMatchUptoRow, standIns := [], harness := (true, "e3f80b5caf63177ee680584248498434ed72c4fcae6f7725d1116f2372c59b44"), looks := false }, kinds := [], alts := [], laidByText := true, laidKinds := [.data, .data, .data], laidTests := true, laidLooks := .later }
def RegexMatchUptoCardSaid : Prop := Claim7.holds Tryd.pinned (.plain (OpenSpec.upto regexMatchSpec)) regexMatchUptoCard

/-- THE SECOND FORM's CARD OF 'routinglaw15.RegexDerive'. -/
def regexDeriveUptoCard : Claim7 := { stood := { row := regexDeriveUptoRow, standIns := [], harness := (true, "e3f80b5caf63177ee680584248498434ed72c4fcae6f7725d1116f2372c59b44"), looks := false }, kinds := [], alts := [], laidByText := true, laidKinds := [.data, .data, .data], laidTests := true, laidLooks := .later }
def RegexDeriveUptoCardSaid : Prop := Claim7.holds Tryd.pinned (.plain (OpenSpec.upto regexDeriveSpec)) regexDeriveUptoCard

/-- THE SECOND FORM's CARD OF 'routinglaw15.RegexSame'. -/
def regexSameUptoCard : Claim7 := { stood := { row := regexSameUptoRow, standIns := [], harness := (true, "e3f80b5caf63177ee680584248498434ed72c4fcae6f7725d1116f2372c59b44"), looks := false }, kinds := [], alts := [], laidByText := true, laidKinds := [.data, .data, .data], laidTests := true, laidLooks := .later }
def RegexSameUptoCardSaid : Prop := Claim7.holds Tryd.pinned (.plain (OpenSpec.upto regexSameSpec)) regexSameUptoCard

/-- THE SECOND FORM's CARD OF 'routinglaw15.RegexAlgebra'. -/
def regexAlgebraUptoCard : Claim7 := { stood := { row := regexAlgebraUptoRow, standIns := [], harness := (true, "e3f80b5caf63177ee680584248498434ed72c4fcae6f7725d1116f2372c59b44"), looks := false }, kinds := [], alts := [], laidByText := true, laidKinds := [.data, .data, .data], laidTests := true, laidLooks := .later }
def RegexAlgebraUptoCardSaid : Prop := Claim7.holds Tryd.pinned (.plain (OpenSpec.upto regexAlgebraSpec)) regexAlgebraUptoCard
end Rows
end Go.Proofs.YtifgipebbagfcaaDoor
