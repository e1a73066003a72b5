/-
  DERIVED. GIVEN WITH THE SEED: THE CARDS: each row of YtdgiglmmpbndmaaGreatDoorRows.lean that lists a variable, with what it lists TIED to the program's text (the seventh form; the later family's looks); each row that meets fmt, with fmt's text TOLD by the authors' own Lean function (tested against real Go, not proved from fmt's source: count such statements apart). THE CARD IS WHAT COUNTS. Prove the row's statement (the work); the ties are given (YtdgiglmmpbndmaaGreatDoorTie.lean); close each card by the builder's one call (the guide's Derived/Test/ToyasCard.lean, 'card_holds'). Laid BY PROGRAM, IN A SANDBOX (cutbox-door.mjs). By AI agents, Wed Nov 11 2026. No macro, syntax, notation, axiom, sorry.
-/
import Derived.Test.YtdgiglmmpbndmaaGreatDoorRows
import GoSem.ClaimSeven
namespace Go.Proofs.YtdgiglmmpbndmaaGreatDoor
namespace Rows

/-- THE TIED CARD OF 'routinglaw22.CompileBuild'. -/
def compileBuildCard : Claim7 := { stood := { row := compileBuildRow, standIns := [], harness := (true, "35c7a6046ac27d4e0850ffa89c1add1e36477b5621e59b94b11107193435d189"), looks := false }, kinds := [], alts := [], laidByText := true, laidKinds := [.data, .data, .data], laidTests := true, laidLooks := .later }
def CompileBuildCardSaid : Prop := Claim7.holds Tryz.pinned (.plain (OpenSpec.ofChange compileBuildSpec)) compileBuildCard

/-- THE TIED CARD OF 'routinglaw22.CompileCheck'. -/
def compileCheckCard : Claim7 := { stood := { row := compileCheckRow, standIns := [], harness := (true, "35c7a6046ac27d4e0850ffa89c1add1e36477b5621e59b94b11107193435d189"), looks := false }, kinds := [], alts := [], laidByText := true, laidKinds := [.data, .data, .data], laidTests := true, laidLooks := .later }
def CompileCheckCardSaid : Prop := Claim7.holds Tryz.pinned (.plain (OpenSpec.ofChange compileCheckSpec)) compileCheckCard

/-- THE TIED CARD OF 'routinglaw22.CompileHolds'. -/
def compileHoldsCard : Claim7 := { stood := { row := compileHoldsRow, standIns := [], harness := (true, "35c7a6046ac27d4e0850ffa89c1add1e36477b5621e59b94b11107193435d189"), looks := false }, kinds := [], alts := [], laidByText := true, laidKinds := [.data, .data, .data], laidTests := true, laidLooks := .later }
def CompileHoldsCardSaid : Prop := Claim7.holds Tryz.pinned (.plain (OpenSpec.ofChange compileHoldsSpec)) compileHoldsCard

/-- THE TIED CARD OF 'routinglaw22.CompileEval'. -/
def compileEvalCard : Claim7 := { stood := { row := compileEvalRow, standIns := [], harness := (true, "35c7a6046ac27d4e0850ffa89c1add1e36477b5621e59b94b11107193435d189"), looks := false }, kinds := [], alts := [], laidByText := true, laidKinds := [.data, .data, .data], laidTests := true, laidLooks := .later }
def CompileEvalCardSaid : Prop := Claim7.holds Tryz.pinned (.plain (OpenSpec.ofChange compileEvalSpec)) compileEvalCard

/-- THE TIED CARD OF 'routinglaw22.CompileReduce'. -/
def compileReduceCard : Claim7 := { stood := { row := compileReduceRow, standIns := [], harness := (true, "35c7a6046ac27d4e0850ffa89c1add1e36477b5621e59b94b11107193435d189"), looks := false }, kinds := [], alts := [], laidByText := true, laidKinds := [.data, .data, .data], laidTests := true, laidLooks := .later }
def CompileReduceCardSaid : Prop := Claim7.holds Tryz.pinned (.plain (OpenSpec.ofChange compileReduceSpec)) compileReduceCard

/-- THE TIED CARD OF 'routinglaw22.CompileReduced'. -/
def compileReducedCard : Claim7 := { stood := { row := compileReducedRow, standIns := [], harness := (true, "35c7a6046ac27d4e0850ffa89c1add1e36477b5621e59b94b11107193435d189"), looks := false }, kinds := [], alts := [], laidByText := true, laidKinds := [.data, .data, .data], laidTests := true, laidLooks := .later }
def CompileReducedCardSaid : Prop := Claim7.holds Tryz.pinned (.plain (OpenSpec.ofChange compileReducedSpec)) compileReducedCard

/-- THE TIED CARD OF 'routinglaw22.CompileOutcome'. -/
def compileOutcomeCard : Claim7 := { stood := { row := compileOutcomeRow, standIns := [], harness := (true, "35c7a6046ac27d4e0850ffa89c1add1e36477b5621e59b94b11107193435d189"), looks := false }, kinds := [], alts := [], laidByText := true, laidKinds := [.data, .data, .data], laidTests := true, laidLooks := .later }
def CompileOutcomeCardSaid : Prop := Claim7.holds Tryz.pinned (.plain (OpenSpec.ofChange compileOutcomeSpec)) compileOutcomeCard

/-- THE TIED CARD OF 'routinglaw22.CompileSame'. -/
def compileSameCard : Claim7 := { stood := { row := compileSameRow, standIns := [], harness := (true, "35c7a6046ac27d4e0850ffa89c1add1e36477b5621e59b94b11107193435d189"), looks := false }, kinds := [], alts := [], laidByText := true, laidKinds := [.data, .data, .data], laidTests := true, laidLooks := .later }
def CompileSameCardSaid : Prop := Claim7.holds Tryz.pinned (.plain (OpenSpec.ofChange compileSameSpec)) compileSameCard

/-- THE TIED CARD OF 'routinglaw22.CompileAgrees'. -/
def compileAgreesCard : Claim7 := { stood := { row := compileAgreesRow, standIns := [], harness := (true, "35c7a6046ac27d4e0850ffa89c1add1e36477b5621e59b94b11107193435d189"), looks := false }, kinds := [], alts := [], laidByText := true, laidKinds := [.data, .data, .data], laidTests := true, laidLooks := .later }
def CompileAgreesCardSaid : Prop := Claim7.holds Tryz.pinned (.plain (OpenSpec.ofChange compileAgreesSpec)) compileAgreesCard

/-- THE SECOND FORM's CARD OF 'routinglaw22.CompileBuild'. -/
def compileBuildUptoCard : Claim7 := { stood := { row := compileBuildUptoRow, standIns := [], harness := (true, "35c7a6046ac27d4e0850ffa89c1add1e36477b5621e59b94b11107193435d189"), looks := false }, kinds := [], alts := [], laidByText := true, laidKinds := [.data, .data, .data], laidTests := true, laidLooks := .later }
def CompileBuildUptoCardSaid : Prop := Claim7.holds Tryz.pinned (.plain (OpenSpec.upto compileBuildSpec)) compileBuildUptoCard

/-- THE SECOND FORM's CARD OF 'routinglaw22.CompileCheck'. -/
def compileCheckUptoCard : Claim7 := { stood := { row := compileCheckUptoRow, standIns := [], harness := (true, "35c7a6046ac27d4e0850ffa89c1add1e36477b5621e59b94b11107193435d189"), looks := false }, kinds := [], alts := [], laidByText := true, laidKinds := [.data, .data, .data], laidTests := true, laidLooks := .later }
def CompileCheckUptoCardSaid : Prop := Claim7.holds Tryz.pinned (.plain (OpenSpec.upto compileCheckSpec)) compileCheckUptoCard

/-- THE SECOND FORM's CARD OF 'routinglaw22.CompileHolds'. -/
def compileHoldsUptoCard : Claim7 := { stood := { row := compileHoldsUptoRow, standIns := [], harness := (true, "35c7a6046ac27d4e0850ffa89c1add1e36477b5621e59b94b11107193435d189"), looks := false }, kinds := [], alts := [], laidByText := true, laidKinds := [.data, .data, .data], laidTests := true, laidLooks := .later }
def CompileHoldsUptoCardSaid : Prop := Claim7.holds Tryz.pinned (.plain (OpenSpec.upto compileHoldsSpec)) compileHoldsUptoCard

/-- THE SECOND FORM's CARD OF 'routinglaw22.CompileEval'. -/
def compileEvalUptoCard : Claim7 := { stood := { row := compileEvalUptoRow, standIns := [], harness := (true, "35c7a6046ac27d4e0850ffa89c1add1e36477b5621e59b94b11107193435d189"), looks := false }, kinds := [], alts := [], laidByText := true, laidKinds := [.data, .data, .data], laidTests := true, laidLooks := .later }
def CompileEvalUptoCardSaid : Prop := Claim7.holds Tryz.pinned (.plain (OpenSpec.upto compileEvalSpec)) compileEvalUptoCard

/-- THE SECOND FORM's CARD OF 'routinglaw22.CompileReduce'. -/
def compileReduceUptoCard : Claim7 := { stood := { row := compileReduceUptoRow, standIns := [], harness := (true, "35c7a6046ac27d4e0850ffa89c1add1e36477b5621e59b94b11107193435d189"), looks := false }, kinds := [], alts := [], laidByText := true, laidKinds := [.data, .data, .data], laidTests := true, laidLooks := .later }
def CompileReduceUptoCardSaid : Prop := Claim7.holds Tryz.pinned (.plain (OpenSpec.upto compileReduceSpec)) compileReduceUptoCard

/-- THE SECOND FORM's CARD OF 'routinglaw22.CompileReduced'. -/
def compileReducedUptoCard : Claim7 := { stood := { row := compileReducedUptoRow, standIns := [], harness := (true, "35c7a6046ac27d4e0850ffa89c1add1e36477b5621e59b94b11107193435d189"), looks := false }, kinds := [], alts := [], laidByText := true, laidKinds := [.data, .data, .data], laidTests := true, laidLooks := .later }
def CompileReducedUptoCardSaid : Prop := Claim7.holds Tryz.pinned (.plain (OpenSpec.upto compileReducedSpec)) compileReducedUptoCard

/-- THE SECOND FORM's CARD OF 'routinglaw22.CompileOutcome'. -/
def compileOutcomeUptoCard : Claim7 := { stood := { row := compileOutcomeUptoRow, standIns := [], harness := (true, "35c7a6046ac27d4e0850ffa89c1add1e36477b5621e59b94b11107193435d189"), looks := false }, kinds := [], alts := [], laidByText := true, laidKinds := [.data, .data, .data], laidTests := true, laidLooks := .later }
def CompileOutcomeUptoCardSaid : Prop := Claim7.holds Tryz.pinned (.plain (OpenSpec.upto compileOutcomeSpec)) compileOutcomeUptoCard

/-- THE SECOND FORM's CARD OF 'routinglaw22.CompileSame'. -/
def compileSameUptoCard : Claim7 := { stood := { row := compileSameUptoRow, standIns := [], harness := (true, "35c7a6046ac27d4e0850ffa89c1add1e36477b5621e59b94b11107193435d189"), looks := false }, kinds := [], alts := [], laidByText := true, laidKinds := [.data, .data, .data], laidTests := true, laidLooks := .later }
def CompileSameUptoCardSaid : Prop := Claim7.holds Tryz.pinned (.plain (OpenSpec.upto compileSameSpec)) compileSameUptoCard

/-- THE SECOND FORM's CARD OF 'routinglaw22.CompileAgrees'. -/
def compileAgreesUptoCard : Claim7 := { stood := { row := compileAgreesUptoRow, standIns := [], harness := (true, "35c7a6046ac27d4e0850ffa89c1add1e36477b5621e59b94b11107193435d189"), looks := false }, kinds := [], alts := [], laidByText := true, laidKinds := [.data, .data, .data], laidTests := true, laidLooks := .later }
def CompileAgreesUptoCardSaid : Prop := Claim7.holds Tryz.pinned (.plain (OpenSpec.upto compileAgreesSpec)) compileAgreesUptoCard
end Rows
end Go.Proofs.YtdgiglmmpbndmaaGreatDoor
