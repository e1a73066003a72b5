/-
  DERIVED. GIVEN WITH THE SEED: THE CARDS: each row of YthjnceggmnicmaaGreatDoorRows.lean that lists a variable, with what it lists TIED to the program's text (the seventh form; the later family's looks); each row that meets fmt, with fmt's text TOLD by the authors' own Lean function (tested against real Go, not proved from fmt's source: count such statements apart). THE CARD IS WHAT COUNTS. Prove the row's statement (the work); the ties are given (YthjnceggmnicmaaGreatDoorTie.lean); close each card by the builder's one call (the guide's Derived/Test/ToyasCard.lean, 'card_holds'). Laid BY PROGRAM, IN A SANDBOX (cutbox-door.mjs). By AI agents, Wed Nov 11 2026. No macro, syntax, notation, axiom, sorry.
-/
import Derived.Test.YthjnceggmnicmaaGreatDoorRows
import GoSem.ClaimSeven
namespace Go.Proofs.YthjnceggmnicmaaGreatDoor
namespace Rows

/-- THE TIED CARD OF 'routinglaw21.ApplyCheck'. -/
def applyCheckCard : Claim7 := { stood := { row := applyCheckRow, standIns := [], harness := (true, "83b3ce7da9d2c1a416f1bdfa3e2a25344b6b65b8ee28d03297c75b439994b01f"), looks := false }, kinds := [], alts := [], laidByText := true, laidKinds := [.data, .data, .data], laidTests := true, laidLooks := .later }
def ApplyCheckCardSaid : Prop := Claim7.holds Tryz.pinned (.plain (OpenSpec.ofChange applyCheckSpec)) applyCheckCard

/-- THE TIED CARD OF 'routinglaw21.ApplyHolds'. -/
def applyHoldsCard : Claim7 := { stood := { row := applyHoldsRow, standIns := [], harness := (true, "83b3ce7da9d2c1a416f1bdfa3e2a25344b6b65b8ee28d03297c75b439994b01f"), looks := false }, kinds := [], alts := [], laidByText := true, laidKinds := [.data, .data, .data], laidTests := true, laidLooks := .later }
def ApplyHoldsCardSaid : Prop := Claim7.holds Tryz.pinned (.plain (OpenSpec.ofChange applyHoldsSpec)) applyHoldsCard

/-- THE TIED CARD OF 'routinglaw21.ApplyAct'. -/
def applyActCard : Claim7 := { stood := { row := applyActRow, standIns := [], harness := (true, "83b3ce7da9d2c1a416f1bdfa3e2a25344b6b65b8ee28d03297c75b439994b01f"), looks := false }, kinds := [], alts := [], laidByText := true, laidKinds := [.data, .data, .data], laidTests := true, laidLooks := .later }
def ApplyActCardSaid : Prop := Claim7.holds Tryz.pinned (.plain (OpenSpec.ofChange applyActSpec)) applyActCard

/-- THE TIED CARD OF 'routinglaw21.ApplyRun'. -/
def applyRunCard : Claim7 := { stood := { row := applyRunRow, standIns := [], harness := (true, "83b3ce7da9d2c1a416f1bdfa3e2a25344b6b65b8ee28d03297c75b439994b01f"), looks := false }, kinds := [], alts := [], laidByText := true, laidKinds := [.data, .data, .data], laidTests := true, laidLooks := .later }
def ApplyRunCardSaid : Prop := Claim7.holds Tryz.pinned (.plain (OpenSpec.ofChange applyRunSpec)) applyRunCard

/-- THE TIED CARD OF 'routinglaw21.ApplyTerms'. -/
def applyTermsCard : Claim7 := { stood := { row := applyTermsRow, standIns := [], harness := (true, "83b3ce7da9d2c1a416f1bdfa3e2a25344b6b65b8ee28d03297c75b439994b01f"), looks := false }, kinds := [], alts := [], laidByText := true, laidKinds := [.data, .data, .data], laidTests := true, laidLooks := .later }
def ApplyTermsCardSaid : Prop := Claim7.holds Tryz.pinned (.plain (OpenSpec.ofChange applyTermsSpec)) applyTermsCard

/-- THE TIED CARD OF 'routinglaw21.ApplyLocal'. -/
def applyLocalCard : Claim7 := { stood := { row := applyLocalRow, standIns := [], harness := (true, "83b3ce7da9d2c1a416f1bdfa3e2a25344b6b65b8ee28d03297c75b439994b01f"), looks := false }, kinds := [], alts := [], laidByText := true, laidKinds := [.data, .data, .data], laidTests := true, laidLooks := .later }
def ApplyLocalCardSaid : Prop := Claim7.holds Tryz.pinned (.plain (OpenSpec.ofChange applyLocalSpec)) applyLocalCard

/-- THE TIED CARD OF 'routinglaw21.ApplySame'. -/
def applySameCard : Claim7 := { stood := { row := applySameRow, standIns := [], harness := (true, "83b3ce7da9d2c1a416f1bdfa3e2a25344b6b65b8ee28d03297c75b439994b01f"), looks := false }, kinds := [], alts := [], laidByText := true, laidKinds := [.data, .data, .data], laidTests := true, laidLooks := .later }
def ApplySameCardSaid : Prop := Claim7.holds Tryz.pinned (.plain (OpenSpec.ofChange applySameSpec)) applySameCard

/-- THE SECOND FORM's CARD OF 'routinglaw21.ApplyCheck'. -/
def applyCheckUptoCard : Claim7 := { stood := { row := applyCheckUptoRow, standIns := [], harness := (true, "83b3ce7da9d2c1a416f1bdfa3e2a25344b6b65b8ee28d03297c75b439994b01f"), looks := false }, kinds := [], alts := [], laidByText := true, laidKinds := [.data, .data, .data], laidTests := true, laidLooks := .later }
def ApplyCheckUptoCardSaid : Prop := Claim7.holds Tryz.pinned (.plain (OpenSpec.upto applyCheckSpec)) applyCheckUptoCard

/-- THE SECOND FORM's CARD OF 'routinglaw21.ApplyHolds'. -/
def applyHoldsUptoCard : Claim7 := { stood := { row := applyHoldsUptoRow, standIns := [], harness := (true, "83b3ce7da9d2c1a416f1bdfa3e2a25344b6b65b8ee28d03297c75b439994b01f"), looks := false }, kinds := [], alts := [], laidByText := true, laidKinds := [.data, .data, .data], laidTests := true, laidLooks := .later }
def ApplyHoldsUptoCardSaid : Prop := Claim7.holds Tryz.pinned (.plain (OpenSpec.upto applyHoldsSpec)) applyHoldsUptoCard

/-- THE SECOND FORM's CARD OF 'routinglaw21.ApplyAct'. -/
def applyActUptoCard : Claim7 := { stood := { row := applyActUptoRow, standIns := [], harness := (true, "83b3ce7da9d2c1a416f1bdfa3e2a25344b6b65b8ee28d03297c75b439994b01f"), looks := false }, kinds := [], alts := [], laidByText := true, laidKinds := [.data, .data, .data], laidTests := true, laidLooks := .later }
def ApplyActUptoCardSaid : Prop := Claim7.holds Tryz.pinned (.plain (OpenSpec.upto applyActSpec)) applyActUptoCard

/-- THE SECOND FORM's CARD OF 'routinglaw21.ApplyRun'. -/
def applyRunUptoCard : Claim7 := { stood := { row := applyRunUptoRow, standIns := [], harness := (true, "83b3ce7da9d2c1a416f1bdfa3e2a25344b6b65b8ee28d03297c75b439994b01f"), looks := false }, kinds := [], alts := [], laidByText := true, laidKinds := [.data, .data, .data], laidTests := true, laidLooks := .later }
def ApplyRunUptoCardSaid : Prop := Claim7.holds Tryz.pinned (.plain (OpenSpec.upto applyRunSpec)) applyRunUptoCard

/-- THE SECOND FORM's CARD OF 'routinglaw21.ApplyTerms'. -/
def applyTermsUptoCard : Claim7 := { stood := { row := applyTermsUptoRow, standIns := [], harness := (true, "83b3ce7da9d2c1a416f1bdfa3e2a25344b6b65b8ee28d03297c75b439994b01f"), looks := false }, kinds := [], alts := [], laidByText := true, laidKinds := [.data, .data, .data], laidTests := true, laidLooks := .later }
def ApplyTermsUptoCardSaid : Prop := Claim7.holds Tryz.pinned (.plain (OpenSpec.upto applyTermsSpec)) applyTermsUptoCard

/-- THE SECOND FORM's CARD OF 'routinglaw21.ApplyLocal'. -/
def applyLocalUptoCard : Claim7 := { stood := { row := applyLocalUptoRow, standIns := [], harness := (true, "83b3ce7da9d2c1a416f1bdfa3e2a25344b6b65b8ee28d03297c75b439994b01f"), looks := false }, kinds := [], alts := [], laidByText := true, laidKinds := [.data, .data, .data], laidTests := true, laidLooks := .later }
def ApplyLocalUptoCardSaid : Prop := Claim7.holds Tryz.pinned (.plain (OpenSpec.upto applyLocalSpec)) applyLocalUptoCard

/-- THE SECOND FORM's CARD OF 'routinglaw21.ApplySame'. -/
def applySameUptoCard : Claim7 := { stood := { row := applySameUptoRow, standIns := [], harness := (true, "83b3ce7da9d2c1a416f1bdfa3e2a25344b6b65b8ee28d03297c75b439994b01f"), looks := false }, kinds := [], alts := [], laidByText := true, laidKinds := [.data, .data, .data], laidTests := true, laidLooks := .later }
def ApplySameUptoCardSaid : Prop := Claim7.holds Tryz.pinned (.plain (OpenSpec.upto applySameSpec)) applySameUptoCard
end Rows
end Go.Proofs.YthjnceggmnicmaaGreatDoor
