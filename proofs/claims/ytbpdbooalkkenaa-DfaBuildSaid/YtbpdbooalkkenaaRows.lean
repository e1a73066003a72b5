/-
  NARROWER THAN 'FOR EVERY INPUT', by the rows' own cells (each row's printed sentence says how): DfaBuild: loops · DfaSame: loops.
  DERIVED. THE GIVEN ROWS OF THIS SEAT. 9 by the template 'for every input the law returns true; each argument reads behind the call as it read before'; 0 by the template 'total and deterministic' (their statements: YtbpdbooalkkenaaTotals.lean).
  GIVEN WITH THE SEED: the statements are not yours to turn. If you find one false, say at which input.
  Laid BY PROGRAM, IN A SANDBOX (cutbox-rows.mjs): the forced cells as the released guide's own fill.sh prints them over the translation 3d9fc1c02b4f2ed5… (all of the seat's roots in one cut). By AI agents, Wed Nov 11 2026. No macro, syntax, notation, axiom, sorry.
-/
import Derived.Test.YtbpdbooalkkenaaChecked
import GoSem.Claim
import GoSem.ClaimJoined
import GoSem.ClaimMapViews
import Derived.JoinedTies
import Derived.KernelRfl
namespace Go.Proofs.Ytbpdbooalkkenaa
/- THE CELL 'sum', in the pinned program and in every row, IS THE sha256 OF THE DUMP (.gsa) THAT YtbpdbooalkkenaaProg.lean LOADS. Nothing in Lean hashes anything: it is a label: what it is worth is what the hold of that sum in a sandbox is worth. -/
noncomputable def Try.pinned : Pinned := { name := "ytbpdbooalkkenaa", sum := "3d9fc1c02b4f2ed5da83327d4de8c44e6781938e3bf974b7dd0188e5134724f5", checked := Try.checked }
namespace Rows
def none {H : Type} : Left H := { results := [], args := [] }

/-- 'routinglaw16.DfaCheck': WHATEVER THE INPUT: true; the input reads as it did. -/
def dfaCheckSpec : ChangeSpec := { name := "dfaCheck", fn := fun _ => fun
  | [d] => { results := [.lit (.bool true)], args := [d] }
  | _ => none }
def dfaCheckRow : OpenClaim := { program := "ytbpdbooalkkenaa", sum := "3d9fc1c02b4f2ed5da83327d4de8c44e6781938e3bf974b7dd0188e5134724f5", func := "routing/routinglaw16.DfaCheck", spec := "dfaCheck", unfollowed := true, recurses := true, plainKeys := false, apart := false }
def DfaCheckSaid : Prop := dfaCheckRow.holds Try.pinned (OpenSpec.ofChange dfaCheckSpec)

/-- ITS FALSE NEIGHBOUR: 'it returns false'. Refute it at one input. -/
def dfaCheckWrong : ChangeSpec := { name := "dfaCheck", fn := fun _ => fun
  | [d] => { results := [.lit (.bool false)], args := [d] }
  | _ => none }
def DfaCheckWrongFalsely : Prop := dfaCheckRow.holds Try.pinned (OpenSpec.ofChange dfaCheckWrong)

/-- 'routinglaw16.DfaBuild': WHATEVER THE INPUT: true; the input reads as it did. -/
def dfaBuildSpec : ChangeSpec := { name := "dfaBuild", fn := fun _ => fun
  | [d] => { results := [.lit (.bool true)], args := [d] }
  | _ => none }
def dfaBuildRow : OpenClaim := { program := "ytbpdbooalkkenaa", sum := "3d9fc1c02b4f2ed5da83327d4de8c44e6781938e3bf974b7dd0188e5134724f5", func := "routing/routinglaw16.DfaBuild", spec := "dfaBuild", unfollowed := true, recurses := true, loops := true, plainKeys := false, apart := false }
def DfaBuildSaid : Prop := dfaBuildRow.holds Try.pinned (OpenSpec.ofChange dfaBuildSpec)

/-- ITS FALSE NEIGHBOUR: 'it returns false'. Refute it at one input. -/
def dfaBuildWrong : ChangeSpec := { name := "dfaBuild", fn := fun _ => fun
  | [d] => { results := [.lit (.bool false)], args := [d] }
  | _ => none }
def DfaBuildWrongFalsely : Prop := dfaBuildRow.holds Try.pinned (OpenSpec.ofChange dfaBuildWrong)

/-- 'routinglaw16.DfaMatch': WHATEVER THE INPUT: true; the input reads as it did. -/
def dfaMatchSpec : ChangeSpec := { name := "dfaMatch", fn := fun _ => fun
  | [d1, d2] => { results := [.lit (.bool true)], args := [d1, d2] }
  | _ => none }
def dfaMatchRow : OpenClaim := { program := "ytbpdbooalkkenaa", sum := "3d9fc1c02b4f2ed5da83327d4de8c44e6781938e3bf974b7dd0188e5134724f5", func := "routing/routinglaw16.DfaMatch", spec := "dfaMatch", unfollowed := true, recurses := true, plainKeys := false, apart := false }
def DfaMatchSaid : Prop := dfaMatchRow.holds Try.pinned (OpenSpec.ofChange dfaMatchSpec)

/-- ITS FALSE NEIGHBOUR: 'it returns false'. Refute it at one input. -/
def dfaMatchWrong : ChangeSpec := { name := "dfaMatch", fn := fun _ => fun
  | [d1, d2] => { results := [.lit (.bool false)], args := [d1, d2] }
  | _ => none }
def DfaMatchWrongFalsely : Prop := dfaMatchRow.holds Try.pinned (OpenSpec.ofChange dfaMatchWrong)

/-- 'routinglaw16.DfaWitness': WHATEVER THE INPUT: true; the input reads as it did. -/
def dfaWitnessSpec : ChangeSpec := { name := "dfaWitness", fn := fun _ => fun
  | [d1, d2] => { results := [.lit (.bool true)], args := [d1, d2] }
  | _ => none }
def dfaWitnessRow : OpenClaim := { program := "ytbpdbooalkkenaa", sum := "3d9fc1c02b4f2ed5da83327d4de8c44e6781938e3bf974b7dd0188e5134724f5", func := "routing/routinglaw16.DfaWitness", spec := "dfaWitness", unfollowed := true, recurses := true, plainKeys := false, apart := false }
def DfaWitnessSaid : Prop := dfaWitnessRow.holds Try.pinned (OpenSpec.ofChange dfaWitnessSpec)

/-- ITS FALSE NEIGHBOUR: 'it returns false'. Refute it at one input. -/
def dfaWitnessWrong : ChangeSpec := { name := "dfaWitness", fn := fun _ => fun
  | [d1, d2] => { results := [.lit (.bool false)], args := [d1, d2] }
  | _ => none }
def DfaWitnessWrongFalsely : Prop := dfaWitnessRow.holds Try.pinned (OpenSpec.ofChange dfaWitnessWrong)

/-- 'routinglaw16.DfaNot': WHATEVER THE INPUT: true; the input reads as it did. -/
def dfaNotSpec : ChangeSpec := { name := "dfaNot", fn := fun _ => fun
  | [d1, d2] => { results := [.lit (.bool true)], args := [d1, d2] }
  | _ => none }
def dfaNotRow : OpenClaim := { program := "ytbpdbooalkkenaa", sum := "3d9fc1c02b4f2ed5da83327d4de8c44e6781938e3bf974b7dd0188e5134724f5", func := "routing/routinglaw16.DfaNot", spec := "dfaNot", unfollowed := true, recurses := true, plainKeys := false, apart := false }
def DfaNotSaid : Prop := dfaNotRow.holds Try.pinned (OpenSpec.ofChange dfaNotSpec)

/-- ITS FALSE NEIGHBOUR: 'it returns false'. Refute it at one input. -/
def dfaNotWrong : ChangeSpec := { name := "dfaNot", fn := fun _ => fun
  | [d1, d2] => { results := [.lit (.bool false)], args := [d1, d2] }
  | _ => none }
def DfaNotWrongFalsely : Prop := dfaNotRow.holds Try.pinned (OpenSpec.ofChange dfaNotWrong)

/-- 'routinglaw16.DfaBoth': WHATEVER THE INPUT: true; the input reads as it did. -/
def dfaBothSpec : ChangeSpec := { name := "dfaBoth", fn := fun _ => fun
  | [d1, d2, d3] => { results := [.lit (.bool true)], args := [d1, d2, d3] }
  | _ => none }
def dfaBothRow : OpenClaim := { program := "ytbpdbooalkkenaa", sum := "3d9fc1c02b4f2ed5da83327d4de8c44e6781938e3bf974b7dd0188e5134724f5", func := "routing/routinglaw16.DfaBoth", spec := "dfaBoth", unfollowed := true, recurses := true, plainKeys := false, apart := false }
def DfaBothSaid : Prop := dfaBothRow.holds Try.pinned (OpenSpec.ofChange dfaBothSpec)

/-- ITS FALSE NEIGHBOUR: 'it returns false'. Refute it at one input. -/
def dfaBothWrong : ChangeSpec := { name := "dfaBoth", fn := fun _ => fun
  | [d1, d2, d3] => { results := [.lit (.bool false)], args := [d1, d2, d3] }
  | _ => none }
def DfaBothWrongFalsely : Prop := dfaBothRow.holds Try.pinned (OpenSpec.ofChange dfaBothWrong)

/-- 'routinglaw16.DfaEqual': WHATEVER THE INPUT: true; the input reads as it did. -/
def dfaEqualSpec : ChangeSpec := { name := "dfaEqual", fn := fun _ => fun
  | [d1, d2] => { results := [.lit (.bool true)], args := [d1, d2] }
  | _ => none }
def dfaEqualRow : OpenClaim := { program := "ytbpdbooalkkenaa", sum := "3d9fc1c02b4f2ed5da83327d4de8c44e6781938e3bf974b7dd0188e5134724f5", func := "routing/routinglaw16.DfaEqual", spec := "dfaEqual", unfollowed := true, recurses := true, plainKeys := false, apart := false }
def DfaEqualSaid : Prop := dfaEqualRow.holds Try.pinned (OpenSpec.ofChange dfaEqualSpec)

/-- ITS FALSE NEIGHBOUR: 'it returns false'. Refute it at one input. -/
def dfaEqualWrong : ChangeSpec := { name := "dfaEqual", fn := fun _ => fun
  | [d1, d2] => { results := [.lit (.bool false)], args := [d1, d2] }
  | _ => none }
def DfaEqualWrongFalsely : Prop := dfaEqualRow.holds Try.pinned (OpenSpec.ofChange dfaEqualWrong)

/-- 'routinglaw16.DfaMinimal': WHATEVER THE INPUT: true; the input reads as it did. -/
def dfaMinimalSpec : ChangeSpec := { name := "dfaMinimal", fn := fun _ => fun
  | [d1, d2] => { results := [.lit (.bool true)], args := [d1, d2] }
  | _ => none }
def dfaMinimalRow : OpenClaim := { program := "ytbpdbooalkkenaa", sum := "3d9fc1c02b4f2ed5da83327d4de8c44e6781938e3bf974b7dd0188e5134724f5", func := "routing/routinglaw16.DfaMinimal", spec := "dfaMinimal", unfollowed := true, recurses := true, plainKeys := false, apart := false }
def DfaMinimalSaid : Prop := dfaMinimalRow.holds Try.pinned (OpenSpec.ofChange dfaMinimalSpec)

/-- ITS FALSE NEIGHBOUR: 'it returns false'. Refute it at one input. -/
def dfaMinimalWrong : ChangeSpec := { name := "dfaMinimal", fn := fun _ => fun
  | [d1, d2] => { results := [.lit (.bool false)], args := [d1, d2] }
  | _ => none }
def DfaMinimalWrongFalsely : Prop := dfaMinimalRow.holds Try.pinned (OpenSpec.ofChange dfaMinimalWrong)

/-- 'routinglaw16.DfaSame': WHATEVER THE INPUT: true; the input reads as it did. -/
def dfaSameSpec : ChangeSpec := { name := "dfaSame", fn := fun _ => fun
  | [d1, d2] => { results := [.lit (.bool true)], args := [d1, d2] }
  | _ => none }
def dfaSameRow : OpenClaim := { program := "ytbpdbooalkkenaa", sum := "3d9fc1c02b4f2ed5da83327d4de8c44e6781938e3bf974b7dd0188e5134724f5", func := "routing/routinglaw16.DfaSame", spec := "dfaSame", unfollowed := true, recurses := true, loops := true, plainKeys := false, apart := false }
def DfaSameSaid : Prop := dfaSameRow.holds Try.pinned (OpenSpec.ofChange dfaSameSpec)

/-- ITS FALSE NEIGHBOUR: 'it returns false'. Refute it at one input. -/
def dfaSameWrong : ChangeSpec := { name := "dfaSame", fn := fun _ => fun
  | [d1, d2] => { results := [.lit (.bool false)], args := [d1, d2] }
  | _ => none }
def DfaSameWrongFalsely : Prop := dfaSameRow.holds Try.pinned (OpenSpec.ofChange dfaSameWrong)

/- THE SECOND FORM. 'bulk': how many values and letters a reading holds, each counted each time it is reached (what is shared counts as often as it is met; a slice's spare places count too). A statement '..UptoSaid' is the law's where the arguments, and the package variables that the reading takes, are together of bulk at most 1048576: NARROWER than '..Said'. Prove '..Said' where nothing that the law and all that it calls make is longer than what came in: it says more and counts as full. Else prove '..UptoSaid'. A law counts once. -/
mutual
def uptoBulk {H : Type} : DataW H → Nat
  | .lit (.string bytes) => bytes.length + 1
  | .lit _ => 1
  | .nil => 1
  | .ptr d => uptoBulk d + 1
  | .slice elems spare => uptoBulkAll elems + uptoBulkAll spare + 1
  | .agg parts => uptoBulkAll parts + 1
  | .iface _ d => uptoBulk d + 1
  | .map entries => uptoBulkEntries entries + 1
  | .held _ => 1
def uptoBulkAll {H : Type} : List (DataW H) → Nat
  | [] => 0
  | d :: r => uptoBulk d + uptoBulkAll r
def uptoBulkEntries {H : Type} : List (Lit × DataW H) → Nat
  | [] => 0
  | x :: r => uptoBulkEntry x + uptoBulkEntries r
def uptoBulkEntry {H : Type} : Lit × DataW H → Nat
  | (.string bytes, d) => bytes.length + uptoBulk d + 1
  | (_, d) => uptoBulk d + 1
 end
def uptoSmall : (H : Type) → List (DataW H) → Bool := fun _ ds => decide (uptoBulkAll ds ≤ 1048576)
def OpenSpec.upto (s : _root_.Go.ChangeSpec) : _root_.Go.OpenSpec := { _root_.Go.OpenSpec.ofChange s with cond := some uptoSmall }

/-- 'routinglaw16.DfaCheck', WHERE WHAT IT READS IS OF BULK AT MOST 1048576: true; the input reads as it did. -/
def dfaCheckUptoRow : OpenClaim := { program := "ytbpdbooalkkenaa", sum := "3d9fc1c02b4f2ed5da83327d4de8c44e6781938e3bf974b7dd0188e5134724f5", func := "routing/routinglaw16.DfaCheck", spec := "dfaCheck", unfollowed := true, recurses := true, plainKeys := false, apart := false, narrowed := true }
def DfaCheckUptoSaid : Prop := dfaCheckUptoRow.holds Try.pinned (OpenSpec.upto dfaCheckSpec)

/-- 'routinglaw16.DfaBuild', WHERE WHAT IT READS IS OF BULK AT MOST 1048576: true; the input reads as it did. -/
def dfaBuildUptoRow : OpenClaim := { program := "ytbpdbooalkkenaa", sum := "3d9fc1c02b4f2ed5da83327d4de8c44e6781938e3bf974b7dd0188e5134724f5", func := "routing/routinglaw16.DfaBuild", spec := "dfaBuild", unfollowed := true, recurses := true, loops := true, plainKeys := false, apart := false, narrowed := true }
def DfaBuildUptoSaid : Prop := dfaBuildUptoRow.holds Try.pinned (OpenSpec.upto dfaBuildSpec)

/-- 'routinglaw16.DfaMatch', WHERE WHAT IT READS IS OF BULK AT MOST 1048576: true; the input reads as it did. -/
def dfaMatchUptoRow : OpenClaim := { program := "ytbpdbooalkkenaa", sum := "3d9fc1c02b4f2ed5da83327d4de8c44e6781938e3bf974b7dd0188e5134724f5", func := "routing/routinglaw16.DfaMatch", spec := "dfaMatch", unfollowed := true, recurses := true, plainKeys := false, apart := false, narrowed := true }
def DfaMatchUptoSaid : Prop := dfaMatchUptoRow.holds Try.pinned (OpenSpec.upto dfaMatchSpec)

/-- 'routinglaw16.DfaWitness', WHERE WHAT IT READS IS OF BULK AT MOST 1048576: true; the input reads as it did. -/
def dfaWitnessUptoRow : OpenClaim := { program := "ytbpdbooalkkenaa", sum := "3d9fc1c02b4f2ed5da83327d4de8c44e6781938e3bf974b7dd0188e5134724f5", func := "routing/routinglaw16.DfaWitness", spec := "dfaWitness", unfollowed := true, recurses := true, plainKeys := false, apart := false, narrowed := true }
def DfaWitnessUptoSaid : Prop := dfaWitnessUptoRow.holds Try.pinned (OpenSpec.upto dfaWitnessSpec)

/-- 'routinglaw16.DfaNot', WHERE WHAT IT READS IS OF BULK AT MOST 1048576: true; the input reads as it did. -/
def dfaNotUptoRow : OpenClaim := { program := "ytbpdbooalkkenaa", sum := "3d9fc1c02b4f2ed5da83327d4de8c44e6781938e3bf974b7dd0188e5134724f5", func := "routing/routinglaw16.DfaNot", spec := "dfaNot", unfollowed := true, recurses := true, plainKeys := false, apart := false, narrowed := true }
def DfaNotUptoSaid : Prop := dfaNotUptoRow.holds Try.pinned (OpenSpec.upto dfaNotSpec)

/-- 'routinglaw16.DfaBoth', WHERE WHAT IT READS IS OF BULK AT MOST 1048576: true; the input reads as it did. -/
def dfaBothUptoRow : OpenClaim := { program := "ytbpdbooalkkenaa", sum := "3d9fc1c02b4f2ed5da83327d4de8c44e6781938e3bf974b7dd0188e5134724f5", func := "routing/routinglaw16.DfaBoth", spec := "dfaBoth", unfollowed := true, recurses := true, plainKeys := false, apart := false, narrowed := true }
def DfaBothUptoSaid : Prop := dfaBothUptoRow.holds Try.pinned (OpenSpec.upto dfaBothSpec)

/-- 'routinglaw16.DfaEqual', WHERE WHAT IT READS IS OF BULK AT MOST 1048576: true; the input reads as it did. -/
def dfaEqualUptoRow : OpenClaim := { program := "ytbpdbooalkkenaa", sum := "3d9fc1c02b4f2ed5da83327d4de8c44e6781938e3bf974b7dd0188e5134724f5", func := "routing/routinglaw16.DfaEqual", spec := "dfaEqual", unfollowed := true, recurses := true, plainKeys := false, apart := false, narrowed := true }
def DfaEqualUptoSaid : Prop := dfaEqualUptoRow.holds Try.pinned (OpenSpec.upto dfaEqualSpec)

/-- 'routinglaw16.DfaMinimal', WHERE WHAT IT READS IS OF BULK AT MOST 1048576: true; the input reads as it did. -/
def dfaMinimalUptoRow : OpenClaim := { program := "ytbpdbooalkkenaa", sum := "3d9fc1c02b4f2ed5da83327d4de8c44e6781938e3bf974b7dd0188e5134724f5", func := "routing/routinglaw16.DfaMinimal", spec := "dfaMinimal", unfollowed := true, recurses := true, plainKeys := false, apart := false, narrowed := true }
def DfaMinimalUptoSaid : Prop := dfaMinimalUptoRow.holds Try.pinned (OpenSpec.upto dfaMinimalSpec)

/-- 'routinglaw16.DfaSame', WHERE WHAT IT READS IS OF BULK AT MOST 1048576: true; the input reads as it did. -/
def dfaSameUptoRow : OpenClaim := { program := "ytbpdbooalkkenaa", sum := "3d9fc1c02b4f2ed5da83327d4de8c44e6781938e3bf974b7dd0188e5134724f5", func := "routing/routinglaw16.DfaSame", spec := "dfaSame", unfollowed := true, recurses := true, loops := true, plainKeys := false, apart := false, narrowed := true }
def DfaSameUptoSaid : Prop := dfaSameUptoRow.holds Try.pinned (OpenSpec.upto dfaSameSpec)

end Rows
end Go.Proofs.Ytbpdbooalkkenaa
