/-
  NARROWER THAN 'FOR EVERY INPUT', by the rows' own cells (each row's printed sentence says how): CompileBuild: laid · CompileCheck: laid · CompileHolds: laid · CompileEval: laid · CompileReduce: laid · CompileReduced: laid · CompileOutcome: laid · CompileSame: laid · CompileAgrees: laid.
  DERIVED. THE GIVEN ROWS OF THIS SEAT. 9 by the template 'for every input the law returns true; each argument reads behind the call as it read before'; 0 by the template 'total and deterministic' (their statements: YtdgiglmmpbndmaaGreatDoorTotals.lean).
  GIVEN WITH THE SEED: the statements are not yours to turn. If you find one false, say at which input.
  Laid BY PROGRAM, IN A SANDBOX (cutbox-rows.mjs): the forced cells as the released guide's own fill.sh prints them over the translation a7070fe2b7c0af5d… (all of the seat's roots in one cut). By AI agents, Wed Nov 11 2026. No macro, syntax, notation, axiom, sorry.
-/
import Derived.Test.YtdgiglmmpbndmaaGreatDoorChecked
import GoSem.Claim
import GoSem.ClaimJoined
import GoSem.ClaimMapViews
import Derived.JoinedTies
import Derived.KernelRfl
namespace Go.Proofs.YtdgiglmmpbndmaaGreatDoor
/- THE CELL 'sum', in the pinned program and in every row, IS THE sha256 OF THE DUMP (.gsa) THAT YtdgiglmmpbndmaaGreatDoorProg.lean LOADS. Nothing in Lean hashes anything: it is a label: what it is worth is what the hold of that sum in a sandbox is worth. -/
noncomputable def Tryz.pinned : Pinned := { name := "ytdgiglmmpbndmaagreatdoor", sum := "a7070fe2b7c0af5df170db7035d1b3b194f1a61720180afed87cc659163a179d", checked := Tryz.checked }
namespace Rows
def none {H : Type} : Left H := { results := [], args := [] }

/- WHAT THE LISTED PACKAGE-LEVEL VARIABLES READ AS WHEN THE CALL BEGINS. Each datum BY PROGRAM (the guide's laid-datum.mjs) off the statement by which the dump's own 'gosem.cut.vars' lays the variable. In a bare row this is a premise. The card (YtdgiglmmpbndmaaGreatDoorCards.lean) ties it to the program's text. -/
def laid_math_bits_deBruijn32tab {H : Type} : DataW H := .agg [.lit (.int .u8 0), .lit (.int .u8 1), .lit (.int .u8 28), .lit (.int .u8 2), .lit (.int .u8 29), .lit (.int .u8 14), .lit (.int .u8 24), .lit (.int .u8 3), .lit (.int .u8 30), .lit (.int .u8 22), .lit (.int .u8 20), .lit (.int .u8 15), .lit (.int .u8 25), .lit (.int .u8 17), .lit (.int .u8 4), .lit (.int .u8 8), .lit (.int .u8 31), .lit (.int .u8 27), .lit (.int .u8 13), .lit (.int .u8 23), .lit (.int .u8 21), .lit (.int .u8 19), .lit (.int .u8 16), .lit (.int .u8 7), .lit (.int .u8 26), .lit (.int .u8 12), .lit (.int .u8 18), .lit (.int .u8 6), .lit (.int .u8 11), .lit (.int .u8 5), .lit (.int .u8 10), .lit (.int .u8 9)]
def laid_math_bits_deBruijn64tab {H : Type} : DataW H := .agg [.lit (.int .u8 0), .lit (.int .u8 1), .lit (.int .u8 56), .lit (.int .u8 2), .lit (.int .u8 57), .lit (.int .u8 49), .lit (.int .u8 28), .lit (.int .u8 3), .lit (.int .u8 61), .lit (.int .u8 58), .lit (.int .u8 42), .lit (.int .u8 50), .lit (.int .u8 38), .lit (.int .u8 29), .lit (.int .u8 17), .lit (.int .u8 4), .lit (.int .u8 62), .lit (.int .u8 47), .lit (.int .u8 59), .lit (.int .u8 36), .lit (.int .u8 45), .lit (.int .u8 43), .lit (.int .u8 51), .lit (.int .u8 22), .lit (.int .u8 53), .lit (.int .u8 39), .lit (.int .u8 33), .lit (.int .u8 30), .lit (.int .u8 24), .lit (.int .u8 18), .lit (.int .u8 12), .lit (.int .u8 5), .lit (.int .u8 63), .lit (.int .u8 55), .lit (.int .u8 48), .lit (.int .u8 27), .lit (.int .u8 60), .lit (.int .u8 41), .lit (.int .u8 37), .lit (.int .u8 16), .lit (.int .u8 46), .lit (.int .u8 35), .lit (.int .u8 44), .lit (.int .u8 21), .lit (.int .u8 52), .lit (.int .u8 32), .lit (.int .u8 23), .lit (.int .u8 11), .lit (.int .u8 54), .lit (.int .u8 26), .lit (.int .u8 40), .lit (.int .u8 15), .lit (.int .u8 34), .lit (.int .u8 20), .lit (.int .u8 31), .lit (.int .u8 10), .lit (.int .u8 25), .lit (.int .u8 14), .lit (.int .u8 19), .lit (.int .u8 9), .lit (.int .u8 13), .lit (.int .u8 8), .lit (.int .u8 7), .lit (.int .u8 6)]
def laid_internal_strconv_uint64pow10 {H : Type} : DataW H := .agg [.lit (.int .u64 1), .lit (.int .u64 10), .lit (.int .u64 100), .lit (.int .u64 1000), .lit (.int .u64 10000), .lit (.int .u64 100000), .lit (.int .u64 1000000), .lit (.int .u64 10000000), .lit (.int .u64 100000000), .lit (.int .u64 1000000000), .lit (.int .u64 10000000000), .lit (.int .u64 100000000000), .lit (.int .u64 1000000000000), .lit (.int .u64 10000000000000), .lit (.int .u64 100000000000000), .lit (.int .u64 1000000000000000), .lit (.int .u64 10000000000000000), .lit (.int .u64 100000000000000000), .lit (.int .u64 1000000000000000000), .lit (.int .u64 10000000000000000000)]

/-- 'routinglaw22.CompileBuild': WHATEVER THE INPUT: true; the input reads as it did. -/
def compileBuildSpec : ChangeSpec := { name := "compileBuild", fn := fun _ => fun
  | [d1, d2] => { results := [.lit (.bool true)], args := [d1, d2] }
  | _ => none }
def compileBuildRow : OpenClaim := { program := "ytdgiglmmpbndmaagreatdoor", sum := "a7070fe2b7c0af5df170db7035d1b3b194f1a61720180afed87cc659163a179d", func := "routing/routinglaw22.CompileBuild", spec := "compileBuild", unfollowed := true, recurses := true, named := ["internal/strconv.uint64pow10", "math/bits.deBruijn32tab", "math/bits.deBruijn64tab"], plainKeys := false, apart := false, laid := [("math/bits.deBruijn32tab", laid_math_bits_deBruijn32tab), ("math/bits.deBruijn64tab", laid_math_bits_deBruijn64tab), ("internal/strconv.uint64pow10", laid_internal_strconv_uint64pow10)] }
def CompileBuildSaid : Prop := compileBuildRow.holds Tryz.pinned (OpenSpec.ofChange compileBuildSpec)

/-- ITS FALSE NEIGHBOUR: 'it returns false'. Refute it at one input. -/
def compileBuildWrong : ChangeSpec := { name := "compileBuild", fn := fun _ => fun
  | [d1, d2] => { results := [.lit (.bool false)], args := [d1, d2] }
  | _ => none }
def CompileBuildWrongFalsely : Prop := compileBuildRow.holds Tryz.pinned (OpenSpec.ofChange compileBuildWrong)

/-- 'routinglaw22.CompileCheck': WHATEVER THE INPUT: true; the input reads as it did. -/
def compileCheckSpec : ChangeSpec := { name := "compileCheck", fn := fun _ => fun
  | [d] => { results := [.lit (.bool true)], args := [d] }
  | _ => none }
def compileCheckRow : OpenClaim := { program := "ytdgiglmmpbndmaagreatdoor", sum := "a7070fe2b7c0af5df170db7035d1b3b194f1a61720180afed87cc659163a179d", func := "routing/routinglaw22.CompileCheck", spec := "compileCheck", unfollowed := true, recurses := true, named := ["internal/strconv.uint64pow10", "math/bits.deBruijn32tab", "math/bits.deBruijn64tab"], plainKeys := false, apart := false, laid := [("math/bits.deBruijn32tab", laid_math_bits_deBruijn32tab), ("math/bits.deBruijn64tab", laid_math_bits_deBruijn64tab), ("internal/strconv.uint64pow10", laid_internal_strconv_uint64pow10)] }
def CompileCheckSaid : Prop := compileCheckRow.holds Tryz.pinned (OpenSpec.ofChange compileCheckSpec)

/-- ITS FALSE NEIGHBOUR: 'it returns false'. Refute it at one input. -/
def compileCheckWrong : ChangeSpec := { name := "compileCheck", fn := fun _ => fun
  | [d] => { results := [.lit (.bool false)], args := [d] }
  | _ => none }
def CompileCheckWrongFalsely : Prop := compileCheckRow.holds Tryz.pinned (OpenSpec.ofChange compileCheckWrong)

/-- 'routinglaw22.CompileHolds': WHATEVER THE INPUT: true; the input reads as it did. -/
def compileHoldsSpec : ChangeSpec := { name := "compileHolds", fn := fun _ => fun
  | [d1, d2] => { results := [.lit (.bool true)], args := [d1, d2] }
  | _ => none }
def compileHoldsRow : OpenClaim := { program := "ytdgiglmmpbndmaagreatdoor", sum := "a7070fe2b7c0af5df170db7035d1b3b194f1a61720180afed87cc659163a179d", func := "routing/routinglaw22.CompileHolds", spec := "compileHolds", unfollowed := true, recurses := true, named := ["internal/strconv.uint64pow10", "math/bits.deBruijn32tab", "math/bits.deBruijn64tab"], plainKeys := false, apart := false, laid := [("math/bits.deBruijn32tab", laid_math_bits_deBruijn32tab), ("math/bits.deBruijn64tab", laid_math_bits_deBruijn64tab), ("internal/strconv.uint64pow10", laid_internal_strconv_uint64pow10)] }
def CompileHoldsSaid : Prop := compileHoldsRow.holds Tryz.pinned (OpenSpec.ofChange compileHoldsSpec)

/-- ITS FALSE NEIGHBOUR: 'it returns false'. Refute it at one input. -/
def compileHoldsWrong : ChangeSpec := { name := "compileHolds", fn := fun _ => fun
  | [d1, d2] => { results := [.lit (.bool false)], args := [d1, d2] }
  | _ => none }
def CompileHoldsWrongFalsely : Prop := compileHoldsRow.holds Tryz.pinned (OpenSpec.ofChange compileHoldsWrong)

/-- 'routinglaw22.CompileEval': WHATEVER THE INPUT: true; the input reads as it did. -/
def compileEvalSpec : ChangeSpec := { name := "compileEval", fn := fun _ => fun
  | [d1, d2] => { results := [.lit (.bool true)], args := [d1, d2] }
  | _ => none }
def compileEvalRow : OpenClaim := { program := "ytdgiglmmpbndmaagreatdoor", sum := "a7070fe2b7c0af5df170db7035d1b3b194f1a61720180afed87cc659163a179d", func := "routing/routinglaw22.CompileEval", spec := "compileEval", unfollowed := true, recurses := true, named := ["internal/strconv.uint64pow10", "math/bits.deBruijn32tab", "math/bits.deBruijn64tab"], plainKeys := false, apart := false, laid := [("math/bits.deBruijn32tab", laid_math_bits_deBruijn32tab), ("math/bits.deBruijn64tab", laid_math_bits_deBruijn64tab), ("internal/strconv.uint64pow10", laid_internal_strconv_uint64pow10)] }
def CompileEvalSaid : Prop := compileEvalRow.holds Tryz.pinned (OpenSpec.ofChange compileEvalSpec)

/-- ITS FALSE NEIGHBOUR: 'it returns false'. Refute it at one input. -/
def compileEvalWrong : ChangeSpec := { name := "compileEval", fn := fun _ => fun
  | [d1, d2] => { results := [.lit (.bool false)], args := [d1, d2] }
  | _ => none }
def CompileEvalWrongFalsely : Prop := compileEvalRow.holds Tryz.pinned (OpenSpec.ofChange compileEvalWrong)

/-- 'routinglaw22.CompileReduce': WHATEVER THE INPUT: true; the input reads as it did. -/
def compileReduceSpec : ChangeSpec := { name := "compileReduce", fn := fun _ => fun
  | [d1, d2] => { results := [.lit (.bool true)], args := [d1, d2] }
  | _ => none }
def compileReduceRow : OpenClaim := { program := "ytdgiglmmpbndmaagreatdoor", sum := "a7070fe2b7c0af5df170db7035d1b3b194f1a61720180afed87cc659163a179d", func := "routing/routinglaw22.CompileReduce", spec := "compileReduce", unfollowed := true, recurses := true, named := ["internal/strconv.uint64pow10", "math/bits.deBruijn32tab", "math/bits.deBruijn64tab"], plainKeys := false, apart := false, laid := [("math/bits.deBruijn32tab", laid_math_bits_deBruijn32tab), ("math/bits.deBruijn64tab", laid_math_bits_deBruijn64tab), ("internal/strconv.uint64pow10", laid_internal_strconv_uint64pow10)] }
def CompileReduceSaid : Prop := compileReduceRow.holds Tryz.pinned (OpenSpec.ofChange compileReduceSpec)

/-- ITS FALSE NEIGHBOUR: 'it returns false'. Refute it at one input. -/
def compileReduceWrong : ChangeSpec := { name := "compileReduce", fn := fun _ => fun
  | [d1, d2] => { results := [.lit (.bool false)], args := [d1, d2] }
  | _ => none }
def CompileReduceWrongFalsely : Prop := compileReduceRow.holds Tryz.pinned (OpenSpec.ofChange compileReduceWrong)

/-- 'routinglaw22.CompileReduced': WHATEVER THE INPUT: true; the input reads as it did. -/
def compileReducedSpec : ChangeSpec := { name := "compileReduced", fn := fun _ => fun
  | [d1, d2] => { results := [.lit (.bool true)], args := [d1, d2] }
  | _ => none }
def compileReducedRow : OpenClaim := { program := "ytdgiglmmpbndmaagreatdoor", sum := "a7070fe2b7c0af5df170db7035d1b3b194f1a61720180afed87cc659163a179d", func := "routing/routinglaw22.CompileReduced", spec := "compileReduced", unfollowed := true, recurses := true, named := ["internal/strconv.uint64pow10", "math/bits.deBruijn32tab", "math/bits.deBruijn64tab"], plainKeys := false, apart := false, laid := [("math/bits.deBruijn32tab", laid_math_bits_deBruijn32tab), ("math/bits.deBruijn64tab", laid_math_bits_deBruijn64tab), ("internal/strconv.uint64pow10", laid_internal_strconv_uint64pow10)] }
def CompileReducedSaid : Prop := compileReducedRow.holds Tryz.pinned (OpenSpec.ofChange compileReducedSpec)

/-- ITS FALSE NEIGHBOUR: 'it returns false'. Refute it at one input. -/
def compileReducedWrong : ChangeSpec := { name := "compileReduced", fn := fun _ => fun
  | [d1, d2] => { results := [.lit (.bool false)], args := [d1, d2] }
  | _ => none }
def CompileReducedWrongFalsely : Prop := compileReducedRow.holds Tryz.pinned (OpenSpec.ofChange compileReducedWrong)

/-- 'routinglaw22.CompileOutcome': WHATEVER THE INPUT: true; the input reads as it did. -/
def compileOutcomeSpec : ChangeSpec := { name := "compileOutcome", fn := fun _ => fun
  | [d1, d2] => { results := [.lit (.bool true)], args := [d1, d2] }
  | _ => none }
def compileOutcomeRow : OpenClaim := { program := "ytdgiglmmpbndmaagreatdoor", sum := "a7070fe2b7c0af5df170db7035d1b3b194f1a61720180afed87cc659163a179d", func := "routing/routinglaw22.CompileOutcome", spec := "compileOutcome", unfollowed := true, recurses := true, named := ["internal/strconv.uint64pow10", "math/bits.deBruijn32tab", "math/bits.deBruijn64tab"], plainKeys := false, apart := false, laid := [("math/bits.deBruijn32tab", laid_math_bits_deBruijn32tab), ("math/bits.deBruijn64tab", laid_math_bits_deBruijn64tab), ("internal/strconv.uint64pow10", laid_internal_strconv_uint64pow10)] }
def CompileOutcomeSaid : Prop := compileOutcomeRow.holds Tryz.pinned (OpenSpec.ofChange compileOutcomeSpec)

/-- ITS FALSE NEIGHBOUR: 'it returns false'. Refute it at one input. -/
def compileOutcomeWrong : ChangeSpec := { name := "compileOutcome", fn := fun _ => fun
  | [d1, d2] => { results := [.lit (.bool false)], args := [d1, d2] }
  | _ => none }
def CompileOutcomeWrongFalsely : Prop := compileOutcomeRow.holds Tryz.pinned (OpenSpec.ofChange compileOutcomeWrong)

/-- 'routinglaw22.CompileSame': WHATEVER THE INPUT: true; the input reads as it did. -/
def compileSameSpec : ChangeSpec := { name := "compileSame", fn := fun _ => fun
  | [d1, d2] => { results := [.lit (.bool true)], args := [d1, d2] }
  | _ => none }
def compileSameRow : OpenClaim := { program := "ytdgiglmmpbndmaagreatdoor", sum := "a7070fe2b7c0af5df170db7035d1b3b194f1a61720180afed87cc659163a179d", func := "routing/routinglaw22.CompileSame", spec := "compileSame", unfollowed := true, recurses := true, named := ["internal/strconv.uint64pow10", "math/bits.deBruijn32tab", "math/bits.deBruijn64tab"], plainKeys := false, apart := false, laid := [("math/bits.deBruijn32tab", laid_math_bits_deBruijn32tab), ("math/bits.deBruijn64tab", laid_math_bits_deBruijn64tab), ("internal/strconv.uint64pow10", laid_internal_strconv_uint64pow10)] }
def CompileSameSaid : Prop := compileSameRow.holds Tryz.pinned (OpenSpec.ofChange compileSameSpec)

/-- ITS FALSE NEIGHBOUR: 'it returns false'. Refute it at one input. -/
def compileSameWrong : ChangeSpec := { name := "compileSame", fn := fun _ => fun
  | [d1, d2] => { results := [.lit (.bool false)], args := [d1, d2] }
  | _ => none }
def CompileSameWrongFalsely : Prop := compileSameRow.holds Tryz.pinned (OpenSpec.ofChange compileSameWrong)

/-- 'routinglaw22.CompileAgrees': WHATEVER THE INPUT: true; the input reads as it did. -/
def compileAgreesSpec : ChangeSpec := { name := "compileAgrees", fn := fun _ => fun
  | [d1, d2, d3] => { results := [.lit (.bool true)], args := [d1, d2, d3] }
  | _ => none }
def compileAgreesRow : OpenClaim := { program := "ytdgiglmmpbndmaagreatdoor", sum := "a7070fe2b7c0af5df170db7035d1b3b194f1a61720180afed87cc659163a179d", func := "routing/routinglaw22.CompileAgrees", spec := "compileAgrees", unfollowed := true, recurses := true, named := ["internal/strconv.uint64pow10", "math/bits.deBruijn32tab", "math/bits.deBruijn64tab"], plainKeys := false, apart := false, laid := [("math/bits.deBruijn32tab", laid_math_bits_deBruijn32tab), ("math/bits.deBruijn64tab", laid_math_bits_deBruijn64tab), ("internal/strconv.uint64pow10", laid_internal_strconv_uint64pow10)] }
def CompileAgreesSaid : Prop := compileAgreesRow.holds Tryz.pinned (OpenSpec.ofChange compileAgreesSpec)

/-- ITS FALSE NEIGHBOUR: 'it returns false'. Refute it at one input. -/
def compileAgreesWrong : ChangeSpec := { name := "compileAgrees", fn := fun _ => fun
  | [d1, d2, d3] => { results := [.lit (.bool false)], args := [d1, d2, d3] }
  | _ => none }
def CompileAgreesWrongFalsely : Prop := compileAgreesRow.holds Tryz.pinned (OpenSpec.ofChange compileAgreesWrong)

/- THE SECOND FORM. 'bulk': how many values and letters a reading holds, each counted each time it is reached (what is shared counts as often as it is met; a slice's spare places count too). A statement '..UptoSaid' is the law's where the arguments, and the package variables that the reading takes, are together of bulk at most 1048576: NARROWER than '..Said'. Prove '..Said' where nothing that the law and all that it calls make is longer than what came in: it says more and counts as full. Else prove '..UptoSaid'. A law counts once. -/
mutual
def uptoBulk {H : Type} : DataW H → Nat
  | .lit (.string bytes) => bytes.length + 1
  | .lit _ => 1
  | .nil => 1
  | .ptr d => uptoBulk d + 1
  | .slice elems spare => uptoBulkAll elems + uptoBulkAll spare + 1
  | .agg parts => uptoBulkAll parts + 1
  | .iface _ d => uptoBulk d + 1
  | .map entries => uptoBulkEntries entries + 1
  | .held _ => 1
def uptoBulkAll {H : Type} : List (DataW H) → Nat
  | [] => 0
  | d :: r => uptoBulk d + uptoBulkAll r
def uptoBulkEntries {H : Type} : List (Lit × DataW H) → Nat
  | [] => 0
  | x :: r => uptoBulkEntry x + uptoBulkEntries r
def uptoBulkEntry {H : Type} : Lit × DataW H → Nat
  | (.string bytes, d) => bytes.length + uptoBulk d + 1
  | (_, d) => uptoBulk d + 1
 end
def uptoSmall : (H : Type) → List (DataW H) → Bool := fun _ ds => decide (uptoBulkAll ds ≤ 1048576)
def OpenSpec.upto (s : _root_.Go.ChangeSpec) : _root_.Go.OpenSpec := { _root_.Go.OpenSpec.ofChange s with cond := some uptoSmall }

/-- 'routinglaw22.CompileBuild', WHERE WHAT IT READS IS OF BULK AT MOST 1048576: true; the input reads as it did. -/
def compileBuildUptoRow : OpenClaim := { program := "ytdgiglmmpbndmaagreatdoor", sum := "a7070fe2b7c0af5df170db7035d1b3b194f1a61720180afed87cc659163a179d", func := "routing/routinglaw22.CompileBuild", spec := "compileBuild", unfollowed := true, recurses := true, named := ["internal/strconv.uint64pow10", "math/bits.deBruijn32tab", "math/bits.deBruijn64tab"], plainKeys := false, apart := false, laid := [("math/bits.deBruijn32tab", laid_math_bits_deBruijn32tab), ("math/bits.deBruijn64tab", laid_math_bits_deBruijn64tab), ("internal/strconv.uint64pow10", laid_internal_strconv_uint64pow10)], narrowed := true }
def CompileBuildUptoSaid : Prop := compileBuildUptoRow.holds Tryz.pinned (OpenSpec.upto compileBuildSpec)

/-- 'routinglaw22.CompileCheck', WHERE WHAT IT READS IS OF BULK AT MOST 1048576: true; the input reads as it did. -/
def compileCheckUptoRow : OpenClaim := { program := "ytdgiglmmpbndmaagreatdoor", sum := "a7070fe2b7c0af5df170db7035d1b3b194f1a61720180afed87cc659163a179d", func := "routing/routinglaw22.CompileCheck", spec := "compileCheck", unfollowed := true, recurses := true, named := ["internal/strconv.uint64pow10", "math/bits.deBruijn32tab", "math/bits.deBruijn64tab"], plainKeys := false, apart := false, laid := [("math/bits.deBruijn32tab", laid_math_bits_deBruijn32tab), ("math/bits.deBruijn64tab", laid_math_bits_deBruijn64tab), ("internal/strconv.uint64pow10", laid_internal_strconv_uint64pow10)], narrowed := true }
def CompileCheckUptoSaid : Prop := compileCheckUptoRow.holds Tryz.pinned (OpenSpec.upto compileCheckSpec)

/-- 'routinglaw22.CompileHolds', WHERE WHAT IT READS IS OF BULK AT MOST 1048576: true; the input reads as it did. -/
def compileHoldsUptoRow : OpenClaim := { program := "ytdgiglmmpbndmaagreatdoor", sum := "a7070fe2b7c0af5df170db7035d1b3b194f1a61720180afed87cc659163a179d", func := "routing/routinglaw22.CompileHolds", spec := "compileHolds", unfollowed := true, recurses := true, named := ["internal/strconv.uint64pow10", "math/bits.deBruijn32tab", "math/bits.deBruijn64tab"], plainKeys := false, apart := false, laid := [("math/bits.deBruijn32tab", laid_math_bits_deBruijn32tab), ("math/bits.deBruijn64tab", laid_math_bits_deBruijn64tab), ("internal/strconv.uint64pow10", laid_internal_strconv_uint64pow10)], narrowed := true }
def CompileHoldsUptoSaid : Prop := compileHoldsUptoRow.holds Tryz.pinned (OpenSpec.upto compileHoldsSpec)

/-- 'routinglaw22.CompileEval', WHERE WHAT IT READS IS OF BULK AT MOST 1048576: true; the input reads as it did. -/
def compileEvalUptoRow : OpenClaim := { program := "ytdgiglmmpbndmaagreatdoor", sum := "a7070fe2b7c0af5df170db7035d1b3b194f1a61720180afed87cc659163a179d", func := "routing/routinglaw22.CompileEval", spec := "compileEval", unfollowed := true, recurses := true, named := ["internal/strconv.uint64pow10", "math/bits.deBruijn32tab", "math/bits.deBruijn64tab"], plainKeys := false, apart := false, laid := [("math/bits.deBruijn32tab", laid_math_bits_deBruijn32tab), ("math/bits.deBruijn64tab", laid_math_bits_deBruijn64tab), ("internal/strconv.uint64pow10", laid_internal_strconv_uint64pow10)], narrowed := true }
def CompileEvalUptoSaid : Prop := compileEvalUptoRow.holds Tryz.pinned (OpenSpec.upto compileEvalSpec)

/-- 'routinglaw22.CompileReduce', WHERE WHAT IT READS IS OF BULK AT MOST 1048576: true; the input reads as it did. -/
def compileReduceUptoRow : OpenClaim := { program := "ytdgiglmmpbndmaagreatdoor", sum := "a7070fe2b7c0af5df170db7035d1b3b194f1a61720180afed87cc659163a179d", func := "routing/routinglaw22.CompileReduce", spec := "compileReduce", unfollowed := true, recurses := true, named := ["internal/strconv.uint64pow10", "math/bits.deBruijn32tab", "math/bits.deBruijn64tab"], plainKeys := false, apart := false, laid := [("math/bits.deBruijn32tab", laid_math_bits_deBruijn32tab), ("math/bits.deBruijn64tab", laid_math_bits_deBruijn64tab), ("internal/strconv.uint64pow10", laid_internal_strconv_uint64pow10)], narrowed := true }
def CompileReduceUptoSaid : Prop := compileReduceUptoRow.holds Tryz.pinned (OpenSpec.upto compileReduceSpec)

/-- 'routinglaw22.CompileReduced', WHERE WHAT IT READS IS OF BULK AT MOST 1048576: true; the input reads as it did. -/
def compileReducedUptoRow : OpenClaim := { program := "ytdgiglmmpbndmaagreatdoor", sum := "a7070fe2b7c0af5df170db7035d1b3b194f1a61720180afed87cc659163a179d", func := "routing/routinglaw22.CompileReduced", spec := "compileReduced", unfollowed := true, recurses := true, named := ["internal/strconv.uint64pow10", "math/bits.deBruijn32tab", "math/bits.deBruijn64tab"], plainKeys := false, apart := false, laid := [("math/bits.deBruijn32tab", laid_math_bits_deBruijn32tab), ("math/bits.deBruijn64tab", laid_math_bits_deBruijn64tab), ("internal/strconv.uint64pow10", laid_internal_strconv_uint64pow10)], narrowed := true }
def CompileReducedUptoSaid : Prop := compileReducedUptoRow.holds Tryz.pinned (OpenSpec.upto compileReducedSpec)

/-- 'routinglaw22.CompileOutcome', WHERE WHAT IT READS IS OF BULK AT MOST 1048576: true; the input reads as it did. -/
def compileOutcomeUptoRow : OpenClaim := { program := "ytdgiglmmpbndmaagreatdoor", sum := "a7070fe2b7c0af5df170db7035d1b3b194f1a61720180afed87cc659163a179d", func := "routing/routinglaw22.CompileOutcome", spec := "compileOutcome", unfollowed := true, recurses := true, named := ["internal/strconv.uint64pow10", "math/bits.deBruijn32tab", "math/bits.deBruijn64tab"], plainKeys := false, apart := false, laid := [("math/bits.deBruijn32tab", laid_math_bits_deBruijn32tab), ("math/bits.deBruijn64tab", laid_math_bits_deBruijn64tab), ("internal/strconv.uint64pow10", laid_internal_strconv_uint64pow10)], narrowed := true }
def CompileOutcomeUptoSaid : Prop := compileOutcomeUptoRow.holds Tryz.pinned (OpenSpec.upto compileOutcomeSpec)

/-- 'routinglaw22.CompileSame', WHERE WHAT IT READS IS OF BULK AT MOST 1048576: true; the input reads as it did. -/
def compileSameUptoRow : OpenClaim := { program := "ytdgiglmmpbndmaagreatdoor", sum := "a7070fe2b7c0af5df170db7035d1b3b194f1a61720180afed87cc659163a179d", func := "routing/routinglaw22.CompileSame", spec := "compileSame", unfollowed := true, recurses := true, named := ["internal/strconv.uint64pow10", "math/bits.deBruijn32tab", "math/bits.deBruijn64tab"], plainKeys := false, apart := false, laid := [("math/bits.deBruijn32tab", laid_math_bits_deBruijn32tab), ("math/bits.deBruijn64tab", laid_math_bits_deBruijn64tab), ("internal/strconv.uint64pow10", laid_internal_strconv_uint64pow10)], narrowed := true }
def CompileSameUptoSaid : Prop := compileSameUptoRow.holds Tryz.pinned (OpenSpec.upto compileSameSpec)

/-- 'routinglaw22.CompileAgrees', WHERE WHAT IT READS IS OF BULK AT MOST 1048576: true; the input reads as it did. -/
def compileAgreesUptoRow : OpenClaim := { program := "ytdgiglmmpbndmaagreatdoor", sum := "a7070fe2b7c0af5df170db7035d1b3b194f1a61720180afed87cc659163a179d", func := "routing/routinglaw22.CompileAgrees", spec := "compileAgrees", unfollowed := true, recurses := true, named := ["internal/strconv.uint64pow10", "math/bits.deBruijn32tab", "math/bits.deBruijn64tab"], plainKeys := false, apart := false, laid := [("math/bits.deBruijn32tab", laid_math_bits_deBruijn32tab), ("math/bits.deBruijn64tab", laid_math_bits_deBruijn64tab), ("internal/strconv.uint64pow10", laid_internal_strconv_uint64pow10)], narrowed := true }
def CompileAgreesUptoSaid : Prop := compileAgreesUptoRow.holds Tryz.pinned (OpenSpec.upto compileAgreesSpec)

end Rows
end Go.Proofs.YtdgiglmmpbndmaaGreatDoor
