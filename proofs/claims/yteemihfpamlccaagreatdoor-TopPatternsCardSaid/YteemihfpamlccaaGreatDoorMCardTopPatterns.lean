/- TopPatterns: a path pattern, its parsed form and its automaton accept the same paths, and no state of the automaton can be left out. -/
import Derived.Test.YteemihfpamlccaaGreatDoorMRowTopPatterns
import Derived.Test.YteemihfpamlccaaGreatDoorCards
import Derived.Test.YteemihfpamlccaaGreatDoorTie
import Derived.SevenTiedAt
set_option linter.unusedVariables false
set_option linter.unusedSimpArgs false
open Option.some renaming inj->a_
namespace Go.Proofs.YteemihfpamlccaaGreatDoor
open Go
theorem topPatterns_card:Rows.TopPatternsCardSaid:=
 Claim7.holds_tied_plain_at .later [] [.data,.data,.data] true (true,"04dc123bff1ed3dde071f413320e0ad2068338a9c220c9d358e627ef7e8708c6") false
  topPatterns_holds (λ_ h=>by cases h) (by kernel_rfl) (λ_ h=>by cases h) topPatterns_row_tie rfl ⟨rfl,rfl⟩ (by kernel_rfl) rfl
  (λf fn hf hfn=>by
   obtain rfl:f=3:=a_ ((show Tryz.prog.funcNamed "routing/routingtop.TopPatterns" =some 3 by kernel_rfl).symm.trans hf) |>.symm
   obtain rfl:fn=Tryz.f3:=(a_ (Tryz.func3.symm.trans hfn)).symm
   exact⟨by kernel_rfl,λj t ht=>by
    rw[Tryz.params3]at ht
    have h3:t∈[9,22]:=List.mem_of_getElem? (by simpa using ht)
    have h4:([9,22].all λt=>Tryz.prog.wantsStandIn t==false)=true:=by kernel_rfl
    have h5:=List.all_eq_true.1 h4 t h3
    exact(show Tryz.prog.wantsStandIn t=false by simpa using h5)⟩)
  (by kernel_rfl)
#print axioms topPatterns_card
end Go.Proofs.YteemihfpamlccaaGreatDoor
