import Derived.Test.YtdgiglmmpbndmaaGreatDoorMLawDfaUse
import Derived.Test.YtdgiglmmpbndmaaGreatDoorMAw
set_option linter.unusedVariables false
set_option linter.unusedSimpArgs false
namespace Go.Proofs.YtdgiglmmpbndmaaGreatDoor
open Go Go.Av Go.Ev Go.Pl
theorem Pj:LawOk px [wu,wu]:=by rintro⟨a,b,_⟩ ⟨c,d,_⟩;refine⟨ej kJ (true,()),?_,rfl⟩;refine aB Io rfl (λO n=>IC O n a b) ?_;unfold wB;refine ak (mD a) (ae (ba (λ_=>ak (mD b) (aa rfl)) (ar (λ_=>ak oo (aa rfl)) λh=>?_)));refine ak (Fv a b c) (ak (oq a b c) (ae (aL (by simp) (ak (Fv a a c) (aa ?_)))));exact ae (aL (by simp) (ak oo (aa (aa rfl))))
end Go.Proofs.YtdgiglmmpbndmaaGreatDoor
