import Derived.Test.YthjnceggmnicmaaGreatDoorMLawPfx
set_option linter.unusedVariables false
set_option linter.unusedSimpArgs false
namespace Go.Proofs.YthjnceggmnicmaaGreatDoor
open Go Go.Av Go.Ev Go.Pl
theorem GB:LawOk kz [Mq,Mq]:=by rintro⟨a,b,_⟩ _;refine⟨gP ii (true,()),?_,rfl⟩;refine aE AJ rfl (λO n=>AX O n a b) ?_;unfold pM;refine ao (qB a) (aj (cI (λ_=>ao (qB b) (aa rfl)) (aw (λ_=>ao yy (aa rfl)) λh=>?_)));rw[Bool.or_eq_false_iff]at h;obtain⟨c,d⟩:=HQ h.1;refine ao (yu a b (by omega) (by omega)) (ao (yB a b (by omega) (by omega)) (aj (aP (by simp) (ao (yu a a (by omega) (by omega)) (aa ?_)))));exact aj (aP (H7 a) (ao yy (aa (aa rfl))))
end Go.Proofs.YthjnceggmnicmaaGreatDoor
