import Derived.Test.YthjnceggmnicmaaGreatDoorMLawPfx
set_option linter.unusedVariables false
set_option linter.unusedSimpArgs false
namespace Go.Proofs.YthjnceggmnicmaaGreatDoor
open Go Go.Av Go.Ev Go.Pl
theorem Ex:LawOk jS [Mq]:=by rintro⟨r,_⟩ ⟨hr,_⟩;refine⟨gP jU (true,()),?_,rfl⟩;refine aE yl rfl (λO n=>yp O n r) ?_;unfold oH;exact ao (Fy r hr.1.1) (ao (FD r hr.1.1) (aj (aP (beq_self_eq_true _) (ao yy (aa (aa rfl))))))
end Go.Proofs.YthjnceggmnicmaaGreatDoor
