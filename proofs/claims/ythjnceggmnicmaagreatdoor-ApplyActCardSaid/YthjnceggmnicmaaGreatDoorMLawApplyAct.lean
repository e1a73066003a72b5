import Derived.Test.YthjnceggmnicmaaGreatDoorMLawPfx
set_option linter.unusedVariables false
set_option linter.unusedSimpArgs false
namespace Go.Proofs.YthjnceggmnicmaaGreatDoor
open Go Go.Av Go.Ev Go.Pl
theorem Jl:LawOk l5 [.list yA,Mq]:=by
 rintro⟨l,r,_⟩ ⟨hl,hr,_⟩;refine⟨gP iX (true,()),?_,rfl⟩;refine aE BW rfl (λO n=>B3 O n l r) ?_;unfold qY;refine ao (qB r) (aj (cI (b:=decide ((l.length:Int)>60)) (λ_=>aa rfl) (aw (λ_=>ao yy (aa rfl)) λh=>?_)));rw[Bool.or_eq_false_iff,decide_eq_false_iff_not]at h;obtain⟨d,e⟩:=HQ h.1;have c:l.length<=60:=by have:=h.2;omega
 have hs:SmR 100000 r:=⟨by omega,by omega⟩;have a:=ID (l:=l) hs;refine ao (J6 l r (by omega) hl.2 hs) (ao (Ke l r (by omega) hs) (ao (yB (Cz l r) (Cz l r) (by have:=a.pt;omega) (by have:=a.cm;omega)) ?_));exact aj (aP (H7 _) (ao yy (aa (aa rfl))))
end Go.Proofs.YthjnceggmnicmaaGreatDoor
