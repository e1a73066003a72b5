import Derived.Test.YthjnceggmnicmaaGreatDoorKLawPol2
set_option linter.unusedVariables false
set_option linter.unusedSimpArgs false
open Bool renaming or_eq_false_iff->a_
namespace Go.Proofs.YthjnceggmnicmaaGreatDoor
open Go Go.Av Go.Ev Go.Pl
theorem N2(s:PS)(n:List UInt8)(r:nM)(h:SmQ s r):aC tbl kZ [.d yS s,.d tS n,.d Kc r] [] gJ (runT s n r,vI s n r,()):=by
 refine aw rfl (aA PC rfl (λO k=>Qg O k s n r) ?_);unfold Fb;refine aj (Bf s n r h) (au (λa=>aa ?_) λa=>?_)
 ·have a:vI s n r≠0:=by simpa using a
  rw[show runT s n r=[]from if_pos a]
 ·have a:vI s n r=0:=by simpa using a
  obtain⟨p,b,c,d,_⟩:=zq a;rw[show runT s n r=(BB s (C6 s n) r).1 from if_neg (not_not_intro a),c,a];exact aj (yK s p r h (d.r4 p (oD b)) (h.s.ok.2.2.2.1.2 p (oD b))) (aa rfl)
theorem zd7{s:PS}{n:List UInt8}{r:nM}:(runT s n r).length<=9223372036854775807:=by
 by_cases b:vI s n r=0;·obtain⟨p,e,f,g,k⟩:=zq b;rw[show runT s n r=(BB s (C6 s n) r).1 from if_neg (not_not_intro b),f];have hp:=g.r4 p (oD e);have a:∀t∈p.2.1,t.2.2.1.length<=64:=λt h=>(hp.tr t h).al;have j:=hp.tl;have c:(BB s p r).1.length<=p.2.1.length:=(rZ (hold:=uF s r) (l:=p.2.1) (i:=0) (d:=p.2.2.1) a).1;omega
 ·rw[show runT s n r=[]from if_pos b];show 0<=_;omega
theorem MP:LawOkU pO [yS,tS,Kc]:=by
 rintro⟨s,nm,r,_⟩ ⟨hs,_,hr,_⟩ d;have d:eo yS s+_<=1048576:=d;have j:=GD hs (Nat.le_trans (Nat.le_add_right (eo yS s) _) d);refine⟨kJ eD (true,()),?_,rfl⟩;refine aA GH rfl (λO n=>GN O n s nm r) ?_;unfold vT;obtain⟨b,hl⟩:=yf s hs;refine aj hl (ae (bG (λ_=>aj (yg r) (aa rfl)) (ae (bG (b:=decide ((r.2.2.2.1.length:Int)>60)) (λ_=>aa rfl) (au (λ_=>aj Dz (aa rfl)) λh=>?_)))));rw[a_,a_]at h;obtain⟨k,l⟩:=JF h.1.2;have f:SmQ s r:=⟨j,hr.1.1,hr.2.2.1,by omega,by omega⟩;have a:=zd7 (s:=s) (n:=nm) (r:=r);refine aj (N2 s nm r f) (aj (E6 s nm r f) ?_);generalize runT s nm r=T at a;refine ae (an (by simp) (aa (an (by simp) ?_)));refine ae (NM (N:=T.length) (good:=λ_=>True) (e:=(false,())) (g:=()) (λi c=>?_) ?_ (λh=>?_) λh=>?_);·unfold mq;exact a8 c (aI c (aI c (nG (by simp) (by rw[ap c a]))))
 ·unfold mq;exact aR (aa rfl)
 ·exact aj Dz (aa rfl)
 ·obtain⟨i,_,h⟩:=h;exact absurd trivial h
end Go.Proofs.YthjnceggmnicmaaGreatDoor
