import Derived.Test.YthjnceggmnicmaaGreatDoorKLawPol2
set_option linter.unusedVariables false
set_option linter.unusedSimpArgs false
open Bool renaming or_eq_false_iff->a_
open Nat renaming le_trans->b_
namespace Go.Proofs.YthjnceggmnicmaaGreatDoor
open Go Go.Av Go.Ev Go.Pl
theorem YS{s:PS}{n:List UInt8}{r:nM}(h:SmQ s r):SmR 200000 (Eu s n r).2.1/\(Eu s n r).2.1.1.1=(Eu s n r).2.1.1.1/\((Eu s n r).1=true->oQ (Eu s n r).2.1=0):=by
 have z:SmR 200000 zSub:=⟨by show 0<=_;omega,by show 0<=_;omega⟩;by_cases c:vI s n r=0
 ·obtain⟨p,f,g,j,u⟩:=zq c;rw[show Eu s n r=Qd s (C6 s n) r from if_neg (not_not_intro c),g];have hp:=j.r4 p (oD f);have b:∀t∈p.2.1,t.2.2.1.length<=64:=λt v=>(hp.tr t v).al;have w:=hp.tl;have a:=(rZ (hold:=uF s r) (l:=p.2.1) (i:=0) (d:=p.2.2.1) b).2;unfold Qd;split;·exact⟨z,rfl,λh=>by cases h⟩
  ·refine⟨?_,rfl,λ_=>XD u⟩;have:=Se (l:=(BB s p r).2.1) (k:=100000) (r:=r) ⟨h.pt,h.cm⟩;have e:(BB s p r).2.1.length<=64*p.2.1.length:=a;exact⟨this.pt,b_ this.cm (by omega)⟩
 ·rw[show Eu s n r=(false,zSub,())from if_pos c];exact⟨z,rfl,λh=>by cases h⟩
theorem zcJ{l:List zJ}:∀{r:nM},(Ef l r).1=r.1:=by
 induction l with
 |nil=>intro r;rfl|cons a l b=>
  intro r;refine(b (r:=Gb a r)).trans ?_;unfold Gb;split;·obtain⟨p,f,d,pt,cm,e,c,mt,g,u⟩:=r;simp only[I3];repeat first|rfl|split
  ·rfl
theorem zd8{s:PS}{n:List UInt8}{r:nM}(h:hZ r.1.1):hZ (Eu s n r).2.1.1.1:=by
 have z:hZ zSub.1.1:=by show _/\_;decide
 unfold Eu;split;·exact z
 ·unfold Qd;split;·exact z
  ·show hZ (Ef _ r).1.1;rw[zcJ];exact h
theorem Tb:LawOkU rW [yS,tS,Kc]:=by
 rintro⟨s,nm,r,_⟩ ⟨hs,_,hr,_⟩ c;have c:eo yS s+_<=1048576:=c;have j:=GD hs (b_ (Nat.le_add_right (eo yS s) _) c);refine⟨kJ j4 (true,()),?_,rfl⟩;refine aA JS rfl (λO n=>J6 O n s nm r) ?_;unfold yY;obtain⟨b,hl⟩:=yf s hs;refine aj hl (ae (bG (λ_=>aj (yg r) (aa rfl)) (ae (bG (b:=decide ((r.2.2.2.1.length:Int)>60)) (λ_=>aa rfl) (au (λ_=>aj Dz (aa rfl)) λh=>?_)))));rw[a_,a_]at h;obtain⟨k,l⟩:=JF h.1.2;have d:SmQ s r:=⟨j,hr.1.1,hr.2.2.1,by omega,by omega⟩;obtain⟨a,_,f⟩:=YS (n:=nm) d;have g:=zd8 (s:=s) (n:=nm) hr.1.1;refine aj (UE s nm r d) (aj (UO s nm r d) ?_);generalize Eu s nm r=V at a f g;refine ae (an (by simp) (aa ?_));refine ae (an (by simp) (aj (R2 V.2.1 V.2.1 (by have:=a.pt;omega) (by have:=a.cm;omega)) (aa ?_)));refine an (by rw[zb7];rfl) (ae (bG (b:=true) (λe=>?_) ?_))
 ·have e:V.1=true:=by simpa using e
  refine aj (si V.2.1 g) (aa ?_);rw[f e];rfl
 ·exact ae (aJ (by simp) (aj Dz (aa (aa rfl))))
end Go.Proofs.YthjnceggmnicmaaGreatDoor
