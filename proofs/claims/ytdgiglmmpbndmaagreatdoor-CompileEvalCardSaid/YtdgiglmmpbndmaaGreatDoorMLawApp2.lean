import Derived.Test.YtdgiglmmpbndmaaGreatDoorMLawPolCom
import Derived.Test.YtdgiglmmpbndmaaGreatDoorMPlPfx
import Derived.Test.YtdgiglmmpbndmaaGreatDoorML7
import Derived.Test.YtdgiglmmpbndmaaGreatDoorMGlueB
import Derived.Test.YtdgiglmmpbndmaaGreatDoorMLawComFol
import Derived.Test.YtdgiglmmpbndmaaGreatDoorMAw
set_option linter.unusedVariables false
set_option linter.unusedSimpArgs false
open Bool renaming or_eq_false_iff->j_,eq_false_iff->l_,true_and->q_
open Classical renaming byContradiction->p_
open Int renaming eq_ofNat_of_zero_le->h_,toNat_natCast->m_
open Go.IntKind renaming wrap->c_
open List renaming replicate->a_,getElem?_eq_getElem->b_,getElem?_eq_none->d_,take_succ_eq_append_getElem->f_,getElem_mem->g_,length_replicate->i_,replicate_succ'->k_,ext_getElem?->n_,foldl_append->o_
open Nat renaming zero_le->e_,le_trans->r_,sub_self->s_
namespace Go.Proofs.YtdgiglmmpbndmaaGreatDoor
open Go Go.Av Go.Ev Go.Pl
theorem Ky(r:C6)(a:r.2.2.2.1.length<=6000000000)(b:r.2.2.2.2.1.length<=6000000000):aE tbl mW [.d MD r] [] jQ (r,()):=by obtain⟨p,po,nh,pt,cm,t⟩:=r;simp only at a b;refine ap rfl (aB Mc rfl (λO n=>Mr O n (p,po,nh,pt,cm,t)) ?_);unfold zL;refine aI (by grind) (aI (by grind) (aa ?_));simp
theorem Tm(r:C6)(a:r.2.2.2.1.length<=6000000000)(b:r.2.2.2.2.1.length<=6000000000):aE tbl uA [.d MD r] [] qk (r,()):=by obtain⟨p,po,nh,pt,cm,t⟩:=r;simp only at a b;refine ap rfl (aB Vi rfl (λO n=>VK O n (p,po,nh,pt,cm,t)) ?_);unfold Ja;exact aI (decide_eq_true (by grind)) (aI (decide_eq_true (by grind)) (aa rfl))
theorem zai{a:EU}(b:lu a=0)(c:a.1=8):1<=a.2.1/\a.2.1<=16:=by
 unfold lu at b;split at b;·omega
 split at b;·omega
 split at b;·omega
 rename_i h;have h:p9 a=true:=by grind
 unfold p9 at h;grind
theorem VW{a:EU}(b:lu a=0):1<=a.1/\a.1<=8:=by
 unfold lu at b;split at b;·cases b
 ·omega
section
variable {a:EU} {p:OL} {po nh:Int} {pt cm:List Int} {pf md mt tg:Int} {u:Unit}
theorem zlE(h:a.1=1):ON a (p,po,nh,pt,cm,pf,md,mt,tg,u)=(p,po,nh,pt,cm,a.2.1,md,mt,tg,u):=by simp[ON,h]
theorem zlF(h:a.1=2):ON a (p,po,nh,pt,cm,pf,md,mt,tg,u)=(p,po,nh,pt,cm,pf,a.2.1,mt,tg,u):=by simp[ON,h]
theorem zlG(h:a.1=3):ON a (p,po,nh,pt,cm,pf,md,mt,tg,u)=(p,po,nh,pt,cm,pf,md,a.2.1,tg,u):=by simp[ON,h]
theorem zlH(h:a.1=4):ON a (p,po,nh,pt,cm,pf,md,mt,tg,u)=(p,po,nh,pt,cm,pf,md,mt,a.2.1,u):=by simp[ON,h]
theorem zlI(h:a.1=5):ON a (p,po,nh,pt,cm,pf,md,mt,tg,u)=(p,po,a.2.2.2.2.1,pt,cm,pf,md,mt,tg,u):=by simp[ON,h]
theorem zlJ(h:a.1=6):ON a (p,po,nh,pt,cm,pf,md,mt,tg,u)=(p,po,nh,pt,Cm.add cm a.2.2.2.1,pf,md,mt,tg,u):=by simp[ON,h]
theorem zlK(h:a.1=7):ON a (p,po,nh,pt,cm,pf,md,mt,tg,u)=(p,po,nh,pt,Cm.drop cm a.2.2.2.1,pf,md,mt,tg,u):=by simp[ON,h]
theorem zlL(h:a.1=8)(hl:(pt.length:Int)+a.2.1<=2000):ON a (p,po,nh,pt,cm,pf,md,mt,tg,u)=(p,po,nh,a_ a.2.1.toNat a.2.2.1++pt,cm,pf,md,mt,tg,u):=by simp[ON,h,hl]
theorem zlM(h:a.1=8)(hl:¬(pt.length:Int)+a.2.1<=2000):ON a (p,po,nh,pt,cm,pf,md,mt,tg,u)=(p,po,nh,pt,cm,pf,md,mt,tg,u):=by simp[ON,h];omega
end
theorem Qn(a:EU)(r:C6)(A:lu a=0)(C:r.2.2.2.1.length<=5400000000)(D:r.2.2.2.2.1.length<=5400000000):aE tbl r8 [.d yA a,.d MD r] [] nV (ON a r,()):=by
 obtain⟨⟨y,z,⟨⟩⟩,po,nh,pt,cm,pf,md,mt,tg,⟨⟩⟩:=r;simp only at C D;refine ap rfl (aB Sy rfl (λO n=>SV O n a ((y,z,()),po,nh,pt,cm,pf,md,mt,tg,())) ?_);unfold FC;have J:=VW A;have b:∀{k:Int},a.1≠k->(a.1==k)=false:=λh=>beq_eq_false_iff_ne.2 h;have c:∀{k:Int},a.1=k->(a.1==k)=true:=λh=>beq_iff_eq.2 h;by_cases d:a.1=1;·rw[zlE d];exact ae (aL (c d) (aa (aa rfl)))
 by_cases e:a.1=2;·rw[zlF e];exact ae (aA (b d) (aL (c e) (aa (aa rfl))))
 by_cases f:a.1=3;·rw[zlG f];exact ae (aA (b d) (aA (b e) (aL (c f) (aa (aa rfl)))))
 by_cases g:a.1=4;·rw[zlH g];exact ae (aA (b d) (aA (b e) (aA (b f) (aL (c g) (aa (aa rfl))))))
 by_cases j:a.1=5;·rw[zlI j];exact ae (aA (b d) (aA (b e) (aA (b f) (aA (b g) (aL (c j) (aa (aa rfl)))))))
 by_cases p:a.1=6;·rw[zlJ p];exact ae (aA (b d) (aA (b e) (aA (b f) (aA (b g) (aA (b j) (aL (c p) (ak (Ow cm a.2.2.2.1 (by omega)) (aa (aa rfl)))))))))
 by_cases w:a.1=7;·rw[zlK w];exact ae (aA (b d) (aA (b e) (aA (b f) (aA (b g) (aA (b j) (aA (b p) (aL (c w) (ak (MJ cm a.2.2.2.1 (by omega)) (aa (aa rfl))))))))))
 have u:a.1=8:=by omega
 obtain⟨F,H⟩:=zai A u;generalize l:a.2.1=N at F H;obtain⟨m,rfl⟩:=h_ (show 0<=N by omega);refine ae (aA (b d) (aA (b e) (aA (b f) (aA (b g) (aA (b j) (aA (b p) (aA (b w) (aL (c u) ?_))))))));have B:c_ .i64 ((pt.length:Int)+(m:Int))=(pt.length:Int)+(m:Int):=wrap_i64 (by omega) (by omega);have v:c_ .i64 ((m:Int)+(pt.length:Int))=(m:Int)+(pt.length:Int):=wrap_i64 (by omega) (by omega);simp only[l,B,v];refine ar (λh=>?_) λh=>aa (aa ?_)
 ·have h:=of_decide_eq_true h;rw[zlL u (by omega),l];refine aI (by grind) ?_;refine ae (cp (N:=m) (I:=λi s=>s=((i:Int),y,z,po,nh,pt,cm,pf,md,mt,tg,(0:Int),(0:Int),(0:Int),(0:Int),(0:Int),(0:Int),(0:Int),(0:Int),a_ i a.2.2.1++a_ (m - i) (0:Int),())) rfl (λi s E hs=>?_) λs hs=>?_)
  ·subst hs;unfold tF;simp only[l];have hl:(a_ i a.2.2.1++a_ (m - i) (0:Int)).length=m:=by grind
   refine aL (decide_eq_true (by grind)) ?_;refine aG (by omega) (NM (x:=(a_ i a.2.2.1++a_ (m - i) (0:Int))[i]'(by omega)) (by grind) (aa ?_));show(c_ .i64 ((i:Int)+1),y,z,po,nh,pt,cm,pf,md,mt,tg,(0:Int),(0:Int),(0:Int),(0:Int),(0:Int),(0:Int),(0:Int),(0:Int),(a_ i a.2.2.1++a_ (m - i) (0:Int)).set (Int.toNat (i:Int)) a.2.2.1,())=_;rw[aD E (by omega),m_];have:(a_ i a.2.2.1++a_ (m - i) (0:Int)).set i a.2.2.1=a_ (i+1) a.2.2.1++a_ (m - (i+1)) (0:Int):=by rw[List.set_append_right _ _ (by simp),i_,s_,show m - i=(m - (i+1))+1 by omega,List.replicate_succ,List.set_cons_zero,k_ (n:=i),List.append_assoc];rfl
   grind
  ·subst hs;unfold tF;simp only[l];refine aA (decide_eq_false (by simp)) (aa ?_);simp only[s_,List.replicate_zero,List.append_nil];refine aI (decide_eq_true (by grind)) (aa (aa ?_));simp
 ·have h:=of_decide_eq_false h;rw[zlM u (by omega)]
theorem Tc(t:TRM):aE tbl uq [.d yT t] [] qd (([([112],[([116],t.2.1,t.2.2.1,1,())],1,())]:List POL),()):=ap rfl (aB UZ rfl (λO n=>Vr O n t) (aa rfl))
theorem zka{a:EU}(h:okD yA a):SmP (ziO a):=by
 have l1:(1:Nat)<=maxLen:=by decide
 have c:IntKind.i64.min<=(1:Int)/\(1:Int)<=IntKind.i64.max:=by decide
 have e:okD yT ([116],[],[a],1,()):=by refine⟨l1,⟨e_ _,λy b=>by grind⟩,⟨l1,λx d=>?_⟩,c,trivial⟩;grind
 have hp:okD yO ([112],[([116],[],[a],1,())],1,()):=by refine⟨l1,⟨l1,λx d=>?_⟩,c,trivial⟩;grind
 refine⟨⟨⟨e_ _,λy b=>by grind⟩,⟨e_ _,λy b=>by grind⟩,⟨e_ _,λy b=>by grind⟩,⟨l1,λy b=>?_⟩,trivial⟩,e_ _,e_ _,e_ _,show(1:Nat)<=1048576 by simp,λl hl=>by grind⟩;grind
theorem zhC:∀(l:List Int) (a:Int) (n:Nat),Cm.Up l->(∀z∈l,a<=z/\z<a+n)->l.length<=n
 |[],_,_,_,_=>e_ _
 |y::l,a,n,b,h=>by
  unfold Cm.Up at b;rw[List.pairwise_cons]at b;have f:=h y (by simp);have:=zhC l (y+1) (n - (y+1 - a).toNat) b.2 λz c=>by have d:=h z (by grind);have e:=b.1 z c;omega
  simp only[List.length_cons];omega
structure SmU(r:C6):Prop where
 pt:r.2.2.2.1.length<=100000
 cm:r.2.2.2.2.1.length<=100000\/Cm.Up r.2.2.2.2.1
 rg:∀z∈r.2.2.2.2.1,oQ z
theorem SmU.sm{r:C6}(h:SmU r):SmR 5000000000 r:=by
 refine⟨h.pt,?_⟩;rcases h.cm with hc|hc;·omega
 have:=zhC _ 0 4294967296 hc λz C=>by have:=h.rg z C;omega
 omega
theorem zjt{a:EU}{r:C6}(s:oQ a.2.2.2.1)(h:SmU r):SmU (ON a r):=by
 obtain⟨p,po,nh,pt,cm,pf,md,mt,tg,u⟩:=r;obtain⟨f,j,d⟩:=h;simp only at f j d;have n:=Cm.up_asc cm;have g:∀(p:OL) (po nh:Int) (l e:List Int) (t:Int×Int×Int×Int×Unit),l.length<=100000->(e.length<=100000\/Cm.Up e)->(∀z∈e,oQ z)->SmU (p,po,nh,l,e,t):=λ_ _ _ _ _ _ a b c=>⟨a,b,c⟩;simp only[ON];split;·exact g _ _ _ _ _ _ f j d
 split;·exact g _ _ _ _ _ _ f j d
 split;·exact g _ _ _ _ _ _ f j d
 split;·exact g _ _ _ _ _ _ f j d
 split;·exact g _ _ _ _ _ _ f j d
 split
 ·refine g _ _ _ _ _ _ f (.inr ?_) λz k=>?_
  ·unfold Cm.add;split;·exact n
   ·exact Cm.up_ins _ _ n
  ·unfold Cm.add at k;split at k;·exact d z ((Cm.mem_asc cm z).1 k)
   rcases(Cm.mem_ins _ z _).1 k with k|rfl;·exact d z ((Cm.mem_asc cm z).1 k)
   ·exact s
 split;·refine g _ _ _ _ _ _ f (.inr (n.filter _)) λz k=>?_;exact d z ((Cm.mem_asc cm z).1 (List.mem_filter.1 k).1)
 split;·rename_i hl;refine g _ _ _ _ _ _ ?_ j d;simp only[List.length_append,i_];omega
 ·exact g _ _ _ _ _ _ f j d
theorem zaj{l:List EU}:∀{r:C6},(∀a∈l,okD yA a)->SmU r->SmU (MO l r):=by
 induction l with
 |nil=>intro r _ h;exact h|cons a l c=>
  intro r b h;refine c (r:=QL a r) (λx d=>b x (by grind)) ?_;unfold QL;split;·exact zjt (b a (by simp)).2.2.2.1 h
  ·exact h
theorem Y5(l:List EU)(r:C6)(hl:l.length<=9223372036854775807)(j:∀a∈l,okD yA a)(hr:∀i,SmR 5000000000 (MO (l.take i) r)):aE tbl z7 [.d (.list yA) l,.d MD r] [] vJ (MO l r,()):=by
 refine ap rfl (aB zcj rfl (λO n=>zcG O n l r) ?_);unfold NW;refine ak (Ky r (by have f:SmR 5000000000 r:=hr 0;have:=f.pt;omega) (by have f:SmR 5000000000 r:=hr 0;have:=f.cm;omega)) ?_;have enc:∀x:C6,x=((x.1.1,x.1.2.1,()),x.2.1,x.2.2.1,x.2.2.2.1,x.2.2.2.2.1,x.2.2.2.2.2.1,x.2.2.2.2.2.2.1,x.2.2.2.2.2.2.2.1,x.2.2.2.2.2.2.2.2.1,()):=λx=>rfl;refine ae (cp (N:=l.length) (I:=λi s=>∃x:C6,x=MO (l.take i) r/\s=((i:Int),(0:Int),(0:Int),(0:Int),(0:Int),(0:Int),(0:Int),(0:Int),(0:Int),x.1.1,x.1.2.1,x.2.1,x.2.2.1,x.2.2.2.1,x.2.2.2.2.1,x.2.2.2.2.2.1,x.2.2.2.2.2.2.1,x.2.2.2.2.2.2.2.1,x.2.2.2.2.2.2.2.2.1,())) ⟨r,rfl,rfl⟩ (λi s c hs=>?_) λs hs=>?_)
 ·obtain⟨x,e,rfl⟩:=hs;unfold AY;have d:SmR 5000000000 x:=by rw[e];exact hr i
  have hc:=d.cm;have hp:=d.pt;have g:=j _ (g_ c);have b:MO (l.take (i+1)) r=QL l[i] x:=by unfold MO at e⊢;rw[f_ c,o_,e];rfl
  refine bo c (ae (aG c (ak (Tc _) (ak (xT (ziO l[i]) (zka g)) ?_))));rw[ziP];refine ar (λh=>?_) λh=>?_
  ·have h:lu l[i]=0:=by grind
   rw[show QL l[i] x=ON l[i] x from if_pos h]at b;refine ak (Qn l[i] x h (by omega) (by omega)) (aa (aa ⟨ON l[i] x,b.symm,?_⟩));show(c_ .i64 ((i:Int)+1),_)=_;rw[aD c (by omega)]
  ·have h:¬lu l[i]=0:=by grind
   rw[show QL l[i] x=x from if_neg h]at b;refine aa (aa ⟨x,b.symm,?_⟩);show(c_ .i64 ((i:Int)+1),_)=_;rw[aD c (by omega)]
 ·obtain⟨x,e,rfl⟩:=hs;unfold AY;refine aZ (aa (aa ?_));grind
theorem Z7(a:EU)(r:C6)(B:r.2.2.2.1.length<=5400000000)(C:r.2.2.2.2.1.length<=5400000000):aE tbl Ai [.d yA a,.d MD r] [] oa (QL a r,()):=by
 obtain⟨⟨g,j,⟨⟩⟩,po,nh,pt,cm,pf,md,mt,tg,⟨⟩⟩:=r;simp only at B C;refine ap rfl (aB zcx rfl (λO n=>zcU O n a ((g,j,()),po,nh,pt,cm,pf,md,mt,tg,())) ?_);unfold N9;refine ak (FA a) (ar (λh=>aa ?_) λh=>?_);·rw[show QL a ((g,j,()),po,nh,pt,cm,pf,md,mt,tg,())=((g,j,()),po,nh,pt,cm,pf,md,mt,tg,())from if_neg (by grind)]
 have x:lu a=0:=by grind
 rw[show QL a ((g,j,()),po,nh,pt,cm,pf,md,mt,tg,())=ON a ((g,j,()),po,nh,pt,cm,pf,md,mt,tg,())from if_pos x];have F:=VW x;have b:∀{k:Int},a.1≠k->(a.1==k)=false:=λh=>beq_eq_false_iff_ne.2 h;have c:∀{k:Int},a.1=k->(a.1==k)=true:=λh=>beq_iff_eq.2 h;by_cases d:a.1=1;·rw[zlE d];exact ae (aL (c d) (aa (aa rfl)))
 by_cases e:a.1=2;·rw[zlF e];exact ae (aA (b d) (aL (c e) (aa (aa rfl))))
 by_cases f:a.1=3;·rw[zlG f];exact ae (aA (b d) (aA (b e) (aL (c f) (aa (aa rfl)))))
 by_cases l:a.1=4;·rw[zlH l];exact ae (aA (b d) (aA (b e) (aA (b f) (aL (c l) (aa (aa rfl))))))
 by_cases p:a.1=5;·rw[zlI p];exact ae (aA (b d) (aA (b e) (aA (b f) (aA (b l) (aL (c p) (aa (aa rfl)))))))
 by_cases v:a.1=6;·rw[zlJ v];exact ae (aA (b d) (aA (b e) (aA (b f) (aA (b l) (aA (b p) (aL (c v) (ak (Z4 cm a.2.2.2.1 (by omega)) (aa (aa rfl)))))))))
 by_cases y:a.1=7;·rw[zlK y];exact ae (aA (b d) (aA (b e) (aA (b f) (aA (b l) (aA (b p) (aA (b v) (aL (c y) (ak (WZ cm a.2.2.2.1 (by omega)) (aa (aa rfl))))))))))
 have w:a.1=8:=by omega
 obtain⟨D,E⟩:=zai x w;generalize u:a.2.1=N at D E;obtain⟨m,rfl⟩:=h_ (show 0<=N by omega);refine ae (aA (b d) (aA (b e) (aA (b f) (aA (b l) (aA (b p) (aA (b v) (aA (b y) (aL (c w) ?_))))))));have A:c_ .i64 ((pt.length:Int)+(m:Int))=(pt.length:Int)+(m:Int):=wrap_i64 (by omega) (by omega);simp only[u,A];refine ar (λh=>aa (aa ?_)) λh=>?_;·have h:=of_decide_eq_true h;rw[zlM w (by omega)]
 ·have h:=of_decide_eq_false h;rw[zlL w (by omega),u];refine ae (cp (N:=m) (I:=λi s=>s=((i:Int),g,j,po,nh,pt,cm,pf,md,mt,tg,(0:Int),(0:Int),(0:Int),(0:Int),(0:Int),(0:Int),(0:Int),(0:Int),a_ i a.2.2.1,())) rfl (λi s z hs=>?_) λs hs=>?_);·subst hs;unfold Bh;simp only[u];refine bo z (aI (decide_eq_true (by grind)) (aa ?_));show(c_ .i64 ((i:Int)+1),g,j,po,nh,pt,cm,pf,md,mt,tg,(0:Int),(0:Int),(0:Int),(0:Int),(0:Int),(0:Int),(0:Int),(0:Int),a_ i a.2.2.1++[a.2.2.1],())=_;rw[aD z (by omega),k_ (n:=i)]
  ·subst hs;unfold Bh;simp only[u];refine aZ (aa ?_);refine aI (decide_eq_true (by grind)) (aa (aa ?_));simp
theorem Z6(l:List EU)(r:C6)(hl:l.length<=9223372036854775807)(hr:∀i,SmR 5000000000 (MO (l.take i) r)):aE tbl Ag [.d (.list yA) l,.d MD r] [] vN (MO l r,()):=by
 refine ap rfl (aB zcv rfl (λO n=>zcS O n l r) ?_);unfold N7;refine ak (Tm r (by have e:SmR 5000000000 r:=hr 0;have:=e.pt;omega) (by have e:SmR 5000000000 r:=hr 0;have:=e.cm;omega)) ?_;refine ae (cp (N:=l.length) (I:=λi s=>∃x:C6,x=MO (l.take i) r/\s=((i:Int),x.1.1,x.1.2.1,x.2.1,x.2.2.1,x.2.2.2.1,x.2.2.2.2.1,x.2.2.2.2.2.1,x.2.2.2.2.2.2.1,x.2.2.2.2.2.2.2.1,x.2.2.2.2.2.2.2.2.1,(0:Int),(0:Int),(0:Int),(0:Int),(0:Int),(0:Int),(0:Int),(0:Int),())) ⟨r,rfl,rfl⟩ (λi s c hs=>?_) λs hs=>?_)
 ·obtain⟨x,d,rfl⟩:=hs;unfold Bg;have b:SmR 5000000000 x:=by rw[d];exact hr i
  have hc:=b.cm;have hp:=b.pt;have a:MO (l.take (i+1)) r=QL l[i] x:=by unfold MO at d⊢;rw[f_ c,o_,d];rfl
  refine bo c (aG c (ak (Z7 l[i] x (by omega) (by omega)) (aa ⟨QL l[i] x,a.symm,?_⟩)));show(c_ .i64 ((i:Int)+1),_)=_;rw[aD c (by omega)]
 ·obtain⟨x,d,rfl⟩:=hs;unfold Bg;refine aZ (aa (aa ?_));grind
theorem CW(x:Int):aE tbl oH [.d tI x] [] mb (decide (x>=0)&&decide (x<=4294967295),()):=by refine ap rfl (aB YE rfl (λO k=>YU O k x) ?_);unfold KL;exact ae (bi (b:=decide (x<=4294967295)) (λ_=>aa rfl) (aa rfl))
theorem Tl(r:C6)(hp:oQ r.1.1):aE tbl uz [.d MD r] [] dE (Ih r,()):=by
 refine ap rfl (aB Vh rfl (λO n=>VJ O n r) ?_);unfold I9;refine ak (mE r.1 hp) (ar (λh=>aa ?_) λh=>?_);·rw[show Ih r=1 from if_pos (by grind)]
 have j:kb r.1=true:=by grind
 refine ae (ba (b:=decide (r.2.1>7)) (λ_=>aa rfl) (ar (λh=>aa ?_) λh=>?_));·rw[show Ih r=5 from by unfold Ih;grind]
 have k:¬(r.2.1<1\/7<r.2.1):=by grind
 refine ar (λh=>aa ?_) λh=>?_;·rw[show Ih r=4 from by unfold Ih;grind]
 have l:¬r.2.2.2.1.length>2000:=by grind
 rw[WQ j k l];refine ae (oW (xs:=r.2.2.2.1) (P:=λv=>1<=v/\v<=4294967295) (e:=((5:Int),())) (g:=()) (λi a=>?_) ?_ (λh=>?_) λh=>aa ?_);·unfold wc;refine bo a (aG a (ae (ba (b:=decide (r.2.2.2.1[i]>4294967295)) (λ_=>aa rfl) (cj ?_ (by rw[aD a (by omega)])))));grind
 ·unfold wc;exact aZ (aa rfl)
 ·rw[if_neg (not_not_intro h)];refine ak (Ti r.2.2.2.2.1) (ar (λh=>aa ?_) λh=>?_);·grind
  rw[if_neg (by grind)];generalize r.2.2.2.2.2.1=x0;generalize r.2.2.2.2.2.2.1=c;generalize r.2.2.2.2.2.2.2=y;obtain⟨f,d,⟨⟩⟩:=y;refine ak (CW x0) (ae (ba (b:= !(decide (c>=0)&&decide (c<=4294967295))) (λ_=>ak (CW c) (aa rfl)) ?_));refine ae (ba (b:= !(decide (d>=0)&&decide (d<=4294967295))) (λ_=>ak (CW d) (aa rfl)) ?_);refine ae (ba (b:=decide (f<0)) (λ_=>aa rfl) (ae (ba (b:=decide (f>16777216)) (λ_=>aa rfl) (ar (λh=>aa ?_) λh=>aa ?_))));all_goals grind
 grind
theorem W0(a b:List Int)(hl:a.length<=9223372036854775807):aE tbl wZ [.d (.list tW) a,.d (.list tW) b] [] l8 (decide (a=b),()):=by
 refine ap rfl (aB YC rfl (λO n=>YS O n a b) ?_);unfold KI;refine ar (λh=>aa ?_) λh=>?_;·rw[decide_eq_false];rintro rfl;simp at h
 have d:a.length=b.length:=by simp at h;omega
 refine ae (uh (N:=a.length) (good:=λi=>a[i]? =b[i]?) (e:=(false,())) (g:=()) (λi c=>?_) ?_ (λh=>?_) λh=>?_);·unfold xZ;refine bo c (aG c (aG (by omega) (cj ?_ (by rw[aD c hl]))));rw[b_ c,b_ (by omega)];simp
 ·unfold xZ;exact aZ (aa rfl)
 ·refine aa ?_;rw[decide_eq_true (n_ λi=>?_)];by_cases c:i<a.length;·exact h i c
  ·rw[d_ (by omega),d_ (by omega)]
 ·refine aa ?_;rw[decide_eq_false];rintro rfl;obtain⟨i,_,h⟩:=h;exact h rfl
theorem W2(a b:C6)(f:a.2.2.2.1.length<=9223372036854775807)(j:a.2.2.2.2.1.length<=9223372036854775807):aE tbl w9 [.d MD a,.d MD b] [] l9 (zb3 a b,()):=by
 refine ap rfl (aB YD rfl (λO n=>YT O n a b) ?_);unfold KJ;refine ae (ba (λ_=>aa rfl) (ae (ba (λ_=>aa rfl) (ae (ba (λ_=>aa rfl) (ae (ba (λ_=>aa rfl) (ae (ba (λ_=>aa rfl) (ae (ba (λ_=>aa rfl) (ae (ba (λ_=>aa rfl) ?_)))))))))))));have key:zb3 a b=(!((((((((true ^^ iX yP a.1 b.1)||(a.2.1 != b.2.1))||(a.2.2.1 != b.2.2.1))||(a.2.2.2.2.2.1 != b.2.2.2.2.2.1))||(a.2.2.2.2.2.2.1 != b.2.2.2.2.2.2.1))||(a.2.2.2.2.2.2.2.1 != b.2.2.2.2.2.2.2.1))||(a.2.2.2.2.2.2.2.2.1 != b.2.2.2.2.2.2.2.2.1))||((a.2.2.2.1.length:Int) != (b.2.2.2.1.length:Int)))&&(decide (a.2.2.2.1=b.2.2.2.1)&&decide (a.2.2.2.2.1=b.2.2.2.2.1))):=by
  have hl:decide (a.2.2.2.1=b.2.2.2.1)=(!((a.2.2.2.1.length:Int) != (b.2.2.2.1.length:Int))&&decide (a.2.2.2.1=b.2.2.2.1)):=by
   by_cases h:a.2.2.2.1=b.2.2.2.1;·rw[h];simp
   ·simp[h]
  unfold zb3;rw[hl];simp only[bne,Bool.not_or,Bool.not_not,Bool.and_assoc,Bool.false_xor,Bool.true_xor,Bool.and_self_left]
 generalize(((((((true ^^ iX yP a.1 b.1)||(a.2.1 != b.2.1))||(a.2.2.1 != b.2.2.1))||(a.2.2.2.2.2.1 != b.2.2.2.2.2.1))||(a.2.2.2.2.2.2.1 != b.2.2.2.2.2.2.1))||(a.2.2.2.2.2.2.2.1 != b.2.2.2.2.2.2.2.1))||(a.2.2.2.2.2.2.2.2.1 != b.2.2.2.2.2.2.2.2.1))=B at key⊢;rw[key];refine ar (λh=>aa ?_) λh=>?_;·rw[h];rfl
 rw[h,Bool.not_false,q_];have d:a.2.2.2.1.length=b.2.2.2.1.length:=by simp at h;omega
 refine ae (uh (N:=a.2.2.2.1.length) (good:=λi=>a.2.2.2.1[i]? =b.2.2.2.1[i]?) (e:=(false,())) (g:=()) (λi c=>?_) ?_ (λh=>?_) λh=>?_);·unfold x5;refine bo c (aG c (aG (by omega) (cj ?_ (by rw[aD c f]))));rw[b_ c,b_ (by omega)];simp
 ·unfold x5;exact aZ (aa rfl)
 ·refine ak (W0 a.2.2.2.2.1 b.2.2.2.2.1 j) (aa ?_);rw[decide_eq_true (p:=a.2.2.2.1=b.2.2.2.1) (n_ λi=>?_),q_];by_cases c:i<a.2.2.2.1.length;·exact h i c
  ·rw[d_ (by omega),d_ (by omega)]
 ·refine aa ?_;rw[decide_eq_false (p:=a.2.2.2.1=b.2.2.2.1)];·rfl
  ·intro e;obtain⟨i,_,h⟩:=h;rw[e]at h;exact h rfl
def zTS:HV:=(0,0,(0,0,()),[],zDF,[],())
noncomputable def Sk(a:eM)(r:C6)(i:Int):Bool:=J6 ((a.1[i.toNat]?).getD zTS) r
noncomputable def XY(a:eM)(r:C6)(m:Int)(K:Nat):(Bool×C6×Unit)×Int×Int×Unit:=
 if kT a≠0 then((false,zSub,()),0,kT a,())else if Ih r≠0 then((false,zSub,()),0,Ih r,())else if(dv a m).1=false then((false,zSub,()),(K:Int),0,())else((true,MO (dv a m).2.1 r,()),(K:Int),0,())
section
variable {a:eM} {r:C6} {m:Int} {K:Nat}
theorem zbY{i:Nat}(b:i<a.1.length):Sk a r i=J6 a.1[i] r:=by unfold Sk;rw[m_,b_ b];rfl
theorem Fu(c:okD wu a)(hr:okD MD r){i:Nat}(b:i<a.1.length):aE tbl fq [.d tI (i:Int),.dp wu a,.dp MD r] [] fB (Sk a r i,()):=by refine ap rfl (aB GP rfl (λO n=>G9 O n i a r) ?_);unfold vc;rw[zbY b];exact aG b (ak (Ej _ r (c.1.2 _ (g_ b)) hr) (aa rfl))
theorem HR(d:okD wu a)(hr:okD MD r)(h:FolOk a (Sk a r) m K):aE tbl ki [.d wu a,.fnD ot [⟨wu,a⟩,⟨MD,r⟩]] [] gH (dv a m,(K:Int),()):=by
 refine ap rfl (aB Il rfl (λO n=>IA O n a a r) ?_);unfold wz;refine ae (YN (enc:=λn j=>(n,((j:Nat):Int),false,())) (·.1) h (λ_ _=>rfl) (λn hn j i f e c=>?_) ?_)
 ·unfold mP;refine aL (decide_eq_true (by omega)) (aG hn ?_);simp only[e];refine ae (ak (Fu d hr f) (ar (λb=>aa (aa ?_)) λb=>aa (aa ?_)));·rw[if_pos b,aD c (by have:=h.le;omega)]
  ·rw[if_neg (l_.1 b),aD c (by have:=h.le;omega)]
 ·unfold mP;exact aA (decide_eq_false (by have:=h.neg;omega)) (aa (Ql h (aa rfl)))
theorem zh1(b:okD wu a)(h:FolOk a (Sk a r) m K):okD Kx (dv a m):=b.2.2.1.2 _ (xL h)
theorem ziM(b:okD wu a)(h:FolOk a (Sk a r) m K)(c:SmU r)(i:Nat):SmR 5000000000 (MO ((dv a m).2.1.take i) r):=(zaj (λx d=>(zh1 b h).2.1.2 x (List.mem_of_mem_take d)) c).sm
theorem Qo(d:okD wu a)(hr:okD MD r)(h:kT a=0->FolOk a (Sk a r) m K)(g:SmU r):aE tbl kM [.d wu a,.d MD r] [] dA (XY a r m K):=by
 refine ap rfl (aB Sz rfl (λO n=>SY O n a r) ?_);unfold FD;refine ak (qn a d) (ar (λb=>aa ?_) λb=>?_);·rw[show XY a r m K=((false,zSub,()),0,kT a,())from if_pos (by simpa using b)]
 have b:kT a=0:=by simpa using b
 have c:=show XY a r m K=_ from if_neg (not_not_intro b);have h:=h b;refine ak (Tb r hr.1.1) (ar (λe=>aa ?_) λe=>?_);·rw[c,if_pos (by simpa using e)]
 rw[if_neg (by simpa using e)]at c;refine ak (HR d hr h) (ar (λf=>aa ?_) λf=>?_);·rw[c,if_pos (by simpa using f)]
 rw[if_neg (by simpa using f)]at c;rw[c];exact ak (Y5 _ r (zh1 d h).2.1.1 (zh1 d h).2.1.2 (ziM d h g)) (aa rfl)
theorem W3(d:okD wu a)(hr:okD MD r)(h:kT a=0->FolOk a (Sk a r) m K)(u:SmU r):aE tbl xc [.d wu a,.d MD r] [] jU (XY a r m K):=by
 refine ap rfl (aB YF rfl (λO n=>YV O n a r) ?_);unfold KM;refine ak (uj a d) (ar (λb=>aa ?_) λb=>?_);·rw[show XY a r m K=((false,zSub,()),0,kT a,())from if_pos (by simpa using b)]
 have b:kT a=0:=by simpa using b
 have c:=show XY a r m K=_ from if_neg (not_not_intro b);have h:=h b;refine ak (Tl r hr.1.1) (ar (λg=>aa ?_) λg=>?_);·rw[c,if_pos (by simpa using g)]
 rw[if_neg (by simpa using g)]at c;refine ae (YN (enc:=λn j=>(n,((j:Nat):Int),false,(0:Int),(0:Int),(0:Int),(0:Int),(0:Int),(0:Int),(0:Int),(0:Int),())) (·.1) h (λ_ _=>rfl) (λn hn j i f e p=>?_) ?_)
 ·unfold x6;refine aL (decide_eq_true (by omega)) (aG hn ?_);simp only[e];refine aG f (ak (IR _ r (d.1.2 _ (g_ f)) hr) ?_);have s:((xF a.1[i]==0)&&J6 a.1[i] r)=Sk a r i:=by rw[zbY f,h.ok.ts _ (g_ f)];rfl
  simp only[s];refine ar (λl=>aa ?_) λl=>aa ?_;·rw[if_pos l,aD p (by have:=h.le;omega)]
  ·rw[if_neg (l_.1 l),aD p (by have:=h.le;omega)]
 ·unfold x6;refine aA (decide_eq_false (by have:=h.neg;omega)) (aa (Ql h (ar (λk=>aa ?_) λk=>?_)));·rw[c,if_pos (by simpa using k)]
  ·rw[if_neg (by simpa using k)]at c;rw[c];exact ak (Z6 _ r (zh1 d h).2.1.1 (ziM d h u)) (aa rfl)
theorem zhs(c:okD wu a)(h:kT a=0->FolOk a (Sk a r) m K)(d:SmU r):(XY a r m K).1.2.1.2.2.2.1.length<=9223372036854775807/\(XY a r m K).1.2.1.2.2.2.2.1.length<=9223372036854775807:=by
 have z:(zSub.2.2.2.1.length<=9223372036854775807)/\zSub.2.2.2.2.1.length<=9223372036854775807:=⟨by decide,by decide⟩;unfold XY;split;·exact z
 rename_i b;split;·exact z
 split;·exact z
 ·have:=(zaj (λx e=>(zh1 c (h (p_ b))).2.1.2 x e) d).sm;exact⟨r_ this.pt (by decide),r_ this.cm (by decide)⟩
end
theorem Pi:LawOk pw [wu,MD]:=by rintro⟨a,r,_⟩ ⟨c,hr,_⟩;refine⟨ej kI (true,()),?_,rfl⟩;refine aB Im rfl (λO n=>IB O n a r) ?_;unfold wA;obtain⟨m,K,b⟩:=Qa a (Sk a r);refine ak (mD a) (ae (ba (λ_=>ak (IM r) (aa rfl)) (ae (ba (λ_=>aa rfl) (ar (λ_=>ak oo (aa rfl)) λh=>?_)))));rw[j_,j_]at h;obtain⟨e,f⟩:=zfX h.1.2;have d:SmU r:=⟨by omega,.inl (by omega),hr.2.2.2.2.1.2⟩;obtain⟨l1,l2⟩:=zhs c b d;refine ak (Qo c hr b d) (ak (W3 c hr b d) ?_);refine ae (aL (by simp) (aa (ae (aL (by simp) (aa (ae (aL (by simp) (ak (W2 _ _ l1 l2) (aa ?_)))))))));rw[zgh];exact ae (aL rfl (ak oo (aa (aa rfl))))
end Go.Proofs.YtdgiglmmpbndmaaGreatDoor
