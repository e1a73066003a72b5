import Derived.Test.YtdgiglmmpbndmaaGreatDoorKLawDfaUse
import Derived.Test.YtdgiglmmpbndmaaGreatDoorKPlPfx
set_option linter.unusedVariables false
set_option linter.unusedSimpArgs false
open Classical renaming byContradiction->j_,choose_spec->O_,choose->Q_
open Int renaming toNat_natCast->f_,le_refl->G_,toNat->M_
open Go.IntKind renaming wrap->w_
open List renaming mem_cons_of_mem->a_,length_append->b_,getElem?_eq_getElem->c_,mem_cons_self->d_,length_cons->e_,getElem?_eq_some_iff->g_,mem_map->h_,length_singleton->i_,mem_cons->k_,mem_flatMap->l_,mem_append_left->m_,mem_of_getElem?->n_,getElem?_append_left->o_,append_nil->p_,mem_append->q_,mem_singleton->r_,getElem?_append_right->t_,pairwise_iff_getElem->u_,getElem_mem->v_,mem_filter->y_,nil_append->z_,mem_range->A_,map_cons->B_,pairwise_cons->C_,flatMap_cons->D_,nodup_append->E_,take_length->F_,foldl_cons->H_,length_nil->I_,map_append->J_,nodup_nil->K_,range->L_,map_nil->N_
open Nat renaming le_trans->x_
open Option renaming bind->s_
open Prod renaming ext->P_
namespace Go.Proofs.YtdgiglmmpbndmaaGreatDoor
open Go Go.Av Go.Ev Go.Pl
def ndT(B:List d6)(L:List lF)(n:Int):Prop:=n<(B.length:Int)/\-(L.length:Int)<=n
def gtT(B:List d6)(n t:Int):Prop:=0<=n->∃b,B[n.toNat]? =some b/\t<b.1
theorem gtT.app{B E:List d6}{n t:Int}(h:gtT B n t):gtT (B++E) n t:=λz=>let⟨b,C,H⟩:=h z;⟨b,sf C,H⟩
theorem gtT.le{B:List d6}{n t z:Int}(h:gtT B n t)(hl:z<=t):gtT B n z:=λC=>let⟨b,E,H⟩:=h C;⟨b,E,by omega⟩
theorem ndT.app{B E:List d6}{L E':List lF}{n:Int}(h:ndT B L n):ndT (B++E) (L++E') n:=by obtain⟨z,C⟩:=h;unfold ndT;grind
theorem Tab.leaf{nt:Nat}{B:List d6}{L:List lF}(h:Tab nt B L)(l:lF):Tab nt B (dO L l).2:=by
 obtain⟨_,_,⟨E,I⟩,H,_,_⟩:=vK L l;have z:L.length<=(dO L l).2.length:=by rw[I];simp
 refine⟨h.bn,H h.ln,λi b C=>?_⟩;obtain⟨J,M,N⟩:=h.bb i b C;refine⟨J,M,λc hc=>?_⟩;obtain⟨r1,r2,r3⟩:=N c hc;grind
theorem YW(B:List d6)(L:List lF)(l:lF):ndT B (dO L l).2 (dO L l).1/\(dO L l).1<0:=by obtain⟨a,b,_⟩:=vK L l;have:=(g_.1 b).1;exact⟨⟨by omega,by omega⟩,a⟩
theorem PK(B:List d6)(b:d6):(∃E,(eE B b).2=B++E)/\(eE B b).2.length<=B.length+1:=by
 rcases FU B b with⟨_,h⟩|⟨_,_,_,h|⟨h,_⟩⟩;·rw[h];simp
 ·rw[h];simp
 grind
theorem Tab.bran{nt:Nat}{B:List d6}{L:List lF}(h:Tab nt B L){t y o:Int}(J:0<=t)(h1:t<(nt:Int))(hy:ndT B L y)(ho:ndT B L o)(gy:gtT B y t)(go:gtT B o t): Tab nt (eE B (t,y,o,())).2 L/\ndT (eE B (t,y,o,())).2 L (eE B (t,y,o,())).1/\(∀I,I<t->gtT (eE B (t,y,o,())).2 (eE B (t,y,o,())).1 I)/\((eE B (t,y,o,())).1=y\/(eE B (t,y,o,())).2[(eE B (t,y,o,())).1.toNat]? =some (t,y,o,())):=by
 generalize hp:eE B (t,y,o,())=p;have hs:=FU B (t,y,o,());rw[hp]at hs;have lt:∀{c:Int},gtT B c t->0<=c->∃C,B[c.toNat]? =some C/\t<C.1:=λh J=>h J;rcases hs with⟨_,z⟩|⟨n1,n2,n3,z⟩;·rw[z];exact⟨h,hy,λI Y=>gy.le (by omega),.inl rfl⟩
 have U:ndT p.2 L p.1:=⟨by grind,by omega⟩;refine⟨?_,U,λI Y _=>⟨_,n3,Y⟩,.inr n3⟩;rcases z with z|⟨z,h3⟩;·grind
 refine⟨?_,h.ln,λj b H=>?_⟩;·rw[z,E_];refine⟨h.bn,by simp,?_⟩;grind
 ·by_cases hj:j<B.length;·rw[z,o_ hj]at H;obtain⟨q1,q2,q3⟩:=h.bb j b H;grind
  ·rw[z,t_ (by omega)]at H;obtain⟨el,E⟩:=g_.1 H;have N:j - B.length=0:=by grind
   simp only[N,List.getElem_cons_zero]at E;subst E;refine⟨n1,⟨J,h1⟩,λc hc=>?_⟩;have key:∀c,ndT B L c->gtT B c t->c<(j:Int)/\-(L.length:Int)<=c/\(0<=c->∃C,p.2[c.toNat]? =some C/\t<C.1):=λc hn hg=>⟨by grind,hn.2,λM=>let⟨C,s1,s2⟩:=hg M;⟨C,by grind,s2⟩⟩;grind
def Clo(B:List d6)(L:List lF)(R:List Int):Prop:=∀n∈R,ndT B L n/\(0<=n->∃b,B[n.toNat]? =some b/\b.2.1∈R/\b.2.2.1∈R)
theorem Clo.app{B E:List d6}{L E':List lF}{R:List Int}(h:Clo B L R):Clo (B++E) (L++E') R:=λn hn=>⟨(h n hn).1.app,λz=>let⟨b,C,H⟩:=(h n hn).2 z;⟨b,sf C,H⟩⟩
def Ab(A:List Bw)(l:lF):lF:=if l.1=true then(l.1,A++l.2.1,())else(l.1,l.2.1,())
def Ac(g:eC)(A:List Bw):Nat->Int->Bh->Int×Bh
 |0,_,s=>(0,s)
 |f+1,n,s=>match lk s.2.2 n with
  |some k=>(k,s)
  |none=>if n<0 then((dO s.2.1 (Ab A (eQ g n))).1,s.1,(dO s.2.1 (Ab A (eQ g n))).2,s.2.2++[(n,(dO s.2.1 (Ab A (eQ g n))).1)])
   else
    let y:=Ac g A f (bF g n).2.1 s
    let o:=Ac g A f (bF g n).2.2.1 y.2
    let p:=eE o.2.1 ((bF g n).1,y.1,o.1,())
    (p.1,p.2,o.2.2.1,o.2.2.2++[(n,p.1)])
structure PI(g:eC)(A:List Bw)(R:List Int)(s:Bh):Prop where
 tab:Tab g.1.length s.1 s.2.1
 eB:∃E,s.1=g.2.1++E
 eL:∃E,s.2.1=g.2.2.1++E
 kn:(s.2.2.map (·.1)).Nodup
 kR:∀n k,(n,k)∈s.2.2->n∈R
 nd:∀n k,(n,k)∈s.2.2->ndT s.1 s.2.1 k/\(n<0->k<0)/\(0<=n->∀t,t<(bF g n).1->gtT s.1 k t)
 cl:∀n k,(n,k)∈s.2.2->0<=k->∃b,s.1[k.toNat]? =some b/\(∃m,(m,b.2.1)∈s.2.2)/\∃m,(m,b.2.2.1)∈s.2.2
 cB:s.1.length<=g.2.1.length+s.2.2.length
 cL:s.2.1.length<=g.2.2.1.length+s.2.2.length
 lv:∀l∈s.2.1,l∈g.2.2.1\/∃l0∈g.2.2.1,l=Ab A l0
structure PreR(g:eC)(A:List Bw)(R:List Int)(n:Int)(s:Bh)(r:Int×Bh):Prop where
 inv:PI g A R r.2
 mem:(n,r.1)∈r.2.2.2
 ext:∀p∈s.2.2,p∈r.2.2.2
 new:∀p∈r.2.2.2,p∈s.2.2\/p.1<=n
theorem PI.leaf{g:eC}{A:List Bw}{R:List Int}{s:Bh}(h:PI g A R s)(hR:Clo g.2.1 g.2.2.1 R){n:Int}(hn:n∈R)(U:n<0)(hk:∀k,(n,k)∉s.2.2): PI g A R (s.1,(dO s.2.1 (Ab A (eQ g n))).2,s.2.2++[(n,(dO s.2.1 (Ab A (eQ g n))).1)]):=by
 generalize hl:Ab A (eQ g n)=l;obtain⟨p1,p2,⟨E,pE⟩,p4,p5,p6⟩:=vK s.2.1 l;have H:∀{x k},(x,k)∈s.2.2++[(n,(dO s.2.1 l).1)]->(x,k)∈s.2.2\/(x=n/\k=(dO s.2.1 l).1):=λz=>by simpa using z
 have I:ct g n=true:=nodeB_of.2 (hR n hn).1;obtain⟨N,Y⟩:=h.eL;refine⟨h.tab.leaf l,h.eB,⟨N++E,by grind⟩,mg h.kn hk,λx k z=>?_,λx k z=>?_,λx k z C=>?_,?_,?_,λx z=>?_⟩
 ·rcases H z with z|⟨rfl,_⟩;·exact h.kR x k z
  omega
 ·rcases H z with z|⟨rfl,rfl⟩;·obtain⟨J,M⟩:=h.nd x k z;refine⟨?_,M⟩;simp only;rw[pE];have:=J.app (E:=[]) (E':=E);grind
  ·exact⟨(YW s.1 s.2.1 l).1,λ_=>p1,λh=>by omega⟩
 ·rcases H z with z|⟨rfl,rfl⟩;·obtain⟨b,J,⟨m,M⟩,m',q3⟩:=h.cl x k z C;exact⟨b,J,⟨m,m_ _ M⟩,m',m_ _ q3⟩
  omega
 ·have:=h.cB;simp only[b_,i_];omega
 ·have:=h.cL;simp only[b_,i_];omega
 ·rcases p5 x z with z|rfl;·exact h.lv x z
  ·exact .inr ⟨_,n_ (fH U I),hl.symm⟩
theorem PI.bran{g:eC}{A:List Bw}{R:List Int}{s:Bh}(h:PI g A R s)(hR:Clo g.2.1 g.2.2.1 R)(ht:Tab g.1.length g.2.1 g.2.2.1){n ky J:Int}(hn:n∈R)(Y:0<=n)(hk:∀k,(n,k)∉s.2.2) (hy:((bF g n).2.1,ky)∈s.2.2) (hz:((bF g n).2.2.1,J)∈s.2.2):PI g A R ((eE s.1 ((bF g n).1,ky,J,())).2,s.2.1,s.2.2++[(n,(eE s.1 ((bF g n).1,ky,J,())).1)]):=by
 have el:ct g n=true:=nodeB_of.2 (hR n hn).1;obtain⟨i,rfl,hi⟩:=qp el Y;obtain⟨_,⟨b1,b2⟩,b3⟩:=ht.bb i _ (c_ hi);rw[<-nE hi]at b1 b2 b3;have C:∀{c M:Int},(c=(bF g i).2.1\/c=(bF g i).2.2.1)->(c,M)∈s.2.2->ndT s.1 s.2.1 M/\gtT s.1 M (bF g i).1:=fun{c M} hc hd=>by
  obtain⟨N,q2,U⟩:=h.nd _ _ hd;refine⟨N,?_⟩;by_cases I:0<=c;·obtain⟨b',s1,s2⟩:=(b3 c hc).2.2 I;refine U I _ ?_;rw[ze s1];omega
  ·intro H;omega
 obtain⟨y1,y2⟩:=C (.inl rfl) hy;obtain⟨z1,z2⟩:=C (.inr rfl) hz;obtain⟨t1,t2,t3,t4⟩:=h.tab.bran b1 b2 y1 z1 y2 z2;obtain⟨⟨E,hE⟩,gc⟩:=PK s.1 ((bF g i).1,ky,J,());generalize eE s.1 ((bF g i).1,ky,J,())=p at*;have hm:∀{x k},(x,k)∈s.2.2++[((i:Int),p.1)]->(x,k)∈s.2.2\/(x=i/\k=p.1):=λz=>by grind
 obtain⟨E0,qr⟩:=h.eB;have ph:∀x k,(x,k)∈s.2.2->0<=k->∃b,p.2[k.toNat]? =some b/\(∃m,(m,b.2.1)∈s.2.2++[((i:Int),p.1)])/\∃m,(m,b.2.2.1)∈s.2.2++[((i:Int),p.1)]:=λx k z H=>by obtain⟨b,N,⟨m,q2⟩,m',U⟩:=h.cl x k z H;grind
 refine⟨t1,⟨E0++E,by grind⟩,h.eL,mg h.kn hk,λx k z=>?_,λx k z=>?_,λx k z H=>?_,?_,?_,h.lv⟩
 ·rcases hm z with z|⟨rfl,_⟩;·exact h.kR x k z
  omega
 ·rcases hm z with z|⟨rfl,rfl⟩;·obtain⟨N,q2,U⟩:=h.nd x k z;have e:=N.app (E:=E) (E':=[]);rw[p_]at e;simp only;rw[hE];exact⟨e,q2,λY t ht=>(U Y t ht).app⟩
  grind
 ·rcases hm z with z|⟨rfl,rfl⟩;all_goals grind
 ·have:=h.cB;grind
 ·have:=h.cL;grind
theorem Xc{g:eC}(A:List Bw){R:List Int}(d:Clo g.2.1 g.2.2.1 R)(r:Tab g.1.length g.2.1 g.2.2.1):∀(f:Nat) (n:Int) (s:Bh),n∈R->(n+1).toNat<f->PI g A R s->PreR g A R n s (Ac g A f n s):=by
 intro f;induction f with
 |zero=>simp|succ f u=>
  intro n s hn z hs;unfold Ac;cases e:lk s.2.2 n with
  |some k=>exact⟨hs,xH e,λp hp=>hp,λp hp=>.inl hp⟩|none=>
   have x:=z7 e;by_cases c:n<0;·simp only[if_pos c];refine⟨hs.leaf d hn c x,by simp,λp hp=>m_ _ hp,λp hp=>?_⟩;grind
   ·simp only[if_neg c];have c:0<=n:=by omega
    obtain⟨b,v,j,l⟩:=(d n hn).2 c;have kid:=r.low.kids (nodeB_of.2 (d n hn).1) c;have w:=ze v;rw[<-w]at j l;have B:=(kid _ (.inl rfl)).2;have C:=(kid _ (.inr rfl)).2;have y:=u _ s j (by omega) hs;generalize Ac g A f (bF g n).2.1 s=Y at y;have o:=u _ Y.2 l (by omega) y.inv;generalize Ac g A f (bF g n).2.2.1 Y.2=O at o;have h:∀k,(n,k)∉O.2.2.2:=λk a=>by
     rcases o.new _ a with a|a;·rcases y.new _ a with a|a;all_goals grind
     omega
    refine⟨o.inv.bran d r hn c h (o.ext _ y.mem) o.mem,by simp,λp hp=>m_ _ (o.ext _ (y.ext _ hp)),λp hp=>?_⟩;rcases q_.1 hp with hp|hp
    ·rcases o.new _ hp with a|a;·rcases y.new _ a with a|a;all_goals grind
     omega
    grind
theorem PI.len{g:eC}{A:List Bw}{R:List Int}{s:Bh}(h:PI g A R s):s.2.2.length<=R.length:=by
 have:=h.kn.length_le_of_subset (l₂:=R) λx z=>by obtain⟨⟨n,k⟩,hp,rfl⟩:=h_.1 z;exact h.kR n k hp
 grind
theorem PI.clo{g:eC}{A:List Bw}{R:List Int}{s:Bh}(h:PI g A R s):Clo s.1 s.2.1 (s.2.2.map (·.2)):=λn hn=>by obtain⟨⟨m,k⟩,hp,rfl⟩:=h_.1 hn;refine⟨(h.nd m k hp).1,λz=>?_⟩;obtain⟨b,H,⟨C,I⟩,E,J⟩:=h.cl m k hp z;grind
theorem PI.nil{g:eC}(A:List Bw)(R:List Int)(z:Tab g.1.length g.2.1 g.2.2.1):PI g A R (g.2.1,g.2.2.1,[]):=⟨z,⟨[],by simp⟩,⟨[],by simp⟩,K_,by simp,by simp,by simp,by simp,by simp,λl hl=>.inl hl⟩
abbrev Iv:Type:=Int×(Bool×Unit)
abbrev Kc:Type:=List (d6×Int)
def lkC(D:Kc)(k:d6):Option Int:=bY Di tI D k
theorem US(k:d6)(v:Int)(l:Kc)(n:d6):lkC ((k,v)::l) n=if n=k then some v else lkC l n:=by show(bif jk Di n k then some v else lkC l n)=_;rw[Ux,Bool.cond_decide]
theorem YY:∀{D:Kc} {n:d6} {k:Int},lkC D n=some k->(n,k)∈D
 |[],_,_,h=>by cases h
 |(a,b)::l,n,k,h=>by
  rw[US]at h;split at h;·grind
  ·exact a_ _ (YY h)
theorem UT:∀{D:Kc} {n:d6},lkC D n=none->∀k,(n,k)∉D
 |[],_,_=>by simp
 |(a,b)::l,n,h=>λk=>by
  rw[US]at h;split at h;·grind
  ·rename_i e;have:=UT h k;grind
def nR(B:List d6)(n t:Int)(r:Bool):Int:=if n<0\/((B[n.toNat]?).getD (0,0,0,())).1≠t then n else if r=true then((B[n.toNat]?).getD (0,0,0,())).2.1 else((B[n.toNat]?).getD (0,0,0,())).2.2.1
def qJ(B:List d6)(t n:Int):Int:=if 0<=n/\((B[n.toNat]?).getD (0,0,0,())).1<t then((B[n.toNat]?).getD (0,0,0,())).1 else t
def Rs:Nat->List Iv->Int->Int->List d6×Kc->Int×(List d6×Kc)
 |0,_,y,_,s=>(y,s)
 |_+1,[],y,_,s=>(y,s)
 |f+1,x::l,y,n,s=>if y=n then(y,s)else match lkC s.2 (((l.length+1:Nat):Int),y,n,())with
  |some k=>(k,s)
  |none=>
   let t:=qJ s.1 (qJ s.1 x.1 y) n
   let one:=fun(r:Bool) (s:List d6×Kc)=>if x.1≠t then Rs f (x::l) (nR s.1 y t r) (nR s.1 n t r) s else if x.2.1≠r then(nR s.1 n t r,s)else Rs f l (nR s.1 y t r) (nR s.1 n t r) s
   let a:=one true s
   let b:=one false a.2
   let p:=eE b.2.1 (t,a.1,b.1,())
   (p.1,p.2,b.2.2++[((((l.length+1:Nat):Int),y,n,()),p.1)])
def Bd(lits:List Iv)(B0:List d6)(T:Int)(k:d6):Prop:=gtT B0 k.2.1 T/\gtT B0 k.2.2.1 T/\∀x,(lits.drop (lits.length - k.1.toNat)).head?=some x->T<x.1
structure CI(nt:Nat)(lits:List Iv)(B0:List d6)(L:List lF)(RY RN:List Int)(s:List d6×Kc):Prop where
 tab:Tab nt s.1 L
 eB:∃E,s.1=B0++E
 kn:(s.2.map (·.1)).Nodup
 kd:∀k v,(k,v)∈s.2->(0<=k.1/\k.1<=(lits.length:Int))/\k.2.1∈RY/\k.2.2.1∈RN
 vd:∀k v,(k,v)∈s.2->ndT s.1 L v/\∀T,Bd lits B0 T k->gtT s.1 v T
 cB:s.1.length<=B0.length+s.2.length
structure ChoR(nt:Nat)(lits:List Iv)(B0:List d6)(L:List lF)(RY RN:List Int)(T:Int)(k:d6)(s:List d6×Kc)(r:Int×(List d6×Kc)):Prop where
 inv:CI nt lits B0 L RY RN r.2
 nd:ndT r.2.1 L r.1
 gt:∀T',Bd lits B0 T' k->gtT r.2.1 r.1 T'
 eB:∃E,r.2.1=s.1++E
 new:∀p∈r.2.2,p∈s.2\/Bd lits B0 T p.1
section
variable {nt:Nat} {lits:List Iv} {B0:List d6} {L:List lF} {RY RN:List Int}
theorem zeA{B:List d6}(a:∃E,B=B0++E){n:Int}(hn:ndT B0 L n)(t:Int)(r:Bool):nR B n t r=nR B0 n t r:=by
 obtain⟨E,rfl⟩:=a;unfold nR;by_cases b:n<0;·omega
 ·rw[o_ (by have:=hn.1;omega)]
theorem zdi{B:List d6}(a:∃E,B=B0++E){n:Int}(hn:ndT B0 L n)(t:Int):qJ B t n=qJ B0 t n:=by
 obtain⟨E,rfl⟩:=a;unfold qJ;by_cases b:n<0;·omega
 ·rw[o_ (by have:=hn.1;omega)]
theorem zdk(B:List d6)(t n:Int):qJ B t n<=t:=by unfold qJ;split<;>omega
theorem Sg{B:List d6}{t n T:Int}(d:T<t)(hn:gtT B n T):T<qJ B t n:=by
 unfold qJ;split;·rename_i h;obtain⟨b,a,c⟩:=hn h.1;grind
 omega
theorem zdj{B:List d6}{t n a:Int}(hn:n<(B.length:Int))(hl:a<=qJ B t n):0<=n->∃b,B[n.toNat]? =some b/\a<=b.1:=λd=>by
 have c:n.toNat<B.length:=by omega
 refine⟨_,c_ c,?_⟩;unfold qJ at hl;grind
theorem zeB(j:Tab nt B0 L){R:List Int}(g:Clo B0 L R){n t:Int}(hn:n∈R)(hg:0<=n->∃b,B0[n.toNat]? =some b/\t<=b.1)(r:Bool):nR B0 n t r∈R/\gtT B0 (nR B0 n t r) t:=by
 unfold nR;by_cases f:n<0;·rw[if_pos (.inl f)];exact⟨hn,λh=>by omega⟩
 obtain⟨b,a,s⟩:=hg (by omega);obtain⟨k,d,l,p⟩:=(g n hn).2 (by omega);rw[a]at d;cases d;rw[a];simp only[Option.getD_some];by_cases e:b.1=t
 ·rw[if_neg (by omega)];obtain⟨_,_,q⟩:=j.bb _ _ a;have key:∀c,(c=b.2.1\/c=b.2.2.1)->gtT B0 c t:=λc hc f=>by grind
  grind
 ·rw[if_pos (.inr e)];exact⟨hn,λ_=>⟨b,a,by omega⟩⟩
theorem zcp{T T':Int}{k:d6}(h:Bd lits B0 T k)(hl:T'<=T):Bd lits B0 T' k:=⟨h.1.le hl,h.2.1.le hl,λx a=>by have:=h.2.2 x a;omega⟩
theorem CI.put{s:List d6×Kc}(h:CI nt lits B0 L RY RN s){k:d6}{p:Int×List d6}(hk:∀v,(k,v)∉s.2)(N:(0<=k.1/\k.1<=(lits.length:Int))/\k.2.1∈RY/\k.2.2.1∈RN) (tab:Tab nt p.2 L) (eB:∃E,p.2=s.1++E) (hl:p.2.length<=s.1.length+1) (nd:ndT p.2 L p.1) (gt:∀T,Bd lits B0 T k->gtT p.2 p.1 T):CI nt lits B0 L RY RN (p.2,s.2++[(k,p.1)]):=by
 obtain⟨E,I⟩:=eB;obtain⟨H,J⟩:=h.eB;have C:∀{x v},(x,v)∈s.2++[(k,p.1)]->(x,v)∈s.2\/(x=k/\v=p.1):=λz=>by grind
 refine⟨tab,⟨H++E,by grind⟩,?_,λx v z=>?_,λx v z=>?_,?_⟩;·simp only[J_,B_,N_];rw[E_];refine⟨h.kn,by simp,?_⟩;grind
 ·rcases C z with z|⟨rfl,_⟩;·exact h.kd x v z
  omega
 ·rcases C z with z|⟨rfl,rfl⟩;·obtain⟨U,Y⟩:=h.vd x v z;have e:=U.app (E:=E) (E':=[]);rw[p_]at e;simp only;rw[I];exact⟨e,λT M=>(Y T M).app⟩
  grind
 ·have:=h.cB;grind
theorem MU{α β:Type}{f:α->List β}{c:Nat}:∀{l:List α},(∀x,(f x).length=c)->(l.flatMap f).length=l.length*c
 |[],_=>by simp
 |x::l,h=>by rw[D_,b_,h x,MU h,e_,Nat.add_mul,Nat.one_mul,Nat.add_comm]
theorem CI.len{s:List d6×Kc}(h:CI nt lits B0 L RY RN s):s.2.length<=(lits.length+1)*(RY.length*RN.length):=by
 have:=h.kn.length_le_of_subset (l₂:=(L_ (lits.length+1)).flatMap fun(i:Nat)=>RY.flatMap λy=>RN.map λn=>(((i:Int),y,n,()):d6)) λx E=>by obtain⟨⟨k,v⟩,hp,rfl⟩:=h_.1 E;obtain⟨⟨M,N⟩,z,C⟩:=h.kd k v hp;obtain⟨H,I,J,⟨⟩⟩:=k;simp only at M N z C⊢;refine l_.2 ⟨H.toNat,A_.2 (by omega),l_.2 ⟨I,z,h_.2 ⟨J,C,?_⟩⟩⟩;grind
 rw[List.length_map,MU (c:=RY.length*RN.length) λi=>MU λy=>by simp,List.length_range]at this;omega
theorem CI.nil(h:Tab nt B0 L):CI nt lits B0 L RY RN (B0,[]):=⟨h,⟨[],by simp⟩,K_,by simp,by simp,by simp⟩
end
theorem Num.clo{F:Nat}{g:eC}{r:Int}(h:Num F g r):Clo g.2.1 g.2.2.1 ((vw F g r).2.2.2.map (·.1)):=λn hn=>by obtain⟨⟨m,k⟩,hp,rfl⟩:=h_.1 hn;refine⟨nodeB_of.1 (h.v.inv.kd m k hp),λz=>?_⟩;obtain⟨ky,H,C,E,_⟩:=h.fin hp z;exact⟨_,h.gbr (h.v.inv.kd m k hp) z,h_.2 ⟨_,C,rfl⟩,h_.2 ⟨_,E,rfl⟩⟩
theorem Num.mem{F:Nat}{g:eC}{r:Int}(h:Num F g r):r∈(vw F g r).2.2.2.map (·.1):=h_.2 ⟨_,h.v.mem,rfl⟩
theorem Num.len{F:Nat}{g:eC}{r:Int}(h:Num F g r):((vw F g r).2.2.2.map (·.1)).length<=(fE F g r).2.1.length+(fE F g r).2.2.1.length:=by
 have hn:(vw F g r).2.2.2.Nodup:=List.Pairwise.of_map (S:=(·≠·)) (·.1) (λ_ _ h e=>h (by rw[e])) h.v.inv.kn;have C:=DC (f:=λp:Int×Int=>p.2+((fE F g r).2.2.1.length:Int)) hn λx z y E e=>by
  obtain⟨m,k⟩:=x;obtain⟨m',H⟩:=y;have e:k=H:=by omega
  subst e;rw[h.v.inv.ij _ _ _ z E]
 have:=W6 ((fE F g r).2.1.length+(fE F g r).2.2.1.length) _ C λx z=>by obtain⟨⟨m,k⟩,hp,rfl⟩:=h_.1 z;have:=nodeB_of.1 (h.sgn hp).2;omega
 grind
theorem Num.lvs{F:Nat}{g:eC}{r:Int}(h:Num F g r){l:lF}(hl:l∈(fE F g r).2.2.1):l∈g.2.2.1:=by
 rcases h.v.lfs l hl with hl|hl;·cases hl
 ·exact hl
theorem Num.lens{F:Nat}{g:eC}{r:Int}(h:Num F g r):(fE F g r).2.1.length<=g.2.1.length/\(fE F g r).2.2.1.length<=g.2.2.1.length:=⟨x_ h.v.inv.cb (Dp h.v.inv.kn h.v.inv.kd),x_ h.v.inv.cl (G6 h.v.inv.kn h.v.inv.kd)⟩
theorem Lb{b:Bool}{A:List Bw}(d:b=false->A=[])(h:∀a∈A,o9 a=0):En (b,A,())=0:=by unfold En;rw[if_neg (by grind),errL_zero];intro a c;unfold acE;grind
theorem zfD{l:lF}(h:En l=0):(l.1=false->l.2.1=[])/\∀a∈l.2.1,o9 a=0:=by
 unfold En at h;split at h;·omega
 rename_i b;refine⟨λe=>j_ λc=>b ⟨e,c⟩,λa d=>?_⟩;have:=errL_zero.1 h a d;unfold acE at this;omega
theorem zdb{A:List Bw}{l:lF}(f:∀a∈A,o9 a=0)(h:En l=0):En (Ab A l)=0:=by
 obtain⟨c,d⟩:=zfD h;unfold Ab;split;·rename_i e;refine Lb (λb=>by grind) λa g=>?_;grind
 omega
def LvS(k:Nat)(L:List lF):Prop:=∀l∈L,okD K1 l/\l.2.1.length<=k
theorem Y5{A:List Bw}{l:lF}{k:Nat}(c:∀a∈A,okD yA a)(hl:okD K1 l/\l.2.1.length<=k)(d:A.length+k<=1000000):okD K1 (Ab A l)/\(Ab A l).2.1.length<=A.length+k:=by
 unfold Ab;split
 ·refine⟨⟨trivial,⟨?_,λa b=>?_⟩,trivial⟩,?_⟩;·show(A++l.2.1).length<=maxLen;rw[b_];simp only[maxLen];omega
  ·rcases q_.1 b with b|b;·grind
   ·exact hl.1.2.1.2 a b
  grind
 grind
abbrev Srt(l:List Iv):Prop:=l.Pairwise λa b=>a.1<b.1
structure LI(i:Nat)(ts:List yZ)(B:List d6)(L:List lF):Prop where
 tab:Tab ts.length B L
 cB:B.length<=i*4500000000
 cL:L.length<=i*10000+1
 lv:LvS (64*i) L
 le:∀l∈L,En l=0
abbrev tA(ts:List yZ)(B:List d6)(L:List lF):eC:=(ts,B,L,0,())
structure Fit(F:Nat)(g:eC)(r:Int):Prop where
 num:Num F g r
 l2:(fE F g r).2.1.length<=4096
 l3:(fE F g r).2.2.1.length<=4096
structure YS(i:Nat)(ts:List yZ)(B:List d6)(L:List lF)(B1:List d6)(L1:List lF)(y:Int)(R:List Int):Prop where
 tab:Tab ts.length B1 L1
 clo:Clo B1 L1 R
 mem:y∈R
 len:R.length<=8192
 eB:∃E,B1=B++E
 eL:∃E,L1=L++E
 cB:B1.length<=B.length+8192
 cL:L1.length<=L.length+8192
 lv:LvS (64*(i+1)) L1
 le:∀l∈L1,En l=0
theorem LI.leaf{i:Nat}{ts:List yZ}{B:List d6}{L:List lF}(h:LI i ts B L){l:lF}(I:okD K1 l)(hl:l.2.1.length<=64)(H:En l=0):YS i ts B L B (dO L l).2 (dO L l).1 [(dO L l).1]:=by
 obtain⟨N,U,E,Y,C,p6⟩:=vK L l;obtain⟨J,M⟩:=YW B L l;refine⟨h.tab.leaf l,λn hn=>?_,List.mem_singleton_self _,by simp,⟨[],by simp⟩,E,by simp,by omega,λx z=>?_,λx z=>?_⟩;·rw[r_.1 hn];grind
 ·rcases C x z with z|rfl;·exact⟨(h.lv x z).1,by have:=(h.lv x z).2;omega⟩
  grind
 ·rcases C x z with z|rfl;·exact h.le x z
  omega
theorem LI.pre{F i:Nat}{ts:List yZ}{B:List d6}{L:List lF}(h:LI i ts B L)(hi:i<=64){r:Int}(C:Fit F (tA ts B L) r){A:List Bw}(M:∀a∈A,okD yA a)(Y:A.length<=64)(J:∀a∈A,o9 a=0){f:Nat}(I:(r+1).toNat<f): YS i ts B L (Ac (tA ts B L) A f r (B,L,[])).2.1 (Ac (tA ts B L) A f r (B,L,[])).2.2.1 (Ac (tA ts B L) A f r (B,L,[])).1 ((Ac (tA ts B L) A f r (B,L,[])).2.2.2.map (·.2)):=by
 have hc:=C.num.clo;have hn:=C.num.len;have p:=Xc (g:=tA ts B L) A hc h.tab f r (B,L,[]) C.num.mem I (PI.nil A _ h.tab);generalize Ac (tA ts B L) A f r (B,L,[])=P at p;have hl:=p.inv.len;have N:=C.l2;have U:=C.l3;have hd:P.2.2.2.length<=8192:=by omega
 refine⟨p.inv.tab,p.inv.clo,h_.2 ⟨_,p.mem,rfl⟩,by grind,p.inv.eB,p.inv.eL,?_,?_,λx z=>?_,λx z=>?_⟩;·have:=p.inv.cB;grind
 ·have:=p.inv.cL;grind
 ·rcases p.inv.lv x z with z|⟨H,E,rfl⟩;·exact⟨(h.lv x z).1,by have:=(h.lv x z).2;omega⟩
  ·have:=Y5 M (h.lv H E) (by omega);grind
 ·rcases p.inv.lv x z with z|⟨H,E,rfl⟩;·exact h.le x z
  ·exact zdb J (h.le H E)
theorem zg1{l:List Iv}(h:Srt l)(i j:Nat)(a b:Iv)(f:l[i]? =some a)(g:l[j]? =some b)(c:i<j):a.1<b.1:=by obtain⟨d,rfl⟩:=g_.1 f;obtain⟨e,rfl⟩:=g_.1 g;exact u_.1 h i j d e c
theorem zcY{nt:Nat}{B:List d6}{L:List lF}(h:Tab nt B L){n:Int}(hn:ndT B L n):gtT B n (-1):=λb=>by
 have a:n.toNat<B.length:=by have:=hn.1;omega
 have:=(h.bb _ _ (c_ a)).2.1;grind
open Go Go.Av Go.Ev
open Classical in
noncomputable def Sk(d:DF):DF:=if Good d then(d.1,d.2.1,d.2.2.1.map (!·),d.2.2.2.1,())else([],[],[],0,())
theorem DD{d:DF}(h:Good d):Sk d=(d.1,d.2.1,d.2.2.1.map (!·),d.2.2.2.1,()):=by unfold Sk;rw[if_pos h]
theorem CG{d:DF}(h:Good d):Good (Sk d):=by rw[DD h];have:=h.small;exact⟨h.starts,by unfold Big at this⊢;simpa using this,⟨h.len.1,by simpa using h.len.2⟩,h.rows,h.start,h.to⟩
theorem uI(d:DF):aK tbl mC [.d (pr [.list tI,.list (.list tI),.list tB,tI]) d] [] jz (Sk d,()):=by
 refine aG rfl (aF zbI rfl (λO n=>eM (PC O n d)) ?_);unfold PC;refine ak (oH d) (aA (λh=>aa ?_) λh=>?_)
 ·have:¬Good d:=λhg=>by rw[good_iff.2 hg]at h;simp at h
  rw[show Sk d=([],[],[],0,())from by unfold Sk;rw[if_neg this]]
 have hg:Good d:=good_iff.1 (by simpa using h);have hl:=mf hg;have hn:=hg.len;refine ar (decide_eq_true (by simp;omega)) ?_;refine ae (bi (N:=d.2.1.length) (I:=λi s=>s=((i:Int),(0:Int),([]:List Int)++d.1,d.2.2.2.1,d.2.1.take i,(d.2.2.1.take i).map (!·),())) (by simp) ?_ ?_)
 ·rintro i s a rfl;have b:i<d.2.2.1.length:=by omega
  unfold BP;have hr:=hg.rows _ (v_ a);refine bA a (aD a (ar (decide_eq_true (by simp;omega)) (ar (decide_eq_true (by simp;omega)) (aD b (ar (decide_eq_true (by simp;omega)) (aa ?_))))));simp only[au a (by omega),List.take_add_one,c_ a,c_ b,J_,Option.toList_some,B_,N_,z_]
 ·rintro s rfl;unfold BP;refine be (aa (aa ?_));rw[DD hg];simp only[F_,z_];rw[List.take_of_length_le (by omega)]
theorem za9{d:DF}(h:Good d):Sk (Sk d)=d:=by rw[DD (CG h),DD h];refine P_ rfl (P_ rfl (P_ ?_ rfl));simp only[List.map_map];exact(List.map_congr_left λx _=>by simp).trans (List.map_id _)
theorem zge{α ρ β c:Type}{xs:List α}{p:α->Bool}{enc:Nat->ρ}{oB:Nat->β}{oE:c}{body:Nat->ρ->Option (ρ⊕β⊕c)}{Q:β⊕c->Prop} (h:∀i (a:i<xs.length),Wp (λn=>body n (enc i)) λr=>r=if p xs[i]=true then .inr (.inl (oB i))else .inl (enc (i+1))) (d:Wp (λn=>body n (enc xs.length)) λr=>r= .inr (.inr oE)) (g:Q (match xs.findIdx? p with|some i=>.inl (oB i)|none=>.inr oE)):Wp (λn=>aT n (body n) (enc 0)) Q:=by
 refine bi (N:=xs.length) (I:=λi s=>s=enc i/\∀j (b:j<xs.length),j<i->¬p xs[j]=true) ⟨rfl,λj _ h=>by omega⟩ (λi s a hs=>?_) λs hs=>?_
 ·obtain⟨rfl,hd⟩:=hs;refine Go.Ev.wp_mono (h i a) λr hr=>?_;by_cases hp:p xs[i]=true;·rw[if_pos hp]at hr;subst hr;have e:xs.findIdx? p=some i:=List.findIdx?_eq_some_iff_getElem.2 ⟨a,hp,λj b=>hd j (by omega) b⟩;grind
  grind
 ·obtain⟨rfl,hd⟩:=hs;refine Go.Ev.wp_mono d λr hr=>?_;subst hr;have e:xs.findIdx? p=none:=List.findIdx?_eq_none_iff.2 λx f=>by obtain⟨j,b,rfl⟩:=List.mem_iff_getElem.1 f;grind
  grind
theorem rW{α β:Type}{xs:List α}{i:Int}{x:α}{f:Nat->α->Option β}{Q:β->Prop}(b:0<=i)(a:xs[i.toNat]? =some x)(c:Wp (λn=>f n x) Q):Wp (λn=>s_ (aM xs i) λ_=>s_ xs[M_ i]? (f n)) Q:=dt b a (cD a c)
def Je:Nat->List d6->List (d6×Int)
 |_,[]=>[]
 |k,b::l=>(b,(k:Int))::Je (k+1) l
abbrev iZ(B:List d6):List (d6×Int):=Je 0 B
theorem Va:∀(k:Nat) (B:List d6),(Je k B).length=B.length
 |_,[]=>rfl
 |k,b::l=>by rw[Je,e_,Va];rfl
theorem U9(b:d6):∀(k:Nat) (B:List d6),bY Di tI (Je k B) b=(B.findIdx? λx=>decide (x=b)).map λi=>((i+k:Nat):Int)
 |_,[]=>rfl
 |k,c::l=>by
  show(bif jk Di b c then some (k:Int)else bY Di tI (Je (k+1) l) b)=_;rw[Ux,List.findIdx?_cons,U9 b (k+1) l];by_cases e:b=c;·grind
  ·rw[decide_eq_false e,decide_eq_false λx=>e x.symm];simp only[cond_false,Bool.false_eq_true,if_false,Option.map_map];congr 1;grind
theorem Vb(b:d6)(v:Int):∀(k:Nat) (B:List d6),b∉B->dn Di tI (Je k B) b v=Je k B++[(b,v)]
 |_,[],_=>rfl
 |k,c::l,h=>by rw[k_,not_or]at h;show(bif jk Di b c then _ else _)=_;rw[Ux,decide_eq_false h.1,cond_false,Vb b v (k+1) l h.2];rfl
theorem U8(b:d6):∀(k:Nat) (B:List d6),Je k (B++[b])=Je k B++[(b,((k+B.length:Nat):Int))]
 |k,[]=>rfl
 |k,c::l=>by show(c,(k:Int))::Je (k+1) (l++[b])=(c,(k:Int))::(Je (k+1) l++[(b,_)]);rw[U8 b (k+1) l,e_];grind
theorem kvS(n k:Int):∀(D:Iw),(∀k,(n,k)∉D)->dn tI tI D n k=D++[(n,k)]
 |[],_=>rfl
 |(a,b)::l,h=>by
  have c:n≠a:=λe=>h b (by grind);show(bif jk tI n a then _ else _)=_;have:jk tI n a=decide (n=a):=by rw[Bool.eq_iff_iff];simp[jk]
  rw[this,decide_eq_false c,cond_false,kvS n k l λk d=>h k (a_ _ d)];rfl
theorem zfR(x:HL q_compile_table_leaf_rd.sl):qW q_compile_table_leaf_rd (f9 q_compile_table_leaf_rd x)=some x:=by kernel_rfl
theorem zbj(x:HL q_compile_table_branch_rddd.sl):qW q_compile_table_branch_rddd (f9 q_compile_table_branch_rddd x)=some x:=by kernel_rfl
theorem zdM(x:HL q_compile_walk_visit_rd.sl):qW q_compile_walk_visit_rd (f9 q_compile_walk_visit_rd x)=some x:=by kernel_rfl
theorem Vk(x:HL q_compile_numbered_rd.sl):qW q_compile_numbered_rd (f9 q_compile_numbered_rd x)=some x:=by kernel_rfl
theorem zfS(x:HL q_compile_Reduce_1_drrrr.sl):qW q_compile_Reduce_1_drrrr (f9 q_compile_Reduce_1_drrrr x)=some x:=by kernel_rfl
theorem zdL(x:HL q_compile_newTable.sl):qW q_compile_newTable (f9 q_compile_newTable x)=some x:=by kernel_rfl
abbrev bxT(B:List d6)(L:List lF):List Ob:=[.box aw [.sl 1,.mp 2,.sl 3],.vec aj Di B,.map aj aO Di tI (iZ B),.vec aE K1 L]
theorem po(B:List d6)(L:List lF)(l:lF)(b:∀x∈L,okD K1 x)(hl:L.length<=1000000000000):aK tbl b7 [.ptr 0 0,.d K1 l] (bxT B L) q_compile_table_leaf_rd ((dO L l).1,B,iZ B,(dO L l).2,()):=by
 refine aG (zfR _) (aF yq rfl (λO n=>eM (oI O n l B (iZ B) L)) ?_);unfold oI;refine ae (zge (xs:=L) (p:=λx=>decide (x=l)) (enc:=λi=>((i:Int),B,iZ B,L,())) (oB:=λi=>(-1 - (i:Int),B,iZ B,L,())) (oE:=(B,iZ B,L,())) (λi a=>?_) ?_ ?_)
 ·unfold hZ;refine bA a (rW (by simp) (by simp) (ak (FN _ l (b _ (v_ a))) (aA (λh=>aa ?_) λh=>aa ?_)));·rw[if_pos h,wrap_i64 (by omega) (by omega)]
  ·rw[if_neg (Bool.eq_false_iff.1 h),au a (by omega)]
 ·unfold hZ;exact be (aa rfl)
 ·unfold dO;cases L.findIdx? (λx=>decide (x=l))with|some i=>exact aa rfl|none=>refine ar (decide_eq_true (by grind)) (aa ?_);simp only[b_,i_];rw[wrap_i64 (by omega) (by omega)];simp
theorem uT(B:List d6)(L:List lF)(t y o:Int)(hl:B.length<=1000000000000):aK tbl cp [.ptr 0 0,.d tI t,.d tI y,.d tI o] (bxT B L) q_compile_table_branch_rddd ((eE B (t,y,o,())).1,(eE B (t,y,o,())).2,iZ (eE B (t,y,o,())).2,L,()):=by
 refine aG (zbj _) (aF uE rfl (λO n=>eM (kY O n t y o B (iZ B) L)) ?_);unfold kY eE;refine aA (λh=>aa ?_) λh=>?_;·grind
 rw[if_neg (by grind),U9];cases e:B.findIdx? (λx=>decide (x=(t,y,o,())))with
 |some i=>exact ae (aH rfl (aa (aa rfl)))|none=>
  have hn:(t,y,o,())∉B:=λb=>by grind
  refine ae (bc rfl (ar (decide_eq_true ?_) (ar (decide_eq_true (by grind)) (aa (aa ?_)))));·rw[Va];show B.length<9223372036854775807;omega
  ·have a:iZ (B++[(t,y,o,())])=iZ B++[((t,y,o,()),(B.length:Int))]:=by show Je 0 _=_;rw[U8,Nat.zero_add]
   simp only;rw[Vb _ _ _ _ hn,a]
theorem zaF{a:eC}(d:AutOk a){n:Int}{s:Bh}{Y O:Int×Bh}(hn:ct a n=true)(c:0<=n)(e:∀k,(n,k)∉s.2.2)(y:BldR a (bF a n).2.1 s Y)(o:BldR a (bF a n).2.2.1 Y.2 O):∀k,(n,k)∉O.2.2.2:=λk b=>by
 have f:=yf d hn c _ (.inl rfl);have g:=yf d hn c _ (.inr rfl);rcases o.new _ b with b|b;·rcases y.new _ b with b|b;all_goals grind
 grind
theorem I8:∀D:Iw,D.length=(D.filter λp=>decide (0<=p.1)).length+(D.filter λp=>decide (p.1<0)).length
 |[]=>rfl
 |(n,k)::l=>by have:=I8 l;grind
theorem BI.small{a:eC}(z:AutOk a){B:List d6}{L:List lF}{D:Iw}(h:BI a B L D):B.length<=4096/\L.length<=4096/\D.length<=8192:=by have C:=Dp h.kn h.kd;have E:=G6 h.kn h.kd;have H:=z.l2;have I:=z.l3;have J:=h.cb;have M:=h.cl;have N:=I8 D;omega
theorem WX{a:eC}{n:Int}(b:AutOk a)(hn:ct a n=true)(c:n<0):w_ .i64 ((-1:Int) - n)= -1 - n/\0<=-1 - n:=by have:=nodeB_of.1 hn;have:=b.l3;exact⟨wrap_i64 (by omega) (by omega),by omega⟩
abbrev zip(a:eC)(s:Bh):List Ob:=[.box nB [.mp 4],.box bj [.ptr 5 0],.box fX [.d (.list NV) a.1,.d (.list Di) a.2.1,.d (.list K1) a.2.2.1,.d tI a.2.2.2.1],.box BR [.clo eU [0,1,2,3]],.map aO aO tI tI s.2.2,.box aw [.sl 6,.mp 7,.sl 8],.vec aj Di s.1,.map aj aO Di tI (iZ s.1),.vec aE K1 s.2.1]
theorem zgK{a:eC}(v:okD yAU a)(d:AutOk a):∀(f:Nat) (n:Int) (s:Bh),ct a n=true->mu a n<f->BIs a s->aK tbl bM [.d tI n,.ptr 0 0,.ptr 1 0,.ptr 2 0,.ptr 3 0] (zip a s) q_compile_Reduce_1_drrrr ((D3 a f n s).1,a.1,a.2.1,a.2.2.1,a.2.2.2.1,(D3 a f n s).2.2.2,(D3 a f n s).2.1,iZ (D3 a f n s).2.1,(D3 a f n s).2.2.1,()):=by
 intro f;induction f with
 |zero=>simp|succ f p=>
  intro n s hn B hs;refine aG (zfS _) (aF xK rfl (λO m=>eM (nr O m n a.1 a.2.1 a.2.2.1 a.2.2.2.1 s.2.2 s.1 (iZ s.1) s.2.1)) ?_);unfold nr D3;obtain⟨F,H,I⟩:=hs.small d;have eL:bY tI tI s.2.2 n=lk s.2.2 n:=rfl;rw[eL];cases e:lk s.2.2 n with
  |some k=>exact bc rfl (aa rfl)|none=>
   have g:=z7 e;refine aH rfl ?_;by_cases c:n<0
   ·simp only[if_pos c];obtain⟨z,A⟩:=WX d hn c;rw[z];refine ae (bc (decide_eq_true c) (dt A (fH c hn) (ak (po _ _ _ (λx w=>v.2.2.1.2 x (hs.ll x w)) (by omega)) (ar (decide_eq_true ?_) (aa (aa ?_))))));·show s.2.2.length<9223372036854775807;omega
    ·simp only;rw[kvS n _ _ g];have:=Ft (mg hs.kn g) (show(n,(dO s.2.1 (eQ a n)).1)∈s.2.2++[(n,(dO s.2.1 (eQ a n)).1)] by simp);rw[show bY tI tI (s.2.2++[(n,(dO s.2.1 (eQ a n)).1)]) n=some (dO s.2.1 (eQ a n)).1 from this];rfl
   ·simp only[if_neg c];have c:0<=n:=by omega
    have r:=yf d hn c _ (.inl rfl);have u:=yf d hn c _ (.inr rfl);obtain⟨i,rfl,l⟩:=qp hn c;have y:=Wr d f _ s r.1 (by omega) hs;have j:=p _ s r.1 (by omega) hs;have b:∀O:Int×Bh,BldR a (bF a i).2.2.1 (D3 a f (bF a i).2.1 s).2 O->∀k,((i:Int),k)∉O.2.2.2:=λO o=>zaF d hn c g y o;generalize D3 a f (bF a i).2.1 s=Y at y j b;have o:=Wr d f _ Y.2 u.1 (by omega) y.inv;have h:=p _ Y.2 u.1 (by omega) y.inv;have b:=b _ o;generalize D3 a f (bF a i).2.2.1 Y.2=O at o h b;obtain⟨C,D,E⟩:=o.inv.small d;refine ae (aH (decide_eq_false (by simp)) (aD l ?_));rw[<-nE l];refine ak j (ak h (ak (uT O.2.1 O.2.2.1 (bF a i).1 Y.1 O.1 (by omega)) (ar (decide_eq_true ?_) (aa (aa ?_)))));·show O.2.2.2.length<9223372036854775807;omega
    ·simp only;rw[kvS (i:Int) _ _ b];have:=Ft (mg o.inv.kn b) (show((i:Int),(eE O.2.1 ((bF a i).1,Y.1,O.1,())).1)∈O.2.2.2++[((i:Int),(eE O.2.1 ((bF a i).1,Y.1,O.1,())).1)] by simp);rw[show bY tI tI (O.2.2.2++[((i:Int),(eE O.2.1 ((bF a i).1,Y.1,O.1,())).1)]) (i:Int)=some _ from this];rfl
structure GOk(g:eC):Prop where
 low:Low g
 l2:g.2.1.length<=1000000000000
 l3:g.2.2.1.length<=1000000000000
 ac:∀l∈g.2.2.1,l.2.1.length<=1048576
theorem VI.small{g:eC}(hg:GOk g){B:List d6}{L:List lF}{D:Iw}(h:VI g B L D):B.length<=1000000000000/\L.length<=1000000000000/\D.length<=2000000000000:=by have z:=Dp h.kn h.kd;have C:=G6 h.kn h.kd;have E:=hg.l2;have H:=hg.l3;have I:=h.cb;have J:=h.cl;have M:=I8 D;omega
theorem zdc{g:eC}{n:Int}(hg:GOk g)(hn:ct g n=true)(a:n<0):w_ .i64 ((-1:Int) - n)= -1 - n/\0<=-1 - n/\(eQ g n).2.1.length<=1048576:=by have:=nodeB_of.1 hn;have:=hg.l3;exact⟨wrap_i64 (by omega) (by omega),by omega,hg.ac _ (n_ (fH a hn))⟩
theorem zeI{g:eC}{b:d6}{s:Bh}{p:Int×Bh}{m m':Int}{D:Iw}{Y O:Int×Bh}(y:VisR g m (s.1++[b],s.2.1,D) Y)(o:VisR g m' Y.2 O):s.1.length<O.2.1.length/\O.2.1[s.1.length]? =some b:=by have a:=y.len;have c:=o.len;simp only[b_,i_]at a;refine⟨by omega,?_⟩;rw[o.old _ (by omega),y.old _ (by simp)];simp
abbrev bxV(g:eC)(N:List (d6×Int))(v:Int)(T:List yZ)(s:Bh):List Ob:=[.box gR [.ptr 1 0,.mp 2,.sl 3,.sl 4,.sl 5,.d tI v],.box aw [.sl 6,.mp 7,.sl 8],.map aO aO tI tI s.2.2,.vec lV NV T,.vec aj Di s.1,.vec aE K1 s.2.1,.vec aj Di g.2.1,.map aj aO Di tI N,.vec aE K1 g.2.2.1]
theorem zeY{g:eC}(hg:GOk g)(N:List (d6×Int))(v:Int)(T:List yZ):∀(f:Nat) (n:Int) (s:Bh),ct g n=true->(n+1).toNat<f->VI g s.1 s.2.1 s.2.2->aK tbl cT [.ptr 0 0,.d tI n] (bxV g N v T s) q_compile_walk_visit_rd ((sY g f n s).1,v,(sY g f n s).2.2.2,T,(sY g f n s).2.1,(sY g f n s).2.2.1,g.2.1,N,g.2.2.1,()):=by
 intro f;induction f with
 |zero=>simp|succ f h=>
  intro n s hn A hs;refine aG (zdM _) (aF yr rfl (λO m=>eM (oJ O m n v s.2.2 T s.1 s.2.1 g.2.1 N g.2.2.1)) ?_);unfold oJ sY;obtain⟨C,D,E⟩:=hs.small hg;have eL:bY tI tI s.2.2 n=lk s.2.2 n:=rfl;rw[eL];cases e:lk s.2.2 n with
  |some k=>exact bc rfl (aa rfl)|none=>
   have b:=z7 e;refine aH rfl ?_;by_cases a:n<0
   ·simp only[if_pos a];obtain⟨w,z,B⟩:=zdc hg hn a;rw[w];refine bc (decide_eq_true a) (rW z (fH a hn) (ar (decide_eq_true (by grind)) (ar (decide_eq_true (by grind)) (ar (decide_eq_true ?_) (aa ?_)))));·show s.2.2.length<9223372036854775807;omega
    ·simp only[z_,b_,i_];have r:w_ .i64 (0 - ((s.2.1.length+1:Nat):Int))= -((s.2.1.length:Int)+1):=by rw[wrap_i64 (by omega) (by omega)];simp
     rw[r,kvS n _ _ b];have:=Ft (mg hs.kn b) (show(n,-((s.2.1.length:Int)+1))∈s.2.2++[(n,-((s.2.1.length:Int)+1))] by simp);rw[show bY tI tI (s.2.2++[(n,-((s.2.1.length:Int)+1))]) n=some _ from this];rfl
   ·simp only[if_neg a];have a:0<=n:=by omega
    have j:=hg.low.kids hn a _ (.inl rfl);have l:=hg.low.kids hn a _ (.inr rfl);obtain⟨i,rfl,u⟩:=qp hn a;have hp:=hs.push a hn b ((bF g i).1,0,0,());have y:=SZ hg.low f _ (s.1++[((bF g i).1,0,0,())],s.2.1,s.2.2++[((i:Int),(s.1.length:Int))]) j.1 (by omega) hp;have d:=h _ (s.1++[((bF g i).1,0,0,())],s.2.1,s.2.2++[((i:Int),(s.1.length:Int))]) j.1 (by omega) hp;generalize sY g f (bF g i).2.1 (s.1++[((bF g i).1,0,0,())],s.2.1,s.2.2++[((i:Int),(s.1.length:Int))])=Y at y d;have o:=SZ hg.low f _ Y.2 l.1 (by omega) y.inv;have c:=h _ Y.2 l.1 (by omega) y.inv;generalize sY g f (bF g i).2.2.1 Y.2=O at o c;obtain⟨l1,l2⟩:=zeI (p:=O) y o;refine aH (decide_eq_false (by simp)) (ar (decide_eq_true ?_) (rW (x:=bF g i) (by simp) ?_ (ar (decide_eq_true (by grind)) ?_)));·show s.2.2.length<9223372036854775807;omega
    ·rw[f_,nE u];simp
    rw[kvS (i:Int) _ _ b];refine ak d (ak c (rW (x:=((bF g i).1,0,0,())) (by simp) (by rw[f_];omega) ?_));simp only[f_];refine rW (x:=((bF g i).1,Y.1,0,())) (by simp) (by rw[f_,List.getElem?_set_self l1]) (aa ?_);simp
theorem FP{g:eC}(hg:GOk g)(r:Int)(hr:ct g r=true){F:Nat}(a:g.2.1.length<F)(N:List (d6×Int)): aK tbl dy [.ptr 0 0,.d tI r] [.box aw [.sl 1,.mp 2,.sl 3],.vec aj Di g.2.1,.map aj aO Di tI N,.vec aE K1 g.2.2.1] q_compile_numbered_rd (([],(sY g F r ([],[],[])).2.1,(sY g F r ([],[],[])).2.2.1,(sY g F r ([],[],[])).1,()),g.2.1,N,g.2.2.1,()):=by refine aG (Vk _) (aF Br rfl (λO m=>eM (qN O m r g.2.1 N g.2.2.1)) ?_);unfold qN;have:=(nodeB_of.1 hr).1;exact ak (zeY hg N 0 [] F r ([],[],[]) hr (by omega) (VI.nil g)) (aa rfl)
theorem zaW{t:yZ}(h:wk t=0)(a:t.1=2):Good t.2.2.2.2.1:=by
 unfold wk at h;rw[if_neg (by omega)]at h;split at h;·omega
 split at h;·omega
 exact good_iff.1 (by omega)
theorem S8(l:List yZ)(hl:l.length<=2000)(d:∀t∈l,wk t=0):aK tbl i7 [.d (.list NV) l] [] gf (l,()):=by
 refine aG rfl (aF Et rfl (λO m=>eM (tN O m l)) ?_);unfold tN;refine ae (bi (N:=l.length) (I:=λi s=>s=((i:Int),l.take i,())) rfl (λi s a hs=>?_) λs hs=>?_)
 ·subst hs;unfold kN;have b:=d _ (v_ a);have c:l[i].2.2.2.1.length<=64/\l[i].2.2.2.2.2.1.length<=64:=by unfold wk at b;omega
  have d:(l.take i).length<=2000:=by grind
  have e:(([]:List V7).length+l[i].2.2.2.1.length)*40<=140737488355328:=by grind
  have f:(([]:List Wa).length+l[i].2.2.2.2.2.1.length)*24<=140737488355328:=by omega
  refine bA a (aD a (ar (decide_eq_true e) (ar (decide_eq_true f) ?_)));refine ae (Wp.imp (Q:=λr=>r=(l.take i,l[i].1,l[i].2.1,l[i].2.2.1.1,l[i].2.2.1.2.1,l[i].2.2.2.2.1.1,l[i].2.2.2.2.1.2.1,l[i].2.2.2.2.1.2.2.1,l[i].2.2.2.2.1.2.2.2.1,l[i].2.2.2.1,l[i].2.2.2.2.2.1,())) ?_ λr hr=>?_);·refine aA (λg=>?_) λg=>aa (by simp);have hg:=zaW b (by grind);refine ak (uI _) (ak (uI _) (aa ?_));rw[za9 hg];simp
  subst hr;refine ar (decide_eq_true (by grind)) (aa ?_);simp only;rw[au a (by omega),<-List.take_append_getElem a]
 ·subst hs;unfold kN;refine be (aa (aa ?_));simp
noncomputable def zea(F:Nat)(a:eC):eC×Int×Unit:=if LN a≠0 then(([],[],[],0,()),LN a,())else(O7 F a,0,())
theorem Ls:aK tbl gN [] [] q_compile_newTable ([],()):=aG (zdL _) (aF Gr rfl (λO m=>Gy O m) (aa rfl))
theorem Red.gok{F:Nat}{a:eC}(h:Red F a)(z:∀l∈a.2.2.1,l.2.1.length<=1048576):GOk (gA F a):=⟨h.low,x_ (h.b.inv.small h.ok).1 (by simp),x_ (h.b.inv.small h.ok).2.1 (by simp),λl hl=>z l (h.b.inv.ll l hl)⟩
theorem Iz{F:Nat}(e:4100<=F){a:eC}(d:okD yAU a)(f:∀l∈a.2.2.1,l.2.1.length<=1048576):aK tbl gH [.d yAU a] [] dV (zea F a):=by
 refine aG rfl (aF Jr rfl (λO m=>eM (xP O m a)) ?_);unfold xP;refine ak (Ap a d) (aA (λc=>aa ?_) λc=>?_);·rw[show zea F a=(([],[],[],0,()),LN a,())from if_pos (by grind)]
 have c:LN a=0:=by grind
 rw[show zea F a=(O7 F a,0,())from if_neg (not_not_intro c)];have b:=ze9 c;have h:=zeb e b;have g:mu a a.2.2.2.1<=a.1.length:=by unfold mu;grind
 have:=b.l1;refine ak Ls (ak (zgK d b F a.2.2.2.1 ([],[],[]) b.rt (by omega) (BI.nil a)) ?_);exact ak (FP (h.gok f) (OY F a).1 h.nd (Nat.lt_of_le_of_lt (h.b.inv.small h.ok).1 (by omega)) (iZ (OY F a).2.1)) (ak (S8 a.1 b.l1 b.ts) (aa rfl))
theorem Vl(x:HL q_compile_table_prefixed_rddm.sl):qW q_compile_table_prefixed_rddm (f9 q_compile_table_prefixed_rddm x)=some x:=by kernel_rfl
theorem zbk(x:HL q_compile_table_choose_rdddm.sl):qW q_compile_table_choose_rdddm (f9 q_compile_table_choose_rdddm x)=some x:=by kernel_rfl
theorem W7(x:HL q_compile_table_choose_1_ddrr.sl):qW q_compile_table_choose_1_ddrr (f9 q_compile_table_choose_1_ddrr x)=some x:=by kernel_rfl
theorem W8(x:HL q_compile_table_choose_2_drrrrrrr.sl):qW q_compile_table_choose_2_drrrrrrr (f9 q_compile_table_choose_2_drrrrrrr x)=some x:=by kernel_rfl
abbrev zio(s:Bh):List Ob:=[.box aw [.sl 2,.mp 3,.sl 4],.map aO aO tI tI s.2.2,.vec aj Di s.1,.map aj aO Di tI (iZ s.1),.vec aE K1 s.2.1]
theorem Wd{g:eC}{A:List Bw}{R:List Int}{k:Nat}(p:Clo g.2.1 g.2.2.1 R)(B:Tab g.1.length g.2.1 g.2.2.1)(N:R.length<=100000000)(hB:g.2.1.length<=900000000000)(hL:g.2.2.1.length<=900000000000) (M:∀a∈A,okD yA a) (j:LvS k g.2.2.1) (hk:A.length+k<=1000000):∀(f:Nat) (n:Int) (s:Bh),n∈R->(n+1).toNat<f->PI g A R s->aK tbl b8 [.ptr 0 0,.d tI n,.d (.list yA) A,.mp 1] (zio s) q_compile_table_prefixed_rddm ((Ac g A f n s).1,(Ac g A f n s).2.2.2,(Ac g A f n s).2.1,iZ (Ac g A f n s).2.1,(Ac g A f n s).2.2.1,()):=by
 intro f;induction f with
 |zero=>simp|succ f H=>
  intro n s hn hf hs;refine aG (Vl _) (aF sX rfl (λO m=>eM (jH O m n A s.2.2 s.1 (iZ s.1) s.2.1)) ?_);unfold jH Ac;have eL:bY tI tI s.2.2 n=lk s.2.2 n:=rfl;rw[eL];have hD:=hs.len;have T:=hs.cB;have U:=hs.cL;have l:=nodeB_of.2 (p n hn).1;cases e:lk s.2.2 n with
  |some v=>exact bc rfl (aa rfl)|none=>
   have u:=z7 e;refine aH rfl ?_;by_cases h:n<0
   ·simp only[if_pos h];have c:=(p n hn).1.2;have w1:w_ .i64 ((-1:Int) - n)= -1 - n:=wrap_i64 (by omega) (by omega);rw[w1];obtain⟨E,F⟩:=hs.eL;have d:s.2.1[(-1 - n).toNat]? =some (eQ g n):=by rw[F];exact sf (fH h l)
    have el:=j _ (n_ (fH h l));refine aH (decide_eq_false (by omega)) (rW (by omega) d (ae (Wp.imp (Q:=λx=>x=(s.2.2,s.1,iZ s.1,s.2.1,(Ab A (eQ g n)).1,(Ab A (eQ g n)).2.1,())) ?_ λx c=>?_)));·unfold Ab;refine aA (λP=>ar (decide_eq_true (by omega)) (ar (decide_eq_true (by omega)) (aa ?_))) λP=>aa ?_;all_goals grind
    ·subst c;refine ak (po s.1 s.2.1 (Ab A (eQ g n)) (λx c=>?_) (by omega)) (ar (decide_eq_true ?_) (aa ?_))
     ·rcases hs.lv x c with c|⟨l0,L,rfl⟩;·exact(j x c).1
      ·exact(Y5 M (j l0 L) hk).1
     ·show s.2.2.length<9223372036854775807;omega
     ·simp only;rw[kvS n _ _ u];have:=Ft (mg hs.kn u) (show(n,(dO s.2.1 (Ab A (eQ g n))).1)∈s.2.2++[(n,(dO s.2.1 (Ab A (eQ g n))).1)] by simp);rw[show bY tI tI (s.2.2++[(n,(dO s.2.1 (Ab A (eQ g n))).1)]) n=some _ from this];rfl
   ·simp only[if_neg h];have h:0<=n:=by omega
    obtain⟨b,I,w,z⟩:=(p n hn).2 h;have kid:=B.low.kids l h;have J:=ze I;rw[<-J]at w z;have m1:=(kid _ (.inl rfl)).2;have m2:=(kid _ (.inr rfl)).2;have y:=Xc A p B f _ s w (by omega) hs;have D:=H _ s w (by omega) hs;obtain⟨E,F⟩:=hs.eB;have d:s.1[n.toNat]? =some (bF g n):=by grind
    generalize Ac g A f (bF g n).2.1 s=Y at y D;have o:=Xc A p B f _ Y.2 z (by omega) y.inv;have C:=H _ Y.2 z (by omega) y.inv;generalize Ac g A f (bF g n).2.2.1 Y.2=O at o C;have r:∀k,(n,k)∉O.2.2.2:=λk c=>by
     rcases o.new _ c with c|c;·rcases y.new _ c with c|c;all_goals grind
     omega
    have oD:=o.inv.len;have gc:=o.inv.cB;refine bc (decide_eq_true (by omega)) (rW h d (ak D (ak C (ak (uT O.2.1 O.2.2.1 (bF g n).1 Y.1 O.1 (by omega)) (ar (decide_eq_true ?_) (aa ?_))))));·show O.2.2.2.length<9223372036854775807;omega
    ·simp only;rw[kvS n _ _ r];have:=Ft (mg o.inv.kn r) (show(n,(eE O.2.1 ((bF g n).1,Y.1,O.1,())).1)∈O.2.2.2++[(n,(eE O.2.1 ((bF g n).1,Y.1,O.1,())).1)] by simp);rw[show bY tI tI (O.2.2.2++[(n,(eE O.2.1 ((bF g n).1,Y.1,O.1,())).1)]) n=some _ from this];rfl
theorem Px(B:List d6)(L:List lF)(n t:Int)(r:Bool)(hn:n<(B.length:Int)):aK tbl bO [.d tI n,.d tB r,.ptr 0 0,.ptr 1 0] [.box bj [.ptr 2 0],.box aO [.d tI t],.box aw [.sl 3,.mp 4,.sl 5],.vec aj Di B,.map aj aO Di tI (iZ B),.vec aE K1 L] q_compile_table_choose_1_ddrr (nR B n t r,t,B,iZ B,L,()):=by
 refine aG (W7 _) (aF sW rfl (λO m=>eM (jG O m n r t B (iZ B) L)) ?_);unfold jG nR;by_cases a:n<0;·rw[if_pos (.inl a)];exact ae (bc (decide_eq_true a) (aa (bc rfl (aa rfl))))
 ·have b:n.toNat<B.length:=by omega
  have hg:=c_ b;rw[show(B[n.toNat]?).getD (0,0,0,())=B[n.toNat]from by grind];refine ae (aH (decide_eq_false a) (rW (by omega) hg (aa ?_)));by_cases e:B[n.toNat].1=t;·rw[if_neg (by omega)];refine aH (by grind) (aA (λhr=>rW (by omega) hg (aa ?_)) λhr=>rW (by omega) hg (aa ?_));all_goals grind
  ·rw[if_pos (.inr e)];exact bc (by grind) (aa rfl)
abbrev bxC(s:List d6×Kc)(L:List lF):List Ob:=[.box aw [.sl 2,.mp 3,.sl 4],.map cg aO Di tI s.2,.vec aj Di s.1,.map aj aO Di tI (iZ s.1),.vec aE K1 L]
abbrev bxB(y n:Int)(l:List Iv)(t:Int)(s:List d6×Kc)(L:List lF):List Ob:=[.box Re [.clo dB [5,4]],.box aO [.d tI y],.box aO [.d tI n],.box fj [.d (.list (pr [tI,tB])) l],.box aO [.d tI t],.box bj [.ptr 7 0],.box dL [.mp 8],.box aw [.sl 9,.mp 10,.sl 11],.map cg aO Di tI s.2,.vec aj Di s.1,.map aj aO Di tI (iZ s.1),.vec aE K1 L]
abbrev Pz(l:List Iv)(y n:Int)(s:List d6×Kc)(L:List lF)(R:Int×(List d6×Kc)):Prop:=aK tbl ca [.ptr 0 0,.d (.list (pr [tI,tB])) l,.d tI y,.d tI n,.mp 1] (bxC s L) q_compile_table_choose_rdddm (R.1,R.2.2,R.2.1,iZ R.2.1,L,())
theorem QU{s:List d6×Kc}{L:List lF}{x:Iv}{l:List Iv}{y n t:Int}{r:Bool}{R:Int×(List d6×Kc)}(d:y<(s.1.length:Int))(hn:n<(s.1.length:Int))(hl:l.length<=1000000) (a:x.1≠t->Pz (x::l) (nR s.1 y t r) (nR s.1 n t r) s L R) (e:x.1=t->x.2.1≠r->R=(nR s.1 n t r,s)) (b:x.1=t->x.2.1=r->Pz l (nR s.1 y t r) (nR s.1 n t r) s L R): aK tbl bo [.d tB r,.ptr 0 0,.ptr 1 0,.ptr 2 0,.ptr 3 0,.ptr 4 0,.ptr 5 0,.ptr 6 0] (bxB y n (x::l) t s L) q_compile_table_choose_2_drrrrrrr (R.1,y,n,x::l,t,R.2.2,R.2.1,iZ R.2.1,L,()):=by
 refine aG (W8 _) (aF pj rfl (λO m=>eM (hM O m r y n (x::l) t s.2 s.1 (iZ s.1) L)) ?_);unfold hM;refine ak (Px s.1 L y t r d) (ak (Px s.1 L n t r hn) (dt (x:=x) (G_ 0) rfl (aA (λh=>ak (a (by grind)) (aa rfl)) λh=>?_)));have h:x.1=t:=by grind
 refine dt (x:=x) (G_ 0) rfl (aA (λc=>aa ?_) λc=>?_);·grind
 ·refine ar rfl (ar ?_ ?_);·simp
  ·rw[F_];exact ak (b h (by grind)) (aa rfl)
theorem zhR(k:d6)(v:Int):∀(D:Kc),(∀v,(k,v)∉D)->dn Di tI D k v=D++[(k,v)]
 |[],_=>rfl
 |(a,b)::l,h=>by have c:k≠a:=λe=>h b (by grind);show(bif jk Di k a then _ else _)=_;rw[Ux,decide_eq_false c,cond_false,zhR k v l λv d=>h v (a_ _ d)];rfl
theorem zbS{nt:Nat}{lits:List Iv}{B0:List d6}{L:List lF}{RY RN:List Int}(hsz:B0.length<=900000000000)(CD:(lits.length+1)*(RY.length*RN.length)<=90000000000)(Dg:lits.length<=1000000)(h0:Tab nt B0 L)(hY:Clo B0 L RY)(hN:Clo B0 L RN) (wr:∀(i j:Nat) (a b:Iv),lits[i]? =some a->lits[j]? =some b->i<j->a.1<b.1) (ur:∀x∈lits,0<=x.1/\x.1<(nt:Int)): ∀(f:Nat) (l:List Iv) (y n:Int) (T:Int) (s:List d6×Kc),(∃p,lits=p++l)->y∈RY->n∈RN->Bd lits B0 T ((l.length:Int),y,n,())->-1<=T->T<(nt:Int)->(nt:Int) - T<=f->CI nt lits B0 L RY RN s->ChoR nt lits B0 L RY RN T ((l.length:Int),y,n,()) s (Rs f l y n s)/\Pz l y n s L (Rs f l y n s):=by
 intro f;induction f with
 |zero=>omega|succ f ih=>
  intro l y n T s hp U hn hb hT CT hf hs;obtain⟨p,hp⟩:=hp;have At:ndT s.1 L y:=by obtain⟨E,H⟩:=hs.eB;have:=(hY y U).1.app (E:=E) (E':=[]);rw[p_]at this;rw[H];omega
  have J:ChoR nt lits B0 L RY RN T ((l.length:Int),y,n,()) s (y,s):=by refine⟨hs,At,λT' A=>?_,⟨[],by simp⟩,λq d=>.inl d⟩;obtain⟨E,H⟩:=hs.eB;show gtT s.1 y T';rw[H];exact A.1.app
  have call:∀R:Int×(List d6×Kc),Wp (λm=>cK (tj tbl m) m l y n s.2 s.1 (iZ s.1) L) (·=some (f9 q_compile_table_choose_rdddm (R.1,R.2.2,R.2.1,iZ R.2.1,L,())))->Pz l y n s L R:=λR h=>aG (zbk _) (aF tJ rfl (λO m=>eM (cK O m l y n s.2 s.1 (iZ s.1) L)) h);have stop:(l=[]\/y=n)->Pz l y n s L (y,s):=λh=>call _ (by unfold cK;exact ae (cN (b:=(y==n)) (λ_=>aa rfl) (bc (by rcases h with rfl|rfl<;>simp) (aa rfl))))
  cases l with
  |nil=>exact⟨J,stop (.inl rfl)⟩|cons x l=>
   unfold Rs;by_cases C:y=n;·rw[if_pos C];exact⟨J,stop (.inr C)⟩
   rw[if_neg C];have go:(((x::l).length:Int)==0||(y==n))=false:=by rw[Bool.or_eq_false_iff];exact⟨beq_eq_false_iff_ne.2 (by rw[e_];omega),beq_eq_false_iff_ne.2 C⟩
   cases e:lkC s.2 (((l.length+1:Nat):Int),y,n,())with
   |some k=>obtain⟨q1,q2⟩:=hs.vd _ _ (YY e);refine⟨⟨hs,q1,λT' A=>q2 T' A,⟨[],by simp⟩,λq d=>.inl d⟩,call (k,s) ?_⟩;unfold cK;refine ae (cN (b:=(y==n)) (λ_=>aa rfl) (aH go ?_));rw[show bY Di tI s.2 (((x::l).length:Int),y,n,())=some k from e];exact bc rfl (aa rfl)
   |none=>
    have hk:=UT e;have hx:x∈lits:=by rw[hp];simp
    have hd:lits.drop (lits.length - (l.length+1))=x::l:=by rw[hp];simp
    have rg:lits.drop (lits.length - l.length)=l:=by rw[hp];simp only[b_,e_];rw[show p.length+(l.length+1) - l.length=p.length+1 by omega,show p++x::l=(p++[x])++l by simp];simp
    have DA:l.length+1<=lits.length:=by rw[hp];simp
    have qr:T<x.1:=hb.2.2 x (by show(lits.drop (lits.length - (((l.length+1:Nat):Int)).toNat)).head?=_;rw[f_,hd];rfl)
    have et:qJ s.1 (qJ s.1 x.1 y) n=qJ B0 (qJ B0 x.1 y) n:=by rw[zdi hs.eB (hN n hn).1,zdi hs.eB (hY y U).1]
    have Y:∀{s:List d6×Kc},CI nt lits B0 L RY RN s->y<(s.1.length:Int)/\n<(s.1.length:Int):=fun{s} hs=>by obtain⟨E,H⟩:=hs.eB;have:=(hY y U).1.1;have:=(hN n hn).1.1;rw[H,b_];omega
    have top:Wp (λm=>aT m (di (tj tbl m) m) ((y,n,()),(0:Int),s.2,s.1,iZ s.1,L,x::l,y,n,((x::l).length:Int),y,n,x.1,())) (λv=>v=(s.2,s.1,iZ s.1,L,x::l,y,n,((x::l).length:Int),y,n,qJ s.1 (qJ s.1 x.1 y) n,())):=by
     have step:∀(c tp:Int),c<(s.1.length:Int)->Wp (λ_=>s_ (bif decide (c>=0)then s_ (aM s.1 c) λ_=>s_ s.1[M_ c]? λv8=>some (decide (v8.1<tp))else some false) λv9=>bif v9 then s_ (aM s.1 c) λ_=>s_ s.1[M_ c]? λBk=>some (s.2,s.1,iZ s.1,L,x::l,y,n,((x::l).length:Int),y,n,Bk.1,()) else some (s.2,s.1,iZ s.1,L,x::l,y,n,((x::l).length:Int),y,n,tp,())) (λv=>v=(s.2,s.1,iZ s.1,L,x::l,y,n,((x::l).length:Int),y,n,qJ s.1 tp c,())):=λc tp hc=>by
      unfold qJ
      by_cases c0:0<=c
      ·have hg:=c_ (l:=s.1) (i:=c.toNat) (by omega);rw[show(s.1[c.toNat]?).getD (0,0,0,())=s.1[c.toNat]'(by omega)from by rw[hg];rfl];refine ae (cG (b:=decide (s.1[c.toNat].1<tp)) (λ_=>rW c0 hg (aa rfl)) (aA (λh=>rW c0 hg (aa ?_)) λh=>aa ?_));·rw[if_pos ⟨c0,of_decide_eq_true (Bool.and_eq_true_iff.1 h).2⟩]
       ·rw[if_neg λhh=>by rw[decide_eq_true (show c>=0 from c0),Bool.true_and]at h;exact of_decide_eq_false h hh.2]
      ·rw[if_neg (λh=>c0 h.1)];exact ae (aH (decide_eq_false c0) (aa (aH rfl (aa rfl))))
     have r0:Ev.rowAt tI 2 (.d (pr [tI,tI]) (y,n,())) ((0:Nat):Int)=some y:=rfl;have r1:Ev.rowAt tI 2 (.d (pr [tI,tI]) (y,n,())) ((1:Nat):Int)=some n:=rfl;refine bi (N:=2) (I:=λi st=>st=((y,n,()),(i:Int),s.2,s.1,iZ s.1,L,x::l,y,n,((x::l).length:Int),y,n,(if i=0 then x.1 else if i=1 then qJ s.1 x.1 y else qJ s.1 (qJ s.1 x.1 y) n),())) rfl (λi st hi M=>?_) λst M=>?_
     ·subst M;unfold di;obtain rfl|rfl:i=0\/i=1:=by omega
      ·exact bc rfl (ae (ae (nS (λ_=>r0) (Wp.imp (step y x.1 (Y hs).1) λv u=>by subst u;exact aa rfl))))
      ·exact bc rfl (ae (ae (nS (λ_=>r1) (Wp.imp (step n (qJ s.1 x.1 y) (Y hs).2) λv u=>by subst u;exact aa rfl))))
     ·subst M;unfold di;exact aH rfl (aa rfl)
    rw[et]at top;simp only;rw[et];generalize Q:qJ B0 (qJ B0 x.1 y) n=t at top⊢;have t1:T<t:=by rw[<-Q];exact Sg (Sg qr hb.1) hb.2.1
    have t2:t<=qJ B0 x.1 y:=by rw[<-Q];exact zdk _ _ _
    have t3:t<=x.1:=Int.le_trans t2 (zdk _ _ _);have gy:=zdj (hY y U).1.1 t2;have gn:=zdj (hN n hn).1.1 (Int.le_of_eq Q.symm);have D:0<=t/\t<(nt:Int):=⟨by omega,by have:=(ur x hx).2;omega⟩;have one:∀(r:Bool) (s:List d6×Kc),CI nt lits B0 L RY RN s->∃R:Int×(List d6×Kc),R=(if x.1≠t then Rs f (x::l) (nR s.1 y t r) (nR s.1 n t r) s else if x.2.1≠r then(nR s.1 n t r,s)else Rs f l (nR s.1 y t r) (nR s.1 n t r) s)/\CI nt lits B0 L RY RN R.2/\ndT R.2.1 L R.1/\gtT R.2.1 R.1 t/\(∃E,R.2.1=s.1++E)/\(∀q∈R.2.2,q∈s.2\/Bd lits B0 t q.1)/\aK tbl bo [.d tB r,.ptr 0 0,.ptr 1 0,.ptr 2 0,.ptr 3 0,.ptr 4 0,.ptr 5 0,.ptr 6 0] (bxB y n (x::l) t s L) q_compile_table_choose_2_drrrrrrr (R.1,y,n,x::l,t,R.2.2,R.2.1,iZ R.2.1,L,()):=by
     intro r s hs
     obtain⟨y1,y2⟩:=zeB h0 hY U gy r
     obtain⟨n1,n2⟩:=zeB h0 hN hn gn r
     obtain⟨u1,u2⟩:=Y hs
     have ey:=zeA hs.eB (hY y U).1 t r
     have en:=zeA hs.eB (hN n hn).1 t r
     refine⟨_,rfl,?_⟩
     by_cases g:x.1≠t
     ·rw[if_pos g];have bd:Bd lits B0 t (((x::l).length:Int),nR B0 y t r,nR B0 n t r,()):=⟨y2,n2,λz B=>by have B:(lits.drop (lits.length - (((l.length+1:Nat):Int)).toNat)).head?=some z:=B;rw[f_,hd]at B;cases B;omega⟩
      obtain⟨c,cc⟩:=ih (x::l) _ _ t s ⟨p,hp⟩ y1 n1 bd (by omega) D.2 (by omega) hs;rw[<-ey,<-en]at cc;have F:=QU (R:=Rs f (x::l) (nR s.1 y t r) (nR s.1 n t r) s) u1 u2 (by omega) (λ_=>cc) (λh=>absurd h g) (λh=>absurd h g);rw[ey,en]at F⊢;exact⟨c.inv,c.nd,c.gt t bd,c.eB,c.new,F⟩
     ·rw[if_neg g];have g:x.1=t:=j_ g;by_cases hr:x.2.1≠r;·rw[if_pos hr];have F:=QU (L:=L) (R:=(nR s.1 n t r,s)) (l:=l) (x:=x) u1 u2 (by omega) (λh=>absurd g h) (λ_ _=>rfl) (λ_ h=>absurd h hr);rw[en]at F⊢;obtain⟨E,H⟩:=hs.eB;have e:=(hN _ n1).1.app (E:=E) (E':=[]);rw[p_]at e;refine⟨hs,by rw[H];omega,by simp only;rw[H];exact n2.app,⟨[],by simp⟩,λq d=>.inl d,F⟩
      ·rw[if_neg hr];have bd:Bd lits B0 t ((l.length:Int),nR B0 y t r,nR B0 n t r,()):=⟨y2,n2,λz B=>by
        have B:(lits.drop (lits.length - ((l.length:Int)).toNat)).head?=some z:=B;rw[f_,rg]at B;have a1:lits[p.length]? =some x:=by rw[hp];simp
        have a2:lits[p.length+1]? =some z:=by rw[hp,t_ (by simp),show p.length+1 - p.length=1 by simp];cases l with|nil=>cases B|cons w l=>cases B;rfl
        have:=wr _ _ _ _ a1 a2 (by simp);omega⟩
       obtain⟨c,cc⟩:=ih l _ _ t s ⟨p++[x],by rw[hp];simp⟩ y1 n1 bd (by omega) D.2 (by omega) hs;rw[<-ey,<-en]at cc;have F:=QU (R:=Rs f l (nR s.1 y t r) (nR s.1 n t r) s) (x:=x) u1 u2 (by omega) (λh=>absurd g h) (λ_ h=>absurd h hr) (λ_ _=>cc);rw[ey,en]at F⊢;exact⟨c.inv,c.nd,c.gt t bd,c.eB,c.new,F⟩
    obtain⟨a,ea,a1,a2,a3,⟨Ea,a4⟩,a5,a6⟩:=one true s hs;rw[<-ea];obtain⟨b,eb,b1,b2,b3,⟨Eb,b4⟩,b5,b6⟩:=one false a.2 a1;rw[<-eb];have an:ndT b.2.1 L a.1:=by have e:=a2.app (E:=Eb) (E':=[]);rw[p_]at e;rw[b4];omega
    have ag:gtT b.2.1 a.1 t:=by rw[b4];exact a3.app
    obtain⟨p1,p2,p3,_⟩:=b1.tab.bran D.1 D.2 an b2 ag b3;obtain⟨⟨Ep,p5⟩,p6⟩:=PK b.2.1 (t,a.1,b.1,());have Bx:=b1.len;have BT:=b1.cB;have ph:=uT b.2.1 L t a.1 b.1 (by omega);generalize eE b.2.1 (t,a.1,b.1,())=P at*;have el:¬Bd lits B0 t (((l.length+1:Nat):Int),y,n,()):=fun⟨g1,g2,g3⟩=>by
     have g3:=g3 x (by show(lits.drop (lits.length - (((l.length+1:Nat):Int)).toNat)).head?=_;rw[f_,hd];rfl)
     have:t<qJ B0 (qJ B0 x.1 y) n:=Sg (Sg g3 g1) g2;omega
    have gc:∀v,((((l.length+1:Nat):Int),y,n,()),v)∉b.2.2:=λv u=>by
     rcases b5 _ u with u|u
     ·rcases a5 _ u with u|u;·exact hk v u
      ·exact el u
     ·exact el u
    have gt:∀T',Bd lits B0 T' (((l.length+1:Nat):Int),y,n,())->gtT P.2 P.1 T':=λT' A=>by refine p3 T' (j_ λhc=>el (zcp A (by omega)))
    refine⟨⟨b1.put gc ⟨⟨by omega,by omega⟩,U,hn⟩ p1 ⟨Ep,p5⟩ p6 p2 gt,p2,gt,⟨Ea++Eb++Ep,by simp only;rw[p5,b4,a4];simp⟩,λq d=>?_⟩,call (P.1,P.2,b.2.2++[((((l.length+1:Nat):Int),y,n,()),P.1)]) ?_⟩
    ·rcases q_.1 d with d|d
     ·rcases b5 _ d with d|d
      ·rcases a5 _ d with d|d;·exact .inl d
       ·exact .inr (zcp d (by omega))
      ·exact .inr (zcp d (by omega))
     ·rw[r_.1 d];exact .inr hb
    ·unfold cK;refine ae (cN (b:=(y==n)) (λ_=>aa rfl) (aH go ?_));rw[show bY Di tI s.2 (((x::l).length:Int),y,n,())=none from e];refine aH rfl (dt (x:=x) (G_ 0) rfl (ae (Wp.imp top λv u=>?_)));subst u;refine ak a6 (ak b6 (bc (by simp) (ak ph (ar (decide_eq_true ?_) (aa ?_)))));·show b.2.2.length<9223372036854775807;omega
     ·have:=zhR (((l.length+1:Nat):Int),y,n,()) P.1 _ gc;show some (f9 q_compile_table_choose_rdddm (P.1,dn Di tI b.2.2 (((l.length+1:Nat):Int),y,n,()) P.1,P.2,iZ P.2,L,()))=_;rw[this]
end Go.Proofs.YtdgiglmmpbndmaaGreatDoor
namespace Go.Pl
def Asc(l:List Int):Prop:=l.Pairwise (·<·)
theorem LM:∀(l l':List Int),Asc l->Asc l'->(∀x,x∈l↔x∈l')->l=l'
 |[],[],_,_,_=>rfl
 |[],y::l',_,_,h=>by have:=(h y).2 (d_ ..);cases this
 |x::l,[],_,_,h=>by have:=(h x).1 (d_ ..);cases this
 |x::l,y::l',k,n,h=>by
  have c:=C_.1 k;have d:=C_.1 n;have f:x=y:=by
   have g:=(h x).1 (d_ ..);have j:=(h y).2 (d_ ..);rcases k_.1 g with e|p;·exact e
   rcases k_.1 j with e|r;·exact e.symm
   have:=c.1 y r;have:=d.1 x p;omega
  subst f;rw[LM l l' c.2 d.2 λz=>?_];constructor
  ·intro b;rcases k_.1 ((h z).1 (a_ _ b))with rfl|a;·have:=c.1 z b;omega
   ·exact a
  ·intro b;rcases k_.1 ((h z).2 (a_ _ b))with rfl|a;·have:=d.1 z b;omega
   ·exact a
theorem FT{l l':List Int}(h:Asc l)(h':Asc l')(a:∀x∈l,∀y∈l',x<y):Asc (l++l'):=List.pairwise_append.2 ⟨h,h',a⟩
theorem LL{l:List Int}(h:Asc l){i j:Nat}(a:i<j)(b:j<l.length):l[i]<l[j]:=u_.1 h i j (by omega) b a
open Classical in
noncomputable def Bi(l:List Int):List Int:=if h:∃c,Asc c/\∀x,x∈c↔x∈l then Q_ h else []
theorem wz{l c:List Int}(hc:Asc c)(a:∀x,x∈c↔x∈l):Bi l=c:=by have b:∃c,Asc c/\∀x,x∈c↔x∈l:=⟨c,hc,a⟩;unfold Bi;rw[dif_pos b];have hs:=O_ b;exact LM _ _ hs.1 hc λx=>(hs.2 x).trans (a x).symm
section
variable {σ β σ' β':Type}
inductive F2(R:σ->σ'->Prop):List σ->List σ'->Prop
 |nil:F2 R [] []
 |cons {x:σ} {y:σ'} {l:List σ} {l':List σ'}:R x y->F2 R l l'->F2 R (x::l) (y::l')
theorem F2.len{R:σ->σ'->Prop}{l:List σ}{l':List σ'}(h:F2 R l l'):l.length=l'.length:=by induction h with|nil=>rfl|cons _ _ z=>simp[z]
theorem F2.get{R:σ->σ'->Prop}{l:List σ}{l':List σ'}(h:F2 R l l'):∀{i:Nat} {x:σ} {y:σ'},l[i]? =some x->l'[i]? =some y->R x y:=by induction h with|nil=>intro i x y h;simp at h|cons hr _ E=>intro i x y z C;cases i with|zero=>simp at z C;subst z C;exact hr|succ i=>exact E (by simpa using z) (by simpa using C)
theorem F2.app{R:σ->σ'->Prop}{l k:List σ}{l' z:List σ'}(h:F2 R l l')(h':F2 R k z):F2 R (l++k) (l'++z):=by induction h with|nil=>exact h'|cons hr _ C=>exact .cons hr C
def Eqv(f:σ->β->σ)(acc:σ->Bool)(ls:List β)(s t:σ):Prop:=∀w:List β,(∀c∈w,c∈ls)->acc (w.foldl f s)=acc (w.foldl f t)
variable {f:σ->β->σ} {acc:σ->Bool} {ls:List β}
theorem Eqv.refl(s:σ):Eqv f acc ls s s:=λ_ _=>rfl
theorem Eqv.symm{s t:σ}(h:Eqv f acc ls s t):Eqv f acc ls t s:=λw z=>(h w z).symm
theorem Eqv.trans{s t u:σ}(h:Eqv f acc ls s t)(h':Eqv f acc ls t u):Eqv f acc ls s u:=λw z=>(h w z).trans (h' w z)
theorem Eqv.nil{s t:σ}(h:Eqv f acc ls s t):acc s=acc t:=h [] (by simp)
theorem Eqv.step{s t:σ}(h:Eqv f acc ls s t){c:β}(hc:c∈ls):Eqv f acc ls (f s c) (f t c):=λw C=>h (c::w) λx z=>by
 rcases k_.1 z with rfl|z;·exact hc
 ·exact C x z
variable [DecidableEq σ] [DecidableEq σ']
def eW(L:List σ)(ys:List σ):List σ:=ys.foldl (λL y=>if y∈L then L else L++[y]) L
theorem No{x:σ}{i:Nat}:∀(l:List β) (st:List σ×List (Nat×β)×List Nat),(l.foldl (bQ f x i) st).1=eW st.1 (l.map (f x))
 |[],_=>rfl
 |c::l,st=>by rw[H_,No l,B_];unfold eW;rw[H_];congr 1;unfold bQ;split<;>rfl
theorem On(L ys zs:List σ):eW L (ys++zs)=eW (eW L ys) zs:=List.foldl_append
theorem zay{L:List σ}{y:σ}(h:y∈L):eW L [y]=L:=by simp[eW,h]
theorem Wi{L:List σ}{y:σ}(h:y∉L):eW L [y]=L++[y]:=by simp[eW,h]
end
open Go Go.Ev
def Ro(g:G):Option Nat->Nat
 |none=>bX g.fi
 |some b=>bX ((L_ g.sp.length).flatMap λk=>if b.testBit k then K8 g.pr k else [])
def MZ(g:G)(a:Int):Nat:=bX ((L_ g.sp.length).filter (F9 g a))
def jB(g:G)(x:Option Nat)(a:Int):Option Nat:=some (Ro g x&&&MZ g a)
def BS(g:G):Option Nat->Bool
 |none=>g.em
 |some b=>b&&&bX g.la != 0
def zc(l:List (Int×Int)):List Int:=0::l.flatMap λp=>p.1::(if p.2<4294967295 then [p.2+1]else [])
theorem zfi{g:G}(h:Lie 0 g)(x:Option Nat):Ro g x<2^g.sp.length:=by
 cases x with
 |none=>exact iF λp hp=>by have:=h.fi p hp;omega|some b=>
  refine iF λp hp=>?_;obtain⟨k,a,hp⟩:=l_.1 hp;split at hp;·have:=h.pr _ _ (fol_mem.1 hp);omega
  ·cases hp
theorem zfI(g:G)(a:Int):MZ g a<2^g.sp.length:=iF λp hp=>by have:=(y_.1 hp).1;exact A_.1 this
theorem zfx{g:G}{n:Int}{p:Nat}(h:F9 g n p=true):p<g.sp.length:=by
 unfold F9 at h;split at h;·rename_i q a;exact(g_.1 a).1
 ·cases h
theorem U0(g:G)(a:Int)(p:Nat):(MZ g a).testBit p=F9 g a p:=by
 unfold MZ;rw[iN];cases e:F9 g a p;·exact decide_eq_false λb=>by rw[(y_.1 b).2]at e;cases e
 ·exact decide_eq_true (y_.2 ⟨A_.2 (zfx e),e⟩)
theorem zc1{g:G}(hg:∀q∈g.sp,0<=q.1/\q.2<=4294967295){a v:Int}(n:a<=v)(u:v<=4294967295)(b:∀x∈zc g.sp,x<=v->x<=a)(p:Nat):F9 g v p=F9 g a p:=by
 unfold F9;cases e:g.sp[p]? with
 |none=>rfl|some q=>
  have c:=n_ e;have j:q.1∈zc g.sp:=a_ _ (l_.2 ⟨q,c,d_ ..⟩);have k:q.2<4294967295->q.2+1∈zc g.sp:=λh=>a_ _ (l_.2 ⟨q,c,a_ _ (by rw[if_pos h];simp)⟩);have l:=b _ j;have s:=hg q c;simp only;have d:decide (q.1<=v)=decide (q.1<=a):=decide_eq_decide.2 ⟨λh=>l h,λh=>by omega⟩;have f:decide (v<=q.2)=decide (a<=q.2):=decide_eq_decide.2 ⟨λh=>by omega,λh=>by
   by_cases r:q.2<4294967295;·have:=b _ (k r);apply j_;intro hn;have:=this (by omega);omega
   ·omega⟩
  rw[d,f]
theorem zbF{g:G}(hg:∀q∈g.sp,0<=q.1/\q.2<=4294967295){a v:Int}(c:a<=v)(d:v<=4294967295)(b:∀x∈zc g.sp,x<=v->x<=a)(x:Option Nat):jB g x v=jB g x a:=by
 unfold jB;have:MZ g v=MZ g a:=Nat.eq_of_testBit_eq λi=>by rw[U0,U0];exact zc1 hg c d b i
 rw[this]
theorem zfe{g:G}(hg:∀q∈g.sp,0<=q.1/\q.2<=4294967295)(b:∀q∈g.sp,q.1<=q.2):∀x∈zc g.sp,0<=x/\x<=4294967295:=by
 intro x a;rcases k_.1 a with rfl|a;·omega
 obtain⟨q,c,a⟩:=l_.1 a;have d:=hg q c;have e:=b q c;rcases k_.1 a with rfl|a;·omega
 ·split at a;·simp at a;omega
  ·cases a
theorem TH(l:List (Int×Int)):(zc l).length<=2*l.length+1:=by
 unfold zc;rw[e_];have:∀m:List (Int×Int),(m.flatMap λp=>p.1::(if p.2<4294967295 then [p.2+1]else [])).length<=2*m.length:=by
  intro m;induction m with
  |nil=>simp|cons q m a=>
   rw[D_,b_,e_,e_];split;·simp only[e_,I_];omega
   ·simp only[I_];omega
 have:=this l;omega
theorem zig:∀(r:Rx),hU r=true->∀o,∀q∈(kA r o).sp,q.1<=q.2:=by
 refine qF λk lo u ks j s o=>?_;obtain⟨hn,d⟩:=well_iff.1 s;have f:∀(l:List Rx) (a:G),(∀r∈l,r∈ks)->(∀q∈a.sp,q.1<=q.2)->∀q∈(kX l o a).sp,q.1<=q.2:=by
  intro l;induction l with
  |nil=>intro a _ h;exact h|cons r l g=>
   intro a hl h;refine g _ (λr hr=>hl r (a_ _ hr)) λq b=>?_;rcases q_.1 b with b|b;·exact h q b
   ·exact j r (hl r (d_ ..)) (d r (hl r (d_ ..))) _ q b
 have p:∀(l:List Rx) (a:G),(∀r∈l,r∈ks)->(∀q∈a.sp,q.1<=q.2)->∀q∈(mH l o a).sp,q.1<=q.2:=by
  intro l;induction l with
  |nil=>intro a _ h;exact h|cons r l g=>
   intro a hl h;refine g _ (λr hr=>hl r (a_ _ hr)) λq b=>?_;rcases q_.1 b with b|b;·exact h q b
   ·exact j r (hl r (d_ ..)) (d r (hl r (d_ ..))) _ q b
 have c:∀(e:Bool),∀q∈(g0 e).sp,q.1<=q.2:=λe q b=>by simp[g0]at b
 unfold kA;split;·rename_i n;have:=hn.rng n;intro q b;simp only[V9,r_]at b;subst b;exact this.2.1
 split;·intro q b;simp only[V9,r_]at b;subst b;show(0:Int)<=4294967295;decide
 split;·exact p _ _ (λ_ h=>h) (c _)
 split;·exact f _ _ (λ_ h=>h) (c _)
 split;·exact f _ _ (λ_ h=>h) (c _)
 split;·exact f _ _ (λ_ h=>h) (c _)
 split;·exact f _ _ (λ_ h=>h) (c _)
 ·exact c _
end Go.Pl
