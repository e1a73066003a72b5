import Derived.Test.YtdgiglmmpbndmaaGreatDoorMLawComFol
import Derived.Test.YtdgiglmmpbndmaaGreatDoorMLawDfaUse
set_option linter.unusedVariables false
set_option linter.unusedSimpArgs false
open Bool renaming eq_false_iff->t_,eq_iff_iff->R_
open Classical renaming byContradiction->x_
open Int renaming toNat_natCast->d_,toNat->T_
open Go.IntKind renaming wrap->K_,max->Z_
open List renaming length_singleton->a_,length_append->b_,getElem?_eq_getElem->c_,getElem?_eq_some_iff->e_,mem_append_left->f_,mem_singleton->g_,filter_append->h_,filter_cons_of_pos->i_,length_cons->j_,mem_cons_of_mem->k_,length_map->l_,length_nil->m_,findIdx?_eq_some_iff_getElem->o_,findIdx?_eq_none_iff->p_,mem_append->q_,nil_append->r_,mem_of_getElem?->u_,getElem_mem->v_,mem_map->w_,getElem?_append_left->y_,map_append->z_,mem_cons_self->A_,getElem?_set_self->B_,nodup_nil->C_,mem_append_right->D_,getElem?_set_ne->E_,length_set->G_,nodup_append->H_,map_cons->I_,filter_cons_of_neg->J_,take_of_length_le->L_,nodup_cons->M_,mem_iff_getElem->N_,mem_cons->O_,getElem?_map->P_,mem_filter->S_,map_nil->U_,set_set->V_
open Nat renaming le_trans->n_,le_refl->F_
open Option renaming getD_some->Q_,bind->W_
open Option.some renaming inj->s_
open Prod renaming ext->X_,mk->Y_
namespace Go.Proofs.YtdgiglmmpbndmaaGreatDoor
open Go Go.Av Go.Ev Go.Pl
abbrev FQ:Type:=List (Int×Int)
abbrev Kw:Type:=List te×(List CP×FQ)
def lk(D:FQ)(n:Int):Option Int:=iD tI tI D n
theorem HF(k v:Int)(l:FQ)(n:Int):lk ((k,v)::l) n=if n=k then some v else lk l n:=by
 show(bif iX tI n k then some v else lk l n)=_;have:iX tI n k=decide (n=k):=by rw[R_];simp[iX]
 rw[this,Bool.cond_decide]
theorem DI:∀{D:FQ} {n k:Int},lk D n=some k->(n,k)∈D
 |[],_,_,h=>by cases h
 |(a,b)::l,n,k,h=>by
  rw[HF]at h;split at h;·rename_i e;cases h;subst e;exact A_ ..
  ·exact k_ _ (DI h)
theorem DJ:∀{D:FQ} {n:Int},lk D n=none->∀k,(n,k)∉D
 |[],_,_,_=>by simp
 |(a,b)::l,n,h,k=>by
  rw[HF]at h;split at h;·cases h
  ·rename_i e;have:=DJ h k;simp only[O_,Y_.injEq,not_or];exact⟨λx=>e x.1,this⟩
theorem Ol:∀{D:FQ} {n k:Int},(D.map (·.1)).Nodup->(n,k)∈D->lk D n=some k
 |[],_,_,_,h=>by cases h
 |(a,b)::l,n,k,hd,h=>by
  rw[HF];rw[I_,M_]at hd;rcases O_.1 h with c|c;·cases c;rw[if_pos rfl]
  ·rw[if_neg,Ol hd.2 c];intro e;subst e;exact hd.1 (w_.2 ⟨_,c,rfl⟩)
theorem RN{D:FQ}{n k a:Int}(hd:(D.map (·.1)).Nodup)(h:(n,k)∈D)(h':(n,a)∈D):k=a:=by have:=Ol hd h;rw[Ol hd h']at this;exact(s_ this).symm
theorem yu{D:FQ}{n k:Int}(hd:(D.map (·.1)).Nodup)(h:∀k,(n,k)∉D):((D++[(n,k)]).map (·.1)).Nodup:=by rw[z_,H_];refine⟨hd,by simp,?_⟩;rintro x b y a rfl;simp only[I_,U_,g_]at a;subst a;obtain⟨⟨p,q⟩,hp,rfl⟩:=w_.1 b;exact h q hp
def lA(L:List CP)(l:CP):Int×List CP:=match L.findIdx? (λx=>decide (x=l))with
 |some i=>(-1 - (i:Int),L)
 |none=>(-((L.length:Int)+1),L++[l])
def pU(B:List te)(b:te):Int×List te:=if b.2.1=b.2.2.1 then(b.2.1,B)else match B.findIdx? (λx=>decide (x=b))with
 |some i=>((i:Int),B)
 |none=>((B.length:Int),B++[b])
theorem zdD(L:List CP)(l:CP):(lA L l).1<0/\(lA L l).2[(-1 - (lA L l).1).toNat]? =some l/\(∃E,(lA L l).2=L++E)/\(L.Nodup->(lA L l).2.Nodup)/\(∀x∈(lA L l).2,x∈L\/x=l)/\(lA L l).2.length<=L.length+1:=by
 unfold lA;cases e:L.findIdx? (λx=>decide (x=l))with
 |some i=>obtain⟨b,c,_⟩:=o_.1 e;refine⟨by simp only;omega,?_,⟨[],by simp⟩,id,λx a=>.inl a,by simp⟩;simp only;rw[show(-1 - (-1 - (i:Int))).toNat=i by omega,c_ b];rw[of_decide_eq_true c]
 |none=>
  have h:=p_.1 e;refine⟨by simp only;omega,?_,⟨[l],rfl⟩,λhn=>?_,λx a=>?_,by simp⟩;·simp only;rw[show(-1 - -((L.length:Int)+1)).toNat=L.length by omega];simp
  ·rw[H_];refine⟨hn,by simp,?_⟩;rintro x a y d rfl;rw[g_.1 d]at a;simpa using h l a
  ·rcases q_.1 a with h|h;·exact .inl h
   ·exact .inr (g_.1 h)
theorem zc9(B:List te)(b:te):(b.2.1=b.2.2.1/\pU B b=(b.2.1,B))\/(b.2.1≠b.2.2.1/\0<=(pU B b).1/\(pU B b).2[(pU B b).1.toNat]? =some b/\((pU B b).2=B\/((pU B b).2=B++[b]/\b∉B))):=by
 unfold pU;by_cases a:b.2.1=b.2.2.1;·rw[if_pos a];exact .inl ⟨a,rfl⟩
 rw[if_neg a];right;cases e:B.findIdx? (λx=>decide (x=b))with
 |some i=>obtain⟨c,d,_⟩:=o_.1 e;refine⟨a,by simp only;omega,?_,.inl rfl⟩;simp only;rw[d_,c_ c,of_decide_eq_true d]
 |none=>have h:=p_.1 e;refine⟨a,by simp only;omega,?_,.inr ⟨rfl,λf=>by simpa using h b f⟩⟩;simp only;rw[d_];simp
def xf(a:eM):Nat->Int->Kw->Int×Kw
 |0,_,s=>(0,s)
 |f+1,n,s=>match lk s.2.2 n with
  |some k=>(k,s)
  |none=>if n<0 then((lA s.2.1 (dv a n)).1,s.1,(lA s.2.1 (dv a n)).2,s.2.2++[(n,(lA s.2.1 (dv a n)).1)])
   else
    let y:=xf a f (bp a n).2.1 s
    let o:=xf a f (bp a n).2.2.1 y.2
    let p:=pU o.2.1 ((bp a n).1,y.1,o.1,())
    (p.1,p.2,o.2.2.1,o.2.2.2++[(n,p.1)])
structure BI(a:eM)(B:List te)(L:List CP)(D:FQ):Prop where
 kn:(D.map (·.1)).Nodup
 kd:∀n k,(n,k)∈D->bT a n=true
 lf:∀n k,(n,k)∈D->n<0->k<0/\L[(-1 - k).toNat]? =some (dv a n)
 br:∀n k,(n,k)∈D->0<=n->∃ky ko,((bp a n).2.1,ky)∈D/\((bp a n).2.2.1,ko)∈D/\((ky=ko/\k=ky)\/(ky≠ko/\0<=k/\B[k.toNat]? =some ((bp a n).1,ky,ko,())))
 bn:B.Nodup
 ln:L.Nodup
 bb:∀(i:Nat) b,B[i]? =some b->b.2.1≠b.2.2.1/\(0<=b.1/\b.1<(a.1.length:Int))/\∀c,(c=b.2.1\/c=b.2.2.1)->c<(i:Int)/\-(L.length:Int)<=c/\(0<=c->∃b',B[c.toNat]? =some b'/\b.1<b'.1)
 lo:∀n k,(n,k)∈D->-(L.length:Int)<=k/\(0<=k->0<=n/\∃b,B[k.toNat]? =some b/\(bp a n).1<=b.1)
 ll:∀l∈L,l∈a.2.2.1
 cb:B.length<=(D.filter λp=>decide (0<=p.1)).length
 cl:L.length<=(D.filter λp=>decide (p.1<0)).length
theorem Dx{α:Type}{l E:List α}{i:Nat}{x:α}(h:l[i]? =some x):(l++E)[i]? =some x:=by have:=(e_.1 h).1;rw[y_ this,h]
theorem BI.leaf{a:eM}{B:List te}{L:List CP}{D:FQ}(h:BI a B L D){n:Int}(N:n<0)(hn:bT a n=true)(hk:∀k,(n,k)∉D):BI a B (lA L (dv a n)).2 (D++[(n,(lA L (dv a n)).1)]):=by
 obtain⟨p1,U,⟨E,Y⟩,p4,p5,p6⟩:=zdD L (dv a n);have J:∀{x k},(x,k)∈D++[(n,(lA L (dv a n)).1)]->(x,k)∈D\/(x=n/\k=(lA L (dv a n)).1):=λz=>by simpa using z
 have R:L.length<=(lA L (dv a n)).2.length:=by rw[Y];simp
 have el:=(e_.1 U).1;refine⟨yu h.kn hk,λx k z=>?_,λx k z C=>?_,λx k z C=>?_,h.bn,p4 h.ln,λi b hb=>?_,λx k z=>?_,λl hl=>?_,?_,?_⟩
 ·rcases J z with z|⟨rfl,rfl⟩;·exact h.kd x k z
  ·exact hn
 ·rcases J z with z|⟨rfl,rfl⟩;·obtain⟨I,H⟩:=h.lf x k z C;refine⟨I,?_⟩;rw[Y];exact Dx H
  ·exact⟨p1,U⟩
 ·rcases J z with z|⟨rfl,rfl⟩;·obtain⟨ky,ko,I,H,M⟩:=h.br x k z C;exact⟨ky,ko,f_ _ I,f_ _ H,M⟩
  ·omega
 ·obtain⟨I,H,M⟩:=h.bb i b hb;refine⟨I,H,λc hc=>?_⟩;obtain⟨r1,r2,r3⟩:=M c hc;exact⟨r1,by omega,r3⟩
 ·rcases J z with z|⟨rfl,rfl⟩;·obtain⟨I,H⟩:=h.lo x k z;exact⟨by omega,H⟩
  ·exact⟨by omega,by omega⟩
 ·rcases p5 l hl with hl|rfl;·exact h.ll l hl
  ·exact u_ (eD N hn)
 ·have:=h.cb;rw[h_,b_];omega
 ·have:=h.cl;rw[h_,b_,i_ (by simpa using N)];simp only[j_];omega
theorem BI.bran{a:eM}(ho:AutOk a){B:List te}{L:List CP}{D:FQ}(h:BI a B L D){n ky ko:Int}(h0:0<=n)(hn:bT a n=true)(hk:∀k,(n,k)∉D) (hy:((bp a n).2.1,ky)∈D) (hz:((bp a n).2.2.1,ko)∈D):BI a (pU B ((bp a n).1,ky,ko,())).2 L (D++[(n,(pU B ((bp a n).1,ky,ko,())).1)]):=by
 generalize hp:pU B ((bp a n).1,ky,ko,())=p;have hs:=zc9 B ((bp a n).1,ky,ko,());rw[hp]at hs;have hm:∀{x k},(x,k)∈D++[(n,p.1)]->(x,k)∈D\/(x=n/\k=p.1):=λC=>by simpa using C
 obtain⟨i,rfl,hi⟩:=mw hn h0;obtain⟨⟨b1,b2⟩,_,b5,b6⟩:=P0 (ho.br _ (v_ hi));rw[<-iA hi]at b1 b2 b5 b6;have hB:∃E,p.2=B++E:=by
  rcases hs with⟨_,z⟩|⟨_,_,_,z|⟨z,_⟩⟩;·exact⟨[],by rw[z];simp⟩
  ·exact⟨[],by rw[z];simp⟩
  ·exact⟨_,z⟩
 obtain⟨E,hE⟩:=hB;have hc:∀{c R:Int},(c,R)∈D->HW a c (bp a i).1=true->(-(L.length:Int)<=R/\(0<=R->∃H,B[R.toNat]? =some H/\(bp a i).1<H.1)):=λhd ha=>by obtain⟨q1,q2⟩:=h.lo _ _ hd;refine⟨q1,λI=>?_⟩;obtain⟨U,H,q4,q5⟩:=q2 I;refine⟨H,q4,?_⟩;unfold HW at ha;simp only[Bool.or_eq_true,decide_eq_true_eq]at ha;omega
 have cy:=hc hy b5;have cz:=hc hz b6;have M:∀{R:Int} {x:Int},(0<=R->∃H,B[R.toNat]? =some H/\x<H.1)->R<(B.length:Int):=fun{R x} hh=>by
  by_cases I:0<=R;·obtain⟨H,q,_⟩:=hh I;have:=(e_.1 q).1;omega
  ·omega
 refine⟨yu h.kn hk,λx k C=>?_,λx k C el=>?_,λx k C el=>?_,?_,h.ln,λj b N=>?_,λx k C=>?_,h.ll,?_,?_⟩
 ·rcases hm C with C|⟨rfl,rfl⟩;·exact h.kd x k C
  ·exact hn
 ·rcases hm C with C|⟨rfl,rfl⟩;·exact h.lf x k C el
  ·omega
 ·rcases hm C with C|⟨rfl,rfl⟩
  ·obtain⟨y,o,q1,q2,U⟩:=h.br x k C el;refine⟨y,o,f_ _ q1,f_ _ q2,?_⟩;rcases U with U|⟨U,q4,q5⟩;·exact .inl U
   ·exact .inr ⟨U,q4,by rw[hE];exact Dx q5⟩
  ·refine⟨ky,ko,f_ _ hy,f_ _ hz,?_⟩;rcases hs with⟨Y,z⟩|⟨Y,z,h3,_⟩;·exact .inl ⟨Y,by rw[z]⟩
   ·exact .inr ⟨Y,z,h3⟩
 ·rcases hs with⟨_,z⟩|⟨_,_,_,z|⟨z,h3⟩⟩;·rw[z];exact h.bn
  ·rw[z];exact h.bn
  ·rw[z,H_];refine⟨h.bn,by simp,?_⟩;rintro x C y hy rfl;rw[g_.1 hy]at C;exact h3 C
 ·have old:B[j]? =some b->b.2.1≠b.2.2.1/\(0<=b.1/\b.1<(a.1.length:Int))/\∀c,(c=b.2.1\/c=b.2.2.1)->c<(j:Int)/\-(L.length:Int)<=c/\(0<=c->∃H,p.2[c.toNat]? =some H/\b.1<H.1):=λN=>by obtain⟨q1,q2,U⟩:=h.bb j b N;refine⟨q1,q2,λc hc=>?_⟩;obtain⟨r1,r2,r3⟩:=U c hc;refine⟨r1,r2,λJ=>?_⟩;obtain⟨H,s1,s2⟩:=r3 J;exact⟨H,by rw[hE];exact Dx s1,s2⟩
  rcases hs with⟨_,z⟩|⟨Y,_,_,z|⟨z,_⟩⟩;·rw[z]at N;exact old N
  ·rw[z]at N;exact old N
  ·by_cases hj:j<B.length;·rw[z,y_ hj]at N;exact old N
   ·rw[z,List.getElem?_append_right (by omega)]at N;obtain⟨qr,gc⟩:=e_.1 N;have ph:j - B.length=0:=by simpa using qr
    simp only[ph,List.getElem_cons_zero]at gc;subst gc;refine⟨Y,⟨b1,b2⟩,λc hc=>?_⟩;have l1:=M cy.2;have l2:=M cz.2;rcases hc with rfl|rfl;·refine⟨by omega,cy.1,λJ=>?_⟩;obtain⟨H,s1,s2⟩:=cy.2 J;exact⟨H,by rw[z];exact Dx s1,s2⟩
    ·refine⟨by omega,cz.1,λJ=>?_⟩;obtain⟨H,s1,s2⟩:=cz.2 J;exact⟨H,by rw[z];exact Dx s1,s2⟩
 ·rcases hm C with C|⟨rfl,rfl⟩;·obtain⟨q1,q2⟩:=h.lo x k C;refine⟨q1,λI=>?_⟩;obtain⟨U,b,q4,q5⟩:=q2 I;exact⟨U,b,by rw[hE];exact Dx q4,q5⟩
  ·rcases hs with⟨Y,z⟩|⟨Y,z,h3,_⟩;·rw[z];refine⟨cy.1,λI=>⟨h0,?_⟩⟩;obtain⟨H,s1,s2⟩:=cy.2 I;exact⟨H,s1,by omega⟩
   ·exact⟨by omega,λ_=>⟨h0,_,h3,Int.le_refl _⟩⟩
 ·have:=h.cb;rw[h_,b_,i_ (by simp)];simp only[j_];rcases hs with⟨_,z⟩|⟨_,_,_,z|⟨z,_⟩⟩;·rw[z];simp only;omega
  ·rw[z];omega
  ·rw[z];simp only[b_,j_,m_];omega
 ·have:=h.cl;rw[h_,b_];omega
abbrev BIs(a:eM)(s:Kw):Prop:=BI a s.1 s.2.1 s.2.2
structure BldR(a:eM)(n:Int)(s:Kw)(r:Int×Kw):Prop where
 inv:BIs a r.2
 mem:(n,r.1)∈r.2.2.2
 ext:∀p∈s.2.2,p∈r.2.2.2
 new:∀p∈r.2.2.2,p∈s.2.2\/mu a p.1<=mu a n
theorem QU{a:eM}(g:AutOk a):∀(f:Nat) (n:Int) (s:Kw),bT a n=true->mu a n<f->BIs a s->BldR a n s (xf a f n s):=by
 intro f;induction f with
 |zero=>intro n s _ l;omega|succ f j=>
  intro n s hn l hs;unfold xf;cases e:lk s.2.2 n with
  |some k=>exact⟨hs,DI e,λp hp=>hp,λp hp=>.inl hp⟩|none=>
   have h:=DJ e;by_cases c:n<0
   ·simp only[if_pos c];refine⟨hs.leaf c hn h,by simp,λp hp=>f_ _ hp,λp hp=>?_⟩;rcases q_.1 hp with hp|hp;·exact .inl hp
    ·rw[g_.1 hp];exact .inr (F_ _)
   ·simp only[if_neg c];have c:0<=n:=by omega
    have r:=tz g hn c _ (.inl rfl);have u:=tz g hn c _ (.inr rfl);have y:=j _ s r.1 (by omega) hs;generalize xf a f (bp a n).2.1 s=Y at y;have o:=j _ Y.2 u.1 (by omega) y.inv;generalize xf a f (bp a n).2.2.1 Y.2=O at o;have d:∀k,(n,k)∉O.2.2.2:=λk b=>by
     rcases o.new _ b with b|b
     ·rcases y.new _ b with b|b;·exact h k b
      ·simp only at b;omega
     ·simp only at b;omega
    refine⟨o.inv.bran g c hn d (o.ext _ y.mem) o.mem,by simp,λp hp=>f_ _ (o.ext _ (y.ext _ hp)),λp hp=>?_⟩;rcases q_.1 hp with hp|hp
    ·rcases o.new _ hp with b|b
     ·rcases y.new _ b with b|b;·exact .inl b
      ·exact .inr (by omega)
     ·exact .inr (by omega)
    ·rw[g_.1 hp];exact .inr (F_ _)
theorem BI.nil(a:eM):BIs a ([],[],[]):=⟨C_,by simp,by simp,by simp,C_,C_,by simp,by simp,by simp,by simp,by simp⟩
def nA(g:eM):Nat->Int->Kw->Int×Kw
 |0,_,s=>(0,s)
 |f+1,n,s=>match lk s.2.2 n with
  |some k=>(k,s)
  |none=>if n<0 then(-((s.2.1.length:Int)+1),s.1,s.2.1++[dv g n],s.2.2++[(n,-((s.2.1.length:Int)+1))])
   else
    let y:=nA g f (bp g n).2.1 (s.1++[((bp g n).1,0,0,())],s.2.1,s.2.2++[(n,(s.1.length:Int))])
    let o:=nA g f (bp g n).2.2.1 y.2
    ((s.1.length:Int),o.2.1.set s.1.length ((bp g n).1,y.1,o.1,()),o.2.2.1,o.2.2.2)
def Low(g:eM):Prop:=∀(i:Nat) b,g.2.1[i]? =some b->∀c,(c=b.2.1\/c=b.2.2.1)->c<(i:Int)/\-(g.2.2.1.length:Int)<=c
theorem nodeB_of{g:eM}{n:Int}:bT g n=true↔n<(g.2.1.length:Int)/\-(g.2.2.1.length:Int)<=n:=by unfold bT;simp
theorem Low.kids{g:eM}(h:Low g){n:Int}(hn:bT g n=true)(C:0<=n):∀c,(c=(bp g n).2.1\/c=(bp g n).2.2.1)->bT g c=true/\c<n:=by obtain⟨i,rfl,z⟩:=mw hn C;intro c hc;rw[iA z]at hc;obtain⟨E,H⟩:=h i _ (c_ z) c hc;exact⟨nodeB_of.2 ⟨by omega,H⟩,E⟩
structure VI(g:eM)(B:List te)(L:List CP)(D:FQ):Prop where
 kn:(D.map (·.1)).Nodup
 kd:∀n k,(n,k)∈D->bT g n=true
 lf:∀n k,(n,k)∈D->n<0->k<0/\L[(-1 - k).toNat]? =some (dv g n)
 br:∀n k,(n,k)∈D->0<=n->0<=k/\k<(B.length:Int)
 ij:∀n n' k,(n,k)∈D->(n',k)∈D->n=n'
 sb:∀i:Nat,i<B.length->∃n,(n,(i:Int))∈D
 sl:∀i:Nat,i<L.length->∃n,(n,-1 - (i:Int))∈D
 cb:B.length<=(D.filter λp=>decide (0<=p.1)).length
 cl:L.length<=(D.filter λp=>decide (p.1<0)).length
theorem VI.nil(g:eM):VI g [] [] []:=⟨C_,by simp,by simp,by simp,by simp,by simp,by simp,by simp,by simp⟩
theorem VI.leaf{g:eM}{B:List te}{L:List CP}{D:FQ}(h:VI g B L D){n:Int}(h0:n<0)(hn:bT g n=true)(hk:∀k,(n,k)∉D):VI g B (L++[dv g n]) (D++[(n,-((L.length:Int)+1))]):=by
 have H:∀{x k},(x,k)∈D++[(n,-((L.length:Int)+1))]->(x,k)∈D\/(x=n/\k= -((L.length:Int)+1)):=λz=>by simpa using z
 have C:∀x,(x,-((L.length:Int)+1))∉D:=λx z=>by
  by_cases E:x<0;·have:=(e_.1 (h.lf _ _ z E).2).1;omega
  ·have:=h.br _ _ z (by omega);omega
 refine⟨yu h.kn hk,λx k z=>?_,λx k z E=>?_,λx k z E=>?_,λx y k z hy=>?_,λi M=>?_,λi M=>?_,?_,?_⟩
 ·rcases H z with z|⟨rfl,rfl⟩;·exact h.kd x k z
  ·exact hn
 ·rcases H z with z|⟨rfl,rfl⟩;·obtain⟨q1,q2⟩:=h.lf x k z E;exact⟨q1,Dx q2⟩
  ·refine⟨by omega,?_⟩;rw[show(-1 - -((L.length:Int)+1)).toNat=L.length by omega];simp
 ·rcases H z with z|⟨rfl,rfl⟩;·exact h.br x k z E
  ·omega
 ·rcases H z with I|⟨N,R⟩<;>rcases H hy with J|⟨U,Y⟩;·exact h.ij x y k I J
  ·rw[Y]at I;exact absurd I (C x)
  ·rw[R]at J;exact absurd J (C y)
  ·rw[N,U]
 ·obtain⟨m,H⟩:=h.sb i M;exact⟨m,f_ _ H⟩
 ·by_cases hj:i<L.length;·obtain⟨m,H⟩:=h.sl i hj;exact⟨m,f_ _ H⟩
  ·simp only[b_,a_]at M;refine⟨n,D_ _ ?_⟩;rw[show -1 - (i:Int)= -((L.length:Int)+1) by omega];exact g_.2 rfl
 ·have:=h.cb;rw[h_,b_];omega
 ·have:=h.cl;rw[h_,b_,i_ (by simpa using h0)];simp only[b_,j_,m_];omega
theorem VI.push{g:eM}{B:List te}{L:List CP}{D:FQ}(h:VI g B L D){n:Int}(h0:0<=n)(hn:bT g n=true)(hk:∀k,(n,k)∉D)(b:te):VI g (B++[b]) L (D++[(n,(B.length:Int))]):=by
 have H:∀{x k},(x,k)∈D++[(n,(B.length:Int))]->(x,k)∈D\/(x=n/\k=(B.length:Int)):=λz=>by simpa using z
 have C:∀x,(x,(B.length:Int))∉D:=λx z=>by
  by_cases E:x<0;·have:=(h.lf _ _ z E).1;omega
  ·have:=h.br _ _ z (by omega);omega
 refine⟨yu h.kn hk,λx k z=>?_,λx k z E=>?_,λx k z E=>?_,λx y k z hy=>?_,λi M=>?_,λi M=>?_,?_,?_⟩
 ·rcases H z with z|⟨rfl,rfl⟩;·exact h.kd x k z
  ·exact hn
 ·rcases H z with z|⟨rfl,rfl⟩;·exact h.lf x k z E
  ·omega
 ·simp only[b_,a_];rcases H z with z|⟨rfl,rfl⟩;·have:=h.br x k z E;omega
  ·omega
 ·rcases H z with I|⟨N,R⟩<;>rcases H hy with J|⟨U,Y⟩;·exact h.ij x y k I J
  ·rw[Y]at I;exact absurd I (C x)
  ·rw[R]at J;exact absurd J (C y)
  ·rw[N,U]
 ·by_cases hj:i<B.length;·obtain⟨m,H⟩:=h.sb i hj;exact⟨m,f_ _ H⟩
  ·simp only[b_,a_]at M;refine⟨n,D_ _ ?_⟩;rw[show i=B.length by omega];exact g_.2 rfl
 ·obtain⟨m,H⟩:=h.sl i M;exact⟨m,f_ _ H⟩
 ·have:=h.cb;rw[h_,b_,i_ (by simpa using h0)];simp only[b_,j_,m_];omega
 ·have:=h.cl;rw[h_,b_];omega
theorem VI.set{g:eM}{B:List te}{L:List CP}{D:FQ}(h:VI g B L D)(i:Nat)(b:te):VI g (B.set i b) L D:=⟨h.kn,h.kd,h.lf,by rw[G_];exact h.br,h.ij,by rw[G_];exact h.sb,h.sl,by rw[G_];exact h.cb,h.cl⟩
def Fin(g:eM)(B:List te)(D:FQ)(m:Int):Prop:=∃k ky a,(m,k)∈D/\((bp g m).2.1,ky)∈D/\((bp g m).2.2.1,a)∈D/\B[k.toNat]? =some ((bp g m).1,ky,a,())
structure VisR(g:eM)(n:Int)(s:Kw)(r:Int×Kw):Prop where
 inv:VI g r.2.1 r.2.2.1 r.2.2.2
 mem:(n,r.1)∈r.2.2.2
 ext:∀p∈s.2.2,p∈r.2.2.2
 len:s.1.length<=r.2.1.length
 old:∀i:Nat,i<s.1.length->r.2.1[i]? =s.1[i]?
 lvs:∃E,r.2.2.1=s.2.1++E
 lfs:∀l∈r.2.2.1,l∈s.2.1\/l∈g.2.2.1
 new:∀m k,(m,k)∈r.2.2.2->(m,k)∈s.2.2\/m<0\/Fin g r.2.1 r.2.2.2 m
theorem SQ{g:eM}(hg:Low g):∀(f:Nat) (n:Int) (s:Kw),bT g n=true->(n+1).toNat<f->VI g s.1 s.2.1 s.2.2->VisR g n s (nA g f n s):=by
 intro f;induction f with
 |zero=>intro n s _ J;omega|succ f D=>
  intro n s hn J hs;unfold nA;cases e:lk s.2.2 n with
  |some k=>exact⟨hs,DI e,λp hp=>hp,F_ _,λ_ _=>rfl,⟨[],by simp⟩,λl hl=>.inl hl,λm k h=>.inl h⟩|none=>
   have C:=DJ e;by_cases b:n<0
   ·simp only[if_pos b];refine⟨hs.leaf b hn C,by simp,λp hp=>f_ _ hp,F_ _,λ_ _=>rfl,⟨_,rfl⟩,λl hl=>?_,λm k h=>?_⟩
    ·rcases q_.1 hl with hl|hl;·exact .inl hl
     ·rw[g_.1 hl];exact .inr (u_ (eD b hn))
    ·rcases q_.1 h with h|h;·exact .inl h
     ·cases g_.1 h;exact .inr (.inl b)
   ·simp only[if_neg b];have b:0<=n:=by omega
    have N:=hg.kids hn b _ (.inl rfl);have P:=hg.kids hn b _ (.inr rfl);have y:=D (bp g n).2.1 (s.1++[((bp g n).1,0,0,())],s.2.1,s.2.2++[(n,(s.1.length:Int))]) N.1 (by omega) (hs.push b hn C _);generalize nA g f (bp g n).2.1 (s.1++[((bp g n).1,0,0,())],s.2.1,s.2.2++[(n,(s.1.length:Int))])=Y at y;have o:=D _ Y.2 P.1 (by omega) y.inv;generalize nA g f (bp g n).2.2.1 Y.2=O at o;have M:s.1.length<Y.2.1.length:=by have:=y.len;simp only[b_,a_]at this;omega
    have A:s.1.length<O.2.1.length:=by have:=o.len;omega
    have a:(n,(s.1.length:Int))∈O.2.2.2:=o.ext _ (y.ext _ (D_ _ (g_.2 rfl)));refine⟨o.inv.set _ _,a,λp hp=>o.ext _ (y.ext _ (f_ _ hp)),by rw[G_];omega,λi L=>?_,?_,λl hl=>?_,λm k h=>?_⟩;·rw[E_ (by omega),o.old i (by omega),y.old i (by simp only[b_];omega),y_ L]
    ·obtain⟨E,I⟩:=y.lvs;obtain⟨F,z⟩:=o.lvs;exact⟨E++F,by rw[z,I,List.append_assoc]⟩
    ·rcases o.lfs l hl with hl|hl;·exact y.lfs l hl
     ·exact .inr hl
    ·by_cases j:m<0;·exact .inr (.inl j)
     by_cases r:m=n;·subst r;refine .inr (.inr ⟨(s.1.length:Int),Y.1,O.1,a,o.ext _ y.mem,o.mem,?_⟩);rw[d_,B_ A]
     have keep:∀{c:Int},(m,c)∈O.2.2.2->c.toNat≠s.1.length:=fun{c} d Q=>by
      have:=o.inv.br _ _ d (by omega);have H:c=(s.1.length:Int):=by omega
      rw[H]at d;exact r (o.inv.ij m n _ d a)
     rcases o.new m k h with h|h|⟨c,ky,B,u,f2,w,v⟩
     ·rcases y.new m k h with h|h|⟨c,ky,B,u,f2,w,v⟩
      ·rcases q_.1 h with h|h;·exact .inl h
       ·exact absurd (congrArg Prod.fst (g_.1 h)) r
      ·exact absurd h j
      ·refine .inr (.inr ⟨c,ky,B,o.ext _ u,o.ext _ f2,o.ext _ w,?_⟩);rw[E_ (λx=>keep (o.ext _ u) x.symm),o.old _ (e_.1 v).1,v]
     ·exact absurd h j
     ·exact .inr (.inr ⟨c,ky,B,u,f2,w,by rw[E_ (λx=>keep u x.symm),v]⟩)
def ren(t:Int->Int)(D:FQ):FQ:=D.map λp=>(t p.1,p.2)
theorem zhE{t:Int->Int}{S:Int->Prop}(c:∀m n,S m->S n->t m=t n->m=n){n:Int}(hn:S n):∀{D:FQ},(∀m k,(m,k)∈D->S m)->lk (ren t D) (t n)=lk D n
 |[],_=>rfl
 |(a,b)::l,h=>by
  show lk ((t a,b)::ren t l) (t n)=_;rw[HF,HF,zhE c hn λm k d=>h m k (k_ _ d)];by_cases e:n=a;·rw[if_pos e,if_pos (by rw[e])]
  ·rw[if_neg e,if_neg λx=>e (c n a hn (h a b (A_ ..)) x)]
theorem zkc{g g':eM}{t:Int->Int}{S:Int->Prop}(w:∀m n,S m->S n->t m=t n->m=n)(hl:∀n,S n->n<0->t n<0/\dv g' (t n)=dv g n) (v:∀n,S n->0<=n->0<=t n/\S (bp g n).2.1/\S (bp g n).2.2.1/\bp g' (t n)=((bp g n).1,t (bp g n).2.1,t (bp g n).2.2.1,())): ∀(f:Nat) (n:Int) (s:Kw),S n->(∀m k,(m,k)∈s.2.2->S m)->nA g' f (t n) (s.1,s.2.1,ren t s.2.2)=((nA g f n s).1,(nA g f n s).2.1,(nA g f n s).2.2.1,ren t (nA g f n s).2.2.2)/\∀m k,(m,k)∈(nA g f n s).2.2.2->S m:=by
 intro f;induction f with
 |zero=>intro n s _ hs;exact⟨rfl,hs⟩|succ f l=>
  intro n s hn hs;unfold nA;simp only;rw[zhE w hn hs];cases e:lk s.2.2 n with
  |some k=>exact⟨rfl,hs⟩|none=>
   have a:∀k m d,(m,d)∈s.2.2++[(n,k)]->S m:=λk m d h=>by
    rcases q_.1 h with h|h;·exact hs m d h
    ·cases g_.1 h;exact hn
   have hr:∀k,ren t s.2.2++[(t n,k)]=ren t (s.2.2++[(n,k)]):=λk=>by unfold ren;rw[z_];rfl
   by_cases b:n<0;·obtain⟨j,c⟩:=hl n hn b;simp only[if_pos b,if_pos j,c,hr];exact⟨trivial,a _⟩
   ·obtain⟨j,c,r,u⟩:=v n hn (by omega);simp only[if_neg b,if_neg (show ¬t n<0 by omega),u,hr];obtain⟨p,z⟩:=l (bp g n).2.1 (s.1++[((bp g n).1,0,0,())],s.2.1,s.2.2++[(n,(s.1.length:Int))]) c (a _);simp only at p;rw[p];obtain⟨x,y⟩:=l (bp g n).2.2.1 (nA g f (bp g n).2.1 (s.1++[((bp g n).1,0,0,())],s.2.1,s.2.2++[(n,(s.1.length:Int))])).2 r z;rw[x];exact⟨rfl,y⟩
theorem No{α β:Type}{f:α->β}:∀{l:List α},l.Nodup->(∀x∈l,∀y∈l,f x=f y->x=y)->(l.map f).Nodup
 |[],_,_=>C_
 |a::l,h,d=>by rw[M_]at h;rw[I_,M_];refine⟨λg=>?_,No h.2 λx j y k=>d x (k_ _ j) y (k_ _ k)⟩;obtain⟨b,c,e⟩:=w_.1 g;have:=d b (k_ _ c) a (A_ ..) e;subst this;exact h.1 c
theorem zeI{α:Type}{l:List α}(h:l.Nodup){i j:Nat}{x:α}(a:l[i]? =some x)(b:l[j]? =some x):i=j:=(List.getElem?_inj (e_.1 a).1 h).1 (a.trans b.symm)
theorem zdf:∀(n:Nat) (H:List Int),H.Nodup->(∀x∈H,0<=x/\x<(n:Int))->H.length<=n:=by
 intro n H hd a;have h:H.map T_⊆List.range n:=λx b=>by obtain⟨y,c,rfl⟩:=w_.1 b;have:=a y c;exact List.mem_range.2 (by omega)
 have hn:(H.map T_).Nodup:=by refine No hd λx b y c e=>?_;have:=a x b;have:=a y c;omega
 have:=hn.length_le_of_subset h;simpa using this
theorem zbp{D:FQ}(h:(D.map (·.1)).Nodup)(p:Int×Int->Bool):((D.filter p).map (·.1)).Nodup:=h.sublist ((List.filter_sublist (l:=D) (p:=p)).map _)
theorem K8{D:FQ}{g:eM}(h:(D.map (·.1)).Nodup)(c:∀n k,(n,k)∈D->bT g n=true):(D.filter λp=>decide (0<=p.1)).length<=g.2.1.length:=by
 have:=zdf g.2.1.length _ (zbp h λp=>decide (0<=p.1)) λx d=>by
  obtain⟨⟨y,k⟩,e,rfl⟩:=w_.1 d;obtain⟨a,b⟩:=S_.1 e;have:=nodeB_of.1 (c _ _ a);have:0<=y:=by simpa using b
  exact⟨this,by omega⟩
 simpa using this
theorem P6{D:FQ}{g:eM}(h:(D.map (·.1)).Nodup)(c:∀n k,(n,k)∈D->bT g n=true):(D.filter λp=>decide (p.1<0)).length<=g.2.2.1.length:=by
 have hd:=zbp h λp=>decide (p.1<0);have:=zdf g.2.2.1.length (((D.filter λp=>decide (p.1<0)).map (·.1)).map λx=> -1 - x) (No hd λx _ y _ e=>by omega) λx d=>by
  obtain⟨z,j,rfl⟩:=w_.1 d;obtain⟨⟨y,k⟩,f,rfl⟩:=w_.1 j;obtain⟨a,b⟩:=S_.1 f;have:=nodeB_of.1 (c _ _ a);have:y<0:=by simpa using b
  simp only;omega
 simpa using this
def Oh(F:Nat)(a:eM):Int×Kw:=xf a F a.2.2.2.1 ([],[],[])
def gA(F:Nat)(a:eM):eM:=(a.1,(Oh F a).2.1,(Oh F a).2.2.1,0,())
def NN(F:Nat)(a:eM):Int×Kw:=nA (gA F a) F (Oh F a).1 ([],[],[])
def fp(F:Nat)(a:eM):eM:=(a.1,(NN F a).2.1,(NN F a).2.2.1,(NN F a).1,())
theorem Hq{g:eM}{k:Int}{b:te}(h:g.2.1[k.toNat]? =some b):bp g k=b:=by unfold bp;rw[h];rfl
theorem LK{g:eM}{k:Int}{l:CP}(h:g.2.2.1[(-1 - k).toNat]? =some l):dv g k=l:=by unfold dv;rw[h];rfl
structure Red(F:Nat)(a:eM):Prop where
 ok:AutOk a
 b:BldR a a.2.2.2.1 ([],[],[]) (Oh F a)
 low:Low (gA F a)
 nd:bT (gA F a) (Oh F a).1=true
 v:VisR (gA F a) (Oh F a).1 ([],[],[]) (NN F a)
theorem Se{F:Nat}(p:4100<=F){a:eM}(f:AutOk a):Red F a:=by
 have r:mu a a.2.2.2.1<=a.1.length:=by unfold mu;split<;>omega
 have:=f.l1;have d:=QU f F a.2.2.2.1 ([],[],[]) f.rt (by omega) (BI.nil a);have d:BldR a a.2.2.2.1 ([],[],[]) (Oh F a):=d;have e:Low (gA F a):=λi b h c hc=>by obtain⟨_,_,q⟩:=d.inv.bb i b h;exact⟨(q c hc).1,(q c hc).2.1⟩
 have hn:bT (gA F a) (Oh F a).1=true:=by
  obtain⟨k,l⟩:=d.inv.lo _ _ d.mem;refine nodeB_of.2 ⟨?_,k⟩;by_cases g:0<=(Oh F a).1;·obtain⟨_,b,n,_⟩:=l g;have:=(e_.1 n).1;show _<(((Oh F a).2.1).length:Int);omega
  ·omega
 have hl:(Oh F a).2.1.length<=4096:=n_ (n_ d.inv.cb (K8 d.inv.kn d.inv.kd)) f.l2;have:=(nodeB_of.1 hn).1;have j:=SQ e F (Oh F a).1 ([],[],[]) hn (by have:(gA F a).2.1.length<=4096:=hl;omega) (VI.nil _);exact⟨f,d,e,hn,j⟩
theorem Red.fin{F:Nat}{a:eM}(h:Red F a){m k:Int}(C:(m,k)∈(NN F a).2.2.2)(M:0<=m):∃ky z,((bp (gA F a) m).2.1,ky)∈(NN F a).2.2.2/\((bp (gA F a) m).2.2.1,z)∈(NN F a).2.2.2/\(fp F a).2.1[k.toNat]? =some ((bp (gA F a) m).1,ky,z,()):=by
 rcases h.v.new m k C with E|E|⟨N,ky,z,H,f2,I,J⟩;·cases E
 ·omega
 ·rw[RN h.v.inv.kn C H];exact⟨ky,z,f2,I,J⟩
theorem Red.gbr{F:Nat}{a:eM}(h:Red F a){m:Int}(E:bT (gA F a) m=true)(C:0<=m):(Oh F a).2.1[m.toNat]? =some (bp (gA F a) m):=by obtain⟨i,rfl,z⟩:=mw E C;rw[iA z];exact c_ z
theorem Red.sgn{F:Nat}{a:eM}(h:Red F a){m k:Int}(z:(m,k)∈(NN F a).2.2.2):(m<0↔k<0)/\bT (fp F a) k=true:=by
 by_cases C:m<0;·obtain⟨H,E⟩:=h.v.inv.lf _ _ z C;have:=(e_.1 E).1;refine⟨by omega,nodeB_of.2 ⟨by omega,?_⟩⟩;show -((NN F a).2.2.1.length:Int)<=k;omega
 ·have:=h.v.inv.br _ _ z (by omega);refine⟨by omega,nodeB_of.2 ⟨this.2,by omega⟩⟩
theorem Red.lenB{F:Nat}{a:eM}(h:Red F a):(fp F a).2.1.length<=a.2.1.length:=n_ (n_ h.v.inv.cb (K8 h.v.inv.kn h.v.inv.kd)) (n_ h.b.inv.cb (K8 h.b.inv.kn h.b.inv.kd))
theorem Red.lenL{F:Nat}{a:eM}(h:Red F a):(fp F a).2.2.1.length<=a.2.2.1.length:=n_ (n_ h.v.inv.cl (P6 h.v.inv.kn h.v.inv.kd)) (n_ h.b.inv.cl (P6 h.b.inv.kn h.b.inv.kd))
theorem Red.lvs{F:Nat}{a:eM}(h:Red F a){l:CP}(hl:l∈(fp F a).2.2.1):l∈a.2.2.1:=by
 rcases h.v.lfs l hl with hl|hl;·cases hl
 ·exact h.b.inv.ll l hl
theorem Red.at{F:Nat}{a:eM}(h:Red F a){i:Nat}{b:te}(I:(fp F a).2.1[i]? =some b):∃m,(m,(i:Int))∈(NN F a).2.2.2/\0<=m/\∃ky z,((bp (gA F a) m).2.1,ky)∈(NN F a).2.2.2/\((bp (gA F a) m).2.2.1,z)∈(NN F a).2.2.2/\b=((bp (gA F a) m).1,ky,z,()):=by
 obtain⟨m,C⟩:=h.v.inv.sb i (e_.1 I).1;have H:0<=m:=by have:=(h.sgn C).1;omega
 obtain⟨ky,z,J,f2,E⟩:=h.fin C H;rw[d_,I]at E;exact⟨m,C,H,ky,z,J,f2,s_ E⟩
theorem Red.aut{F:Nat}{a:eM}(h:Red F a):AutOk (fp F a):=by
 have C:=h.ok;refine⟨C.l1,n_ h.lenB C.l2,n_ h.lenL C.l3,C.ts,(h.sgn h.v.mem).2,λb Y=>?_,λl hl=>C.lf l (h.lvs hl)⟩;obtain⟨i,hi,rfl⟩:=N_.1 Y;obtain⟨m,hm,U,ky,ko,H,f2,I⟩:=h.at (c_ hi);rw[I];obtain⟨_,q2,q3⟩:=h.b.inv.bb _ _ (h.gbr (h.v.inv.kd _ _ hm) U);have g:∀c E,(c=(bp (gA F a) m).2.1\/c=(bp (gA F a) m).2.2.1)->(c,E)∈(NN F a).2.2.2->bT (fp F a) E=true/\HW (fp F a) E (bp (gA F a) m).1=true:=λc E hc hd=>by
  refine⟨(h.sgn hd).2,?_⟩;unfold HW;by_cases hk:E<0;·rw[decide_eq_true hk];rfl
  ·have z:0<=c:=by have:=(h.sgn hd).1;omega
   obtain⟨_,_,_,_,f⟩:=h.fin hd z;rw[Hq f];obtain⟨b',s1,s2⟩:=(q3 c hc).2.2 z;rw[Hq (g:=gA F a) s1,decide_eq_true s2,Bool.or_true]
 obtain⟨J,M⟩:=g _ _ (.inl rfl) H;obtain⟨N,R⟩:=g _ _ (.inr rfl) f2;unfold K3;rw[if_neg,if_neg];·simp only[M,R];simp
 ·simp only[J,N];have:(a.1.length:Int)=((fp F a).1.length:Int):=rfl;simp only[reduceCtorEq,or_false,not_or];constructor<;>omega
theorem Red.dl{F:Nat}{a:eM}(h:Red F a){i j:Nat}{l:CP}(C:(fp F a).2.2.1[i]? =some l)(E:(fp F a).2.2.1[j]? =some l):i=j:=by
 obtain⟨m,z⟩:=h.v.inv.sl i (e_.1 C).1;obtain⟨n,hn⟩:=h.v.inv.sl j (e_.1 E).1;have N:m<0:=by have:=(h.sgn z).1;omega
 have R:n<0:=by have:=(h.sgn hn).1;omega
 have H:=(h.v.inv.lf _ _ z N).2;have I:=(h.v.inv.lf _ _ hn R).2;rw[show(-1 - (-1 - (i:Int))).toNat=i by omega]at H;rw[show(-1 - (-1 - (j:Int))).toNat=j by omega]at I;have J:(fp F a).2.2.1=(NN F a).2.2.1:=rfl;rw[J,H]at C;rw[J,I]at E;have M:=eD N (h.v.inv.kd _ _ z);have U:=eD R (h.v.inv.kd _ _ hn);rw[s_ C,<-s_ E]at M;have e:=zeI h.b.inv.ln M U;obtain rfl:m=n:=by omega
 have:=RN h.v.inv.kn z hn;omega
theorem Red.db{F:Nat}{a:eM}(h:Red F a){i j:Nat}{b:te}(hi:(fp F a).2.1[i]? =some b)(hj:(fp F a).2.1[j]? =some b):i=j:=by
 obtain⟨m,R,m0,ky,ko,U,f2,E⟩:=h.at hi;obtain⟨n,hn,n0,gc,el,z,C,H⟩:=h.at hj;rw[H]at E;simp only[Y_.injEq,and_true]at E;obtain⟨I,rfl,rfl⟩:=E;have J:=h.v.inv.ij _ _ _ U z;have M:=h.v.inv.ij _ _ _ f2 C;have N:=h.gbr (h.v.inv.kd _ _ R) m0;have Y:=h.gbr (h.v.inv.kd _ _ hn) n0;have e:bp (gA F a) m=bp (gA F a) n:=by generalize bp (gA F a) m=p at*;generalize bp (gA F a) n=q at*;obtain⟨p1,p2,p3,⟨⟩⟩:=p;obtain⟨q1,q2,q3,⟨⟩⟩:=q;simp only at I J M;rw[I,J,M]
 rw[e]at N;have e:=zeI h.b.inv.bn N Y;obtain rfl:m=n:=by omega
 have:=RN h.v.inv.kn R hn;omega
theorem Red.ne{F:Nat}{a:eM}(h:Red F a){i:Nat}{b:te}(C:(fp F a).2.1[i]? =some b):b.2.1≠b.2.2.1:=by obtain⟨m,E,I,ky,H,z,f2,rfl⟩:=h.at C;intro e;have e:ky=H:=e;subst e;exact(h.b.inv.bb _ _ (h.gbr (h.v.inv.kd _ _ E) I)).1 (h.v.inv.ij _ _ _ z f2)
theorem Red.sim1{F:Nat}{a:eM}(h:Red F a){res:Int->Bool}:∀{n m:Int} {K:Nat},Fol a res n m K->∀k,(n,k)∈(Oh F a).2.2.2->∃z C,Fol (gA F a) res k z C/\dv (gA F a) z=dv a m:=by
 intro n m K M;induction M with
 |leaf E=>intro k H;obtain⟨I,J⟩:=h.b.inv.lf _ _ H E;exact⟨k,0,.leaf I,LK (g:=gA F a) J⟩
 | @step n m K E _ N=>
  intro k H;obtain⟨ky,R,I,J,U⟩:=h.b.inv.br _ _ H E;have hc:(if res (bp a n).1=true then(bp a n).2.1 else(bp a n).2.2.1,if res (bp a n).1=true then ky else R)∈(Oh F a).2.2.2:=by
   split;·exact I
   ·exact J
  obtain⟨z,C,r1,r2⟩:=N _ hc;rcases U with⟨rfl,rfl⟩|⟨_,Y,q5⟩;·rw[ite_self]at r1;exact⟨z,C,r1,r2⟩
  ·refine⟨z,C+1,.step Y ?_,r2⟩;rw[Hq (g:=gA F a) q5];exact r1
theorem Red.sim2{F:Nat}{a:eM}(h:Red F a){res:Int->Bool}:∀{n m:Int} {K:Nat},Fol (gA F a) res n m K->∀k,(n,k)∈(NN F a).2.2.2->∃C E,Fol (fp F a) res k C E/\dv (fp F a) C=dv (gA F a) m:=by
 intro n m K M;induction M with
 |leaf H=>intro k z;obtain⟨I,J⟩:=h.v.inv.lf _ _ z H;exact⟨k,0,.leaf I,LK (g:=fp F a) J⟩
 | @step n m K H _ N=>
  intro k z;obtain⟨ky,R,I,J,U⟩:=h.fin z H;have hc:(if res (bp (gA F a) n).1=true then(bp (gA F a) n).2.1 else(bp (gA F a) n).2.2.1,if res (bp (gA F a) n).1=true then ky else R)∈(NN F a).2.2.2:=by
   split;·exact I
   ·exact J
  obtain⟨C,E,r1,r2⟩:=N _ hc;refine⟨C,E+1,.step (by have:=(h.sgn z).1;omega) ?_,r2⟩;rw[Hq U];exact r1
theorem Red.sim{F:Nat}{a:eM}(h:Red F a){res:Int->Bool}{m:Int}{K:Nat}(H:Fol a res a.2.2.2.1 m K):∃z C,Fol (fp F a) res (fp F a).2.2.2.1 z C/\dv (fp F a) z=dv a m:=by obtain⟨M,J,r1,r2⟩:=h.sim1 H _ h.b.mem;obtain⟨I,E,r3,r4⟩:=h.sim2 r1 _ h.v.mem;exact⟨I,E,r3,r4.trans r2⟩
theorem Fol.uniq{a:eM}{res:Int->Bool}:∀{n m C:Int} {K z:Nat},Fol a res n m K->Fol a res n C z->m=C/\K=z:=by
 intro n m C K z h;induction h generalizing C z with
 |leaf I=>intro h';cases h' with|leaf _=>exact⟨rfl,rfl⟩|step J _=>omega
 |step I _ N=>intro h';cases h' with|leaf J=>omega|step _ M=>obtain⟨E,H⟩:=N M;exact⟨E,by rw[H]⟩
theorem zjq{x:eM}(s:AutOk x)(hl:∀{i j:Nat} {l:CP},x.2.2.1[i]? =some l->x.2.2.1[j]? =some l->i=j)(T:∀{i j:Nat} {b:te},x.2.1[i]? =some b->x.2.1[j]? =some b->i=j)(H:∀{i:Nat} {b:te},x.2.1[i]? =some b->b.2.1≠b.2.2.1) {B:List te} {L:List CP} {D:FQ} (h:BI x B L D):∀(N:Nat) (n n' k:Int),mu x n<=N->mu x n'<=N->(n,k)∈D->(n',k)∈D->n=n':=by
 have get:∀{n:Int},bT x n=true->0<=n->x.2.1[n.toNat]? =some (bp x n):=λhn r=>by obtain⟨i,rfl,R⟩:=mw hn r;rw[iA R];exact c_ R
 intro N;induction N with
 |zero=>
  intro n n' k A w d c;have z:∀{n k:Int},mu x n<=0->(n,k)∈D->n<0:=λU hd=>x_ λr=>by have:=(tz s (h.kd _ _ hd) (by omega) _ (.inl rfl)).2;omega
  have u:=(h.lf _ _ d (z A d)).2;have f:=(h.lf _ _ c (z w c)).2;have v:=eD (z A d) (h.kd _ _ d);have g:=eD (z w c) (h.kd _ _ c);rw[u]at f;rw[<-s_ f]at g;have:=hl v g;have:=z A d;have:=z w c;omega
 |succ N I=>
  intro n n' k A w d c;have br:∀{n k:Int},mu x n<=N+1->(n,k)∈D->0<=n->0<=k/\∃ky y,((bp x n).2.1,ky)∈D/\((bp x n).2.2.1,y)∈D/\B[k.toNat]? =some ((bp x n).1,ky,y,()):=λU hd r=>by
   obtain⟨ky,y,E,F,P⟩:=h.br _ _ hd r;rcases P with⟨rfl,_⟩|⟨_,q4,q5⟩;·have l1:=(tz s (h.kd _ _ hd) r _ (.inl rfl)).2;have l2:=(tz s (h.kd _ _ hd) r _ (.inr rfl)).2;exact absurd (I _ _ _ (by omega) (by omega) E F) (H (get (h.kd _ _ hd) r))
   ·exact⟨q4,ky,y,E,F,q5⟩
  by_cases J:n<0
  ·have k0:=(h.lf _ _ d J).1;have a:n'<0:=x_ λY=>by have:=(br w c (by omega)).1;omega
   have u:=(h.lf _ _ d J).2;have f:=(h.lf _ _ c a).2;have v:=eD J (h.kd _ _ d);have g:=eD a (h.kd _ _ c);rw[u]at f;rw[<-s_ f]at g;have:=hl v g;omega
  ·obtain⟨k0,ky,y,E,F,P⟩:=br A d (by omega);have a:0<=n':=x_ λY=>by have:=(h.lf _ _ c (by omega)).1;omega
   obtain⟨_,gc,el,M,O,C⟩:=br w c a;rw[P]at C;have e:=s_ C;simp only[Y_.injEq,and_true]at e;obtain⟨u,rfl,rfl⟩:=e;have l1:=(tz s (h.kd _ _ d) (by omega) _ (.inl rfl)).2;have l2:=(tz s (h.kd _ _ d) (by omega) _ (.inr rfl)).2;have ph:=(tz s (h.kd _ _ c) a _ (.inl rfl)).2;have qr:=(tz s (h.kd _ _ c) a _ (.inr rfl)).2;have f:=I _ _ _ (by omega) (by omega) E M;have Q:=I _ _ _ (by omega) (by omega) F O;have v:=get (h.kd _ _ d) (by omega);have g:=get (h.kd _ _ c) a;have e:bp x n=bp x n':=by generalize bp x n=p at*;generalize bp x n'=q at*;obtain⟨p1,p2,p3,⟨⟩⟩:=p;obtain⟨r1,r2,r3,⟨⟩⟩:=q;simp only at u f Q;rw[u,f,Q]
   rw[e]at v;have:=T v g;omega
theorem zj6{F:Nat}(B:4100<=F){a:eM}(H:AutOk a):fp F (fp F a)=fp F a:=by
 have h:=Se B H;have l:=Se B h.aut;have inj:∀n n' k,(n,k)∈(Oh F (fp F a)).2.2.2->(n',k)∈(Oh F (fp F a)).2.2.2->n=n':=λn n' k b c=>zjq h.aut h.dl h.db h.ne l.b.inv (max (mu (fp F a) n) (mu (fp F a) n')) n n' k (by omega) (by omega) b c;let t:Int->Int:=λn=>(lk (Oh F (fp F a)).2.2.2 ((lk (NN F a).2.2.2 n).getD 0)).getD 0;let S:Int->Prop:=λn=>∃k j,(n,k)∈(NN F a).2.2.2/\(k,j)∈(Oh F (fp F a)).2.2.2;have f:∀{n k j},(n,k)∈(NN F a).2.2.2->(k,j)∈(Oh F (fp F a)).2.2.2->t n=j:=λb c=>by show(lk _ ((lk _ _).getD 0)).getD 0=_;rw[Ol h.v.inv.kn b,Q_,Ol l.b.inv.kn c,Q_]
 have d:=zkc (g:=gA F a) (g':=gA F (fp F a)) (t:=t) (S:=S) (λm n ⟨k,j,b,c⟩ ⟨N,M,s,u⟩ e=>by
  rw[f b c,f s u]at e;subst e;have:=inj _ _ _ c u;subst this;exact h.v.inv.ij _ _ _ b s) (λn ⟨k,j,b,c⟩ x=>by
  rw[f b c];obtain⟨p,r⟩:=h.v.inv.lf _ _ b x;obtain⟨v,y⟩:=l.b.inv.lf _ _ c p;exact⟨v,(LK (g:=gA F (fp F a)) y).trans (LK (g:=fp F a) r)⟩) (λn ⟨k,j,b,c⟩ x=>by
  rw[f b c];have I:0<=k:=by have:=(h.sgn b).1;omega
  obtain⟨ky,J,z,f2,A⟩:=h.fin b x;obtain⟨D,C,p,r,v⟩:=l.b.inv.br _ _ c I;rw[Hq A]at p r v;have E:t (bp (gA F a) n).2.1=D:=f z p;have w:t (bp (gA F a) n).2.2.1=C:=f f2 r;rcases v with⟨rfl,_⟩|⟨_,y,L⟩;·exact absurd (inj _ _ _ p r) (h.ne A)
  ·refine⟨y,⟨ky,D,z,p⟩,⟨J,C,f2,r⟩,?_⟩;rw[E,w];exact Hq (g:=gA F (fp F a)) L) F (Oh F a).1 ([],[],[]) ⟨_,_,h.v.mem,l.b.mem⟩ (λ_ _ h=>by cases h)
 have e:t (Oh F a).1=(Oh F (fp F a)).1:=f h.v.mem l.b.mem;have d:=d.1;rw[e]at d;have w:NN F (fp F a)=((NN F a).1,(NN F a).2.1,(NN F a).2.2.1,ren t (NN F a).2.2.2):=d;show((fp F a).1,(NN F (fp F a)).2.1,(NN F (fp F a)).2.2.1,(NN F (fp F a)).1,())=_;rw[w];rfl
open Go Go.Av Go.Ev
open Classical in
noncomputable def zbD(d:DF):DF:=if Good d then(d.1,d.2.1,d.2.2.1.map (!·),d.2.2.2.1,())else([],[],[],0,())
theorem HH{d:DF}(h:Good d):zbD d=(d.1,d.2.1,d.2.2.1.map (!·),d.2.2.2.1,()):=by unfold zbD;rw[if_pos h]
theorem zhv{d:DF}(h:Good d):Good (zbD d):=by rw[HH h];have:=h.small;exact⟨h.starts,by unfold Big at this⊢;simpa using this,⟨h.len.1,by simpa using h.len.2⟩,h.rows,h.start,h.to⟩
theorem VR(d:DF):aE tbl BR [.d (pr [.list tI,.list (.list tI),.list tB,tI]) d] [] tX (zbD d,()):=by
 refine ap rfl (aB zgu rfl (λO n=>zgz O n d) ?_);unfold VS;refine ak (Fw d) (ar (λh=>aa ?_) λh=>?_)
 ·have:¬Good d:=λhg=>by rw[good_iff.2 hg]at h;simp at h
  rw[show zbD d=([],[],[],0,())from by unfold zbD;rw[if_neg this]]
 have hg:Good d:=good_iff.1 (by simpa using h);have hl:=LD hg;have hn:=hg.len;refine aI (decide_eq_true (by simp;omega)) ?_;refine ae (cp (N:=d.2.1.length) (I:=λi s=>s=((i:Int),(0:Int),([]:List Int)++d.1,d.2.2.2.1,d.2.1.take i,(d.2.2.1.take i).map (!·),())) (by simp) ?_ ?_)
 ·rintro i s a rfl;have b:i<d.2.2.1.length:=by omega
  unfold FP;have hr:=hg.rows _ (v_ a);refine bo a (aG a (aI (decide_eq_true (by simp;omega)) (aI (decide_eq_true (by simp;omega)) (aG b (aI (decide_eq_true (by simp;omega)) (aa ?_))))));simp only[aD a (by omega),List.take_add_one,c_ a,c_ b,z_,Option.toList_some,I_,U_,r_]
 ·rintro s rfl;unfold FP;refine aZ (aa (aa ?_));rw[HH hg];simp only[List.take_length,r_];rw[L_ (by omega)]
theorem zfY{d:DF}(h:Good d):zbD (zbD d)=d:=by rw[HH (zhv h),HH h];refine X_ rfl (X_ rfl (X_ ?_ rfl));simp only[List.map_map];exact(List.map_congr_left λx _=>by simp).trans (List.map_id _)
theorem YM{α ρ β d:Type}{xs:List α}{p:α->Bool}{enc:Nat->ρ}{oB:Nat->β}{oE:d}{body:Nat->ρ->Option (ρ⊕β⊕d)}{Q:β⊕d->Prop} (h:∀i (c:i<xs.length),Wp (λn=>body n (enc i)) λr=>r=if p xs[i]=true then .inr (.inl (oB i))else .inl (enc (i+1))) (f:Wp (λn=>body n (enc xs.length)) λr=>r= .inr (.inr oE)) (b:Q (match xs.findIdx? p with|some i=>.inl (oB i)|none=>.inr oE)):Wp (λn=>aR n (body n) (enc 0)) Q:=by
 refine cp (N:=xs.length) (I:=λi s=>s=enc i/\∀j (a:j<xs.length),j<i->¬p xs[j]=true) ⟨rfl,λj _ h=>by omega⟩ (λi s c hs=>?_) λs hs=>?_
 ·obtain⟨rfl,hd⟩:=hs;refine Go.Ev.wp_mono (h i c) λr hr=>?_;by_cases hp:p xs[i]=true;·rw[if_pos hp]at hr;subst hr;have e:xs.findIdx? p=some i:=o_.2 ⟨c,hp,λj a=>hd j (by omega) a⟩;rw[e]at b;exact b
  ·rw[if_neg hp]at hr;subst hr;refine⟨rfl,λj a g=>?_⟩;by_cases e:j=i;·subst e;exact hp
   ·exact hd j a (by omega)
 ·obtain⟨rfl,hd⟩:=hs;refine Go.Ev.wp_mono f λr hr=>?_;subst hr;have e:xs.findIdx? p=none:=p_.2 λx k=>by obtain⟨j,a,rfl⟩:=N_.1 k;simpa using hd j a a
  rw[e]at b;exact b
theorem qW{α β:Type}{xs:List α}{i:Int}{x:α}{f:Nat->α->Option β}{Q:β->Prop}(b:0<=i)(a:xs[i.toNat]? =some x)(c:Wp (λn=>f n x) Q):Wp (λn=>W_ (aT xs i) λ_=>W_ xs[T_ i]? (f n)) Q:=mU b a (NM a c)
def Nr:Nat->List te->List (te×Int)
 |_,[]=>[]
 |k,b::l=>(b,(k:Int))::Nr (k+1) l
abbrev LO(B:List te):List (te×Int):=Nr 0 B
theorem zbG:∀(k:Nat) (B:List te),(Nr k B).length=B.length
 |_,[]=>rfl
 |k,b::l=>by rw[Nr,j_,zbG];rfl
theorem zbF(b:te):∀(k:Nat) (B:List te),iD MG tI (Nr k B) b=(B.findIdx? λx=>decide (x=b)).map λi=>((i+k:Nat):Int)
 |_,[]=>rfl
 |k,c::l=>by
  show(bif iX MG b c then some (k:Int)else iD MG tI (Nr (k+1) l) b)=_;rw[za9,List.findIdx?_cons,zbF b (k+1) l];by_cases e:b=c;·subst e;simp
  ·rw[decide_eq_false e,decide_eq_false λx=>e x.symm];simp only[cond_false,Bool.false_eq_true,if_false,Option.map_map];congr 1;funext i;show(((i+(k+1):Nat)):Int)=((i+1+k:Nat):Int);omega
theorem zbH(b:te)(v:Int):∀(k:Nat) (B:List te),b∉B->vC MG tI (Nr k B) b v=Nr k B++[(b,v)]
 |_,[],_=>rfl
 |k,c::l,h=>by rw[O_,not_or]at h;show(bif iX MG b c then _ else _)=_;rw[za9,decide_eq_false h.1,cond_false,zbH b v (k+1) l h.2];rfl
theorem zbE(b:te):∀(k:Nat) (B:List te),Nr k (B++[b])=Nr k B++[(b,((k+B.length:Nat):Int))]
 |k,[]=>rfl
 |k,c::l=>by show(c,(k:Int))::Nr (k+1) (l++[b])=(c,(k:Int))::(Nr (k+1) l++[(b,_)]);rw[zbE b (k+1) l,j_];congr 5;omega
theorem kvS(n k:Int):∀(D:FQ),(∀k,(n,k)∉D)->vC tI tI D n k=D++[(n,k)]
 |[],_=>rfl
 |(a,b)::l,h=>by
  have c:n≠a:=λe=>h b (by rw[e];exact A_ ..);show(bif iX tI n a then _ else _)=_;have:iX tI n a=decide (n=a):=by rw[R_];simp[iX]
  rw[this,decide_eq_false c,cond_false,kvS n k l λk d=>h k (k_ _ d)];rfl
theorem zjS(x:HL q_compile_table_leaf_rd.sl):nU q_compile_table_leaf_rd (ej q_compile_table_leaf_rd x)=some x:=by kernel_rfl
theorem zf8(x:HL q_compile_table_branch_rddd.sl):nU q_compile_table_branch_rddd (ej q_compile_table_branch_rddd x)=some x:=by kernel_rfl
theorem zic(x:HL q_compile_walk_visit_rd.sl):nU q_compile_walk_visit_rd (ej q_compile_walk_visit_rd x)=some x:=by kernel_rfl
theorem zbO(x:HL q_compile_numbered_rd.sl):nU q_compile_numbered_rd (ej q_compile_numbered_rd x)=some x:=by kernel_rfl
theorem zjU(x:HL q_compile_Reduce_1_drrrr.sl):nU q_compile_Reduce_1_drrrr (ej q_compile_Reduce_1_drrrr x)=some x:=by kernel_rfl
theorem zib(x:HL q_compile_newTable.sl):nU q_compile_newTable (ej q_compile_newTable x)=some x:=by kernel_rfl
abbrev bxT(B:List te)(L:List CP):List Ob:=[.box aM [.sl 1,.mp 2,.sl 3],.vec aj MG B,.map aj aU MG tI (LO B),.vec aw Kx L]
theorem W8(B:List te)(L:List CP)(l:CP)(b:∀x∈L,okD Kx x)(hl:L.length<=1000000):aE tbl fF [.ptr 0 0,.d Kx l] (bxT B L) q_compile_table_leaf_rd ((lA L l).1,B,LO B,(lA L l).2,()):=by
 refine ap (zjS _) (aB Cu rfl (λO n=>CI O n l B (LO B) L) ?_);unfold qX;refine ae (YM (xs:=L) (p:=λx=>decide (x=l)) (enc:=λi=>((i:Int),B,LO B,L,())) (oB:=λi=>(-1 - (i:Int),B,LO B,L,())) (oE:=(B,LO B,L,())) (λi a=>?_) ?_ ?_)
 ·unfold iR;refine bo a (qW (by omega) (by rw[d_];exact c_ a) (ak (xR _ l (b _ (v_ a))) (ar (λh=>aa ?_) λh=>aa ?_)));·rw[if_pos h,wrap_i64 (by omega) (by omega)]
  ·rw[if_neg (t_.1 h),aD a (by omega)]
 ·unfold iR;exact aZ (aa rfl)
 ·unfold lA;cases L.findIdx? (λx=>decide (x=l))with|some i=>exact aa rfl|none=>refine aI (decide_eq_true (by simp only[a_];omega)) (aa ?_);simp only[b_,a_];rw[wrap_i64 (by omega) (by omega)];rw[show(0 - ((L.length+1:Nat):Int))= -((L.length:Int)+1) by omega]
theorem Qu(B:List te)(L:List CP)(t y o:Int)(hl:B.length<=1000000):aE tbl dS [.ptr 0 0,.d tI t,.d tI y,.d tI o] (bxT B L) q_compile_table_branch_rddd ((pU B (t,y,o,())).1,(pU B (t,y,o,())).2,LO (pU B (t,y,o,())).2,L,()):=by
 refine ap (zf8 _) (aB xE rfl (λO n=>xG O n t y o B (LO B) L) ?_);unfold mV pU;refine ar (λh=>aa ?_) λh=>?_;·rw[if_pos (by simpa using h)]
 rw[if_neg (by simpa using h),zbF];cases e:B.findIdx? (λx=>decide (x=(t,y,o,())))with
 |some i=>exact ae (aA rfl (aa (aa rfl)))|none=>
  have hn:(t,y,o,())∉B:=λb=>by have:=p_.1 e _ b;simp at this
  refine ae (aL rfl (aI (decide_eq_true ?_) (aI (decide_eq_true (by simp only[a_];omega)) (aa (aa ?_)))));·rw[zbG];show B.length<9223372036854775807;omega
  ·have a:LO (B++[(t,y,o,())])=LO B++[((t,y,o,()),(B.length:Int))]:=by show Nr 0 _=_;rw[zbE,Nat.zero_add]
   simp only;rw[zbH _ _ _ _ hn,a]
theorem zfx{a:eM}(d:AutOk a){n:Int}{s:Kw}{Y O:Int×Kw}(hn:bT a n=true)(c:0<=n)(e:∀k,(n,k)∉s.2.2)(y:BldR a (bp a n).2.1 s Y)(o:BldR a (bp a n).2.2.1 Y.2 O):∀k,(n,k)∉O.2.2.2:=λk b=>by
 have f:=tz d hn c _ (.inl rfl);have g:=tz d hn c _ (.inr rfl);rcases o.new _ b with b|b
 ·rcases y.new _ b with b|b;·exact e k b
  ·simp only at b;omega
 ·simp only at b;omega
theorem Nj:∀D:FQ,D.length=(D.filter λp=>decide (0<=p.1)).length+(D.filter λp=>decide (p.1<0)).length
 |[]=>rfl
 |(n,k)::l=>by
  have:=Nj l;by_cases h:0<=n;·rw[i_ (by simpa using h),J_ (by simpa using h)];simp only[j_];omega
  ·rw[J_ (by simpa using h),i_ (by simpa using h)];simp only[j_];omega
theorem BI.small{a:eM}(z:AutOk a){B:List te}{L:List CP}{D:FQ}(h:BI a B L D):B.length<=4096/\L.length<=4096/\D.length<=8192:=by have C:=K8 h.kn h.kd;have E:=P6 h.kn h.kd;have H:=z.l2;have I:=z.l3;have J:=h.cb;have M:=h.cl;have N:=Nj D;omega
theorem RP{a:eM}{n:Int}(b:AutOk a)(hn:bT a n=true)(c:n<0):K_ .i64 ((-1:Int) - n)= -1 - n/\0<=-1 - n:=by have:=nodeB_of.1 hn;have:=b.l3;exact⟨wrap_i64 (by omega) (by omega),by omega⟩
abbrev zme(a:eM)(s:Kw):List Ob:=[.box mI [.mp 4],.box bX [.ptr 5 0],.box eB [.d (.list MH) a.1,.d (.list MG) a.2.1,.d (.list Kx) a.2.2.1,.d tI a.2.2.2.1],.box BY [.clo dH [0,1,2,3]],.map aU aU tI tI s.2.2,.box aM [.sl 6,.mp 7,.sl 8],.vec aj MG s.1,.map aj aU MG tI (LO s.1),.vec aw Kx s.2.1]
theorem zkE{a:eM}(w:okD wu a)(d:AutOk a):∀(f:Nat) (n:Int) (s:Kw),bT a n=true->mu a n<f->BIs a s->aE tbl bJ [.d tI n,.ptr 0 0,.ptr 1 0,.ptr 2 0,.ptr 3 0] (zme a s) q_compile_Reduce_1_drrrr ((xf a f n s).1,a.1,a.2.1,a.2.2.1,a.2.2.2.1,(xf a f n s).2.2.2,(xf a f n s).2.1,LO (xf a f n s).2.1,(xf a f n s).2.2.1,()):=by
 intro f;induction f with
 |zero=>intro n s _ z;omega|succ f p=>
  intro n s hn z hs;refine ap (zjU _) (aB BD rfl (λO m=>BF O m n a.1 a.2.1 a.2.2.1 a.2.2.2.1 s.2.2 s.1 (LO s.1) s.2.1) ?_);unfold pK xf;obtain⟨H,I,J⟩:=hs.small d;have v:iD tI tI s.2.2 n=lk s.2.2 n:=rfl;rw[v];cases e:lk s.2.2 n with
  |some k=>exact aL rfl (aa rfl)|none=>
   have g:=DJ e;refine aA rfl ?_;by_cases c:n<0
   ·simp only[if_pos c];obtain⟨B,C⟩:=RP d hn c;rw[B];refine ae (aL (decide_eq_true c) (mU C (eD c hn) (ak (W8 _ _ _ (λx A=>w.2.2.1.2 x (hs.ll x A)) (by omega)) (aI (decide_eq_true ?_) (aa (aa ?_))))));·show s.2.2.length<9223372036854775807;omega
    ·simp only;rw[kvS n _ _ g];have:=Ol (yu hs.kn g) (show(n,(lA s.2.1 (dv a n)).1)∈s.2.2++[(n,(lA s.2.1 (dv a n)).1)] by simp);rw[show iD tI tI (s.2.2++[(n,(lA s.2.1 (dv a n)).1)]) n=some (lA s.2.1 (dv a n)).1 from this];rfl
   ·simp only[if_neg c];have c:0<=n:=by omega
    have r:=tz d hn c _ (.inl rfl);have u:=tz d hn c _ (.inr rfl);obtain⟨i,rfl,l⟩:=mw hn c;have y:=QU d f _ s r.1 (by omega) hs;have j:=p _ s r.1 (by omega) hs;have b:∀O:Int×Kw,BldR a (bp a i).2.2.1 (xf a f (bp a i).2.1 s).2 O->∀k,((i:Int),k)∉O.2.2.2:=λO o=>zfx d hn c g y o;generalize xf a f (bp a i).2.1 s=Y at y j b;have o:=QU d f _ Y.2 u.1 (by omega) y.inv;have h:=p _ Y.2 u.1 (by omega) y.inv;have b:=b _ o;generalize xf a f (bp a i).2.2.1 Y.2=O at o h b;obtain⟨D,E,F⟩:=o.inv.small d;refine ae (aA (decide_eq_false (by omega)) (aG l ?_));rw[<-iA l];refine ak j (ak h (ak (Qu O.2.1 O.2.2.1 (bp a i).1 Y.1 O.1 (by omega)) (aI (decide_eq_true ?_) (aa (aa ?_)))));·show O.2.2.2.length<9223372036854775807;omega
    ·simp only;rw[kvS (i:Int) _ _ b];have:=Ol (yu o.inv.kn b) (show((i:Int),(pU O.2.1 ((bp a i).1,Y.1,O.1,())).1)∈O.2.2.2++[((i:Int),(pU O.2.1 ((bp a i).1,Y.1,O.1,())).1)] by simp);rw[show iD tI tI (O.2.2.2++[((i:Int),(pU O.2.1 ((bp a i).1,Y.1,O.1,())).1)]) (i:Int)=some _ from this];rfl
structure GOk(g:eM):Prop where
 low:Low g
 l2:g.2.1.length<=4096
 l3:g.2.2.1.length<=4096
 ac:∀l∈g.2.2.1,l.2.1.length<=1048576
theorem VI.small{g:eM}(hg:GOk g){B:List te}{L:List CP}{D:FQ}(h:VI g B L D):B.length<=4096/\L.length<=4096/\D.length<=8192:=by have z:=K8 h.kn h.kd;have C:=P6 h.kn h.kd;have E:=hg.l2;have H:=hg.l3;have I:=h.cb;have J:=h.cl;have M:=Nj D;omega
theorem zbq{g:eM}{n:Int}(hg:GOk g)(hn:bT g n=true)(a:n<0):K_ .i64 ((-1:Int) - n)= -1 - n/\0<=-1 - n/\(dv g n).2.1.length<=1048576:=by have:=nodeB_of.1 hn;have:=hg.l3;exact⟨wrap_i64 (by omega) (by omega),by omega,hg.ac _ (u_ (eD a hn))⟩
theorem zcC{g:eM}{b:te}{s:Kw}{p:Int×Kw}{m c:Int}{D:FQ}{Y O:Int×Kw}(y:VisR g m (s.1++[b],s.2.1,D) Y)(o:VisR g c Y.2 O):s.1.length<O.2.1.length/\O.2.1[s.1.length]? =some b:=by have a:=y.len;have d:=o.len;simp only[b_,a_]at a;refine⟨by omega,?_⟩;rw[o.old _ (by omega),y.old _ (by simp only[b_,a_];omega)];simp
abbrev bxV(g:eM)(N:List (te×Int))(v:Int)(T:List HV)(s:Kw):List Ob:=[.box fa [.ptr 1 0,.mp 2,.sl 3,.sl 4,.sl 5,.d tI v],.box aM [.sl 6,.mp 7,.sl 8],.map aU aU tI tI s.2.2,.vec bB MH T,.vec aj MG s.1,.vec aw Kx s.2.1,.vec aj MG g.2.1,.map aj aU MG tI N,.vec aw Kx g.2.2.1]
theorem zjc{g:eM}(hg:GOk g)(N:List (te×Int))(v:Int)(T:List HV):∀(f:Nat) (n:Int) (s:Kw),bT g n=true->(n+1).toNat<f->VI g s.1 s.2.1 s.2.2->aE tbl cR [.ptr 0 0,.d tI n] (bxV g N v T s) q_compile_walk_visit_rd ((nA g f n s).1,v,(nA g f n s).2.2.2,T,(nA g f n s).2.1,(nA g f n s).2.2.1,g.2.1,N,g.2.2.1,()):=by
 intro f;induction f with
 |zero=>intro n s _ z;omega|succ f j=>
  intro n s hn z hs;refine ap (zic _) (aB Cv rfl (λO m=>CJ O m n v s.2.2 T s.1 s.2.1 g.2.1 N g.2.2.1) ?_);unfold qY nA;obtain⟨D,E,F⟩:=hs.small hg;have u:iD tI tI s.2.2 n=lk s.2.2 n:=rfl;rw[u];cases e:lk s.2.2 n with
  |some k=>exact aL rfl (aa rfl)|none=>
   have b:=DJ e;refine aA rfl ?_;by_cases a:n<0
   ·simp only[if_pos a];obtain⟨A,B,C⟩:=zbq hg hn a;rw[A];refine aL (decide_eq_true a) (qW B (eD a hn) (aI (decide_eq_true (by simp only[m_];omega)) (aI (decide_eq_true (by simp only[a_];omega)) (aI (decide_eq_true ?_) (aa ?_)))));·show s.2.2.length<9223372036854775807;omega
    ·simp only[r_,b_,a_];have w:K_ .i64 (0 - ((s.2.1.length+1:Nat):Int))= -((s.2.1.length:Int)+1):=by rw[wrap_i64 (by omega) (by omega)];omega
     rw[w,kvS n _ _ b];have:=Ol (yu hs.kn b) (show(n,-((s.2.1.length:Int)+1))∈s.2.2++[(n,-((s.2.1.length:Int)+1))] by simp);rw[show iD tI tI (s.2.2++[(n,-((s.2.1.length:Int)+1))]) n=some _ from this];rfl
   ·simp only[if_neg a];have a:0<=n:=by omega
    have l:=hg.low.kids hn a _ (.inl rfl);have r:=hg.low.kids hn a _ (.inr rfl);obtain⟨i,rfl,h⟩:=mw hn a;have hp:=hs.push a hn b ((bp g i).1,0,0,());have y:=SQ hg.low f _ (s.1++[((bp g i).1,0,0,())],s.2.1,s.2.2++[((i:Int),(s.1.length:Int))]) l.1 (by omega) hp;have d:=j _ (s.1++[((bp g i).1,0,0,())],s.2.1,s.2.2++[((i:Int),(s.1.length:Int))]) l.1 (by omega) hp;generalize nA g f (bp g i).2.1 (s.1++[((bp g i).1,0,0,())],s.2.1,s.2.2++[((i:Int),(s.1.length:Int))])=Y at y d;have o:=SQ hg.low f _ Y.2 r.1 (by omega) y.inv;have c:=j _ Y.2 r.1 (by omega) y.inv;generalize nA g f (bp g i).2.2.1 Y.2=O at o c;obtain⟨l1,l2⟩:=zcC (p:=O) y o;refine aA (decide_eq_false (by omega)) (aI (decide_eq_true ?_) (qW (x:=bp g i) (by omega) ?_ (aI (decide_eq_true (by simp only[a_];omega)) ?_)));·show s.2.2.length<9223372036854775807;omega
    ·rw[d_,iA h];exact c_ h
    rw[kvS (i:Int) _ _ b];refine ak d (ak c (qW (x:=((bp g i).1,0,0,())) (by omega) (by rw[d_];exact l2) ?_));simp only[d_];refine qW (x:=((bp g i).1,Y.1,0,())) (by omega) (by rw[d_,B_ l1]) (aa ?_);simp only[V_]
theorem zcY{g:eM}(hg:GOk g)(r:Int)(hr:bT g r=true){F:Nat}(a:4100<=F)(N:List (te×Int)): aE tbl iG [.ptr 0 0,.d tI r] [.box aM [.sl 1,.mp 2,.sl 3],.vec aj MG g.2.1,.map aj aU MG tI N,.vec aw Kx g.2.2.1] q_compile_numbered_rd (([],(nA g F r ([],[],[])).2.1,(nA g F r ([],[],[])).2.2.1,(nA g F r ([],[],[])).1,()),g.2.1,N,g.2.2.1,()):=by refine ap (zbO _) (aB Fb rfl (λO m=>Fj O m r g.2.1 N g.2.2.1) ?_);unfold tf;have:=(nodeB_of.1 hr).1;have:=hg.l2;exact ak (zjc hg N 0 [] F r ([],[],[]) hr (by omega) (VI.nil g)) (aa rfl)
theorem zfM{t:HV}(h:xF t=0)(a:t.1=2):Good t.2.2.2.2.1:=by
 unfold xF at h;rw[if_neg (by omega)]at h;split at h;·cases h
 split at h;·cases h
 exact good_iff.1 (by simpa[a]using h)
theorem Z0(l:List HV)(hl:l.length<=2000)(e:∀t∈l,xF t=0):aE tbl kh [.d (.list MH) l] [] gG (l,()):=by
 refine ap rfl (aB Ik rfl (λO m=>Iz O m l) ?_);unfold wy;refine ae (cp (N:=l.length) (I:=λi s=>s=((i:Int),l.take i,())) rfl (λi s b hs=>?_) λs hs=>?_)
 ·subst hs;unfold mO;have a:=e _ (v_ b);have d:l[i].2.2.2.1.length<=64/\l[i].2.2.2.2.2.1.length<=64:=by
   unfold xF at a;split at a;·cases a
   split at a;·cases a
   split at a;·cases a
   ·omega
  have e:(l.take i).length<=2000:=by rw[List.length_take];omega
  have f:(([]:List VU).length+l[i].2.2.2.1.length)*40<=140737488355328:=by simp only[m_];omega
  have g:(([]:List CRU).length+l[i].2.2.2.2.2.1.length)*24<=140737488355328:=by simp only[m_];omega
  refine bo b (aG b (aI (decide_eq_true f) (aI (decide_eq_true g) ?_)));refine ae (Wp.imp (Q:=λr=>r=(l.take i,l[i].1,l[i].2.1,l[i].2.2.1.1,l[i].2.2.1.2.1,l[i].2.2.2.2.1.1,l[i].2.2.2.2.1.2.1,l[i].2.2.2.2.1.2.2.1,l[i].2.2.2.2.1.2.2.2.1,l[i].2.2.2.1,l[i].2.2.2.2.2.1,())) ?_ λr hr=>?_);·refine ar (λc=>?_) λc=>aa (by simp only[r_]);have hg:=zfM a (by simpa using c);refine ak (VR _) (ak (VR _) (aa ?_));rw[zfY hg];simp only[r_]
  subst hr;refine aI (decide_eq_true (by simp only[a_];omega)) (aa ?_);simp only;rw[aD b (by omega),<-List.take_append_getElem b]
 ·subst hs;unfold mO;refine aZ (aa (aa ?_));rw[L_ (F_ _)]
noncomputable def US(F:Nat)(a:eM):eM×Int×Unit:=if kT a≠0 then(([],[],[],0,()),kT a,())else(fp F a,0,())
theorem zcX:aE tbl lV [] [] q_compile_newTable ([],()):=ap (zib _) (aB Km rfl (λO m=>Ks O m) (aa rfl))
theorem Red.gok{F:Nat}{a:eM}(h:Red F a)(z:∀l∈a.2.2.1,l.2.1.length<=1048576):GOk (gA F a):=⟨h.low,(h.b.inv.small h.ok).1,(h.b.inv.small h.ok).2.1,λl hl=>z l (h.b.inv.ll l hl)⟩
theorem BH{F:Nat}(d:4100<=F){a:eM}(e:okD wu a)(f:∀l∈a.2.2.1,l.2.1.length<=1048576):aE tbl eZ [.d wu a] [] di (US F a):=by
 refine ap rfl (aB ND rfl (λO m=>NP O m a) ?_);unfold BN;refine ak (qn a e) (ar (λb=>aa ?_) λb=>?_);·rw[show US F a=(([],[],[],0,()),kT a,())from if_pos (by simpa using b)]
 have b:kT a=0:=by simpa using b
 rw[show US F a=(fp F a,0,())from if_neg (not_not_intro b)];have c:=PZ b;have h:=Se d c;have g:mu a a.2.2.2.1<=a.1.length:=by unfold mu;split<;>omega
 have:=c.l1;refine ak zcX (ak (zkE e c F a.2.2.2.1 ([],[],[]) c.rt (by omega) (BI.nil a)) ?_);exact ak (zcY (h.gok f) (Oh F a).1 h.nd d (LO (Oh F a).2.1)) (ak (Z0 a.1 c.l1 c.ts) (aa rfl))
theorem X7(n:Int):∀D:FQ,lk D n=(D.find? λq=>q.1==n).map (·.2)
 |[]=>rfl
 |(a,b)::l=>by
  rw[HF,List.find?_cons,X7 n l];by_cases e:n=a;·subst e;simp
  ·rw[if_neg e,show((a,b).1==n)=false from beq_eq_false_iff_ne.2 λx=>e x.symm]
theorem zjR(x:HL q_ref22_memo_find_rd.sl):nU q_ref22_memo_find_rd (ej q_ref22_memo_find_rd x)=some x:=by kernel_rfl
theorem zh8(x:HL q_ref22_memo_find_rd_v1.sl):nU q_ref22_memo_find_rd_v1 (ej q_ref22_memo_find_rd_v1 x)=some x:=by kernel_rfl
theorem zk6(x:HL q_ref22_memo_put_rdd.sl):nU q_ref22_memo_put_rdd (ej q_ref22_memo_put_rdd x)=some x:=by kernel_rfl
theorem zjT(x:HL q_ref22_memo_put_rdd_v1.sl):nU q_ref22_memo_put_rdd_v1 (ej q_ref22_memo_put_rdd_v1 x)=some x:=by kernel_rfl
theorem zia(x:HL q_ref22_store_leaf_rd.sl):nU q_ref22_store_leaf_rd (ej q_ref22_store_leaf_rd x)=some x:=by kernel_rfl
theorem zh9(x:HL q_ref22_store_branch_rd.sl):nU q_ref22_store_branch_rd (ej q_ref22_store_branch_rd x)=some x:=by kernel_rfl
theorem zf9(x:HL q_ref22_store_copied_rddr.sl):nU q_ref22_store_copied_rddr (ej q_ref22_store_copied_rddr x)=some x:=by kernel_rfl
theorem zjV(x:HL q_ref22_numbering_walk_rd.sl):nU q_ref22_numbering_walk_rd (ej q_ref22_numbering_walk_rd x)=some x:=by kernel_rfl
theorem zk4(x:HL q_ref22_store_finished_rdd.sl):nU q_ref22_store_finished_rdd (ej q_ref22_store_finished_rdd x)=some x:=by kernel_rfl
abbrev mF(D:FQ):List Int:=D.map (·.1)
abbrev mT(D:FQ):List Int:=D.map (·.2)
theorem zhI{D:FQ}{i:Nat}(h:i<D.length):(mF D)[i]? =some D[i].1:=by rw[P_,c_ h];rfl
theorem zhJ{D:FQ}{i:Nat}(h:i<D.length):(mT D)[i]? =some D[i].2:=by rw[P_,c_ h];rfl
theorem zkC(D:FQ)(n:Int)(hl:D.length<=1000000):aE tbl jl [.ptr 0 0,.d tI n] [.box bO [.sl 1,.sl 2],.vec aU tI (mF D),.vec aU tI (mT D)] q_ref22_memo_find_rd ((lk D n).getD 0,(lk D n).isSome,mF D,mT D,()):=by
 refine ap (zjR _) (aB G4 rfl (λO m=>Hl O m n (mF D) (mT D)) ?_);unfold vo;rw[X7];refine ae (zcE (xs:=D) (p:=λq=>q.1==n) (enc:=λi=>((i:Int),mF D,mT D,())) (g:=λq=>(q.2,true,mF D,mT D,())) (e:=(mF D,mT D,())) (λi a=>?_) ?_ ?_)
 ·unfold lT;refine aL (decide_eq_true (by rw[l_];omega)) (qW (by omega) (by rw[d_];exact zhI a) (ar (λh=>?_) λh=>aa ?_));·exact qW (by omega) (by rw[d_];exact zhJ a) (aa (by rw[if_pos h]))
  ·rw[if_neg (t_.1 h),aD a (by omega)]
 ·unfold lT;exact aA (decide_eq_false (by rw[l_];omega)) (aa rfl)
 ·cases D.find? (λq=>q.1==n)with|some q=>exact aa rfl|none=>exact aa rfl
abbrev zkN(g:eM)(v:Int)(T:List HV)(s:Kw):List Ob:=[.box bj [.ptr 1 0,.sl 2,.sl 3,.sl 4,.d tI v,.sl 5,.sl 6],.box aO [.sl 7,.sl 8],.vec bB MH T,.vec aj MG s.1,.vec aw Kx s.2.1,.vec aU tI (mF s.2.2),.vec aU tI (mT s.2.2),.vec aj MG g.2.1,.vec aw Kx g.2.2.1]
theorem zi4(g:eM)(v:Int)(T:List HV)(s:Kw)(n:Int)(hl:s.2.2.length<=1000000):aE tbl fG [.ptr 0 5,.d tI n] (zkN g v T s) q_ref22_memo_find_rd_v1 ((lk s.2.2 n).getD 0,(lk s.2.2 n).isSome,v,T,s.1,s.2.1,mF s.2.2,mT s.2.2,g.2.1,g.2.2.1,()):=by
 refine ap (zh8 _) (aB Cw rfl (λO m=>CK O m n v T s.1 s.2.1 (mF s.2.2) (mT s.2.2) g.2.1 g.2.2.1) ?_);unfold qZ;rw[X7];refine ae (zcE (xs:=s.2.2) (p:=λq=>q.1==n) (enc:=λi=>((i:Int),v,T,s.1,s.2.1,mF s.2.2,mT s.2.2,g.2.1,g.2.2.1,())) (g:=λq=>(q.2,true,v,T,s.1,s.2.1,mF s.2.2,mT s.2.2,g.2.1,g.2.2.1,())) (e:=(v,T,s.1,s.2.1,mF s.2.2,mT s.2.2,g.2.1,g.2.2.1,())) (λi a=>?_) ?_ ?_)
 ·unfold iS;refine aL (decide_eq_true (by rw[l_];omega)) (qW (by omega) (by rw[d_];exact zhI a) (ar (λh=>?_) λh=>aa ?_));·exact qW (by omega) (by rw[d_];exact zhJ a) (aa (by rw[if_pos h]))
  ·rw[if_neg (t_.1 h),aD a (by omega)]
 ·unfold iS;exact aA (decide_eq_false (by rw[l_];omega)) (aa rfl)
 ·cases s.2.2.find? (λq=>q.1==n)with|some q=>exact aa rfl|none=>exact aa rfl
theorem zkf(D:FQ)(n k:Int)(hl:D.length<=1000000):aE tbl jm [.ptr 0 0,.d tI n,.d tI k] [.box bO [.sl 1,.sl 2],.vec aU tI (mF D),.vec aU tI (mT D)] q_ref22_memo_put_rdd (mF (D++[(n,k)]),mT (D++[(n,k)]),()):=by
 refine ap (zk6 _) (aB G5 rfl (λO m=>Hm O m n k (mF D) (mT D)) ?_);unfold vp;refine aI (decide_eq_true ?_) (aI (decide_eq_true ?_) (aa ?_));·simp only[l_,a_];omega
 ·simp only[l_,a_];omega
 ·simp only[z_];rfl
theorem zgL(g:eM)(v:Int)(T:List HV)(s:Kw)(n k:Int)(hl:s.2.2.length<=1000000):aE tbl dL [.ptr 0 5,.d tI n,.d tI k] (zkN g v T s) q_ref22_memo_put_rdd_v1 (v,T,s.1,s.2.1,mF (s.2.2++[(n,k)]),mT (s.2.2++[(n,k)]),g.2.1,g.2.2.1,()):=by
 refine ap (zjT _) (aB Cx rfl (λO m=>CL O m n k v T s.1 s.2.1 (mF s.2.2) (mT s.2.2) g.2.1 g.2.2.1) ?_);unfold q6;refine aI (decide_eq_true ?_) (aI (decide_eq_true ?_) (aa ?_));·simp only[l_,a_];omega
 ·simp only[l_,a_];omega
 ·simp only[z_];rfl
abbrev zkO(B:List te)(L:List CP):List Ob:=[.box aO [.sl 1,.sl 2],.vec aj MG B,.vec aw Kx L]
theorem W7(B:List te)(L:List CP)(l:CP)(b:∀x∈L,okD Kx x)(hl:L.length<=1000000)(c:l.2.1.length<=1048576):aE tbl iH [.ptr 0 0,.d Kx l] (zkO B L) q_ref22_store_leaf_rd ((lA L l).1,B,(lA L l).2,()):=by
 refine ap (zia _) (aB Fh rfl (λO n=>Fs O n l B L) ?_);unfold tp;refine ae (YM (xs:=L) (p:=λx=>decide (x=l)) (enc:=λi=>((i:Int),B,L,())) (oB:=λi=>(-1 - (i:Int),B,L,())) (oE:=(B,L,())) (λi a=>?_) ?_ ?_)
 ·unfold kL;refine bo a (qW (by omega) (by rw[d_];exact c_ a) (ak (BL _ l (b _ (v_ a))) (ar (λh=>aa ?_) λh=>aa ?_)));·rw[if_pos h,wrap_i64 (by omega) (by omega)]
  ·rw[if_neg (t_.1 h),aD a (by omega)]
 ·unfold kL;exact aZ (aa rfl)
 ·unfold lA;cases L.findIdx? (λx=>decide (x=l))with|some i=>exact aa rfl|none=>refine aI (decide_eq_true (by simp only[m_];omega)) (aI (decide_eq_true (by simp only[a_];omega)) (aa ?_));simp only[r_,b_,a_];rw[wrap_i64 (by omega) (by omega)];rw[show(0 - ((L.length+1:Nat):Int))= -((L.length:Int)+1) by omega]
theorem Qt(B:List te)(L:List CP)(b:te)(hl:B.length<=1000000):aE tbl fI [.ptr 0 0,.d MG b] (zkO B L) q_ref22_store_branch_rd ((pU B b).1,(pU B b).2,L,()):=by
 refine ap (zh9 _) (aB Cz rfl (λO n=>CN O n b B L) ?_);unfold q8 pU;refine ar (λh=>aa ?_) λh=>?_;·rw[if_pos (by simpa using h)]
 rw[if_neg (by simpa using h)];refine ae (YM (xs:=B) (p:=λx=>decide (x=b)) (enc:=λi=>((i:Int),B,L,())) (oB:=λi=>((i:Int),B,L,())) (oE:=(B,L,())) (λi a=>?_) ?_ ?_)
 ·unfold iU;refine bo a (qW (by omega) (by rw[d_];exact c_ a) ?_);rw[show iX MG B[i] b=_ from za9 _ _,Bool.false_xor];refine ar (λh=>aa ?_) λh=>aa ?_;·rw[if_pos h]
  ·rw[if_neg (t_.1 h),aD a (by omega)]
 ·unfold iU;exact aZ (aa rfl)
 ·cases B.findIdx? (λx=>decide (x=b))with|some i=>exact aa rfl|none=>refine aI (decide_eq_true (by simp only[a_];omega)) (aa ?_);simp only[b_,a_];rw[wrap_i64 (by omega) (by omega)];rw[show((B.length+1:Nat):Int) - 1=(B.length:Int) by omega]
abbrev bxC(s:Kw):List Ob:=[.box aO [.sl 2,.sl 3],.box bO [.sl 4,.sl 5],.vec aj MG s.1,.vec aw Kx s.2.1,.vec aU tI (mF s.2.2),.vec aU tI (mT s.2.2)]
theorem zgG{a:eM}(u:okD wu a)(c:AutOk a)(v:∀l∈a.2.2.1,l.2.1.length<=1048576):∀(f:Nat) (n:Int) (s:Kw),bT a n=true->mu a n<f->BIs a s->aE tbl cB [.ptr 0 0,.d wu a,.d tI n,.ptr 1 0] (bxC s) q_ref22_store_copied_rddr ((xf a f n s).1,(xf a f n s).2.1,(xf a f n s).2.2.1,mF (xf a f n s).2.2.2,mT (xf a f n s).2.2.2,()):=by
 intro f;induction f with
 |zero=>intro n s _ w;omega|succ f j=>
  intro n s hn w hs;refine ap (zf9 _) (aB zF rfl (λO m=>zJ O m a n s.1 s.2.1 (mF s.2.2) (mT s.2.2)) ?_);unfold o7 xf;obtain⟨H,I,J⟩:=hs.small c;refine ak (zkC s.2.2 n (by omega)) ?_;cases e:lk s.2.2 n with
  |some k=>exact aL rfl (aa rfl)|none=>
   have C:=DJ e;refine aA rfl ?_;by_cases b:n<0;·simp only[if_pos b];obtain⟨A,B⟩:=RP c hn b;rw[A];exact ae (aL (decide_eq_true b) (mU B (eD b hn) (ak (W7 _ _ _ (λx z=>u.2.2.1.2 x (hs.ll x z)) (by omega) (v _ (u_ (eD b hn)))) (aa (ak (zkf s.2.2 n _ (by omega)) (aa rfl))))))
   ·simp only[if_neg b];have b:0<=n:=by omega
    have p:=tz c hn b _ (.inl rfl);have r:=tz c hn b _ (.inr rfl);obtain⟨i,rfl,d⟩:=mw hn b;have y:=QU c f _ s p.1 (by omega) hs;have h:=j _ s p.1 (by omega) hs;generalize xf a f (bp a i).2.1 s=Y at y h;have o:=QU c f _ Y.2 r.1 (by omega) y.inv;have g:=j _ Y.2 r.1 (by omega) y.inv;generalize xf a f (bp a i).2.2.1 Y.2=O at o g;obtain⟨D,E,F⟩:=o.inv.small c;refine ae (aA (decide_eq_false (by omega)) (aG d ?_));rw[<-iA d];refine ak h (aG d ?_);rw[<-iA d];refine ak g (aG d ?_);rw[<-iA d];exact ak (Qt O.2.1 O.2.2.1 _ (by omega)) (aa (ak (zkf O.2.2.2 (i:Int) _ (by omega)) (aa rfl)))
theorem zkF{g:eM}(hg:GOk g)(v:Int)(T:List HV):∀(f:Nat) (n:Int) (s:Kw),bT g n=true->(n+1).toNat<f->VI g s.1 s.2.1 s.2.2->aE tbl cA [.ptr 0 0,.d tI n] (zkN g v T s) q_ref22_numbering_walk_rd ((nA g f n s).1,v,T,(nA g f n s).2.1,(nA g f n s).2.2.1,mF (nA g f n s).2.2.2,mT (nA g f n s).2.2.2,g.2.1,g.2.2.1,()):=by
 intro f;induction f with
 |zero=>intro n s _ u;omega|succ f h=>
  intro n s hn u hs;refine ap (zjV _) (aB zE rfl (λO m=>zI O m n v T s.1 s.2.1 (mF s.2.2) (mT s.2.2) g.2.1 g.2.2.1) ?_);unfold oZ nA;obtain⟨C,D,E⟩:=hs.small hg;refine ak (zi4 g v T s n (by omega)) ?_;cases e:lk s.2.2 n with
  |some k=>exact aL rfl (aa rfl)|none=>
   have w:=DJ e;refine aA rfl ?_;by_cases a:n<0
   ·simp only[if_pos a];obtain⟨z,A,B⟩:=zbq hg hn a;rw[z];refine aL (decide_eq_true a) (qW A (eD a hn) (aI (decide_eq_true (by simp only[m_];omega)) (aI (decide_eq_true (by simp only[a_];omega)) ?_)));simp only[r_];refine ak (zgL g v T (s.1,s.2.1++[((dv g n).1,(dv g n).2.1,())],s.2.2) n _ (by show s.2.2.length<=1000000;omega)) (aa ?_);have r:K_ .i64 (0 - ((s.2.1.length+1:Nat):Int))= -((s.2.1.length:Int)+1):=by rw[wrap_i64 (by omega) (by omega)];omega
    simp only[b_,a_,r]
   ·simp only[if_neg a];have a:0<=n:=by omega
    have j:=hg.low.kids hn a _ (.inl rfl);have l:=hg.low.kids hn a _ (.inr rfl);obtain⟨i,rfl,d⟩:=mw hn a;have hp:=hs.push a hn w ((bp g i).1,0,0,());have y:=SQ hg.low f _ (s.1++[((bp g i).1,0,0,())],s.2.1,s.2.2++[((i:Int),(s.1.length:Int))]) j.1 (by omega) hp;have c:=h _ (s.1++[((bp g i).1,0,0,())],s.2.1,s.2.2++[((i:Int),(s.1.length:Int))]) j.1 (by omega) hp;generalize nA g f (bp g i).2.1 (s.1++[((bp g i).1,0,0,())],s.2.1,s.2.2++[((i:Int),(s.1.length:Int))])=Y at y c;have o:=SQ hg.low f _ Y.2 l.1 (by omega) y.inv;have b:=h _ Y.2 l.1 (by omega) y.inv;generalize nA g f (bp g i).2.2.1 Y.2=O at o b;obtain⟨l1,l2⟩:=zcC (p:=O) y o;refine aA (decide_eq_false (by omega)) (ak (zgL g v T s (i:Int) _ (by omega)) (qW (x:=bp g i) (by omega) ?_ (aI (decide_eq_true (by simp only[a_];omega)) ?_)));·rw[d_,iA d];exact c_ d
    simp only;refine ak c (ak b (qW (x:=((bp g i).1,0,0,())) (by omega) (by rw[d_];exact l2) ?_));simp only[d_];refine qW (x:=((bp g i).1,Y.1,0,())) (by omega) (by rw[d_,B_ l1]) (aa ?_);simp only[V_]
theorem zcW{g:eM}(hg:GOk g)(r:Int)(hr:bT g r=true){F:Nat}(a:4100<=F)(T:List HV): aE tbl d9 [.ptr 0 0,.d (.list MH) T,.d tI r] (zkO g.2.1 g.2.2.1) q_ref22_store_finished_rdd ((T,(nA g F r ([],[],[])).2.1,(nA g F r ([],[],[])).2.2.1,(nA g F r ([],[],[])).1,()),g.2.1,g.2.2.1,()):=by refine ap (zk4 _) (aB ze rfl (λO m=>zp O m T r g.2.1 g.2.2.1) ?_);unfold nE;have:=(nodeB_of.1 hr).1;have:=hg.l2;exact ak (zkF hg 0 [] F r ([],[],[]) hr (by omega) (VI.nil g)) (aa rfl)
theorem Qs{F:Nat}(d:4100<=F){a:eM}(e:okD wu a)(f:∀l∈a.2.2.1,l.2.1.length<=1048576):aE tbl se [.d wu a] [] lb (US F a):=by
 refine ap rfl (aB SJ rfl (λO m=>S8 O m a) ?_);unfold FN;refine ak (uj a e) (ar (λb=>aa ?_) λb=>?_);·rw[show US F a=(([],[],[],0,()),kT a,())from if_pos (by simpa using b)]
 have b:kT a=0:=by simpa using b
 rw[show US F a=(fp F a,0,())from if_neg (not_not_intro b)];have c:=PZ b;have h:=Se d c;have g:mu a a.2.2.2.1<=a.1.length:=by unfold mu;split<;>omega
 have:=c.l1;refine ak (zgG e c f F a.2.2.2.1 ([],[],[]) c.rt (by omega) (BI.nil a)) ?_;exact ak (zcW (h.gok f) (Oh F a).1 h.nd d a.1) (aa rfl)
theorem zlU{F:Nat}{a:eM}(d:okD wu a)(h:Red F a):okD wu (fp F a):=by
 have c:=h.aut;have e:∀x:Int,-4096<=x->x<=4096->okD tI x:=λx r s=>by show -9223372036854775808<=x/\x<=9223372036854775807;omega
 have nd:∀{n:Int},bT (fp F a) n=true->okD tI n:=λhn=>by have:=nodeB_of.1 hn;have:=c.l2;have:=c.l3;exact e _ (by omega) (by omega)
 refine⟨d.1,⟨by have:=c.l2;show _<=9223372036854775807;omega,λb j=>?_⟩,⟨by have:=c.l3;show _<=9223372036854775807;omega,λl hl=>d.2.2.1.2 l (h.lvs hl)⟩,nd c.rt,trivial⟩;obtain⟨⟨k,p⟩,⟨f,g⟩,_⟩:=P0 (c.br b j);have:=c.l1;exact⟨e _ (by omega) (by omega),nd f,nd g,trivial⟩
theorem LJ:LawOkU mQ [wu,.list tB]:=by
 rintro⟨a,l,_⟩ ⟨k,hl,_⟩ w;have w:iB wu a+_<=1048576:=w;have p:∀x∈a.2.2.1,x.2.1.length<=1048576:=λx b=>Wi (by omega) b;obtain⟨F,e⟩:∃F:Nat,4100<=F:=⟨4100,F_ _⟩;refine⟨ej cN (true,()),?_,rfl⟩;refine aB Fc rfl (λO n=>Fl O n a l) ?_;unfold ti;refine ak (mD a) (ar (λ_=>ak oo (aa rfl)) λ_=>?_);refine ak (BH e k p) (ak (Qs e k p) ?_);by_cases d:kT a=0
 rotate_left
 ·rw[show US F a=(([],[],[],0,()),kT a,())from if_pos d];have C:okD wu ([],[],[],0,()):=⟨qb,qb,qb,(by show IntKind.min .i64<=(0:Int)/\(0:Int)<=Z_ .i64;decide),trivial⟩;refine ae (aA (by simp) (ak (oq _ _ C) (aa (aA (by simp) (aL (by simpa using d) ?_)))));exact ak oo (aa rfl)
 rw[show US F a=(fp F a,0,())from if_neg (not_not_intro d)];have y:=PZ d;have h:=Se e y;have b:=zlU k h;have j:∀x∈(fp F a).2.2.1,x.2.1.length<=1048576:=λx b=>p x (h.lvs b);have c:kT (fp F a)=0:=zjm h.aut;have B:US F (fp F a)=(fp F a,0,()):=by unfold US;rw[if_neg (not_not_intro c),zj6 e y]
 have v:=BH e b j;rw[B]at v;refine ae (aA (by simp) (ak (oq _ _ b) (aa (aA (by simp) (aA rfl ?_)))));refine ak v (ae (aA rfl (ak (oq _ _ b) (aa (ae (aA (by simp) (aa (aA (decide_eq_false ?_) ?_))))))));·have:=h.lenB;simp only;omega
 obtain⟨m,K,f⟩:=Qa a (Yn l);obtain⟨D,E,g⟩:=Qa (fp F a) (Yn l);have r:=f d;have f2:=g c;have A:DN (fp F a) l D=DN a l m:=by obtain⟨I,H,r1,r2⟩:=h.sim r.fol;obtain⟨rfl,_⟩:=f2.fol.uniq r1;unfold DN;rw[c,d,r2];rfl
 have u:=rH (l:=l) b g λ_=>j _ (xL f2);rw[A]at u;have s:okD Kx (DN a l m).1:=by
  have z:okD Kx (false,[],()):=⟨trivial,qb,trivial⟩;unfold DN;split;·exact z
  split;·exact z
  ·exact k.2.2.1.2 _ (xL r)
 refine ak (rH k f λ_=>p _ (xL r)) (ak u ?_);refine ae (aL (by simp) (ak (oq _ _ (zh0 s)) (aa ?_)));rw[decide_eq_true rfl];exact ae (aL rfl (ak oo (aa (aa rfl))))
end Go.Proofs.YtdgiglmmpbndmaaGreatDoor
