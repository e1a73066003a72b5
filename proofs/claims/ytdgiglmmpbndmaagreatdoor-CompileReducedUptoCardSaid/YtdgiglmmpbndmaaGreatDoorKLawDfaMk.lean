import Derived.Test.YtdgiglmmpbndmaaGreatDoorKL7
import Derived.Test.YtdgiglmmpbndmaaGreatDoorKGlueB
import Derived.Test.YtdgiglmmpbndmaaGreatDoorKLawDfaUse
import Derived.Test.YtdgiglmmpbndmaaGreatDoorKPlBld
import Derived.Test.YtdgiglmmpbndmaaGreatDoorKPlPfx
import Derived.Test.YtdgiglmmpbndmaaGreatDoorKL5
set_option linter.unusedVariables false
set_option linter.unusedSimpArgs false
open Bool renaming and_eq_true->v_,or_false->aY_
open Classical renaming choose_spec->V_,byContradiction->am_,choose->ap_
open Int renaming toNat_natCast->e_,fdiv_eq_ediv_of_nonneg->ah_,toNat->aq_,le_refl->aw_,toNat_of_nonneg->aC_,fdiv->bc_
open Go.IntKind renaming wrap->A_,bits->ae_
open List renaming getElem?_eq_getElem->a_,getElem_mem->b_,mem_append->c_,range->d_,length_map->f_,mem_range->g_,mem_iff_getElem->h_,replicate->i_,map_append->j_,mem_map->k_,getD_eq_getElem?_getD->l_,mem_singleton->m_,take_add_one->n_,take_length->o_,length_append->q_,take_of_length_le->r_,getElem?_eq_some_iff->s_,nodup_iff_pairwise_ne->u_,mem_cons->x_,mem_cons_of_mem->y_,range_succ->z_,map_cons->B_,pairwise_iff_getElem->C_,map_nil->D_,mem_of_mem_take->E_,cons_append->F_,ext_getElem->G_,length_cons->H_,length_pos_of_mem->I_,pairwise_cons->J_,mem_filter->K_,length_filter_le->L_,mem_append_left->M_,getElem_set->N_,length_take->O_,append_nil->P_,mem_cons_self->Q_,flatMap_cons->T_,length_singleton->W_,set_append_right->X_,getElem_map->Y_,filter_sublist->ab_,flatMap_append->ac_,map_congr_left->ad_,map_map->af_,getElem_range->ai_,prefix_append->aj_,set_cons_zero->ak_,append_assoc->an_,nodup_append->ao_,mem_singleton_self->ar_,nil_append->as_,mem_append_right->av_,length->ax_,length_flatMap->aD_,replicate_succ->aE_,replicate_zero->aF_,filter_append->aG_,getElem_idxOf->aH_,getElem_drop->aJ_,length_range->aK_,map->aL_,pairwise_map->aM_,length_drop->aN_,mem_flatMap->aO_,nodup_range->aP_,not_mem_nil->aQ_,prefix_refl->aR_,length_nil->aU_,map_const'->aV_,range_zero->aW_,sum_cons->aZ_
open Nat renaming le_trans->p_,eq_zero_or_pos->t_,lt_of_le_of_lt->R_,le_refl->S_,zero_add->U_,mod_eq_of_lt->Z_,zero_le->aa_,sub_self->ag_,and_le_left->au_,mul_le_mul->ay_,mul_le_mul_right->az_,pow_le_pow_right->aA_,pow_lt_pow_right->aB_,lt_of_lt_of_le->aI_,le_of_not_lt->aS_,lt_succ_self->aT_,min_eq_left->aX_,add_assoc->ba_,le_of_lt->bb_,le_succ->bd_
open Option renaming getD_some->w_,toList_some->al_
open Option.some renaming inj->bf_
open Prod renaming mk->be_
namespace Go.Proofs.YtdgiglmmpbndmaaGreatDoor
open Go Go.Av Go.Ev Go.Pl
theorem Nx{xs:List Int}(h:kO xs):Asc xs:=C_.2 λi j _ b a=>uO h j i b a
theorem MV(x:Int)(l:List Int):(((x::l).length:Int)==(0:Int))=false:=by simp only[H_,beq_eq_false_iff_ne];omega
theorem QO(x:Int)(l:List Int):((x::l).take ((x::l).length)).drop (aq_ (1:Int))=l:=by simp
theorem Bz(a b:List Int)(I:Asc a)(J:Asc b)(M:a.length<=1000000000)(N:b.length<=1000000000):aK tbl oP [.d (.list tI) a,.d (.list tI) b] [] mo (Bi (a++b),()):=by
 refine aG rfl (aF VZ rfl (λO n=>eM (JK O n a b)) ?_);unfold JK;refine ae (Go.Ev.wp_loop (σ:=List Int×List Int×List Int×Unit) (λs=>Asc s.1/\Asc s.2.1/\Asc s.2.2.1/\(∀x∈s.2.2.1,(∀y∈s.1,x<y)/\∀y∈s.2.1,x<y)/\(∀x,(x∈s.2.2.1\/x∈s.1\/x∈s.2.1)↔x∈a++b)/\s.2.2.1.length+s.1.length+s.2.1.length<=2000000000) (λs=>s.1.length+s.2.1.length) ⟨I,J,by simp[Asc],by simp,by simp,by simp;omega⟩ ?_);rintro⟨xs,ys,A,_⟩ ⟨r,u,B,g,l,j⟩;simp only at r u B g l j;have f:∀v:Int,(∀x∈A,x<v)->Asc (A++[v]):=λv Q=>FT B (by simp[Asc]) λx e y k=>by simp at k;subst k;exact Q x e
 unfold EX;simp only;refine ae (cN (λ_=>aa rfl) (aA (λE=>?_) λH=>?_))
 ·match xs,ys with
  |[],[]=>simp at E|[],y::ys=>
   have k:(∀z∈ys,y<z)/\Asc ys:=J_.1 u;refine ae (cN (b:=false) (λ_=>ae (cG (b:=false) (λh=>absurd h (by simp)) (aa rfl))) (aA (λh=>(by rw[MV]at h;cases h)) λ_=>?_));refine ae (cN (b:=true) (λh=>absurd h (by simp)) (aA (λ_=>?_) λh=>absurd h (by simp)));refine dt (x:=y) (by simp) rfl (ar (decide_eq_true (by simp at j⊢;omega)) (ar rfl (ar (by simp) (aa ?_))));refine⟨⟨r,(by simpa only[QO]using k.2),f y λx e=>(g x e).2 y (by simp),λx e=>⟨by simp,λz d=>?_⟩,λx=>?_,by simp at j⊢;omega⟩,by simp⟩
   ·simp at d;rcases c_.1 e with e|e;·exact(g x e).2 z (by simp[d])
    ·simp at e;subst e;exact k.1 z d
   ·rw[<-l x];simp;grind
  |x::xs,[]=>
   have e:(∀z∈xs,x<z)/\Asc xs:=J_.1 r;refine ae (cN (b:=true) (λh=>absurd h (by simp)) (aA (λ_=>?_) λh=>absurd h (by simp)));refine dt (x:=x) (by simp) rfl (ar (decide_eq_true (by simp at j⊢;omega)) (ar rfl (ar (by simp) (aa ?_))));refine⟨⟨(by simpa only[QO]using e.2),u,f x λz d=>(g z d).1 x (by simp),λw c=>⟨λz d=>?_,by simp⟩,λw=>?_,by simp at j⊢;omega⟩,by simp⟩
   ·simp at d;rcases c_.1 c with c|c;·exact(g w c).1 z (by simp[d])
    ·simp at c;subst c;exact e.1 z d
   ·rw[<-l w];simp;grind
  |x::xs,y::ys=>
   have e:(∀z∈xs,x<z)/\Asc xs:=J_.1 r;have k:(∀z∈ys,y<z)/\Asc ys:=J_.1 u;refine ae (cN (b:=decide (x<y)) (λ_=>ae (cG (b:=decide (x<y)) (λ_=>dt (x:=x) (by simp) rfl (dt (x:=y) (by simp) rfl (aa rfl))) (aa (by simp)))) (aA (λh=>?_) λh=>?_))
   ·have p:x<y:=by rw[MV]at h;simpa using h
    refine dt (x:=x) (by simp) rfl (ar (decide_eq_true (by simp at j⊢;omega)) (ar rfl (ar (by simp) (aa ?_))));refine⟨⟨(by simpa only[QO]using e.2),u,f x λz d=>(g z d).1 x (by simp),λw c=>⟨λz d=>?_,λz d=>?_⟩,λw=>?_,by simp at j⊢;omega⟩,by simp⟩
    ·simp at d;rcases c_.1 c with c|c;·exact(g w c).1 z (by simp[d])
     ·simp at c;subst c;exact e.1 z d
    ·rcases c_.1 c with c|c;·exact(g w c).2 z d
     ·simp at c;subst c;rcases x_.1 d with rfl|d;·exact p
      ·have:=k.1 z d;omega
    ·rw[<-l w];simp;grind
   ·have L:¬x<y:=by rw[MV]at h;simpa using h
    refine ae (cN (b:=decide (y<x)) (λ_=>dt (x:=y) (by simp) rfl (dt (x:=x) (by simp) rfl (aa rfl))) (aA (λh=>?_) λh=>?_))
    ·have p:y<x:=by rw[MV]at h;simpa using h
     refine dt (x:=y) (by simp) rfl (ar (decide_eq_true (by simp at j⊢;omega)) (ar rfl (ar (by simp) (aa ?_))));refine⟨⟨r,(by simpa only[QO]using k.2),f y λz d=>(g z d).2 y (by simp),λw c=>⟨λz d=>?_,λz d=>?_⟩,λw=>?_,by simp at j⊢;omega⟩,by simp⟩
     ·rcases c_.1 c with c|c;·exact(g w c).1 z d
      ·simp at c;subst c;rcases x_.1 d with rfl|d;·exact p
       ·have:=e.1 z d;omega
     ·simp at d;rcases c_.1 c with c|c;·exact(g w c).2 z (by simp[d])
      ·simp at c;subst c;exact k.1 z d
     ·rw[<-l w];simp;grind
    ·have P:¬y<x:=by rw[MV]at h;simpa using h
     have F:x=y:=by omega
     subst F;refine dt (x:=x) (by simp) rfl (ar (decide_eq_true (by simp at j⊢;omega)) (ar rfl (ar (by simp) (ar rfl (ar (by simp) (aa ?_))))));refine⟨⟨(by simpa only[QO]using e.2),(by simpa only[QO]using k.2),f x λz d=>(g z d).1 x (by simp),λw c=>⟨λz d=>?_,λz d=>?_⟩,λw=>?_,by simp at j⊢;omega⟩,by simp;omega⟩
     ·simp at d;rcases c_.1 c with c|c;·exact(g w c).1 z (by simp[d])
      ·simp at c;subst c;exact e.1 z d
     ·simp at d;rcases c_.1 c with c|c;·exact(g w c).2 z (by simp[d])
      ·simp at c;subst c;exact k.1 z d
     ·rw[<-l w];simp;grind
 ·have C:xs=[]:=by cases xs with|nil=>rfl|cons _ _=>simp at H
  have D:ys=[]:=by cases ys with|nil=>rfl|cons _ _=>simp at H
  subst C D;refine aa (aa ?_);rw[wz B λx=>by simpa using l x]
theorem R8{σ α β:Type}(f:σ->α->σ⊕β):∀(l:List α) (s:σ),MG f s l=nK f s l
 |[],_=>rfl
 |x::l,s=>by simp only[MG,nK];cases f s x with|inl s'=>exact R8 f l s'|inr b=>rfl
theorem M0{k:Nat}(h:k<=1000000000):(decide (0<=(k:Int))&&decide ((k:Int)<=(k:Int))&&decide ((k:Int)<=9223372036854775807)&&decide (8*(k:Int)<=281474976710656))=true:=by simp only[v_,decide_eq_true_eq];omega
abbrev PR:Type:=Int×(Int×Unit)
noncomputable def oZ(a b:DF)(x:PR)(v:Int):PR:=(Ij a x.1 v,Ij b x.2.1 v,())
def tH(a b:DF):PR:=(a.2.2.2.1,b.2.2.2.1,())
noncomputable def eZ(a b:DF):List Int:=Bi (a.1++b.1)
def PIn(a b:DF)(x:PR):Prop:=(0<=x.1/\x.1<(a.2.1.length:Int))/\0<=x.2.1/\x.2.1<(b.2.1.length:Int)
def o8(d:DF)(s:Int):Bool:=d.2.2.1.getD s.toNat false
def oA:Nat->List PR->List (PR×Int)
 |_,[]=>[]
 |k,x::l=>(x,(k:Int))::oA (k+1) l
def AW(T:List (Nat×Int)):List Int:=(-1)::T.map λt=>(t.1:Int)
def byL(T:List (Nat×Int)):List Int:=0::T.map (·.2)
def kF(R:List (List Nat)):List (List Int):=R.map λr=>r.map fun(k:Nat)=>(k:Int)
theorem zcJ(x y:PR):jk (pr [tI,tI]) x y=decide (x=y):=by obtain⟨a,b,_⟩:=x;obtain⟨c,d,_⟩:=y;show((a==c)&&((b==d)&&true))=_;by_cases e:a=c<;>by_cases f:b=d<;>simp[e,f]
theorem MO(y:PR):∀(L:List PR) (k:Nat),bY (pr [tI,tI]) tI (oA k L) y=if y∈L then some (((k+pos L y:Nat):Int))else none
 |[],k=>by simp[oA,bY]
 |x::L,k=>by
  have a:=MO y L (k+1);simp only[oA,bY];rw[zcJ y x,a];by_cases h:y=x;·subst h;simp[Xa]
  ·have h':x≠y:=λe=>h e.symm;rw[decide_eq_false h];have e:pos (x::L) y=pos L y+1:=Xb h';simp only[cond_false,x_,h,false_or,e];split;·congr 1;omega
   ·rfl
theorem MP(y:PR):∀(L:List PR) (k:Nat),y∉L->dn (pr [tI,tI]) tI (oA k L) y (((k+L.length:Nat):Int))=oA k (L++[y])
 |[],k,_=>by simp[oA,dn]
 |x::L,k,h=>by have a:y≠x:=λe=>h (by simp[e]);have b:y∉L:=λe=>h (by simp[e]);have c:=MP y L (k+1) b;simp only[F_,oA,dn];rw[zcJ y x,decide_eq_false a];simp only[cond_false,H_];rw[show k+(L.length+1)=k+1+L.length by omega,c]
theorem MN:∀(L:List PR) (k:Nat),(oA k L).length=L.length
 |[],_=>rfl
 |_::L,k=>by simp[oA,MN L (k+1)]
theorem yd{a b:DF}(k:Good a)(l:Good b):∀v∈eZ a b,0<=v/\v<=4294967295:=by
 intro v e;have f:∀{d:DF},Good d->∀v∈d.1,0<=v/\v<=4294967295:=fun{d} hd v e=>by
  refine⟨?_,hd.starts.2.2.2 v e⟩;obtain⟨i,n,rfl⟩:=h_.1 e;have p:=hd.starts.2.1 hd.starts.1;rcases t_ i with rfl|hp;·omega
  ·have:=uO hd.starts i 0 n hp;omega
 have g:∃c,Asc c/\∀x,x∈c↔x∈a.1++b.1:=by refine am_ λhn=>?_;unfold eZ Bi at e;rw[dif_neg hn]at e;cases e
 obtain⟨c,hc,j⟩:=g;unfold eZ at e;rw[wz hc j,j v]at e;rcases c_.1 e with h|h;·exact f k v h
 ·exact f l v h
theorem MS{a b:DF}(g:Good a)(j:Good b):(eZ a b).length<=4000:=by
 have k:=mf g;have l:=mf j;by_cases d:∃c,Asc c/\∀x,x∈c↔x∈a.1++b.1;·obtain⟨c,hc,f⟩:=d;unfold eZ;rw[wz hc f];have:=oW c (a.1++b.1) (hc.imp λh e=>by omega) λx n=>(f x).1 n;simp at this;omega
 ·unfold eZ Bi;rw[dif_neg d];simp
theorem Ny{a b:DF}(g:Good a)(h:Good b){x:PR}{v:Int}(d:0<=v)(c:PIn a b x):PIn a b (oZ a b x v):=by obtain⟨_,_,_,e⟩:=Ik g c.1.1 c.1.2 d;obtain⟨_,_,_,f⟩:=Ik h c.2.1 c.2.2 d;exact⟨e,f⟩
theorem VO{a b:DF}(c:Good a)(d:Good b):PIn a b (tH a b):=⟨c.start,d.start⟩
def zfw(n m:Nat):List PR:=(d_ n).flatMap fun(i:Nat)=>(d_ m).map fun(j:Nat)=>((i:Int),(j:Int),())
theorem zcX(n m:Nat):(zfw n m).length=n*m:=by unfold zfw;rw[aD_];simp only[f_,aK_];induction n with|zero=>simp|succ n a=>rw[z_,j_,List.sum_append,a,Nat.succ_mul];simp
theorem grid_mem{n m:Nat}{x:PR}:x∈zfw n m↔(0<=x.1/\x.1<(n:Int))/\0<=x.2.1/\x.2.1<(m:Int):=by
 obtain⟨a,b,_⟩:=x;unfold zfw;simp only[aO_,g_,k_,be_.injEq,and_true];constructor;·rintro⟨i,e,j,f,rfl,rfl⟩;omega
 ·rintro⟨c,d⟩;exact⟨a.toNat,by omega,b.toNat,by omega,by omega,by omega⟩
abbrev OkP(a b:DF):List PR->List (Nat×Int)->Prop:=Ok (oZ a b) (tH a b) (eZ a b)
theorem zdE{a b:DF}(d:Good a)(e:Good b){L:List PR}{T:List (Nat×Int)}(h:OkP a b L T){k:Nat}{x:PR}(f:L[k]? =some x):PIn a b x:=h.inv (P:=PIn a b) (VO d e) (λ_ c hc f=>Ny d e (yd d e c hc).1 f) k x f
theorem Lg{a b:DF}(d:Good a)(e:Good b){L:List PR}{T:List (Nat×Int)}(h:OkP a b L T):L.length<=a.2.1.length*b.2.1.length:=by rw[<-zcX];exact h.bound (grid_mem.2 (VO d e)) λx c hc f=>grid_mem.2 (Ny d e (yd d e c hc).1 (grid_mem.1 f))
theorem Z0{a b:DF}(c:Good a)(d:Good b):a.2.1.length*b.2.1.length<=16777216:=p_ (ay_ (mf c).1 (mf d).1) (by decide)
theorem zcb{d:DF}(h:Good d){s:Int}(b:0<=s)(hs:s<(d.2.1.length:Int)):∃a:s.toNat<d.2.2.1.length,d.2.2.1[s.toNat]=o8 d s:=by
 have a:s.toNat<d.2.2.1.length:=by have:=h.len;omega
 exact⟨a,by unfold o8;simp only[l_,a_ a,w_]⟩
abbrev SR:Type:=List PR×List (Nat×Int)×List (List Nat)
noncomputable def zcF(a b:DF)(i:Nat)(S:SR):Int×List Int×List PR×List Int×List Int×List (List Int)×List (PR×Int)×Unit:=
 ((i:Int),eZ a b,S.1,AW S.2.1,byL S.2.1,kF S.2.2,oA 0 S.1,())
def qL(k:Nat)(r:List Nat):List Int:=(r.map fun(k:Nat)=>(k:Int))++i_ (k - r.length) 0
theorem C3{k:Nat}{r:List Nat}{n:Nat}(h:r.length<k):(qL k r).set r.length (n:Int)=qL k (r++[n]):=by unfold qL;rw[X_ _ _ (by simp),f_,ag_];obtain⟨m,a⟩:∃m,k - r.length=m+1:=⟨k - r.length - 1,by omega⟩;rw[a,aE_,ak_,q_,show k - (r.length+[n].length)=m by simp;omega];simp
structure WF(d:DF):Prop where
 starts:kO d.1
 len:0<d.2.1.length/\d.2.2.1.length=d.2.1.length
 rows:∀r∈d.2.1,r.length=d.1.length
 start:0<=d.2.2.2.1/\d.2.2.2.1<(d.2.1.length:Int)
 to:∀r∈d.2.1,∀t∈r,0<=t/\t<(d.2.1.length:Int)
theorem zcy{xs:List Int}{v:Int}(hs:kO xs)(r:0<=v):px xs v (ou xs v):=by
 have key:∀n,0<n->∃c,∃h:c<xs.length,xs[c]<=v/\∀j (_:j<xs.length),c<j->j<n->v<xs[j]:=by
  intro n;induction n with
  |zero=>intro h;omega|succ n s=>
   intro _;rcases t_ n with rfl|hn;·exact⟨0,hs.1,by rw[hs.2.1 hs.1];exact r,λj _ d e=>by omega⟩
   ·obtain⟨c,d,e,f⟩:=s hn;by_cases l:n<xs.length
    ·by_cases k:xs[n]<=v;·exact⟨n,l,k,λj _ a g=>by omega⟩
     ·refine⟨c,d,e,λj b a g=>?_⟩;rcases Nat.lt_succ_iff_lt_or_eq.1 g with p|rfl;·exact f j b a p
      ·omega
    ·exact⟨c,d,e,λj b a g=>f j b a (by omega)⟩
 obtain⟨c,d,e,f⟩:=key xs.length hs.1;have hc:px xs v c:=⟨d,e,λj b a=>f j b a b⟩;rw[L2 hc];exact hc
def In(d:DF)(s:Int):Prop:=0<=s/\s<(d.2.1.length:Int)
def lE(d:DF)(s:Int)(c:Nat):Int:=(d.2.1.getD s.toNat []).getD c 0
def Jj(n:Nat):List Int:=(d_ n).map fun(k:Nat)=>(k:Int)
theorem rangeI_mem{n:Nat}{s:Int}:s∈Jj n↔0<=s/\s<(n:Int):=by
 unfold Jj;rw[k_];constructor;·rintro⟨k,a,rfl⟩;have:=g_.1 a;omega
 ·rintro⟨b,c⟩;exact⟨s.toNat,g_.2 (by omega),by omega⟩
theorem Nf(n:Nat):(Jj n).length=n:=by simp[Jj]
structure RW(d:DF):Prop where
 len:0<d.2.1.length/\d.2.2.1.length=d.2.1.length
 rows:∀r∈d.2.1,r.length=d.1.length
 start:In d d.2.2.2.1
 to:∀r∈d.2.1,∀t∈r,In d t
theorem WF.rw{d:DF}(h:WF d):RW d:=⟨h.len,h.rows,h.start,h.to⟩
theorem Np{d:DF}(h:RW d){s:Int}(hs:In d s):∃a:s.toNat<d.2.1.length,d.2.1[s.toNat]=(d_ d.1.length).map (lE d s):=by
 have a:s.toNat<d.2.1.length:=by have:=hs.1;have:=hs.2;omega
 refine⟨a,?_⟩;have hr:=h.rows _ (b_ a);refine G_ (by simp[hr]) λc b e=>?_;simp only[Y_,ai_];unfold lE;simp only[l_,a_ a,w_,a_ b]
theorem zcB{d:DF}(h:RW d){s:Int}(hs:In d s){c:Nat}(hc:c<d.1.length):In d (lE d s c):=by obtain⟨a,e⟩:=Np h hs;refine h.to _ (b_ a) _ ?_;rw[e];exact k_.2 ⟨c,g_.2 hc,rfl⟩
abbrev x9(d:DF)(i:Nat):List Int×List (Nat×Nat)×List (List Nat):=cJ (lE d) d.2.2.2.1 (d_ d.1.length) i
def aW(d:DF):List Int:=(x9 d d.2.1.length).1
theorem Du{d:DF}(h:RW d)(i:Nat):∀x∈(x9 d i).1,In d x:=λx a=>by obtain⟨k,b,rfl⟩:=h_.1 a;exact(iH i).inv (P:=In d) h.start (λ_ c hc a=>zcB h a (g_.1 hc)) k _ (a_ b)
theorem zc2{d:DF}{L:List Int}(hn:L.Nodup)(a:∀x∈L,In d x):L.length<=d.2.1.length:=by have:=oW L (Jj d.2.1.length) hn λx b=>rangeI_mem.2 (a x b);rwa [Nf]at this
theorem vq{d:DF}(h:RW d)(i:Nat):(x9 d i).1.length<=d.2.1.length:=zc2 (iH i).nodup (Du h i)
theorem Xe{d:DF}(h:RW d){i:Nat}(c:(x9 d i).1.length<=i):aW d=(x9 d i).1:=by have hl:=vq h d.2.1.length;have a:x9 d (max i d.2.1.length)=x9 d i:=MC (by omega) c;have b:x9 d (max i d.2.1.length)=x9 d d.2.1.length:=MC (by omega) hl;unfold aW;rw[<-b,a]
theorem nP{d:DF}(h:RW d):∀x∈aW d,∀c,c<d.1.length->lE d x c∈aW d:=λx a c hc=>by have hl:=vq h d.2.1.length;exact sG _ x (by rw[r_ hl];exact a) c (g_.2 hc)
theorem Ad{d:DF}:d.2.2.2.1∈aW d:=List.mem_of_getElem? (iH _).head
def marks(n:Nat)(L:List Int):List Bool:=(d_ n).map fun(k:Nat)=>decide ((k:Int)∈L)
theorem zdn{n:Nat}{L:List Int}{v:Int}(b:0<=v)(c:v<(n:Int)):∃a:v.toNat<(marks n L).length,(marks n L)[v.toNat]=decide (v∈L):=by
 have a:v.toNat<(marks n L).length:=by simp[marks];omega
 refine⟨a,?_⟩;simp only[marks,Y_,ai_];rw[aC_ b]
theorem Qj{n:Nat}{L:List Int}{v:Int}(a:0<=v):(marks n L).set v.toNat true=marks n (L++[v]):=by
 refine G_ (by simp[marks]) λk b c=>?_;rw[N_];simp only[marks,Y_,ai_,c_,m_];split;·rename_i h;subst h;simp[aC_ a]
 ·rename_i h;have:¬(k:Int)=v:=λe=>h (by omega);simp[this]
theorem za4{n:Nat}{v:Int}(a:0<=v):(i_ n false).set v.toNat true=marks n [v]:=by
 have:i_ n false=marks n []:=by refine G_ (by simp[marks]) λk b c=>?_;simp[marks]
 rw[this,Qj a];rfl
theorem Ic{d:DF}(hn:d.2.1.length<=16777216){L:List Int}(y:L.Nodup)(A:∀x∈L,In d x)(r:List Int)(hr:∀x∈r,In d x)(B:r.length<=16777216): Wp (λn=>aT n (lb (tj tbl n) n r) ((0:Int),marks d.2.1.length L,L,())) λt=>t=(marks d.2.1.length (eW L r),eW L r,()):=by
 refine bi (N:=r.length) (I:=λi s=>s=((i:Int),marks d.2.1.length (eW L (r.take i)),eW L (r.take i),())/\(eW L (r.take i)).Nodup/\∀x∈eW L (r.take i),In d x) ⟨rfl,y,A⟩ ?_ ?_
 ·rintro i s c ⟨rfl,l,p⟩;have g:=hr _ (b_ c);have w:=zc2 l p;obtain⟨k,v⟩:=zdn (L:=eW L (r.take i)) g.1 g.2;have hs:eW L (r.take (i+1))=eW (eW L (r.take i)) [r[i]]:=by rw[n_,a_ c,On];rfl
  unfold lb;refine bA c (ae (aD c (cw g.1 k (cD (x:=decide (r[i]∈eW L (r.take i))) (by rw[a_ k,v]) (aA (λf=>?_) λf=>aa (aa ?_))))))
  ·have f:r[i]∉eW L (r.take i):=by simpa using f
   refine cw g.1 k (cD (x:=decide (r[i]∈eW L (r.take i))) (by rw[a_ k,v]) (ar (decide_eq_true (by simp;omega)) (aa (aa ?_))));have e:eW (eW L (r.take i)) [r[i]]=eW L (r.take i)++[r[i]]:=Wi f;rw[hs,e,au c (by omega),Qj g.1];refine⟨rfl,?_,λx u=>?_⟩;·rw[ao_];exact⟨l,by simp,λa z b j=>by simp at j;subst j;rintro rfl;exact f z⟩
   ·rcases c_.1 u with h|h;·exact p x h
    ·simp at h;subst h;exact g
  ·have f:r[i]∈eW L (r.take i):=by simpa using f
   rw[hs,zay f,au c (by omega)];exact⟨rfl,l,p⟩
 ·rintro s ⟨rfl,l,p⟩;unfold lb;refine be (aa ?_);simp only[o_]
theorem Ar{d:DF}(h:RW d)(hn:d.2.1.length<=16777216)(v:d.1.length<=16777216):aK tbl km [.d (pr [.list tI,.list (.list tI),.list tB,tI]) d] [] ir (aW d,()):=by
 refine aG rfl (aF KU rfl (λO n=>eM (AB O n d)) ?_);unfold AB;have hs:=h.start;have c:d.2.2.2.1.toNat<(i_ d.2.1.length false).length:=by have:=hs.1;have:=hs.2;simp;omega
 refine ar (by simp only[v_,decide_eq_true_eq];omega) (cw hs.1 c (cD (x:=false) (show(i_ d.2.1.length false)[d.2.2.2.1.toNat]? =some false from by rw[a_ c];simp) ?_));simp only;refine ae (Go.Ev.wp_loop (σ:=Int×List Bool×List Int×Unit) (λs=>∃i:Nat,s=((i:Int),marks d.2.1.length (x9 d i).1,(x9 d i).1,())/\i<=(x9 d i).1.length) (λs=>d.2.1.length - s.1.toNat) ⟨0,?_,aa_ _⟩ ?_);·rw[show(x9 d 0).1=[d.2.2.2.1]from rfl,<-za4 hs.1];rfl
 rintro s ⟨i,rfl,u⟩;have k:=vq h i;unfold wv;simp only;refine aA (λj=>?_) λj=>aa (aa ?_)
 ·have a:i<(x9 d i).1.length:=by simp only[decide_eq_true_eq]at j;omega
  have l:=a_ a;have b:=Du h i _ (b_ a);obtain⟨g,e⟩:=Np h b;refine aD a (cD (x:=(x9 d i).1[i]) l (cw b.1 g ?_));refine ae (Wp.imp (Ic (d:=d) hn (iH i).nodup (Du h i) _ (h.to _ (b_ g)) (by rw[h.rows _ (b_ g)];exact v)) λr hr=>aa ?_);subst hr;have p:(x9 d (i+1)).1=eW (x9 d i).1 d.2.1[(x9 d i).1[i].toNat]:=by unfold x9;rw[ek l,e];simp only;rw[No]
  rw[au a (by omega)];refine⟨⟨i+1,by rw[p],?_⟩,by simp only[e_];omega⟩;have:=(pX (f:=lE d) (s0:=d.2.2.2.1) (ls:=d_ d.1.length) i).1.length_le;exact p_ a this
 ·have a:(x9 d i).1.length<=i:=by simp only[decide_eq_false_iff_not]at j;omega
  rw[Xe h a]
def bv(B:List Int)(s:Int):Int:=B.getD s.toNat 0
theorem LX{B:List Int}{s:Int}(h:s.toNat<B.length):B[s.toNat]=bv B s:=by unfold bv;simp only[l_,a_ h,w_]
theorem IJ{B:List Int}{s t x:Int}(hs:0<=s)(a:0<=t)(hl:s.toNat<B.length):bv (B.set s.toNat x) t=if t=s then x else bv B t:=by
 unfold bv;simp only[l_,List.getElem?_set];by_cases h:t=s;·subst h;simp[hl]
 ·have:s.toNat≠t.toNat:=λe=>h (by omega);simp[this,h]
def Ref(d:DF)(B:List Int)(s t:Int):Prop:=bv B s=bv B t/\∀c,c<d.1.length->bv B (lE d s c)=bv B (lE d t c)
section
variable {d:DF} {P:Int->Prop} {B B':List Int} {m m':Nat}
structure Rng(P:Int->Prop)(B:List Int)(m:Nat):Prop where
 rng:∀s,P s->0<=bv B s/\bv B s<(m:Int)
 onto:∀i:Nat,i<m->∃s,P s/\bv B s=(i:Int)
structure RefOk(d:DF)(P:Int->Prop)(B B':List Int)(m':Nat):Prop where
 rng:Rng P B' m'
 ref:∀s t,P s->P t->(bv B' s=bv B' t↔Ref d B s t)
theorem Sx{l:List Int}(hg:Rng (·∈l) B m):m<=l.length:=by
 obtain⟨b,a⟩:∃b:Nat->Int,∀i,i<m->b i∈l/\bv B (b i)=(i:Int):=⟨λi=>if h:i<m then ap_ (hg.onto i h)else 0,λi c=>by simp only[c,dif_pos];exact V_ (hg.onto i c)⟩;have d:((d_ m).map b).Nodup:=by rw[u_,aM_];refine List.Pairwise.imp_of_mem ?_ (u_.1 aP_);intro i j c g f e;have:=(a i (g_.1 c)).2;rw[e,(a j (g_.1 g)).2]at this;omega
 have:=oW _ l d λx k=>by obtain⟨i,c,rfl⟩:=k_.1 k;exact(a i (g_.1 c)).1
 simpa using this
theorem zff(n:Nat)(s:Int):bv (i_ n 0) s=0:=by unfold bv;rw[l_,List.getElem?_replicate];split<;>rfl
theorem zec(hg:Rng P B m)(hr:RefOk d P B B' m'):m<=m':=by
 rcases t_ m with rfl|l;·exact aa_ _
 obtain⟨s0,n,_⟩:=hg.onto 0 l;obtain⟨c,a⟩:∃c:Nat->Int,∀i,i<m->P (c i)/\bv B (c i)=(i:Int):=⟨λi=>if h:i<m then ap_ (hg.onto i h)else 0,λi b=>by simp only[b,dif_pos];exact V_ (hg.onto i b)⟩;have f:((d_ m).map λi=>bv B' (c i)).Nodup:=by rw[u_,aM_];refine List.Pairwise.imp_of_mem ?_ (u_.1 aP_);intro i j b e k g;have b:=g_.1 b;have e:=g_.1 e;have:=((hr.ref _ _ (a i b).1 (a j e).1).1 g).1;rw[(a i b).2,(a j e).2]at this;omega
 have:=oW _ (Jj m') f λx p=>by obtain⟨i,b,rfl⟩:=k_.1 p;exact rangeI_mem.2 (hr.rng.rng _ (a i (g_.1 b)).1)
 simpa[Nf]using this
end
section
variable {κ:Type} [DecidableEq κ]
structure Keyed(key:Int->κ)(l:List Int)(K:List κ)(B:List Int):Prop where
 nodup:K.Nodup
 num:∀s∈l,bv B s=(pos K (key s):Int)/\key s∈K
 onto:∀x∈K,∃s∈l,key s=x
theorem zfW{K:List κ}{x y:κ}(e:x∈K)(h:pos K x=pos K y):x=y:=by
 have a:=pos_lt.1 e;have b:K[pos K x]? =some x:=by unfold pos at a⊢;rw[a_ a,aH_]
 have c:pos K y<K.length:=by rw[<-h];exact a
 have d:K[pos K y]? =some y:=by unfold pos at c⊢;rw[a_ c,aH_]
 rw[h]at b;exact bf_ (b.symm.trans d)
theorem Keyed.refOk{key:Int->κ}{l:List Int}{K:List κ}{d:DF}{B B':List Int}(h:Keyed key l K B')(J:∀s∈l,∀t∈l,key s=key t↔Ref d B s t):RefOk d (·∈l) B B' K.length:=by
 refine⟨⟨λs hs=>?_,λi I=>?_⟩,λs t hs E=>?_⟩;·obtain⟨C,z⟩:=h.num s hs;have:=pos_lt.1 z;omega
 ·obtain⟨s,hs,e⟩:=h.onto _ (b_ I);refine⟨s,hs,?_⟩;rw[(h.num s hs).1,e];unfold pos;rw[List.Nodup.idxOf_getElem h.nodup]
 ·obtain⟨C,z⟩:=h.num s hs;obtain⟨H,M⟩:=h.num t E;rw[<-J s hs t E,C,H];exact⟨λe=>zfW z (by omega),λe=>by rw[e]⟩
theorem Keyed.old{key:Int->κ}{l:List Int}{K:List κ}{B:List Int}(h:Keyed key l K B)(hl:∀s∈l,0<=s){v:Int}(z:0<=v)(C:v.toNat<B.length)(E:key v∈K):Keyed key (l++[v]) K (B.set v.toNat (pos K (key v):Int)):=by
 refine⟨h.nodup,λs hs=>?_,λx H=>?_⟩
 ·rcases c_.1 hs with hs|hs
  ·rw[IJ z (hl s hs) C];split;·rename_i e;subst e;exact⟨rfl,E⟩
   ·exact h.num s hs
  ·simp at hs;subst hs;rw[IJ z z C,if_pos rfl];exact⟨rfl,E⟩
 ·obtain⟨s,hs,e⟩:=h.onto x H;exact⟨s,M_ _ hs,e⟩
theorem Keyed.new{key:Int->κ}{l:List Int}{K:List κ}{B:List Int}(h:Keyed key l K B)(hl:∀s∈l,0<=s){v:Int}(J:0<=v)(E:v.toNat<B.length)(I:key v∉K):Keyed key (l++[v]) (K++[key v]) (B.set v.toNat (K.length:Int)):=by
 have hp:pos (K++[key v]) (key v)=K.length:=by unfold pos;rw[List.idxOf_append,if_neg I];simp
 have H:∀s∈l,pos (K++[key v]) (key s)=pos K (key s):=λs hs=>I4 (aj_ _ _) (h.num s hs).2;refine⟨?_,λs hs=>?_,λx C=>?_⟩;·rw[ao_];exact⟨h.nodup,by simp,λa M b E=>by simp at E;subst E;rintro rfl;exact I M⟩
 ·rcases c_.1 hs with z|hs
  ·rw[IJ J (hl s z) E];split;·rename_i e;rw[e]at z;exact absurd (h.num v z).2 I
   ·rw[H s z];exact⟨(h.num s z).1,M_ _ (h.num s z).2⟩
  ·simp at hs;subst hs;rw[IJ J J E,if_pos rfl,hp];exact⟨rfl,by simp⟩
 ·rcases c_.1 C with C|C;·obtain⟨s,hs,e⟩:=h.onto x C;exact⟨s,M_ _ hs,e⟩
  ·simp at C;subst C;exact⟨v,by simp,rfl⟩
theorem Keyed.len{key:Int->κ}{l:List Int}{K:List κ}{B:List Int}(h:Keyed key l K B):K.length<=l.length:=by
 have:=oW K (l.map key) h.nodup λx z=>by obtain⟨s,hs,e⟩:=h.onto x z;exact k_.2 ⟨s,hs,e⟩
 simpa using this
end
def by2(v:Int):List Int:=[A_ .u8 (bc_ v (2^(min (aq_ (8:Int)) (ae_ .i64)))),A_ .u8 v]
def tob(n:Int):UInt8:=UInt8.ofNat n.toNat
def zc7(d:DF)(B:List Int)(s:Int):List Int:=bv B s::(d_ d.1.length).map λc=>bv B (lE d s c)
def Sy(d:DF)(B:List Int)(s:Int):List UInt8:=((zc7 d B s).flatMap by2).map tob
theorem zap{x y:Int}(a:0<=x/\x<256)(b:0<=y/\y<256)(h:tob x=tob y):x=y:=by have:=congrArg UInt8.toNat h;unfold tob at this;rw[UInt8.toNat_ofNat',UInt8.toNat_ofNat']at this;omega
theorem Rn{v:Int}(h:0<=v/\v<65536):by2 v=[v/256,v%256]:=by unfold by2;rw[wrap_u8,wrap_u8,show(2:Int)^(min (aq_ (8:Int)) (ae_ .i64))=256 from rfl,ah_ _ (by omega)];rw[Int.emod_eq_of_lt (show 0<=v/256 by omega) (by omega)]
theorem zan:∀(l l':List Int),(∀v∈l,0<=v/\v<65536)->(∀v∈l',0<=v/\v<65536)->(l.flatMap by2).map tob=(l'.flatMap by2).map tob->l=l'
 |[],[],_,_,_=>rfl
 |[],v::l',_,h',h=>by rw[T_,Rn (h' v (by simp))]at h;simp at h
 |v::l,[],h',_,h=>by rw[T_,Rn (h' v (by simp))]at h;simp at h
 |v::l,u::l',hl,a,h=>by have d:=hl v (by simp);have c:=a u (by simp);rw[T_,T_,Rn d,Rn c]at h;simp only[F_,as_,B_,List.cons.injEq]at h;have e:=zap (by omega) (by omega) h.1;have f:=zap (by omega) (by omega) h.2.1;rw[zan l l' (λx b=>hl x (y_ _ b)) (λx b=>a x (y_ _ b)) h.2.2,show v=u by omega]
theorem zfB{d:DF}{B:List Int}{s t:Int}:zc7 d B s=zc7 d B t↔Ref d B s t:=by unfold zc7 Ref;rw[List.cons.injEq];refine and_congr Iff.rfl ?_;rw[List.map_inj_left];exact⟨λh c hc=>h c (g_.2 hc),λh c hc=>h c (g_.1 hc)⟩
theorem Ka{d:DF}(h:RW d)(v:d.1.length<=16777216){B:List Int}(u:B.length=d.2.1.length){s:Int}(hs:In d s):aK tbl nX [.d (pr [.list tI,.list (.list tI),.list tB,tI]) d,.d (.list tI) B,.d tI s] [] kD (Sy d B s,()):=by
 refine aG rfl (aF KV rfl (λO n=>eM (AD O n d B s)) ?_);unfold AD;simp only;rw[wrap_i64 (n:=(2:Int)*(d.1.length:Int)) (by omega) (by omega),wrap_i64 (by omega) (by omega)];have j:s.toNat<B.length:=by have:=hs.1;have:=hs.2;omega
 obtain⟨r,e⟩:=Np h hs;refine ar (by simp only[v_,decide_eq_true_eq];omega) (cw hs.1 j (ar rfl (cw hs.1 j (ar rfl (cw hs.1 r ?_)))));rw[LX j,e];have k:∀i (f:i<((d_ d.1.length).map (lE d s)).length),((d_ d.1.length).map (lE d s))[i]=lE d s i:=λi f=>by simp
 refine ae (bi (N:=((d_ d.1.length).map (lE d s)).length) (I:=λi t=>t=((i:Int),(bv B s::(d_ i).map λc=>bv B (lE d s c)).flatMap by2,())) (by simp[by2]) ?_ ?_)
 ·rintro i t f rfl;have p:i<d.1.length:=by simpa using f
  have b:=zcB h hs p;have g:(lE d s i).toNat<B.length:=by have:=b.1;have:=b.2;omega
  unfold pG;refine bA f (aD f ?_);rw[k i f];refine cw b.1 g (ar rfl (cw b.1 g (ar (decide_eq_true ?_) (aa ?_))))
  ·have l:((bv B s::(d_ i).map λc=>bv B (lE d s c)).flatMap by2).length=2*(i+1):=by rw[aD_,show(λa=>(by2 a).length)=λ_=>2 from rfl,aV_,List.sum_replicate_nat];simp;omega
   simp only[l,H_,aU_];omega
  ·rw[LX g,au f (by simp at f⊢;omega),z_,j_,<-F_,ac_];simp[by2]
 ·rintro t rfl;unfold pG;refine be (aa (aa ?_));simp only[f_,aK_];rfl
def KJ:Nat->List (List UInt8)->List (List UInt8×Int)
 |_,[]=>[]
 |k,x::l=>(x,(k:Int))::KJ (k+1) l
theorem X8(x y:List UInt8):jk tS x y=decide (x=y):=by show(x==y)=_;by_cases h:x=y<;>simp[h]
theorem zc8(y:List UInt8):∀(L:List (List UInt8)) (k:Nat),bY tS tI (KJ k L) y=if y∈L then some (((k+pos L y:Nat):Int))else none
 |[],k=>by simp[KJ,bY]
 |x::L,k=>by
  have a:=zc8 y L (k+1);simp only[KJ,bY];rw[X8 y x,a];by_cases h:y=x;·subst h;simp[Xa]
  ·have h':x≠y:=λe=>h e.symm;rw[decide_eq_false h];have e:pos (x::L) y=pos L y+1:=Xb h';simp only[cond_false,x_,h,false_or,e];split;·congr 1;omega
   ·rfl
theorem zc9(y:List UInt8):∀(L:List (List UInt8)) (k:Nat),y∉L->dn tS tI (KJ k L) y (((k+L.length:Nat):Int))=KJ k (L++[y])
 |[],k,_=>by simp[KJ,dn]
 |x::L,k,h=>by have a:y≠x:=λe=>h (by simp[e]);have b:y∉L:=λe=>h (by simp[e]);have c:=zc9 y L (k+1) b;simp only[F_,KJ,dn];rw[X8 y x,decide_eq_false a];simp only[cond_false,H_];rw[show k+(L.length+1)=k+1+L.length by omega,c]
theorem HN:∀(L:List (List UInt8)) (k:Nat),(KJ k L).length=L.length
 |[],_=>rfl
 |_::L,k=>by simp[KJ,HN L (k+1)]
theorem Ia{d:DF}(h:RW d)(y:d.1.length<=16777216){B:List Int}(v:B.length=d.2.1.length){l:List Int}(hl:∀s∈l,In d s)(z:l.length<=16777216): Wp (λn=>aT n (pF (tj tbl n) n d l) ((0:Int),B,([]:List (List UInt8×Int)),i_ d.2.1.length 0,())) λr=>∃K B',r=(KJ 0 K,B',())/\Keyed (Sy d B) l K B'/\B'.length=d.2.1.length:=by
 refine bi (N:=l.length) (I:=λi s=>∃K B',s=((i:Int),B,KJ 0 K,B',())/\Keyed (Sy d B) (l.take i) K B'/\B'.length=d.2.1.length) ⟨[],i_ d.2.1.length 0,rfl,⟨by simp,by simp,by simp⟩,by simp⟩ ?_ ?_
 ·rintro i s k ⟨K,B',rfl,j,f⟩;have a:=hl _ (b_ k);have b:(l[i]).toNat<B'.length:=by have:=a.1;have:=a.2;omega
  have e:l.take (i+1)=l.take i++[l[i]]:=by rw[n_,a_ k];rfl
  have u:∀s∈l.take i,0<=s:=λs hs=>(hl s (E_ hs)).1;have w:=j.len;have A:(l.take i).length<=l.length:=by simp;omega
  unfold pF;refine bA k (aD k (ak (Ka h y v a) ?_));have c:=zc8 (Sy d B l[i]) K 0;by_cases p:Sy d B l[i]∈K;·rw[if_pos p]at c;refine ae (aA (λhc=>by rw[c]at hc;simp at hc) λ_=>aa ?_);refine cw a.1 b (cD (x:=B'[(l[i]).toNat]) (a_ b) (aa ?_));rw[c,au k (by omega),e];refine⟨K,B'.set (l[i]).toNat (pos K (Sy d B l[i]):Int),by simp,j.old u a.1 b p,by simpa using f⟩
  ·rw[if_neg p]at c;have g:=zc9 (Sy d B l[i]) K 0 p;simp only[U_]at g;refine ae (aA (λ_=>ar (decide_eq_true (by rw[HN];simp only[maxLen];omega)) (aa ?_)) λhc=>by rw[c]at hc;simp at hc);refine cw a.1 b (cD (x:=B'[(l[i]).toNat]) (a_ b) (aa ?_));rw[au k (by omega),e];refine⟨K++[Sy d B l[i]],B'.set (l[i]).toNat (K.length:Int),?_,j.new u a.1 b p,by simpa using f⟩;rw[<-g,HN]
 ·rintro s ⟨K,B',rfl,j,f⟩;rw[o_]at j;unfold pF;exact be (aa ⟨K,B',rfl,j,f⟩)
theorem QW{d:DF}(h:RW d)(hk:d.1.length<=16777216)(hn:d.2.1.length<=65536):∃c:List Int×Int×Unit,(∃m:Nat,c.2.1=(m:Int)/\m<=d.2.1.length/\Rng (·∈aW d) c.1 m/\c.1.length=d.2.1.length)/\aK tbl uo [.d (pr [.list tI,.list (.list tI),.list tB,tI]) d,.d (.list tI) (aW d)] [] mI c:=by
 refine gT (sh:=mI) (λ_=>rfl) (aF SL rfl (λO n=>eM (GF O n d (aW d))) ?_);unfold GF;have hl:∀s∈aW d,In d s:=Du h _;have C:(aW d).length<=d.2.1.length:=vq h _;have A:(aW d)[0]? =some d.2.2.2.1:=(iH _).head;have el:0<(aW d).length:=(s_.1 A).1;have Y:∀s c,c<d.1.length->s∈aW d->lE d s c∈aW d:=λs c hc hs=>nP h s hs c hc;have l:∀s,In d s->∃u:s.toNat<d.2.2.1.length,d.2.2.1[s.toNat]=o8 d s:=λs hs=>by
  have u:s.toNat<d.2.2.1.length:=by have:=h.len.2;have:=hs.1;have:=hs.2;omega
  exact⟨u,by unfold o8;simp only[l_,a_ u,w_]⟩
 refine ar (by simp only[v_,decide_eq_true_eq];omega) ?_;refine ae (bi (N:=(aW d).length) (I:=λi s=>∃(B:List Int) (cnt:Int),s=(cnt,(i:Int),B,())/\B.length=d.2.1.length/\(∀s,0<=s->bv B s=if s∈(aW d).take i/\o8 d s≠o8 d d.2.2.2.1 then 1 else 0)/\((cnt=1/\∀s∈(aW d).take i,o8 d s=o8 d d.2.2.2.1)\/(cnt=2/\∃s∈(aW d).take i,o8 d s≠o8 d d.2.2.2.1))) ⟨i_ d.2.1.length 0,1,rfl,by simp,λs _=>by rw[zff];simp,.inl ⟨rfl,by simp⟩⟩ ?_ ?_)
 ·rintro i s p ⟨B,cnt,rfl,y,a,f⟩;have j:=hl _ (b_ p);obtain⟨M,P⟩:=l _ j;obtain⟨Q,R⟩:=l _ h.start;have b:(aW d).take (i+1)=(aW d).take i++[(aW d)[i]]:=by rw[n_,a_ p];rfl
  have w:((aW d)[i]).toNat<B.length:=by have:=j.1;have:=j.2;omega
  unfold uY;refine bA p (ae (aD p (cw j.1 M (dt (x:=d.2.2.2.1) (by simp) A (cw h.start.1 Q ?_)))));rw[P,R];refine aA (λhc=>?_) λhc=>aa (aa ?_)
  ·have hc:o8 d (aW d)[i]≠o8 d d.2.2.2.1:=by simpa using hc
   refine cw j.1 w (cD (x:=B[((aW d)[i]).toNat]) (a_ w) (aa (aa ?_)));rw[au p (by omega)];refine⟨_,2,rfl,by simpa using y,λs hs=>?_,.inr ⟨rfl,(aW d)[i],(by rw[b];exact av_ _ (ar_ _)),hc⟩⟩;rw[IJ j.1 hs w,a s hs,b];by_cases e:s=(aW d)[i];·rw[if_pos e,if_pos ⟨by rw[e];exact av_ _ (ar_ _),by rw[e];exact hc⟩]
   ·rw[if_neg e];have H:s∈(aW d).take i++[(aW d)[i]]↔s∈(aW d).take i:=by rw[c_,m_];exact⟨λh=>h.resolve_right e,.inl⟩
    simp only[H]
  ·have hc:o8 d (aW d)[i]=o8 d d.2.2.2.1:=by simpa using hc
   rw[au p (by omega)];refine⟨B,cnt,rfl,y,λs hs=>?_,?_⟩
   ·rw[a s hs,b];by_cases e:s=(aW d)[i];·rw[if_neg λh=>h.2 (by rw[e];exact hc),if_neg λh=>h.2 (by rw[e];exact hc)]
    ·have H:s∈(aW d).take i++[(aW d)[i]]↔s∈(aW d).take i:=by rw[c_,m_];exact⟨λh=>h.resolve_right e,.inl⟩
     simp only[H]
   ·rw[b];rcases f with⟨u,k⟩|⟨u,s,k,E⟩
    ·refine .inl ⟨u,λs hs=>?_⟩;rcases c_.1 hs with hs|hs;·exact k s hs
     ·simp at hs;subst hs;exact hc
    ·exact .inr ⟨u,s,M_ _ k,E⟩
 ·rintro s ⟨B,cnt,rfl,y,a,f⟩;rw[o_]at a f;unfold uY;refine be (aa ?_);have D:=Ad (d:=d);have hg:∃m:Nat,cnt=(m:Int)/\Rng (·∈aW d) B m:=by
   rcases f with⟨rfl,k⟩|⟨rfl,s1,k,E⟩
   ·refine⟨1,rfl,λs hs=>?_,λi p=>⟨_,D,?_⟩⟩;·rw[a s (hl s hs).1];simp[k s hs]
    ·rw[a _ h.start.1];simp;omega
   ·refine⟨2,rfl,λs hs=>?_,λi p=>?_⟩;·rw[a s (hl s hs).1];split<;>omega
    ·rcases t_ i with rfl|hp;·exact⟨_,D,by rw[a _ h.start.1];simp⟩
     ·exact⟨s1,k,by rw[a _ (hl _ k).1,if_pos ⟨k,E⟩];omega⟩
  obtain⟨m,rfl,hg⟩:=hg;refine ae (Go.Ev.wp_loop (σ:=Int×List Int×Unit) (λs=>∃(m:Nat) (B:List Int),s=((m:Int),B,())/\B.length=d.2.1.length/\Rng (·∈aW d) B m) (λs=>d.2.1.length+1 - s.1.toNat) ⟨m,B,rfl,y,hg⟩ ?_);rintro s ⟨m,B,rfl,y,hg⟩;have gc:m<=d.2.1.length:=p_ (Sx hg) C;unfold BQ;refine ar (by simp only[v_,decide_eq_true_eq];omega) (ae (Wp.imp (Ia h hk y hl (by omega)) λr hr=>?_));obtain⟨K,B',rfl,T,z⟩:=hr;have hr:RefOk d (·∈aW d) B B' K.length:=T.refOk λs hs t ht=>by
   rw[<-zfB];have g:∀s∈aW d,∀v∈zc7 d B s,0<=v/\v<65536:=λs hs v J=>by
    have L:∀s∈aW d,0<=bv B s/\bv B s<65536:=λs hs=>by have:=hg.rng s hs;omega
    rcases x_.1 J with rfl|J;·exact L s hs
    ·obtain⟨c,hc,rfl⟩:=k_.1 J;exact L _ (Y s c (g_.1 hc) hs)
   exact⟨λe=>zan _ _ (g s hs) (g t ht) e,λe=>by unfold Sy;rw[e]⟩
  have F:=zec hg hr;refine aA (λhc=>aa (aa ⟨_,rfl,K.length,?_,p_ (Sx hr.rng) C,hr.rng,z⟩)) λhc=>aa ?_
  ·rw[HN]at hc;have hc:(K.length:Int)=(m:Int):=by simpa using hc
   exact hc.symm
  ·rw[HN]at hc⊢;have hc:(K.length:Int)≠(m:Int):=by simpa using hc
   have U:=Sx hr.rng;refine⟨⟨K.length,B',rfl,z,hr.rng⟩,?_⟩;simp only[e_];omega
section
variable {q:DF} {kp:Nat->Bool}
abbrev X1(q:DF)(kp:Nat->Bool):List Nat:=(d_ q.1.length).filter kp
theorem cls_mem{c:Nat}:c∈X1 q kp↔c<q.1.length/\kp c=true:=by rw[K_,g_]
theorem zfk:(X1 q kp).Pairwise (·<·):=List.Pairwise.sublist (ab_ ..) List.pairwise_lt_range
theorem zcz{i j:Nat}(a:i<j)(b:j<(X1 q kp).length):(X1 q kp)[i]<(X1 q kp)[j]:=C_.1 zfk i j (by omega) b a
theorem PT{i:Nat}(a:i<(X1 q kp).length):(X1 q kp)[i]<q.1.length:=(cls_mem.1 (b_ a)).1
theorem getD_at{α:Type}{xs:List α}{i:Nat}{z:α}(h:i<xs.length):xs.getD i z=xs[i]:=by simp only[l_,a_ h,w_]
end
theorem zbt{k i:Nat}{r:List Nat}{n:Nat}(hr:r.length=i)(h:i<k):(qL k r).set i (n:Int)=qL k (r++[n]):=by subst hr;exact C3 h
theorem zej{k:Nat}{r:List Nat}(h:r.length<=k):(qL k r).length=k:=by unfold qL;simp;omega
theorem zbs{k:Nat}{r:List Nat}(h:r.length=k):qL k r=r.map fun(n:Nat)=>(n:Int):=by unfold qL;rw[h];simp
def np(d:DF):DF:=(d.1,(aW d).map λb=>(d_ d.1.length).map λc=>(pos (aW d) (lE d b c):Int),(aW d).map (o8 d),0,())
theorem zcc{d:DF}(h:RW d){s:Int}(hs:In d s):∃a:s.toNat<d.2.2.1.length,d.2.2.1[s.toNat]=o8 d s:=by
 have a:s.toNat<d.2.2.1.length:=by have:=h.len.2;have:=hs.1;have:=hs.2;omega
 exact⟨a,by unfold o8;simp only[l_,a_ a,w_]⟩
theorem Su{d:DF}:(aW d).Nodup:=(iH (f:=lE d) (s0:=d.2.2.2.1) (ls:=d_ d.1.length) _).nodup
theorem zhd{L:List Int}(hn:L.Nodup){i:Nat}(a:i<L.length):pos L L[i]=i:=by unfold pos;exact List.Nodup.idxOf_getElem hn i a
theorem Lq{d:DF}(h:RW d)(J:d.1.length<=16777216)(hn:d.2.1.length<=16777216):aK tbl pO [.d (pr [.list tI,.list (.list tI),.list tB,tI]) d] [] mq (np d,()):=by
 refine aG rfl (aF NE rfl (λO n=>eM (BJ O n d)) ?_);unfold BJ;have hl:∀s∈aW d,In d s:=Du h _;have L:(aW d).length<=d.2.1.length:=vq h _;refine ak (Ar h hn J) (ar (by simp only[v_,decide_eq_true_eq];omega) ?_);refine ae (bi (N:=(aW d).length) (I:=λi s=>∃A:List Int,s=((i:Int),(0:Int),A,())/\A.length=d.2.1.length/\∀x∈(aW d).take i,bv A x=(pos (aW d) x:Int)) ⟨i_ d.2.1.length 0,rfl,by simp,by simp⟩ ?_ ?_)
 ·rintro i s f ⟨A,rfl,C,y⟩;have a:=hl _ (b_ f);have k:((aW d)[i]).toNat<A.length:=by have:=a.1;have:=a.2;omega
  unfold rp;refine bA f (aD f (cw a.1 k (cD (x:=A[((aW d)[i]).toNat]) (a_ k) (aa ?_))));rw[au f (by omega)];refine⟨_,rfl,by simpa using C,λx z=>?_⟩;rw[n_,a_ f]at z;have B:0<=x:=by
   rcases c_.1 z with g|g;·exact(hl x (E_ g)).1
   ·simp at g;subst g;exact a.1
  rw[IJ a.1 B k];split;·rename_i e;rw[e,zhd Su f]
  ·rename_i e;rcases c_.1 z with g|g;·exact y x g
   ·simp at g;exact absurd g e
 ·rintro s ⟨A,rfl,C,y⟩;rw[o_]at y;unfold rp;refine be (aa ?_);refine ae (bi (N:=(aW d).length) (I:=λi s=>s=((i:Int),(0:Int),A,d.1,(0:Int),((aW d).take i).map (λb=>(d_ d.1.length).map λc=>(pos (aW d) (lE d b c):Int)),((aW d).take i).map (o8 d),())) rfl ?_ ?_)
  ·rintro i s f rfl;have a:=hl _ (b_ f);obtain⟨g,e⟩:=Np h a;obtain⟨E,D⟩:=zcc h a;unfold ru;refine bA f (aD f (ar (M0 (by omega)) (cw a.1 g ?_)));rw[e];generalize v:((aW d).take i).map (λb=>(d_ d.1.length).map λc=>(pos (aW d) (lE d b c):Int))=NX;generalize u:((aW d).take i).map (o8 d)=AC;refine ae (bi (N:=d.1.length) (I:=λc s=>s=((c:Int),(0:Int),A,d.1,(0:Int),NX,AC,qL d.1.length ((d_ c).map λc=>pos (aW d) (lE d (aW d)[i] c)),())) (by rw[aW_,D_,show qL d.1.length []=i_ d.1.length 0 from by simp[qL]];rfl) ?_ ?_)
   ·rintro c s hc rfl;have j:=nP h _ (b_ f) c hc;have l:=hl _ j;have p:(lE d (aW d)[i] c).toNat<A.length:=by have:=l.1;have:=l.2;omega
    have w:(qL d.1.length ((d_ c).map λc=>pos (aW d) (lE d (aW d)[i] c))).length=d.1.length:=zej (by simp;omega);have r:((d_ d.1.length).map (lE d (aW d)[i])).length=d.1.length:=by simp
    unfold rq;rw[r];refine bA hc (Ao (x:=lE d (aW d)[i] c) (by simp[hc]) (cw l.1 p (cD (x:=A[(lE d (aW d)[i] c).toNat]) (a_ p) ?_)));refine aD (by rw[w];exact hc) (cD (x:=(qL d.1.length ((d_ c).map λc=>pos (aW d) (lE d (aW d)[i] c)))[c]'(by rw[w];exact hc)) (a_ _) (aa ?_));rw[au hc (by omega),LX p,y _ j];simp only[e_];rw[zbt (by simp) hc,z_,j_];rfl
   ·rintro s rfl;unfold rq;have r:((d_ d.1.length).map (lE d (aW d)[i])).length=d.1.length:=by simp
    rw[r];refine be (aa ?_);have H:NX.length=i:=by rw[<-v];simp;omega
    have F:AC.length=i:=by rw[<-u];simp;omega
    refine ar (decide_eq_true (by simp;omega)) (cw a.1 E (ar (decide_eq_true (by simp;omega)) (aa ?_)));rw[au f (by omega),D,zbs (by simp),<-v,<-u];simp only[n_,a_ f,j_,al_,B_,D_,af_];rfl
  ·rintro s rfl;unfold ru;refine be (aa (aa ?_));simp only[o_];rfl
def yo(q:DF)(kp:Nat->Bool):DF:=((X1 q kp).map λc=>q.1.getD c 0,q.2.1.map λr=>(X1 q kp).map λc=>r.getD c 0,q.2.2.1,q.2.2.2.1,())
theorem zes{q:DF}(kp:Nat->Bool)(b:RW q):RW (yo q kp):=by
 refine⟨⟨by simpa[yo]using b.len.1,by simpa[yo]using b.len.2⟩,λr hr=>?_,?_,λr hr t d=>?_⟩;·simp only[yo,k_]at hr;obtain⟨r,_,rfl⟩:=hr;simp[yo]
 ·have:=b.start;exact⟨this.1,by simpa[yo]using this.2⟩
 ·simp only[yo,k_]at hr;obtain⟨r,hr,rfl⟩:=hr;obtain⟨c,hc,rfl⟩:=k_.1 d;have a:c<r.length:=by rw[b.rows r hr];exact(cls_mem.1 hc).1
  rw[getD_at a];have:=b.to r hr _ (b_ a);exact⟨this.1,by simpa[yo]using this.2⟩
def jN(NX:List (List Int))(c:Nat):Bool:=decide (c=0)||NX.any λr=>r.getD c 0 != r.getD (c - 1) 0
def KM(k:Nat)(r:List Int):List Int:=r++i_ (k - r.length) 0
theorem zei{k i:Nat}{r:List Int}{x:Int}(hr:r.length=i)(h:i<k):(KM k r).set i x=KM k (r++[x]):=by subst hr;unfold KM;rw[X_ _ _ (S_ _),ag_];obtain⟨m,a⟩:∃m,k - r.length=m+1:=⟨k - r.length - 1,by omega⟩;rw[a,aE_,ak_,q_,show k - (r.length+[x].length)=m by simp;omega];simp
theorem zeh{k:Nat}{r:List Int}(h:r.length<=k):(KM k r).length=k:=by unfold KM;simp;omega
theorem zbr{k:Nat}{r:List Int}(h:r.length=k):KM k r=r:=by unfold KM;rw[h];simp
theorem zfK{α β:Type}{g g':α->β}{xs:List α}{j:Nat}(a:j<xs.length):((xs.take j).map g'++(xs.drop j).map g)[j]? =some (g xs[j]):=by rw[List.getElem?_append_right (by simp;omega)];simp[aX_ (bb_ a),a]
theorem zfL{α β:Type}{g g':α->β}{xs:List α}{j:Nat}(a:j<xs.length):((xs.take j).map g'++(xs.drop j).map g).set j (g' xs[j])=(xs.take (j+1)).map g'++(xs.drop (j+1)).map g:=by rw[X_ _ _ (by simp;omega),List.drop_eq_getElem_cons a,n_,a_ a];simp only[f_,O_,aX_ (bb_ a),ag_,B_,ak_,j_,al_,D_,an_,F_,as_]
theorem WW{NX:List (List Int)}{c j:Nat}(a:j<NX.length):(decide (c=0)||(NX.take (j+1)).any λr=>r.getD c 0 != r.getD (c - 1) 0)=((decide (c=0)||(NX.take j).any λr=>r.getD c 0 != r.getD (c - 1) 0)||(NX[j].getD c 0 != NX[j].getD (c - 1) 0)):=by rw[n_,a_ a,List.any_append];simp[Bool.or_assoc]
theorem IM{d:DF}(hs:d.1.length<=16777216){NX:List (List Int)}(AC:List Bool)(st:Int)(hr:∀r∈NX,r.length=d.1.length)(hn:NX.length<=16777216): Wp (λn=>aT n (nT (tj tbl n) n d) ((0:Int),(0:Int),st,([]:List Int),NX,AC,i_ NX.length ([]:List Int),())) λr=>r=((0:Int),st,((d_ d.1.length).filter (jN NX)).map (λc=>d.1.getD c 0),NX,AC,NX.map (λr=>((d_ d.1.length).filter (jN NX)).map λc=>r.getD c 0),()):=by
 refine bi (N:=d.1.length) (I:=λc s=>s=((c:Int),(0:Int),st,((d_ c).filter (jN NX)).map (λc=>d.1.getD c 0),NX,AC,NX.map (λr=>((d_ c).filter (jN NX)).map λc=>r.getD c 0),())) ?_ ?_ ?_;·show _=((0:Int),(0:Int),st,[],NX,AC,NX.map (λ_=>[]),());rw[aV_]
 ·rintro c s hc rfl;generalize w:((d_ c).filter (jN NX)).map (λc=>d.1.getD c 0)=v;have E:v.length<=c:=by rw[<-w,f_];exact p_ (L_ ..) (by simp)
  generalize hg:(λr:List Int=>((d_ c).filter (jN NX)).map λc=>r.getD c 0)=g;have A:∀r,(g r).length<=c:=λr=>by rw[<-hg,f_];exact p_ (L_ ..) (by simp)
  unfold nT;refine bA hc (ae (aD hc ?_));refine ae (bi (N:=NX.length) (I:=λj s=>s=((decide (c=0)||(NX.take j).any λr=>r.getD c 0 != r.getD (c - 1) 0),(j:Int),(0:Int),st,v,NX,AC,NX.map g,())) ?_ ?_ ?_)
  ·rw[List.take_zero,List.any_nil,aY_,show(((c:Int)==(0:Int)))=decide (c=0)from ?_];·rfl
   ·by_cases e:c=0<;>simp[e]
  ·rintro j s f rfl;have B:=hr _ (b_ f);unfold s5;refine bA f (aD f (cD (x:=NX[j]) (a_ f) ?_));refine ae (cN (b:=NX[j].getD c 0 != NX[j].getD (c - 1) 0) (λF=>?_) (aa ?_))
   ·have D:0<c:=by simp only[Bool.or_eq_false_iff,decide_eq_false_iff_not]at F;omega
    rw[QS D (by omega)];refine aD (by omega) (aD (by omega) (aa ?_));rw[getD_at (by omega),getD_at (by omega)]
   ·rw[au f (by omega),WW f]
  ·rintro s rfl;unfold s5;refine be (aa ?_);rw[o_];have C:(decide (c=0)||NX.any λr=>r.getD c 0 != r.getD (c - 1) 0)=jN NX c:=rfl;rw[C];have k:(d_ (c+1)).filter (jN NX)=(d_ c).filter (jN NX)++(if jN NX c=true then [c]else []):=by rw[z_,aG_];congr 1;cases h:jN NX c<;>simp[h]
   refine aA (λl=>?_) λl=>aa (aa ?_)
   ·have l:jN NX c=true:=l;have z:(λr:List Int=>((d_ (c+1)).filter (jN NX)).map λc=>r.getD c 0)=λr=>g r++[r.getD c 0]:=by funext r;rw[k,if_pos l,j_,<-hg];rfl
    have y:((d_ (c+1)).filter (jN NX)).map (λc=>d.1.getD c 0)=v++[d.1[c]]:=by rw[k,if_pos l,j_,<-w,B_,D_,getD_at hc]
    refine ar (decide_eq_true (by simp;omega)) ?_;refine ae (bi (N:=NX.length) (I:=λj s=>s=((j:Int),(0:Int),st,v++[d.1[c]],NX,AC,(NX.take j).map (λr=>g r++[r.getD c 0])++(NX.drop j).map g,())) rfl ?_ ?_);·rintro j s f rfl;have B:=hr _ (b_ f);have H:=A NX[j];have a:=zfK (g:=g) (g':=λr=>g r++[r.getD c 0]) f;have J:j<((NX.take j).map (λr=>g r++[r.getD c 0])++(NX.drop j).map g).length:=(s_.1 a).1;unfold s6;refine bA f (aD f (cD (x:=NX[j]) (a_ f) (ar (decide_eq_true (by show(0:Int)<=(j:Int);omega)) ?_)));refine cD (x:=g NX[j]) a (Ao a (cD (x:=g NX[j]) a (ar (by simp) (aD (by omega) (ar (decide_eq_true (by simp;omega)) ?_)))));refine Ao a (cD (x:=g NX[j]) a (ar (by simp) (cD (x:=g NX[j]) a (aa ?_))));have p:=zfL (g:=g) (g':=λr=>g r++[r.getD c 0]) f;simp only[getD_at (show c<NX[j].length by omega)]at p;rw[au f (by omega)];simp only[e_];rw[p]
    ·rintro s rfl;unfold s6;refine be (aa (aa (aa ?_)));rw[au hc (by omega),y,z,o_,List.drop_length,D_,P_]
   ·have l:jN NX c=false:=l;have u:(d_ (c+1)).filter (jN NX)=(d_ c).filter (jN NX):=by rw[k,l];simp
    rw[au hc (by omega),u,w,hg]
 ·rintro s rfl;unfold nT;exact be (aa rfl)
theorem Jb{m:Nat}{b:Int}(a:b<=24)(d:m<=65536)(c:0<=b):(decide (0<=(m:Int))&&decide ((m:Int)<=(m:Int))&&decide ((m:Int)<=9223372036854775807)&&decide (b*(m:Int)<=281474976710656))=true:=by have:b*(m:Int)<=24*65536:=Int.mul_le_mul a (by omega) (by omega) (by omega);simp only[v_,decide_eq_true_eq];omega
theorem zhs{d:DF}(hd:RW d){B:List Int}{m:Nat}{NX:List (List Int)}{AC:List Bool}(g:Rng (·∈aW d) B m)(k:NX.length=m)(l:AC.length=m) (h:∀s∈aW d,∃r,NX[(bv B s).toNat]? =some r/\r.length=d.1.length/\∀t∈r,0<=t/\t<(m:Int)):RW (d.1,NX,AC,bv B d.2.2.2.1,()):=by
 have c:=g.rng _ (Ad (d:=d));have a:∀r∈NX,r.length=d.1.length/\∀t∈r,0<=t/\t<(m:Int):=λr hr=>by obtain⟨b,n,rfl⟩:=h_.1 hr;obtain⟨s,hs,e⟩:=g.onto b (by omega);obtain⟨r,f,j⟩:=h s hs;rw[e,e_,a_ n]at f;cases f;exact j
 subst k;exact⟨⟨by show 0<NX.length;omega,l⟩,λr hr=>(a r hr).1,c,λr hr=>(a r hr).2⟩
theorem zg5{q:DF}{kp:Nat->Bool}(w:kp 0=true)(y:RW q)(hs:kO q.1):WF (np (yo q kp)):=by
 have v:=zes kp y;have d:0<(aW (yo q kp)).length:=I_ Ad;have l:0∈X1 q kp:=cls_mem.2 ⟨hs.1,w⟩;have hl:(np (yo q kp)).1.length=(X1 q kp).length:=by simp[np,yo]
 have a:∀j (g:j<(X1 q kp).length),∃h:j<(np (yo q kp)).1.length,(np (yo q kp)).1[j]=q.1[(X1 q kp)[j]]'(PT g):=λj g=>⟨by omega,by simp only[np,yo,Y_];exact getD_at (PT g)⟩
 refine⟨⟨by rw[hl];exact I_ l,λh=>?_,λi f=>?_,λx A=>?_⟩,⟨by simpa[np]using d,by simp[np]⟩,λr hr=>?_,⟨aw_ _,by simpa[np]using d⟩,λr hr t z=>?_⟩
 ·obtain⟨j,g,e⟩:=h_.1 l;obtain⟨_,n⟩:=a 0 (by omega);have:(X1 q kp)[0]'(by omega)=0:=by
   rcases t_ j with rfl|s;·exact e
   ·have:=zcz (q:=q) (kp:=kp) s g;omega
  rw[n];simp only[this];exact hs.2.1 hs.1
 ·rw[hl]at f;obtain⟨_,k⟩:=a i (by omega);obtain⟨_,p⟩:=a (i+1) f;rw[k,p];exact uO hs _ _ _ (zcz (by omega) f)
 ·obtain⟨i,f,rfl⟩:=h_.1 A;rw[hl]at f;obtain⟨_,k⟩:=a i f;rw[k];exact hs.2.2.2 _ (b_ _)
 ·simp only[np,k_]at hr;obtain⟨b,_,rfl⟩:=hr;simp[np]
 ·simp only[np,k_]at hr;obtain⟨b,u,rfl⟩:=hr;obtain⟨c,hc,rfl⟩:=k_.1 z;have:=pos_lt.1 (nP v b u c (g_.1 hc));refine⟨by omega,?_⟩;simp only[np,f_];omega
theorem EF{d:DF}(hd:WF d)(Q:d.1.length<=16777216)(hn:d.2.1.length<=65536):∃c:DF×Unit,(WF c.1/\c.1.1.length<=d.1.length/\c.1.2.1.length<=d.2.1.length)/\aK tbl gC [.d (pr [.list tI,.list (.list tI),.list tB,tI]) d] [] d7 c:=by
 refine gT (sh:=d7) (λ_=>rfl) (aF Ph rfl (λO n=>eM (EJ O n d)) ?_);unfold EJ;have h:=hd.rw;have hl:∀s∈aW d,In d s:=Du h _;have el:(aW d).length<=d.2.1.length:=vq h _;obtain⟨⟨B,mi,_⟩,⟨m,L,hm,D,R⟩,hc⟩:=QW h Q hn;simp only at L D R;subst L;have P:d.2.2.2.1.toNat<B.length:=by have:=h.start.1;have:=h.start.2;omega
 refine ak (Ar h (by omega) Q) (ak hc ?_);refine ar (Jb (m:=m) (by omega) (by omega) (by omega)) (ar (Jb (m:=m) (by omega) (by omega) (by omega)) (cw h.start.1 P ?_));rw[LX P];refine ae (bi (N:=(aW d).length) (I:=λi s=>∃NX AC,s=((i:Int),(0:Int),bv B d.2.2.2.1,NX,AC,())/\NX.length=m/\AC.length=m/\∀s∈(aW d).take i,∃r,NX[(bv B s).toNat]? =some r/\r.length=d.1.length/\∀t∈r,0<=t/\t<(m:Int)) ⟨i_ m [],i_ m false,rfl,by simp,by simp,by simp⟩ ?_ ?_)
 ·rintro i s J ⟨NX,AC,rfl,k,v,l⟩;have b:=b_ J;have a:=hl _ b;obtain⟨h1,e⟩:=Np h a;obtain⟨h2,Y⟩:=zcc h a;have p:((aW d)[i]).toNat<B.length:=by have:=a.1;have:=a.2;omega
  have E:=D.rng _ b;unfold s4;refine bA J (aD J (ar (by simp only[v_,decide_eq_true_eq];omega) (cw a.1 h1 ?_)));rw[e];refine ae (bi (N:=d.1.length) (I:=λc s=>s=((c:Int),(0:Int),bv B d.2.2.2.1,NX,AC,KM d.1.length ((d_ c).map λc=>bv B (lE d (aW d)[i] c)),())) (by rw[aW_,D_,show KM d.1.length []=i_ d.1.length 0 from by simp[KM]];rfl) ?_ ?_)
  ·rintro c s hc rfl;have F:=nP h _ b c hc;have z:=hl _ F;have H:(lE d (aW d)[i] c).toNat<B.length:=by have:=z.1;have:=z.2;omega
   have M:(KM d.1.length ((d_ c).map λc=>bv B (lE d (aW d)[i] c))).length=d.1.length:=zeh (by simp;omega);have A:((d_ d.1.length).map (lE d (aW d)[i])).length=d.1.length:=by simp
   unfold sZ;rw[A];refine bA hc (Ao (x:=lE d (aW d)[i] c) (by simp[hc]) (cw z.1 H ?_));refine aD (by rw[M];exact hc) (cD (x:=(KM d.1.length ((d_ c).map λc=>bv B (lE d (aW d)[i] c)))[c]'(by rw[M];exact hc)) (a_ _) (aa ?_));rw[au hc (by omega),LX H];simp only[e_];rw[zei (by simp) hc,z_,j_];rfl
  ·rintro s rfl;unfold sZ;have A:((d_ d.1.length).map (lE d (aW d)[i])).length=d.1.length:=by simp
   rw[A];have w:(bv B (aW d)[i]).toNat<NX.length:=by omega
   have C:(bv B (aW d)[i]).toNat<AC.length:=by omega
   refine be (aa (cw a.1 p ?_));rw[LX p];refine cw E.1 w (cD (x:=NX[(bv B (aW d)[i]).toNat]) (a_ w) (cw a.1 p ?_));rw[LX p];refine cw a.1 h2 (cw E.1 C (cD (x:=AC[(bv B (aW d)[i]).toNat]) (a_ C) (aa ?_)));rw[au J (by omega),Y,zbr (by simp)];refine⟨_,_,rfl,by simpa using k,by simpa using v,λs hs=>?_⟩;rw[n_,a_ J]at hs;have U:s∈aW d:=by
    rcases c_.1 hs with j|j;·exact E_ j
    ·simp at j;subst j;exact b
   have gc:=D.rng s U;by_cases f:bv B s=bv B (aW d)[i];·rw[f,List.getElem?_set_self w];refine⟨_,rfl,by simp,λt ht=>?_⟩;obtain⟨c,hc,rfl⟩:=k_.1 ht;exact D.rng _ (nP h _ b c (g_.1 hc))
   ·have T:(bv B (aW d)[i]).toNat≠(bv B s).toNat:=λe=>f (by omega);rw[List.getElem?_set_ne T];rcases c_.1 hs with j|j;·exact l s j
    ·simp at j;subst j;exact absurd rfl f
 ·rintro s ⟨NX,AC,rfl,k,v,l⟩;rw[o_]at l;unfold s4;refine be (aa ?_);have y:=zhs h D k v l;refine ar (Jb (m:=m) (by omega) (by omega) (by omega)) ?_;have g:=IM Q (NX:=NX) AC (bv B d.2.2.2.1) (λr hr=>y.rows r hr) (by omega);rw[k]at g;refine ae (Wp.imp g λr hr=>?_);subst hr;have u:=zes (jN NX) y;refine ak (Lq (d:=yo (d.1,NX,AC,bv B d.2.2.2.1,()) (jN NX)) u ?_ ?_) (aa ⟨_,rfl,zg5 rfl y hd.starts,?_,?_⟩);·simp only[yo,f_];exact p_ (L_ ..) (by simpa using Q)
  ·simp only[yo,f_];omega
  ·simp only[np,yo,f_];exact p_ (L_ ..) (by simp)
  ·simp only[np,f_];refine p_ (vq u _) ?_;simp only[yo,f_];omega
noncomputable abbrev sF(a b:DF)(i:Nat):SR:=cJ (oZ a b) (tH a b) (eZ a b) i
noncomputable abbrev E5(a b:DF)(sp:List PR->PR->Bool)(i:Nat):SR⊕SR:=lz (oZ a b) (tH a b) (eZ a b) sp i
noncomputable abbrev pR(a b:DF):SR:=sF a b (a.2.1.length*b.2.1.length)
theorem Tm{a b:DF}(c:Good a)(d:Good b):(pR a b).1.length<=a.2.1.length*b.2.1.length:=Lg c d (iH _)
noncomputable def Jm(a b:DF)(f:Bool)(S:SR):Bool×List Int×List PR×List Int×List Int×List (List Int)×Unit:=(f,eZ a b,S.1,AW S.2.1,byL S.2.1,kF S.2.2,())
theorem zel{a b:DF}(i:Nat):(sF a b i).2.2.length<=i:=by rw[uK i i (S_ _),f_,O_];omega
theorem y9:∀l:List Int,∃c,Asc c/\∀x,x∈c↔x∈l
 |[]=>⟨[],by simp[Asc],by simp⟩
 |v::l=>by
  obtain⟨c,hc,e⟩:=y9 l;refine⟨c.filter (λy=>decide (y<v))++([v]++c.filter λy=>decide (v<y)),?_,λx=>?_⟩
  ·refine FT (List.Pairwise.sublist (ab_ ..) hc) (FT (by simp[Asc]) (List.Pairwise.sublist (ab_ ..) hc) λx b y a=>?_) λx b y a=>?_;·simp at b a;omega
   ·simp at b a;rcases a with rfl|a<;>omega
  ·simp only[c_,K_,decide_eq_true_eq,x_,aQ_,or_false,e];constructor
   ·rintro(⟨h,_⟩|h|⟨h,_⟩);·exact .inr h
    ·exact .inl h
    ·exact .inr h
   ·rintro(h|h);·exact .inr (.inl h)
    ·rcases Int.lt_trichotomy x v with hl|d|hg;·exact .inl ⟨h,hl⟩
     ·exact .inr (.inl d)
     ·exact .inr (.inr ⟨h,hg⟩)
theorem zda(a b:DF):Asc (eZ a b)/\∀x,x∈eZ a b↔x∈a.1\/x∈b.1:=by obtain⟨c,hc,d⟩:=y9 (a.1++b.1);unfold eZ;rw[wz hc d];exact⟨hc,λx=>by rw[d x,c_]⟩
abbrev QN(a:Nat):List PR->PR->Bool:=λL _=>decide (a<=L.length)
theorem Gz(x:PR):aK tbl j4 [.d (pr [tI,tI]) x] [] kh (false,()):=aG rfl (aF SK rfl (λO n=>eM (GD O n x)) (by unfold GD;exact aa rfl))
theorem Er{a b:DF}(v:Good a)(w:Good b){i:Nat}{L:List PR}{T:List (Nat×Int)}{R:List (List Nat)}(h:OkP a b L T){x:PR}(hx:L[i]? =some x): Wp (λn=>aT n (g9 (tj tbl n) n a b (4096:Int) (zcF a b i (L,T,R))) ((0:Int),eZ a b,L,AW T,byL T,kF R,oA 0 L,i_ (eZ a b).length 0,())) λr=>match nK (pg (QN 4096) (oZ a b) x i) (L,T,[]) (eZ a b)with | .inl s=>r= .inr (eZ a b,s.1,AW s.2.1,byL s.2.1,kF R,oA 0 s.1,s.2.2.map (fun(k:Nat)=>(k:Int)),())/\OkP a b s.1 s.2.1/\s.2.2.length=(eZ a b).length | .inr s=>r= .inl (true,eZ a b,s.1,AW s.2,byL s.2,kF R,()):=by
 have hk:=MS v w;have hB:=Z0 v w;have gc:=mf v;have ph:=mf w;refine V4 (xs:=eZ a b) (f:=pg (QN 4096) (oZ a b) x i) (s0:=(L,T,[])) (Inv:=λj st=>OkP a b st.1 st.2.1/\L<+:st.1/\st.2.2.length=j) (enc:=λj st=>((j:Int),eZ a b,st.1,AW st.2.1,byL st.2.1,kF R,oA 0 st.1,qL (eZ a b).length st.2.2,())) (oE:=λst=>.inr (eZ a b,st.1,AW st.2.1,byL st.2.1,kF R,oA 0 st.1,qL (eZ a b).length st.2.2,())) (oB:=λr=>.inl (true,eZ a b,r.1,AW r.2,byL r.2,kF R,())) ⟨h,aR_ _,rfl⟩ (λj A st J=>?_) (λst J=>?_) (λr hr hs=>?_)
 ·obtain⟨d,p,c⟩:=st;obtain⟨z,E,F⟩:=J;simp only at z E F;subst F;have l:=HZ E hx;have U:=(s_.1 l).1;have qr:=(s_.1 l).2;have g:=zdE v w z l;have Y:=Lg v w z;have M:=(yd v w _ (b_ A)).1;have hT:p.length<d.length:=by have:=z.len;omega
  obtain⟨p1,p2,p3,p4⟩:=Ik v g.1.1 g.1.2 M;obtain⟨r1,r2,r3,r4⟩:=Ik w g.2.1 g.2.2 M;unfold g9;simp only[zcF];refine bA A (aD A (aD U (cD (x:=x) (by simpa using l) ?_)));refine cw g.1.1 p1 (ak (GB a.1 _ v.starts (by omega) M) (aD p2 ?_));refine aD U (cD (x:=x) (by simpa using l) (cw g.2.1 r1 (ak (GB b.1 _ w.starts (by omega) M) (aD r2 ?_))));rw[p3,r3];have D:((Ij a x.1 (eZ a b)[c.length],Ij b x.2.1 (eZ a b)[c.length],()):PR)=oZ a b x (eZ a b)[c.length]:=rfl;simp only[D];generalize N:oZ a b x (eZ a b)[c.length]=y;have el:PIn a b y:=by rw[<-N];exact Ny v w M g
  have u:=MO y d 0;have I:c.length<(qL (eZ a b).length c).length:=by unfold qL;simp;omega
  by_cases B:y∈d;·rw[if_pos B]at u;have e:pg (QN 4096) (oZ a b) x i (d,p,c) (eZ a b)[c.length]= .inl (d,p,c++[pos d y]):=Vw N B;rw[e];refine ae (aA (λhc=>by rw[u]at hc;simp at hc) λ_=>aa ?_);refine aD I (cD (x:=(qL (eZ a b).length c)[c.length]) (by simp) (aa ?_));refine⟨⟨z,E,by simp⟩,?_⟩;rw[u,au A (by omega)];simp only[w_,e_,U_];rw[C3 A]
  ·rw[if_neg B]at u;have H:OkP a b (d++[y]) (p++[(i,(eZ a b)[c.length])]):=by rw[<-N]at B⊢;exact z.add l (b_ A) B
   have O:=Lg v w H;simp only[q_,W_]at O;have C:=MP y d 0 B;simp only[U_]at C;have Q:AW (p++[(i,(eZ a b)[c.length])])=AW p++[(i:Int)]:=by simp[AW]
   have P:byL (p++[(i,(eZ a b)[c.length])])=byL p++[(eZ a b)[c.length]]:=by simp[byL]
   refine ae (aA (λ_=>?_) λhc=>by rw[u]at hc;simp at hc);refine ar (decide_eq_true (by rw[MN];simp only[maxLen];omega)) ?_;refine ar (decide_eq_true (by simp;omega)) (ar (decide_eq_true (by simp[AW];omega)) (ar (decide_eq_true (by simp[byL];omega)) ?_));refine ae (cN (b:=false) (λ_=>ak (Gz y) (aa rfl)) ?_);rw[aY_];refine aA (λhd=>aa ?_) λhd=>aa ?_
   ·have hd:QN 4096 d y=true:=by simp only[decide_eq_true_eq]at hd;exact decide_eq_true (by omega)
    have e:pg (QN 4096) (oZ a b) x i (d,p,c) (eZ a b)[c.length]= .inr (d++[y],p++[(i,(eZ a b)[c.length])]):=QC N B hd;rw[e];refine aa ?_;dsimp only;rw[Q,P]
   ·have hd:QN 4096 d y=false:=by simp only[decide_eq_false_iff_not]at hd;exact decide_eq_false (by omega)
    have e:pg (QN 4096) (oZ a b) x i (d,p,c) (eZ a b)[c.length]= .inl (d++[y],p++[(i,(eZ a b)[c.length])],c++[d.length]):=Vx N B hd;rw[e];refine aD I (cD (x:=(qL (eZ a b).length c)[c.length]) (by simp) (aa ?_));refine⟨⟨H,E.trans (aj_ _ _),by simp⟩,?_⟩;rw[au A (by omega),Q,P];simp only[e_];rw[C3 A,C]
 ·unfold g9;exact be (aa rfl)
 ·rw[R8]at hr;rw[hr];cases r with
  |inl st=>obtain⟨z,E,F⟩:=hs st rfl;refine⟨?_,z,F⟩;simp only[qL,F,ag_,aF_,P_]
  |inr r=>rfl
noncomputable def Eo(a b:DF):Bool×List Int×List PR×List Int×List Int×List (List Int)×Unit:=
 match E5 a b (QN 4096) (a.2.1.length*b.2.1.length)with
 | .inl S=>Jm a b false S
 | .inr S=>Jm a b true S
theorem wl{a b:DF}(e:Good a)(g:Good b):aK tbl i8 [.d (pr [.list tI,.list (.list tI),.list tB,tI]) a,.d (pr [.list tI,.list (.list tI),.list tB,tI]) b,.d tI (4096:Int),.fnD GC []] [] dq (Eo a b):=by
 refine aG rfl (aF Eu rfl (λO n=>eM (tO O n a b (4096:Int))) ?_);unfold tO;have E:=mf e;have F:=mf g;have L:=Z0 e g;have M:=MS e g;refine ak (Bz a.1 b.1 (Nx e.starts) (Nx g.starts) (by omega) (by omega)) ?_;refine dt (x:=tH a b) (by simp) rfl (cD (x:=tH a b) rfl (ar rfl ?_));refine dt (x:=tH a b) (by simp) rfl (cD (x:=tH a b) rfl (ak (Gz _) ?_));refine aA (λh=>by cases h) λ_=>?_;refine ae (Go.Ev.wp_loop (λs=>∃i S,s=zcF a b i S/\E5 a b (QN 4096) i= .inl S/\i<=S.1.length) (λs=>a.2.1.length*b.2.1.length - s.1.toNat) ⟨0,([tH a b],[],[]),rfl,rfl,by simp⟩ ?_);rintro s ⟨i,S,rfl,p,D⟩;have v:S=sF a b i:=((lY i).1 S p).1;subst v;have k:OkP a b (sF a b i).1 (sF a b i).2.1:=iH i;have B:=Lg e g k;have H:=zel (a:=a) (b:=b) i;unfold qS;simp only[zcF];refine aA (λh=>?_) λh=>?_
 ·have j:i<(sF a b i).1.length:=by simpa using h
  have C:=a_ j;refine ar (M0 (by omega)) (ae (Wp.imp (Er e g (R:=(sF a b i).2.2) k C) λr hr=>?_));have c:E5 a b (QN 4096) (i+1)=match nK (pg (QN 4096) (oZ a b) (sF a b i).1[i] i) ((sF a b i).1,(sF a b i).2.1,[]) (eZ a b)with
   | .inl r=>.inl (r.1,r.2.1,(sF a b i).2.2++[r.2.2])
   | .inr r=>.inr (r.1,r.2,(sF a b i).2.2):=by
   have u:lz (oZ a b) (tH a b) (eZ a b) (QN 4096) i= .inl (sF a b i):=p
   simp only[E5,lz,u,C]
   generalize nK (pg (QN 4096) (oZ a b) (sF a b i).1[i] i) ((sF a b i).1,(sF a b i).2.1,[]) (eZ a b)=z
   cases z<;>rfl
  cases A:nK (pg (QN 4096) (oZ a b) (sF a b i).1[i] i) ((sF a b i).1,(sF a b i).2.1,[]) (eZ a b)with
  |inl d=>
   rw[A]at hr c;obtain⟨rfl,I,J⟩:=hr;refine ar (decide_eq_true (by simp[kF];omega)) (aa ?_);have l:=((lY (i+1)).1 _ c).1;have hp:=(pX (f:=oZ a b) (s0:=tH a b) (ls:=eZ a b) i).1;rw[<-l]at hp;have y:(sF a b i).1.length<=d.1.length:=hp.length_le;refine⟨⟨i+1,(d.1,d.2.1,(sF a b i).2.2++[d.2.2]),?_,c,p_ j y⟩,?_⟩;·simp only[zcF,kF,j_,B_,D_];rw[au j (by omega)]
   ·rw[au j (by omega)];simp only[e_];omega
  |inr d=>rw[A]at hr c;subst hr;refine aa (aa ?_);have w:E5 a b (QN 4096) (a.2.1.length*b.2.1.length)= .inr (d.1,d.2,(sF a b i).2.2):=MB (by omega) c;rw[show Eo a b=Jm a b true (d.1,d.2,(sF a b i).2.2)from by unfold Eo;rw[w]];rfl
 ·have j:(sF a b i).1.length<=i:=by simpa using h
  refine aa (aa ?_);have w:E5 a b (QN 4096) (a.2.1.length*b.2.1.length)= .inl (sF a b i):=P5 (by omega) p j;rw[show Eo a b=Jm a b false (sF a b i)from by unfold Eo;rw[w]];rfl
noncomputable def JZ(a b:DF):DF:=(eZ a b,kF (pR a b).2.2,(pR a b).1.map λx=>o8 a x.1&&o8 b x.2.1,0,())
section
variable {a b:DF}
theorem Tl(d:Good a)(e:Good b):∀x∈(pR a b).1,∀c∈eZ a b,oZ a b x c∈(pR a b).1:=λx f c hc=>sG _ x (by rw[r_ (Tm d e)];exact f) c hc
theorem Qt(d:Good a)(e:Good b):(JZ a b).2.1=(pR a b).1.map λx=>(eZ a b).map λc=>(pos (pR a b).1 (oZ a b x c):Int):=by show kF (pR a b).2.2=_;rw[uK _ _ (S_ _),r_ (Tm d e)];unfold kF;rw[af_];refine ad_ λx _=>?_;show((eZ a b).map λc=>pos (pR a b).1 (oZ a b x c)).map (fun(k:Nat)=>(k:Int))=_;rw[af_];rfl
theorem UP(d:Good a)(j:Good b):kO (eZ a b):=by
 obtain⟨c,l⟩:=zda a b;have g:(0:Int)∈eZ a b:=(l 0).2 (.inl (by have:=d.starts.2.1 d.starts.1;rw[<-this];exact b_ _));have hp:=I_ g;refine⟨hp,λh=>?_,λi h=>LL c (by omega) h,λv n=>(yd d j v n).2⟩;obtain⟨i,k,e⟩:=h_.1 g;have p:=(yd d j _ (b_ h)).1;rcases t_ i with rfl|f;·exact e
 ·have:=LL c f k;omega
theorem zfX(e:Good a)(g:Good b):WF (JZ a b):=by
 have hr:=Qt e g;have k:0<(pR a b).1.length:=(s_.1 (iH (f:=oZ a b) (s0:=tH a b) (ls:=eZ a b) _).head).1;have hn:(JZ a b).2.1.length=(pR a b).1.length:=by rw[hr,f_]
 refine⟨UP e g,⟨by omega,by rw[hn];simp[JZ]⟩,λr d=>?_,⟨aw_ _,by rw[hn];show(0:Int)<_;omega⟩,λr d t h=>?_⟩;·rw[hr]at d;obtain⟨x,_,rfl⟩:=k_.1 d;simp[JZ]
 ·rw[hr]at d;obtain⟨x,j,rfl⟩:=k_.1 d;obtain⟨c,hc,rfl⟩:=k_.1 h;have:=pos_lt.1 (Tl e g x j c hc);rw[hn];omega
end
theorem zdR{a b:DF}(c:Good a)(d:Good b):(JZ a b).1.length<=4000/\(JZ a b).2.1.length=(pR a b).1.length:=by refine⟨MS c d,?_⟩;rw[Qt c d,f_]
theorem zgc{a b:DF}(j:Good a)(k:Good b):(E5 a b (QN 4096) (a.2.1.length*b.2.1.length)= .inl (pR a b)/\(pR a b).1.length<=4096)\/∃r,E5 a b (QN 4096) (a.2.1.length*b.2.1.length)= .inr r:=by
 cases h:E5 a b (QN 4096) (a.2.1.length*b.2.1.length)with
 |inr r=>exact .inr ⟨r,rfl⟩|inl S=>
  obtain⟨f,g⟩:=(lY _).1 S h;subst f;refine .inl ⟨rfl,aS_ λd=>?_⟩;have c:4096<(pR a b).1.length:=d;have:=g 4095 _ (a_ (l:=(pR a b).1) c);have hl:((pR a b).1.take 4096).length=4096:=by simp;omega
  have e:decide (4096<=((pR a b).1.take 4096).length)=false:=this;rw[hl]at e;simp at e
def zD:DF:=([],[],[],0,())
def zfl(m:DF):DF×Int×Unit:=if m.1.length>2000 then(zD,8,())else(m,0,())
theorem Qs{m:DF}(a:WF m)(b:m.1.length<=2000)(c:m.2.1.length<=4096):Good m:=⟨a.starts,by unfold Big;have:=a.len;omega,a.len,a.rows,a.start,a.to⟩
theorem zcd{a b:DF}{L:List PR}{i:Nat}(c:i<L.length):(L.take i).map (λx=>o8 a x.1&&o8 b x.2.1)++([o8 a L[i].1&&o8 b L[i].2.1]:List Bool)=(L.take (i+1)).map λx=>o8 a x.1&&o8 b x.2.1:=by simp only[n_,a_ c,j_,al_,B_,D_]
theorem zcs{a b:DF}(g:Good a)(j:Good b){m:DF}(w:E5 a b (QN 4096) (a.2.1.length*b.2.1.length)= .inl (pR a b))(l:(pR a b).1.length<=4096) (v:aK tbl gC [.d (pr [.list tI,.list (.list tI),.list tB,tI]) (JZ a b)] [] d7 (m,())): aK tbl rD [.d (pr [.list tI,.list (.list tI),.list tB,tI]) a,.d (pr [.list tI,.list (.list tI),.list tB,tI]) b] [] gZ (zfl m):=by
 refine aG rfl (aF ND rfl (λO n=>eM (yB O n a b)) ?_);unfold yB;refine ak (oH a) ?_;rw[good_iff.2 g];refine aA (λh=>by cases h) λ_=>ak (oH b) ?_;rw[good_iff.2 j];refine aA (λh=>by cases h) λ_=>ak (wl g j) ?_;rw[show Eo a b=Jm a b false (pR a b)from by unfold Eo;rw[w]];refine aA (λh=>by cases h) λ_=>?_;have k:OkP a b (pR a b).1 (pR a b).2.1:=iH _;refine ae (bi (N:=(pR a b).1.length) (I:=λi s=>s=((i:Int),(0:Int),eZ a b,(0:Int),kF (pR a b).2.2,((pR a b).1.take i).map (λx=>o8 a x.1&&o8 b x.2.1),(pR a b).1,())) (by simp[Jm]) ?_ ?_);·rintro i s d rfl;have c:=zdE g j k (a_ d);obtain⟨f,p⟩:=zcb g c.1.1 c.1.2;obtain⟨u,r⟩:=zcb j c.2.1 c.2.2;unfold yE;refine bA d (aD d (cD (x:=(pR a b).1[i]) (by simp[a_ d]) (cw c.1.1 f ?_)));refine ae (cG (b:=o8 b (pR a b).1[i].2.1) (λ_=>cw c.2.1 u (aa r)) ?_);rw[p];refine ar (decide_eq_true (by simp;omega)) (aa ?_);simp only[zcd d];rw[au d (by omega)]
 ·rintro s rfl;unfold yE;refine be (aa ?_);rw[o_];refine ak v ?_;refine aA (λh=>?_) λh=>?_
  ·have f:m.1.length>2000:=by
    have:(m.1.length:Int)>2000:=by simpa using h
    omega
   have e:zfl m=(zD,8,()):=if_pos f;exact nS (λ_=>rfl) (by rw[e];rfl)
  ·have f:¬m.1.length>2000:=by
    have:¬(m.1.length:Int)>2000:=by simpa using h
    omega
   have e:zfl m=(m,0,()):=if_neg f;exact nS (λ_=>rfl) (by rw[e])
section
variable {κ:Type} [DecidableEq κ]
variable (f:κ->Int->κ) (s0:κ) (ls:List Int) (acc:κ->Bool) (L:List κ)
def exD:DF:=(ls,L.map λx=>ls.map λc=>(pos L (f x c):Int),L.map acc,0,())
structure ExOk:Prop where
 st:kO ls
 cl:∀x∈L,∀c∈ls,f x c∈L
 hd:L[0]? =some s0
 same:∀x v (h:ou ls v<ls.length),0<=v->v<=4294967295->f x v=f x ls[ou ls v]
variable {f s0 ls acc L}
theorem zhN(h:ExOk f s0 ls L):WF (exD f ls acc L):=by
 have d:=(s_.1 h.hd).1;have hn:(exD f ls acc L).2.1.length=L.length:=by simp[exD]
 refine⟨h.st,⟨by omega,by simp[exD]⟩,λr hr=>?_,⟨aw_ _,by rw[hn];show(0:Int)<_;omega⟩,λr hr t a=>?_⟩;·obtain⟨x,_,rfl⟩:=k_.1 hr;simp[exD]
 ·obtain⟨x,b,rfl⟩:=k_.1 hr;obtain⟨c,hc,rfl⟩:=k_.1 a;have:=pos_lt.1 (h.cl x b c hc);rw[hn];omega
end
theorem XS:∀{c l:List Int},Asc c->(∀x,x∈c->x∈l)->c.length<=l.length:=fun{c l} hc a=>oW c l (u_.2 (List.Pairwise.imp (λh=>by omega) hc)) a
structure GOkD(g:G):Prop where
 lie:Lie 0 g
 inn:∀q∈g.sp,0<=q.1/\q.2<=4294967295
 le:∀q∈g.sp,q.1<=q.2
 n64:g.sp.length<=64
theorem YK{r:Rx}(a:hU r=true)(hs:sz r<=64):GOkD (kA r 0):=⟨zS r 0,zif r a 0,zig r a 0,by rw[(vI r a 0).1];exact p_ (zcA r) hs⟩
noncomputable def fB(g:G):List Int:=Bi (zc g.sp)
theorem HO(g:G):Asc (fB g)/\∀x,x∈fB g↔x∈zc g.sp:=by obtain⟨c,hc,a⟩:=y9 (zc g.sp);unfold fB;rw[wz hc a];exact⟨hc,a⟩
theorem MR{g:G}(h:GOkD g):(fB g).length<=129:=by obtain⟨a,b⟩:=HO g;have:=XS a λx c=>(b x).1 c;have:=TH g.sp;have:=h.n64;omega
theorem YV{g:G}(h:GOkD g):∀v∈fB g,0<=v/\v<=4294967295:=λv a=>zfe h.inn h.le v ((HO g).2 v |>.1 a)
theorem JU{g:G}(h:GOkD g):kO (fB g):=by
 obtain⟨a,f⟩:=HO g;have c:(0:Int)∈fB g:=(f 0).2 (Q_ ..);have hp:=I_ c;refine⟨hp,λh'=>?_,λi h'=>LL a (by omega) h',λv j=>(YV h v j).2⟩;obtain⟨i,d,e⟩:=h_.1 c;have k:=(YV h _ (b_ h')).1;rcases t_ i with rfl|b;·exact e
 ·have:=LL a b d;omega
theorem zaZ{g:G}(h:GOkD g)(x:Option Nat)(v:Int)(hc:ou (fB g) v<(fB g).length)(c:0<=v)(p:v<=4294967295):jB g x v=jB g x (fB g)[ou (fB g) v]:=by
 obtain⟨a,n⟩:=HO g;obtain⟨d,e,f⟩:=zcy (JU h) c;refine zbF h.inn e p (λy r s=>?_) x;obtain⟨j,l,rfl⟩:=h_.1 ((n y).2 r);rcases Nat.lt_or_ge (ou (fB g) v) j with hl|b;·have:=f j l hl;omega
 ·rcases Nat.lt_or_eq_of_le b with hl|k;·have:=LL a hl d;omega
  ·simp only[k];exact aw_ _
abbrev spN(a:Nat):List (Option Nat)->Option Nat->Bool:=λL _=>decide (a<=L.length)
noncomputable abbrev iY(g:G)(i:Nat):=cJ (jB g) none (fB g) i
noncomputable abbrev Hu(g:G)(i:Nat):=lz (jB g) none (fB g) (spN 4096) i
theorem zbp{m:Nat}{L:List (Option Nat)}(h:Quiet (spN (m+1)) L):L.length<=m+1:=by apply am_;intro hn;have b:=h m _ (a_ (show m+1<L.length by omega));have a:decide (m+1<=(L.take (m+1)).length)=false:=b;rw[O_]at a;have:=of_decide_eq_false a;omega
theorem Qw{L:List (Option Nat)}(h:Quiet (spN 4096) L):L.length<=4096:=zbp (m:=4095) h
theorem zgq:∃n:Nat,n=4097:=⟨_,rfl⟩
noncomputable def NL:Nat:=ap_ zgq
theorem zb2:NL=4097:=V_ zgq
noncomputable def DZ(g:G):List (Option Nat):=(iY g NL).1
noncomputable def dN(g:G):DF:=exD (jB g) (fB g) (BS g) (DZ g)
theorem zch{g:G}{S}(h:Hu g NL= .inl S):S=iY g NL/\(DZ g).length<=4096:=by obtain⟨a,b⟩:=(lY NL).1 S h;exact⟨a,by have:=Qw b;rw[a]at this;exact this⟩
theorem ze6{g:G}(hg:GOkD g)(h:(DZ g).length<=4096):ExOk (jB g) none (fB g) (DZ g):=⟨JU hg,λx d c hc=>sG NL x (by rw[r_ (by show(DZ g).length<=NL;rw[zb2];omega)];exact d) c hc,(iH NL).head,λx v hc a b=>zaZ hg x v hc a b⟩
theorem zhK{g:G}(hg:GOkD g)(h:(DZ g).length<=4096):WF (dN g):=zhN (ze6 hg h)
theorem zfm{g:G}(h:(DZ g).length<=4096):(dN g).2.1=kF (iY g NL).2.2:=by show((DZ g).map λx=>(fB g).map λc=>(pos (DZ g) (jB g x c):Int))=_;rw[uK NL NL (S_ _),r_ (by show(DZ g).length<=NL;rw[zb2];omega)];unfold kF;rw[af_];refine ad_ λx _=>?_;show _=((fB g).map λc=>pos (DZ g) (jB g x c)).map (fun(k:Nat)=>(k:Int));rw[af_];rfl
abbrev NK:Type:=Bool×(Int×Unit)
def dM:Option Nat->NK
 |none=>(true,0,())
 |some b=>(false,(b:Int),())
theorem zcG{x y:Option Nat}:dM x=dM y↔x=y:=by
 constructor
 ·intro h;cases x<;>cases y;·rfl
  ·cases h
  ·cases h
  ·rename_i a b;have e:(a:Int)=(b:Int):=by simpa[dM]using h
   have e:a=b:=Int.ofNat_inj.1 e;rw[e]
 ·rintro rfl;rfl
theorem X7(x y:Option Nat):jk (pr [tB,tQ]) (dM x) (dM y)=decide (x=y):=by
 have h:∀a b:NK,jk (pr [tB,tQ]) a b=decide (a=b):=by rintro⟨c,d,_⟩ ⟨e,f,_⟩;show((c==e)&&((d==f)&&true))=_;by_cases g:c=e<;>by_cases j:d=f<;>simp[g,j]
 rw[h];exact decide_eq_decide.2 zcG
def Qb:Nat->List (Option Nat)->List (NK×Int)
 |_,[]=>[]
 |k,x::l=>(dM x,(k:Int))::Qb (k+1) l
theorem YR(y:Option Nat):∀(L:List (Option Nat)) (k:Nat),bY (pr [tB,tQ]) tI (Qb k L) (dM y)=if y∈L then some (((k+pos L y:Nat):Int))else none
 |[],k=>by simp[Qb,bY]
 |x::L,k=>by
  have a:=YR y L (k+1);simp only[Qb,bY];rw[X7 y x,a];by_cases h:y=x;·subst h;simp[Xa]
  ·have h':x≠y:=λe=>h e.symm;rw[decide_eq_false h];have e:pos (x::L) y=pos L y+1:=Xb h';simp only[cond_false,x_,h,false_or,e];split;·congr 1;omega
   ·rfl
theorem YU(y:Option Nat):∀(L:List (Option Nat)) (k:Nat),y∉L->dn (pr [tB,tQ]) tI (Qb k L) (dM y) (((k+L.length:Nat):Int))=Qb k (L++[y])
 |[],k,_=>by simp[Qb,dn]
 |x::L,k,h=>by have a:y≠x:=λe=>h (by simp[e]);have b:y∉L:=λe=>h (by simp[e]);have c:=YU y L (k+1) b;simp only[F_,Qb,dn];rw[X7 y x,decide_eq_false a];simp only[cond_false,H_];rw[show k+(L.length+1)=k+1+L.length by omega,c]
theorem YT:∀(L:List (Option Nat)) (k:Nat),(Qb k L).length=L.length
 |[],_=>rfl
 |_::L,k=>by simp[Qb,YT L (k+1)]
structure FolR(n:Nat)(F:List (List Int))(P:List (Nat×Nat)):Prop where
 len:F.length=n
 nd:∀l∈F,l.Nodup
 bd:∀l∈F,∀x∈l,0<=x/\x<(n:Int)
 mem:∀p (h:p<F.length) (q:Nat),(q:Int)∈F[p]↔(p,q)∈P
theorem FolR.congr{n:Nat}{F:List (List Int)}{P z:List (Nat×Nat)}(h:FolR n F P)(e:∀x,x∈P↔x∈z):FolR n F z:=⟨h.len,h.nd,h.bd,λp hp q=>(h.mem p hp q).trans (e _)⟩
theorem FolR.add{n:Nat}{F:List (List Int)}{P:List (Nat×Nat)}(h:FolR n F P){p q:Nat}(hp:p<F.length)(Y:q<n)(hn:(q:Int)∉F[p]):FolR n (F.set p (F[p]++[(q:Int)])) (P++[(p,q)]):=by
 have C:∀l∈F.set p (F[p]++[(q:Int)]),l∈F\/l=F[p]++[(q:Int)]:=λl hl=>by
  rcases List.mem_or_eq_of_mem_set hl with h|h;·exact .inl h
  ·exact .inr h
 refine⟨by rw[List.length_set,h.len],λl hl=>?_,λl hl x M=>?_,λN I q'=>?_⟩
 ·rcases C l hl with z|rfl;·exact h.nd l z
  ·exact ao_.2 ⟨h.nd _ (b_ hp),by simp,λa U b J=>by simp at J;subst J;rintro rfl;exact hn U⟩
 ·rcases C l hl with z|rfl;·exact h.bd l z x M
  ·rcases c_.1 M with H|H;·exact h.bd _ (b_ hp) x H
   ·simp at H;subst H;omega
 ·have E:N<F.length:=by simpa using I
  rw[N_];split
  ·rename_i e;subst e;simp only[c_,m_,h.mem p hp,be_.injEq,true_and];constructor
   ·rintro(z|z);·exact .inl z
    ·exact .inr (by omega)
   ·rintro(z|z);·exact .inl z
    ·exact .inr (by omega)
  ·rename_i e;simp only[c_,m_,h.mem N E,be_.injEq];constructor;·exact .inl
   ·rintro(z|z);·exact z
    ·exact absurd z.1.symm e
theorem FolR.one{n:Nat}{F:List (List Int)}{P:List (Nat×Nat)}(h:FolR n F P)(H:∀p q,(p,q)∈P->p<n):FolR (n+1) (F++[[]]) P:=by
 refine⟨by simp[h.len],λl hl=>?_,λl hl x E=>?_,λp hp q=>?_⟩
 ·rcases c_.1 hl with z|z;·exact h.nd l z
  ·simp at z;subst z;simp
 ·rcases c_.1 hl with z|z;·have:=h.bd l z x E;omega
  ·simp at z;subst z;cases E
 ·by_cases C:p<F.length;·rw[List.getElem_append_left C];exact h.mem p C q
  ·have:p=F.length:=by simp at hp;omega
   subst this;simp only[List.getElem_concat_length,aQ_,false_iff];intro I;have:=H _ _ I;have:=h.len;omega
theorem zit{ks:List Rx}(b:∀r∈ks,hU r=true)(o i:Nat):Lie o (mH (ks.take i) o (Pl.g0 true))/\(mH (ks.take i) o (Pl.g0 true)).sp.length=iX (ks.take i):=by
 have hl:=zS (.mk 3 0 0 (ks.take i)) o;have e:kA (.mk 3 0 0 (ks.take i)) o=mH (ks.take i) o (Pl.g0 true):=by simp[kA]
 rw[e]at hl;refine⟨hl,?_⟩;have:∀(l:List Rx) (a:G),(∀r∈l,r∈ks)->(mH l o a).sp.length=a.sp.length+iX l:=by intro l;induction l with|nil=>intro a _;simp[mH,iX]|cons r l c=>intro a hl;have hr:=hl r (Q_ ..);obtain⟨d,h⟩:=vI r (b r hr) (o+a.sp.length);have f:=c (xJ a (kA r (o+a.sp.length))) λx g=>hl x (y_ _ g);simp only[mH,f,iX];simp only[xJ,q_,d];omega
 have:=this (ks.take i) (Pl.g0 true) λr hr=>E_ hr;simpa[Pl.g0]using this
theorem zis{ks:List Rx}(b:∀r∈ks,hU r=true)(o i:Nat):Lie o (kX (ks.take i) o (Pl.g0 false))/\(kX (ks.take i) o (Pl.g0 false)).sp.length=iX (ks.take i):=by
 have hl:=zS (.mk 4 0 0 (ks.take i)) o;have e:kA (.mk 4 0 0 (ks.take i)) o=kX (ks.take i) o (Pl.g0 false):=by simp[kA]
 rw[e]at hl;refine⟨hl,?_⟩;have:∀(l:List Rx) (a:G),(∀r∈l,r∈ks)->(kX l o a).sp.length=a.sp.length+iX l:=by intro l;induction l with|nil=>intro a _;simp[kX,iX]|cons r l c=>intro a hl;have hr:=hl r (Q_ ..);obtain⟨d,h⟩:=vI r (b r hr) (o+a.sp.length);have f:=c (GY a (kA r (o+a.sp.length))) λx g=>hl x (y_ _ g);simp only[kX,f,iX];simp only[GY,q_,d];omega
 have:=this (ks.take i) (Pl.g0 false) λr hr=>E_ hr;simpa[Pl.g0]using this
theorem Ru(ks:List Rx)(i:Nat):iX (ks.take i)<=iX ks:=by
 have:iX ks=iX (ks.take i)+iX (ks.drop i):=by rw[<-L3,List.take_append_drop]
 omega
theorem G7{ks:List Rx}{i:Nat}(h:i<ks.length):iX (ks.take i)+cnt ks[i]<=iX ks:=by
 have e:iX (ks.take (i+1))=iX (ks.take i)+cnt ks[i]:=by rw[n_,a_ h,L3];simp[iX]
 have:=Ru ks (i+1);omega
theorem O4{a b:Nat}(c:a<2^64)(d:b<2^64):gE .u64 .or (a:Int) (b:Int)=((a|||b:Nat):Int):=by have e:BitVec.ofInt IntKind.u64.bits (a:Int)=BitVec.ofNat 64 a:=BitVec.ofInt_natCast 64 _;have f2:BitVec.ofInt IntKind.u64.bits (b:Int)=BitVec.ofNat 64 b:=BitVec.ofInt_natCast 64 _;show IntKind.u64.wrap ((BitVec.ofInt IntKind.u64.bits (a:Int)|||BitVec.ofInt IntKind.u64.bits (b:Int)).toNat:Int)=_;rw[e,f2];show IntKind.u64.wrap ((BitVec.ofNat 64 a|||BitVec.ofNat 64 b).toNat:Int)=_;rw[BitVec.toNat_or,BitVec.toNat_ofNat,BitVec.toNat_ofNat,Z_ c,Z_ d,wrap_u64];have:=zhY c d;omega
theorem zck{a b:Nat}(c:a<2^64)(e:b<2^64):gE .u64 .and (a:Int) (b:Int)=((a&&&b:Nat):Int):=by have d:BitVec.ofInt IntKind.u64.bits (a:Int)=BitVec.ofNat 64 a:=BitVec.ofInt_natCast 64 _;have f2:BitVec.ofInt IntKind.u64.bits (b:Int)=BitVec.ofNat 64 b:=BitVec.ofInt_natCast 64 _;show IntKind.u64.wrap ((BitVec.ofInt IntKind.u64.bits (a:Int)&&&BitVec.ofInt IntKind.u64.bits (b:Int)).toNat:Int)=_;rw[d,f2];show IntKind.u64.wrap ((BitVec.ofNat 64 a&&&BitVec.ofNat 64 b).toNat:Int)=_;rw[BitVec.toNat_and,BitVec.toNat_ofNat,BitVec.toNat_ofNat,Z_ c,Z_ e,wrap_u64];have:a&&&b<2^64:=R_ au_ c;omega
theorem zh9{i:Nat}(a:i<64):min (aq_ (A_ .u64 (i:Int))) (ae_ .u64)=i:=by rw[wrap_u64];show min _ 64=i;omega
theorem zgi{i:Nat}(a:i<64):A_ .u64 ((1:Int)*2^(min (aq_ (A_ .u64 (i:Int))) (ae_ .u64)))=((2^i:Nat):Int):=by
 rw[zh9 a,wrap_u64,Int.one_mul];have c:2^i<2^64:=aB_ (by decide) a;have b:((2:Int)^i)=((2^i:Nat):Int):=by simp
 have d:=Nat.two_pow_pos i;rw[b];generalize 2^i=z at*;omega
theorem zeD{a i:Nat}(h:a<2^64)(j:i<64):(gE .u64 .and (bc_ (a:Int) (2^(min (aq_ (A_ .u64 (i:Int))) (ae_ .u64)))) (1:Int)==(1:Int))=a.testBit i:=by
 rw[zh9 j];have d:((2:Int)^i)=((2^i:Nat):Int):=by simp
 have f:bc_ (a:Int) ((2:Int)^i)=((a/2^i:Nat):Int):=by rw[d,ah_ _ (Int.natCast_nonneg _)];rfl
 have g:a/2^i<2^64:=R_ (Nat.div_le_self _ _) h;have c:=zck (a:=a/2^i) (b:=1) g (by decide);rw[f];have c:gE .u64 .and ((a/2^i:Nat):Int) (1:Int)=((a/2^i&&&1:Nat):Int):=c;rw[c,Nat.and_one_is_mod];rw[Nat.testBit_eq_decide_div_mod_eq];have:a/2^i%2<2:=Nat.mod_lt _ (by decide);by_cases e:a/2^i%2=1;·rw[e];rfl
 ·have:a/2^i%2=0:=by omega
  rw[this];rfl
def iS(P:List (Nat×Nat))(n:Nat):List Int:=(d_ n).map λi=>((bX (K8 P i):Nat):Int)
theorem vH(P:List (Nat×Nat))(n:Nat):(iS P n).length=n:=by simp[iS]
theorem vG{P:List (Nat×Nat)}{n i:Nat}(h:i<(iS P n).length):(iS P n)[i]=((bX (K8 P i):Nat):Int):=by simp[iS]
theorem LV{a b:List Nat}(h:∀x,x∈a↔x∈b):bX a=bX b:=by refine Nat.eq_of_testBit_eq λi=>?_;rw[iN,iN];exact decide_eq_decide.2 (h i)
theorem F8{P a:List (Nat×Nat)}{n:Nat}(h:∀i,i<n->∀q,(i,q)∈P↔(i,q)∈a):iS P n=iS a n:=by
 unfold iS;refine ad_ λi b=>?_;have e:bX (K8 P i)=bX (K8 a i):=LV λq=>by rw[fol_mem,fol_mem];exact h i (g_.1 b) q
 rw[e]
theorem zgr{P:List (Nat×Nat)}{n:Nat}(a:∀p q,(p,q)∈P->q<n)(hn:n<=64)(i:Nat):bX (K8 P i)<2^64:=iF λq b=>by have:=a _ _ (fol_mem.1 b);omega
theorem zcU{P:List (Nat×Nat)}{n i:Nat}(d:i<n)(fi:List Nat):(iS P n).set i ((bX (K8 P i)|||bX fi:Nat):Int)=iS (P++mR [i] fi) n:=by
 refine G_ (by simp[iS]) λj b c=>?_;rw[N_];split
 ·rename_i e;subst e;have e:bX (K8 P i++fi)=bX (K8 (P++mR [i] fi) i):=LV λq=>by rw[c_,fol_mem,fol_mem,c_,prodL_mem];simp
  rw[<-G2,e,vG]
 ·rename_i e;have a:bX (K8 P j)=bX (K8 (P++mR [i] fi) j):=LV λq=>by rw[fol_mem,fol_mem,c_,prodL_mem];simp;omega
  rw[vG,vG,a]
theorem Py(x y:Int)(lo a F:List Int)(b:lo.length<64)(c:a.length<64)(d:F.length<64):aK tbl dS [.ptr 0 0,.d tI x,.d tI y] [.box aV [.sl 1,.sl 2,.sl 3],.vec aO tI lo,.vec aO tI a,.vec nC tQ F] cV ((((2^lo.length:Nat):Int),((2^lo.length:Nat):Int),false,()),lo++[x],a++[y],F++[0],()):=by
 refine aG rfl (aF yt rfl (λO m=>eM (oK O m x y lo a F)) ?_);unfold oK;rw[zgi b];refine ar (decide_eq_true (by rw[wrap_u64];omega)) (ar (decide_eq_true ?_) (ar (decide_eq_true ?_) (ar (decide_eq_true ?_) (aa rfl))));·show(lo.length+1)*8<=_;omega
 ·show(a.length+1)*8<=_;omega
 ·show(F.length+1)*8<=_;omega
theorem FO{n:Nat}(P:List (Nat×Nat))(lo up:List Int){la fi:List Nat}(B:∀p q,(p,q)∈P->q<n)(z:∀p∈la,p<n)(r:∀q∈fi,q<n)(hn:n<=64): aK tbl dD [.ptr 0 0,.d tQ ((bX la:Nat):Int),.d tQ ((bX fi:Nat):Int)] [.box aV [.sl 1,.sl 2,.sl 3],.vec aO tI lo,.vec aO tI up,.vec nC tQ (iS P n)] cP (lo,up,iS (P++mR la fi) n,()):=by
 refine aG rfl (aF xL rfl (λO m=>eM (nu O m ((bX la:Nat):Int) ((bX fi:Nat):Int) lo up (iS P n))) ?_);unfold nu;have v:bX la<2^64:=iF λp hp=>by have:=z p hp;omega
 have w:bX fi<2^64:=iF λp hp=>by have:=r p hp;omega
 refine ae (bi (N:=(iS P n).length) (I:=λi s=>s=((i:Int),lo,up,iS (P++mR (la.filter λp=>decide (p<i)) fi) n,())) ?_ ?_ ?_)
 ·have:(la.filter λp=>decide (p<0))=[]:=by simp
  rw[this];simp[mR]
 ·rintro i s k rfl;rw[vH]at k;unfold gL;dsimp only;refine bA (by rw[vH];exact k) (ae ?_);have key:∀b:Bool,(bX la).testBit i=b->(iS (P++mR (la.filter λp=>decide (p<i)) fi) n).set i (bif b then((bX (K8 (P++mR (la.filter λp=>decide (p<i)) fi) i)|||bX fi:Nat):Int)else((bX (K8 (P++mR (la.filter λp=>decide (p<i)) fi) i):Nat):Int))=iS (P++mR (la.filter λp=>decide (p<i+1)) fi) n:=λb u=>by
   rw[iN]at u;cases b with
   |true=>
    have A:i∈la:=of_decide_eq_true u;rw[cond_true,zcU k];refine F8 λj y q=>?_;simp only[c_,prodL_mem,K_,decide_eq_true_eq,m_];constructor
    ·rintro((h|⟨⟨a,g⟩,c⟩)|⟨rfl,c⟩);·exact .inl h
     ·exact .inr ⟨⟨a,by omega⟩,c⟩
     ·exact .inr ⟨⟨A,by omega⟩,c⟩
    ·rintro(h|⟨⟨a,g⟩,c⟩);·exact .inl (.inl h)
     ·by_cases e:j=i;·exact .inr ⟨e,c⟩
      ·exact .inl (.inr ⟨⟨a,by omega⟩,c⟩)
   |false=>
    have A:i∉la:=of_decide_eq_false u;rw[cond_false];have:(iS (P++mR (la.filter λp=>decide (p<i)) fi) n).set i ((bX (K8 (P++mR (la.filter λp=>decide (p<i)) fi) i):Nat):Int)=iS (P++mR (la.filter λp=>decide (p<i)) fi) n:=by
     refine G_ (by simp) λj a g=>?_;rw[N_];split;·rename_i e;subst e;rw[vG]
     ·rfl
    rw[this];refine F8 λj y q=>?_;simp only[c_,prodL_mem,K_,decide_eq_true_eq];constructor
    ·rintro(h|⟨⟨a,g⟩,c⟩);·exact .inl h
     ·exact .inr ⟨⟨a,by omega⟩,c⟩
    ·rintro(h|⟨⟨a,g⟩,c⟩);·exact .inl h
     ·refine .inr ⟨⟨a,?_⟩,c⟩;have:j≠i:=λe=>A (e▸a);omega
  have D:∀p q,(p,q)∈P++mR (la.filter λp=>decide (p<i)) fi->q<n:=λp q h=>by
   rcases c_.1 h with h|h;·exact B p q h
   ·exact r q (prodL_mem.1 h).2
  generalize C:P++mR (la.filter λp=>decide (p<i)) fi=f at*;refine ar (decide_eq_true (by rw[wrap_u64];omega)) ?_;rw[zeD v (by omega)];have d:i<(iS f n).length:=by rw[vH];exact k
  refine aA (λh=>?_) λh=>aa (aa ?_);·refine aD d (cD (x:=(iS f n)[i]) (by rw[e_];exact a_ d) (aD d (cD (x:=(iS f n)[i]) (by rw[e_];exact a_ d) (aa (aa ?_)))));have l:=key true h;rw[cond_true]at l;rw[vG,O4 (zgr D hn i) w,e_,l,au k (by omega)]
  ·have l:=key false h;rw[cond_false]at l;have:(iS f n).set i ((bX (K8 f i):Nat):Int)=iS f n:=by
    refine G_ (by simp) λj a g=>?_;rw[N_];split;·rename_i e;subst e;rw[vG]
    ·rfl
   rw[this]at l;rw[l,au k (by omega)]
 ·rintro s rfl;unfold gL;refine be (aa (aa ?_));rw[vH];have:iS (P++mR (la.filter λp=>decide (p<n)) fi) n=iS (P++mR la fi) n:=F8 λj y q=>by
   simp only[c_,prodL_mem,K_,decide_eq_true_eq];constructor
   ·rintro(h|⟨⟨a,g⟩,c⟩);·exact .inl h
    ·exact .inr ⟨a,c⟩
   ·rintro(h|⟨a,c⟩);·exact .inl h
    ·exact .inr ⟨⟨a,y⟩,c⟩
  rw[this]
theorem Wb:∀(r:Rx),hU r=true->sz r<=1000000->∀(lo f:List Int) (P:List (Nat×Nat)),f.length=lo.length->(∀p q,(p,q)∈P->p<lo.length/\q<lo.length)->lo.length+cnt r<=64->aK tbl b9 [.ptr 0 0,.d .rx r] [.box aV [.sl 1,.sl 2,.sl 3],.vec aO tI lo,.vec aO tI f,.vec nC tQ (iS P lo.length)] aY ((((bX (kA r lo.length).fi:Nat):Int),((bX (kA r lo.length).la:Nat):Int),(kA r lo.length).em,()),lo++(kA r lo.length).sp.map (·.1),f++(kA r lo.length).sp.map (·.2),iS (P++(kA r lo.length).pr) (lo.length+(kA r lo.length).sp.length),()):=by
 refine qF λk D up ks Q hw hs lo f P z C L=>?_;obtain⟨el,g⟩:=zen hs;obtain⟨hn,e⟩:=well_iff.1 hw;have hcs:iX ks<=cnt (.mk k D up ks):=by simp only[cnt];omega
 refine aG rfl (aF yu rfl (λO m=>eM (oL O m (.mk k D up ks) lo f (iS P lo.length))) ?_);unfold oL;have one:iS P lo.length++[0]=iS P (lo.length+1):=by
  unfold iS;rw[z_,j_];have:K8 P lo.length=[]:=by refine List.eq_nil_iff_forall_not_mem.2 λq F=>?_;have:=(C _ _ (fol_mem.1 F)).1;omega
  simp[this,bX]
 have b1:bX [lo.length]=2^lo.length:=by simp[bX]
 rcases hn.known with rfl|rfl|rfl|rfl|rfl|rfl|rfl|rfl;·have:=len_nil (hn.leaf (by simp));subst this;refine nS (a:=some (f9 aY (((0:Int),(0:Int),true,()),lo,f,iS P lo.length,()))) (λ_=>rfl) ?_;simp[kA,Pl.g0,bX]
 ·have:=len_nil (hn.leaf (by simp));subst this;have E:lo.length<64:=by simp[cnt,iX]at L;omega
  refine bc rfl (ak (Py D up lo f _ E (by omega) (by rw[vH];omega)) (aa ?_));rw[one];simp[kA,V9,b1]
 ·have:=len_nil (hn.leaf (by simp));subst this;have E:lo.length<64:=by simp[cnt,iX]at L;omega
  refine aH rfl (bc rfl (ak (Py 0 4294967295 lo f _ E (by omega) (by rw[vH];omega)) (aa ?_)));rw[one];simp[kA,V9,b1]
 ·have A:kA (.mk 3 D up ks) lo.length=mH ks lo.length (Pl.g0 true):=by simp[kA]
  rw[A];refine aH rfl (aH rfl (bc rfl ?_));refine ae (bi (N:=ks.length) (I:=λi s=>s=((i:Int),lo++(mH (ks.take i) lo.length (Pl.g0 true)).sp.map (·.1),f++(mH (ks.take i) lo.length (Pl.g0 true)).sp.map (·.2),iS (P++(mH (ks.take i) lo.length (Pl.g0 true)).pr) (lo.length+(mH (ks.take i) lo.length (Pl.g0 true)).sp.length),(0:Int),(0:Int),false,((bX (mH (ks.take i) lo.length (Pl.g0 true)).fi:Nat):Int),((bX (mH (ks.take i) lo.length (Pl.g0 true)).la:Nat):Int),(mH (ks.take i) lo.length (Pl.g0 true)).em,())) (by simp[mH,Pl.g0,bX]) ?_ ?_)
  ·rintro i s c rfl;obtain⟨l1,l2⟩:=zit e lo.length i;rw[zaV c];have U:=G7 c;generalize mH (ks.take i) lo.length (Pl.g0 true)=a at*;have hr:=b_ c;obtain⟨Y,w2⟩:=vI ks[i] (e _ hr) (lo.length+a.sp.length);have d:=zS ks[i] (lo.length+a.sp.length);unfold ic;refine bA c (aD c ?_);rw[vX];have hsz:=g _ hr;have B:∀p q,(p,q)∈P++a.pr->p<lo.length+a.sp.length/\q<lo.length+a.sp.length:=λp q h=>by
    rcases c_.1 h with h|h;·have:=C p q h;omega
    ·have:=l1.pr p q h;omega
   have hc:=Q ks[i] hr (e _ hr) (by omega) (lo++a.sp.map (·.1)) (f++a.sp.map (·.2)) (P++a.pr) (by simp[z]) (by simpa using B) (by simp;omega);rw[show(lo++a.sp.map (·.1)).length=lo.length+a.sp.length by simp]at hc;generalize kA ks[i] (lo.length+a.sp.length)=x at*;have M:lo.length+a.sp.length+x.sp.length<=64:=by omega
   refine ak hc (ak (FO (n:=lo.length+a.sp.length+x.sp.length) (P++a.pr++x.pr) _ _ (la:=a.la) (fi:=x.fi) (λp q h=>?_) (λp hp=>by have:=l1.la p hp;omega) (λq F=>by have:=d.fi q F;omega) M) ?_)
   ·rcases c_.1 h with h|h;·have:=B p q h;omega
    ·have:=d.pr p q h;omega
   have R:bX a.fi<2^64:=iF λp hp=>by have:=l1.fi p hp;omega
   have T:bX x.fi<2^64:=iF λp hp=>by have:=d.fi p hp;omega
   have l:bX a.la<2^64:=iF λp hp=>by have:=l1.la p hp;omega
   have u:bX x.la<2^64:=iF λp hp=>by have:=d.la p hp;omega
   dsimp only;rw[O4 R T];have j:∀b:Bool,a.em=b->∀J:Bool,x.em=J->((((i+1:Nat):Int),lo++a.sp.map (·.1)++x.sp.map (·.1),f++a.sp.map (·.2)++x.sp.map (·.2),iS (P++a.pr++x.pr++mR a.la x.fi) (lo.length+a.sp.length+x.sp.length),(0:Int),(0:Int),false,(bif b then((bX a.fi|||bX x.fi:Nat):Int)else((bX a.fi:Nat):Int)),(bif J then((bX a.la|||bX x.la:Nat):Int)else((bX x.la:Nat):Int)),b&&J,()):Int×List Int×List Int×List Int×Int×Int×Bool×Int×Int×Bool×Unit)=(((i+1:Nat):Int),lo++(xJ a x).sp.map (·.1),f++(xJ a x).sp.map (·.2),iS (P++(xJ a x).pr) (lo.length+(xJ a x).sp.length),(0:Int),(0:Int),false,((bX (xJ a x).fi:Nat):Int),((bX (xJ a x).la:Nat):Int),(xJ a x).em,()):=λb H J v=>by simp only[xJ,H,v,j_,an_,q_,ba_];cases b<;>cases J<;>simp[G2]
   cases H:a.em<;>cases v:x.em;·simp only[cond_false,cond_true];refine ae (aa ?_);simp only[cond_false,cond_true];refine ae (aa (ae (aa (aa ?_))));rw[au c (by omega)];have y:=j false H false v;simp only[cond_false,cond_true]at y;simp only[O4 l u];exact y
   ·simp only[cond_false,cond_true];refine ae (aa ?_);simp only[cond_false,cond_true];refine ae (aa (ae (aa (aa ?_))));rw[au c (by omega)];have y:=j false H true v;simp only[cond_false,cond_true]at y;simp only[O4 l u];exact y
   ·simp only[cond_false,cond_true];refine ae (aa ?_);simp only[cond_false,cond_true];refine ae (aa (ae (aa (aa ?_))));rw[au c (by omega)];have y:=j true H false v;simp only[cond_false,cond_true]at y;simp only[O4 l u];exact y
   ·simp only[cond_false,cond_true];refine ae (aa ?_);simp only[cond_false,cond_true];refine ae (aa (ae (aa (aa ?_))));rw[au c (by omega)];have y:=j true H true v;simp only[cond_false,cond_true]at y;simp only[O4 l u];exact y
  ·rintro s rfl;unfold ic;refine be (aa (aa ?_));rw[o_]
 ·have A:kA (.mk 4 D up ks) lo.length=kX ks lo.length (Pl.g0 false):=by simp[kA]
  rw[A];refine aH rfl (aH rfl (aH rfl (bc rfl ?_)));refine ae (bi (N:=ks.length) (I:=λi s=>s=((i:Int),lo++(kX (ks.take i) lo.length (Pl.g0 false)).sp.map (·.1),f++(kX (ks.take i) lo.length (Pl.g0 false)).sp.map (·.2),iS (P++(kX (ks.take i) lo.length (Pl.g0 false)).pr) (lo.length+(kX (ks.take i) lo.length (Pl.g0 false)).sp.length),(0:Int),(0:Int),false,((bX (kX (ks.take i) lo.length (Pl.g0 false)).fi:Nat):Int),((bX (kX (ks.take i) lo.length (Pl.g0 false)).la:Nat):Int),(kX (ks.take i) lo.length (Pl.g0 false)).em,())) (by simp[kX,Pl.g0,bX]) ?_ ?_)
  ·rintro i s c rfl;obtain⟨l1,l2⟩:=zis e lo.length i;rw[zaU c];have U:=G7 c;generalize kX (ks.take i) lo.length (Pl.g0 false)=a at*;have hr:=b_ c;obtain⟨Y,w2⟩:=vI ks[i] (e _ hr) (lo.length+a.sp.length);have d:=zS ks[i] (lo.length+a.sp.length);unfold ig;refine bA c (aD c ?_);rw[vX];have hsz:=g _ hr;have B:∀p q,(p,q)∈P++a.pr->p<lo.length+a.sp.length/\q<lo.length+a.sp.length:=λp q h=>by
    rcases c_.1 h with h|h;·have:=C p q h;omega
    ·have:=l1.pr p q h;omega
   have hc:=Q ks[i] hr (e _ hr) (by omega) (lo++a.sp.map (·.1)) (f++a.sp.map (·.2)) (P++a.pr) (by simp[z]) (by simpa using B) (by simp;omega);rw[show(lo++a.sp.map (·.1)).length=lo.length+a.sp.length by simp]at hc;generalize kA ks[i] (lo.length+a.sp.length)=x at*;have R:bX a.fi<2^64:=iF λp hp=>by have:=l1.fi p hp;omega
   have T:bX x.fi<2^64:=iF λp hp=>by have:=d.fi p hp;omega
   have l:bX a.la<2^64:=iF λp hp=>by have:=l1.la p hp;omega
   have u:bX x.la<2^64:=iF λp hp=>by have:=d.la p hp;omega
   refine ak hc ?_;dsimp only;rw[O4 R T,O4 l u];refine ae (cN (b:=x.em) (λ_=>aa rfl) (aa ?_));rw[au c (by omega)];simp only[GY,j_,G2,an_,q_,ba_]
  ·rintro s rfl;unfold ig;refine be (aa (aa ?_));rw[o_]
 ·obtain⟨x,rfl⟩:=wO (hn.one (by simp));have hr:x∈[x]:=m_.2 rfl;have hsz:=g _ hr;have w:lo.length+cnt x<=64:=by simp only[iX]at hcs;omega
  have hc:=Q x hr (e _ hr) (by omega) lo f P z C w;have d:=zS x lo.length;obtain⟨Y,w2⟩:=vI x (e _ hr) lo.length;have A:kA (.mk 5 D up [x]) lo.length=if(5:Int)=5 then emG (ye (kA x lo.length))else ye (kA x lo.length):=rfl;rw[A];refine aH rfl (aH rfl (aH rfl (aH rfl (ae ?_))));refine nS (a:=((5:Int)==5||true,lo,f,iS P lo.length,(0:Int),(0:Int),false,())) (λ_=>rfl) ?_;refine bc rfl (dt (by decide) rfl (ak hc (ak (FO (n:=lo.length+(kA x lo.length).sp.length) (P++(kA x lo.length).pr) _ _ (la:=(kA x lo.length).la) (fi:=(kA x lo.length).fi) (λp q h=>?_) (λp hp=>by have:=d.la p hp;omega) (λq F=>by have:=d.fi q F;omega) (by omega)) (ae (cN (b:=(5:Int)==5) (λ_=>aa rfl) (aa ?_))))))
  ·rcases c_.1 h with h|h;·have:=C p q h;omega
   ·have:=d.pr p q h;omega
  ·simp[emG,ye]
 ·obtain⟨x,rfl⟩:=wO (hn.one (by simp));have hr:x∈[x]:=m_.2 rfl;have hsz:=g _ hr;have w:lo.length+cnt x<=64:=by simp only[iX]at hcs;omega
  have hc:=Q x hr (e _ hr) (by omega) lo f P z C w;have d:=zS x lo.length;obtain⟨Y,w2⟩:=vI x (e _ hr) lo.length;have A:kA (.mk 6 D up [x]) lo.length=if(6:Int)=5 then emG (ye (kA x lo.length))else ye (kA x lo.length):=rfl;rw[A];refine aH rfl (aH rfl (aH rfl (aH rfl (ae ?_))));refine nS (a:=((6:Int)==5||true,lo,f,iS P lo.length,(0:Int),(0:Int),false,())) (λ_=>rfl) ?_;refine bc rfl (dt (by decide) rfl (ak hc (ak (FO (n:=lo.length+(kA x lo.length).sp.length) (P++(kA x lo.length).pr) _ _ (la:=(kA x lo.length).la) (fi:=(kA x lo.length).fi) (λp q h=>?_) (λp hp=>by have:=d.la p hp;omega) (λq F=>by have:=d.fi q F;omega) (by omega)) (ae (cN (b:=(6:Int)==5) (λ_=>aa rfl) (aa ?_))))))
  ·rcases c_.1 h with h|h;·have:=C p q h;omega
   ·have:=d.pr p q h;omega
  ·simp[emG,ye]
 ·obtain⟨x,rfl⟩:=wO (hn.one (by simp));have hr:x∈[x]:=m_.2 rfl;have hsz:=g _ hr;have w:lo.length+cnt x<=64:=by simp only[iX]at hcs;omega
  have hc:=Q x hr (e _ hr) (by omega) lo f P z C w;have A:kA (.mk 7 D up [x]) lo.length=emG (kA x lo.length):=rfl;rw[A];refine aH rfl (aH rfl (aH rfl (aH rfl (ae ?_))));refine nS (a:=(false,lo,f,iS P lo.length,(0:Int),(0:Int),false,())) (λ_=>rfl) ?_;refine aH rfl (bc rfl (dt (by decide) rfl (ak hc (aa ?_))));simp[emG]
theorem Dj(l:List Int):Asc (Bi l)/\∀x,x∈Bi l↔x∈l:=by obtain⟨c,hc,a⟩:=y9 l;rw[wz hc a];exact⟨hc,a⟩
theorem Wk{l l':List Int}(h:∀x,x∈l↔x∈l'):Bi l=Bi l':=by obtain⟨a,b⟩:=Dj l';exact wz a λx=>(b x).trans (h x).symm
theorem TA(a b:List Int):Bi (Bi a++b)=Bi (a++b):=Wk λx=>by rw[c_,c_,(Dj a).2]
theorem TB(l:List Int):(Bi l).length<=l.length:=XS (Dj l).1 λx a=>((Dj l).2 x).1 a
abbrev Ld(g:G):List Int:=g.sp.map (·.1)
abbrev KI(g:G):List Int:=g.sp.map (·.2)
theorem zaG{sp:List (Int×Int)}{i:Nat}(h:i<sp.length):zc (sp.take (i+1))=zc (sp.take i)++(sp[i].1::if sp[i].2<4294967295 then [sp[i].2+1]else []):=by unfold zc;rw[n_,a_ h,ac_];simp
theorem QX{g:G}(hg:GOkD g)(F:List Int):aK tbl fh [.ptr 0 0] [.box aV [.sl 1,.sl 2,.sl 3],.vec aO tI (Ld g),.vec aO tI (KI g),.vec nC tQ F] dE (fB g,Ld g,KI g,F,()):=by
 refine aG rfl (aF xM rfl (λO m=>eM (nv O m (Ld g) (KI g) F)) ?_);unfold nv;have hn:=hg.n64;refine ae (bi (N:=(Ld g).length) (I:=λi s=>s=(Bi (zc (g.sp.take i)),(i:Int),Ld g,KI g,F,())) ?_ ?_ ?_);·have:Bi (zc (g.sp.take 0))=[0]:=wz (by simp[Asc]) (by simp[zc]);rw[this];rfl
 ·rintro i s c rfl;have a:i<g.sp.length:=by simpa using c
  have b:i<(KI g).length:=by simpa using a
  have j:(Ld g)[i]=g.sp[i].1:=by simp
  have f:(KI g)[i]=g.sp[i].2:=by simp
  have n:=hg.inn _ (b_ a);have l:=hg.le _ (b_ a);have k:=TB (zc (g.sp.take i));have d:=TH (g.sp.take i);rw[O_]at d;unfold gM;dsimp only;refine bA c (ae ?_);refine aD c (cD (x:=(Ld g)[i]) (by rw[e_];exact a_ c) ?_);rw[j];refine ak (Bz _ [g.sp[i].1] (Dj _).1 (by simp[Asc]) (by omega) (by simp)) ?_;rw[TA];refine aD b (cD (x:=(KI g)[i]) (by rw[e_];exact a_ b) ?_);rw[f,zaG a];refine aA (λh=>?_) λh=>aa (aa ?_);·have h:=of_decide_eq_true h;refine aD b (cD (x:=(KI g)[i]) (by rw[e_];exact a_ b) ?_);rw[f,wrap_i64 (by omega) (by omega)];have e:=TB (zc (g.sp.take i)++[g.sp[i].1]);rw[q_,W_]at e;refine ak (Bz (Bi (zc (g.sp.take i)++[g.sp[i].1])) [g.sp[i].2+1] (Dj _).1 (by simp[Asc]) (by omega) (by simp)) (aa (aa ?_));rw[TA,au c (by simp;omega),if_pos h];simp
  ·have h:=of_decide_eq_false h;rw[au c (by simp;omega),if_neg h]
 ·rintro s rfl;unfold gM;refine be (aa (aa ?_));rw[r_ (by simp)];rfl
theorem Lp{g:G}(hg:GOkD g)(F:List Int)(a:Int):aK tbl dZ [.ptr 0 0,.d tI a] [.box aV [.sl 1,.sl 2,.sl 3],.vec aO tI (Ld g),.vec aO tI (KI g),.vec nC tQ F] cS (((MZ g a:Nat):Int),Ld g,KI g,F,()):=by
 refine aG rfl (aF uF rfl (λO m=>eM (kZ O m a (Ld g) (KI g) F)) ?_);unfold kZ;have hn:=hg.n64;refine ae (bi (N:=(Ld g).length) (I:=λi s=>s=(((bX ((d_ i).filter (F9 g a)):Nat):Int),(i:Int),Ld g,KI g,F,())) rfl ?_ ?_)
 ·rintro i s c rfl;have d:i<g.sp.length:=by simpa using c
  have e:i<(KI g).length:=by simpa using d
  have f:(Ld g)[i]=g.sp[i].1:=by simp
  have j:(KI g)[i]=g.sp[i].2:=by simp
  have k:F9 g a i=(decide (g.sp[i].1<=a)&&decide (a<=g.sp[i].2)):=by unfold F9;rw[a_ d]
  unfold fp;dsimp only;refine bA c (ae ?_);refine aD c (cD (x:=(Ld g)[i]) (by rw[e_];exact a_ c) ?_);rw[f];refine ae (cG (b:=decide (a<=g.sp[i].2)) (λ_=>aD e (cD (x:=(KI g)[i]) (by rw[e_];exact a_ e) (aa (by rw[j])))) ?_);rw[<-k];have l:bX ((d_ i).filter (F9 g a))<2^64:=iF λp hp=>by have:=g_.1 (K_.1 hp).1;omega
  have hs:(d_ (i+1)).filter (F9 g a)=(d_ i).filter (F9 g a)++(if F9 g a i=true then [i]else []):=by rw[z_,aG_,List.filter_cons,List.filter_nil]
  rw[hs];refine aA (λh=>ar (decide_eq_true (by rw[wrap_u64];omega)) (aa (aa ?_))) λh=>aa (aa ?_);·rw[zgi (by omega),O4 l (aB_ (by decide) (by omega)),au c (by simp;omega),if_pos h,G2];simp[bX]
  ·rw[au c (by simp;omega),if_neg (by rw[h];simp),P_]
 ·rintro s rfl;unfold fp;refine be (aa (aa ?_));rw[f_];rfl
abbrev F64(g:G):List Int:=iS g.pr g.sp.length
theorem zgw{g:G}(hg:GOkD g):∀p q,(p,q)∈g.pr->q<g.sp.length:=λp q h=>by have:=hg.lie.pr p q h;omega
theorem zcv{g:G}(hg:GOkD g)(x:Option Nat):Ro g x<2^64:=aI_ (zfi hg.lie x) (aA_ (by decide) hg.n64)
theorem zhV{g:G}(hg:GOkD g)(a:Int):MZ g a<2^64:=aI_ (zfI g a) (aA_ (by decide) hg.n64)
theorem zir{g:G}(hg:GOkD g):bX g.la<2^64:=iF λp hp=>by have:=hg.lie.la p hp;have:=hg.n64;omega
abbrev SN:Type:=List (Option Nat)×List (Nat×Int)×List (List Nat)
noncomputable def aX(g:G)(i:Nat)(S:SN):Int×Int×List Int×List Int×List Int×Int×Int×Bool×List Int×Int×List (List Int)×List Bool×List NK×List (NK×Int)×Unit:=
 ((i:Int),(0:Int),Ld g,KI g,F64 g,((bX g.fi:Nat):Int),((bX g.la:Nat):Int),g.em,fB g,(0:Int),kF S.2.2,(S.1.take i).map (BS g),S.1.map dM,Qb 0 S.1,())
theorem Ot{g:G}(hg:GOkD g)(i:Nat)(S:SN){b:Nat}(d:b<2^64)(tb:Bool): Wp (λn=>aT n (rX (tj tbl n) n (aX g i S)) ((0:Int),(0:Int),(0:Int),Ld g,KI g,F64 g,((bX g.fi:Nat):Int),((bX g.la:Nat):Int),g.em,fB g,(0:Int),kF S.2.2,(S.1.take i).map (BS g),S.1.map dM,Qb 0 S.1,tb,(b:Int),())) λr=>r=(((Ro g (some b):Nat):Int),(0:Int),Ld g,KI g,F64 g,((bX g.fi:Nat):Int),((bX g.la:Nat):Int),g.em,fB g,(0:Int),kF S.2.2,(S.1.take i).map (BS g),S.1.map dM,Qb 0 S.1,tb,(b:Int),()):=by
 have hn:=hg.n64;have c:(F64 g).length=g.sp.length:=vH _ _;refine bi (N:=(F64 g).length) (I:=λk s=>s=(((bX ((d_ k).flatMap λk=>if b.testBit k then K8 g.pr k else []):Nat):Int),(k:Int),(0:Int),Ld g,KI g,F64 g,((bX g.fi:Nat):Int),((bX g.la:Nat):Int),g.em,fB g,(0:Int),kF S.2.2,(S.1.take i).map (BS g),S.1.map dM,Qb 0 S.1,tb,(b:Int),())) rfl ?_ ?_
 ·rintro k s a rfl;have e:k<g.sp.length:=by rw[<-c];exact a
  have hc:bX ((d_ k).flatMap λk=>if b.testBit k then K8 g.pr k else [])<2^64:=iF λp hp=>by
   obtain⟨j,_,hp⟩:=aO_.1 hp;split at hp;·have:=zgw hg _ _ (fol_mem.1 hp);omega
   ·cases hp
  have hs:(d_ (k+1)).flatMap (λk=>if b.testBit k then K8 g.pr k else [])=((d_ k).flatMap λk=>if b.testBit k then K8 g.pr k else [])++(if b.testBit k then K8 g.pr k else []):=by rw[z_,ac_];simp
  rw[hs];unfold rX;simp only[aX];refine bA a (ae (ar (decide_eq_true (by rw[wrap_u64];omega)) ?_));rw[zeD d (by omega)];refine aA (λh=>?_) λh=>aa (aa ?_);·refine aD a (cD (x:=(F64 g)[k]) (by rw[e_];exact a_ a) (aa (aa ?_)));rw[vG,O4 hc (zgr (zgw hg) hn k),au a (by omega),if_pos h,G2]
  ·rw[au a (by omega),if_neg (by rw[h];simp),P_]
 ·rintro s rfl;unfold rX;simp only[aX];refine be (aa ?_);rw[c];rfl
theorem O9{g:G}(hg:GOkD g){i:Nat}{L:List (Option Nat)}{T:List (Nat×Int)}(h:Ok (jB g) none (fB g) L T)(P:L.length<=4096){x:Option Nat}(R:L[i]? =some x)(u:List (List Int))(s:List Bool)(O:Int×List NK×List (NK×Int)): Wp (λn=>aT n (rY (tj tbl n) n (((Ro g x:Nat):Int),(0:Int),Ld g,KI g,F64 g,((bX g.fi:Nat):Int),((bX g.la:Nat):Int),g.em,fB g,(0:Int),u,s,O.2.1,O.2.2,(dM x).1,(dM x).2.1,())) ((0:Int),(0:Int),Ld g,KI g,F64 g,((bX g.fi:Nat):Int),((bX g.la:Nat):Int),g.em,fB g,(0:Int),u,s,L.map dM,Qb 0 L,(dM x).1,(dM x).2.1,i_ (fB g).length 0,())) λr=>match nK (pg (spN 4096) (jB g) x i) (L,T,[]) (fB g)with | .inl F=>r= .inr ((0:Int),Ld g,KI g,F64 g,((bX g.fi:Nat):Int),((bX g.la:Nat):Int),g.em,fB g,(0:Int),u,s,F.1.map dM,Qb 0 F.1,(dM x).1,(dM x).2.1,F.2.2.map (fun(k:Nat)=>(k:Int)),())/\F.1.length<=4096 | .inr _=>r= .inl ((8:Int),(0:Int),()):=by
 have U:=MR hg;refine V4 (xs:=fB g) (f:=pg (spN 4096) (jB g) x i) (s0:=(L,T,[])) (Inv:=λj st=>Ok (jB g) none (fB g) st.1 st.2.1/\L<+:st.1/\st.2.2.length=j/\st.1.length<=4096) (enc:=λj st=>((j:Int),(0:Int),Ld g,KI g,F64 g,((bX g.fi:Nat):Int),((bX g.la:Nat):Int),g.em,fB g,(0:Int),u,s,st.1.map dM,Qb 0 st.1,(dM x).1,(dM x).2.1,qL (fB g).length st.2.2,())) (oE:=λst=>.inr ((0:Int),Ld g,KI g,F64 g,((bX g.fi:Nat):Int),((bX g.la:Nat):Int),g.em,fB g,(0:Int),u,s,st.1.map dM,Qb 0 st.1,(dM x).1,(dM x).2.1,qL (fB g).length st.2.2,())) (oB:=λ_=>.inl ((8:Int),(0:Int),())) ⟨h,aR_ _,rfl,P⟩ (λj p st A=>?_) (λst A=>?_) (λr hr hs=>?_)
 ·obtain⟨b,H,a⟩:=st;obtain⟨B,v,C,D⟩:=A;simp only at B v C D;subst C;have N:=HZ v R;unfold rY;dsimp only;refine bA p (aD p (ak (Lp hg _ _) ?_));dsimp only;rw[zck (zcv hg x) (zhV hg _)];have w:((false,((Ro g x&&&MZ g (fB g)[a.length]:Nat):Int),()):NK)=dM (jB g x (fB g)[a.length]):=rfl;rw[w];generalize E:jB g x (fB g)[a.length]=y;have c:=YR y b 0;have z:a.length<(qL (fB g).length a).length:=by unfold qL;simp;omega
  by_cases d:y∈b;·rw[if_pos d]at c;have e:pg (spN 4096) (jB g) x i (b,H,a) (fB g)[a.length]= .inl (b,H,a++[pos b y]):=Vw E d;rw[e];refine ae (aA (λhc=>by rw[c]at hc;simp at hc) λ_=>aa ?_);refine aD z (cD (x:=(qL (fB g).length a)[a.length]) (by simp) (aa ?_));refine⟨⟨B,v,by simp,D⟩,?_⟩;rw[c,au p (by omega)];simp only[w_,e_,U_];rw[C3 p]
  ·rw[if_neg d]at c;have l:=YU y b 0 d;simp only[U_]at l;have J:(b.map dM).length=b.length:=f_ _;refine ae (aA (λ_=>?_) λhc=>by rw[c]at hc;simp at hc);rw[J];refine aA (λhd=>aa ?_) λhd=>?_
   ·have hd:spN 4096 b y=true:=by have:=of_decide_eq_true hd;exact decide_eq_true (by omega)
    rw[QC E d hd];exact aa rfl
   ·have I:spN 4096 b y=false:=by have:=of_decide_eq_false hd;exact decide_eq_false (by omega)
    have Q:b.length<4096:=by have:=of_decide_eq_false hd;omega
    have M:Ok (jB g) none (fB g) (b++[y]) (H++[(i,(fB g)[a.length])]):=by rw[<-E]at d⊢;exact B.add N (b_ p) d
    rw[Vx E d I];refine ar (decide_eq_true (by rw[YT];simp only[maxLen];omega)) (ar (decide_eq_true (by simp;omega)) (aa ?_));refine aD z (cD (x:=(qL (fB g).length a)[a.length]) (by simp) (aa ?_));refine⟨⟨M,v.trans (aj_ _ _),by simp,by simp;omega⟩,?_⟩;rw[au p (by omega)];simp only[e_];rw[C3 p,l,j_];rfl
 ·unfold rY;exact be (aa rfl)
 ·rw[R8]at hr;rw[hr];cases r with
  |inl st=>obtain⟨B,v,C,D⟩:=hs st rfl;refine⟨?_,D⟩;simp only[qL,C,ag_,aF_,P_]
  |inr r=>rfl
theorem WQ{g:G}(i:Nat):(iY g i).2.2.length<=i:=by rw[uK i i (S_ _),f_,O_];omega
theorem zax{g:G}{L:List (Option Nat)}{i:Nat}{x:Option Nat}(a:L[i]? =some x):(L.take i).map (BS g)++[BS g x]=(L.take (i+1)).map (BS g):=by rw[n_,a,j_];rfl
theorem zdQ{α:Type}{L L':List α}(h:L<+:L'){i:Nat}(a:i<=L.length):L'.take i=L.take i:=by obtain⟨t,rfl⟩:=h;rw[List.take_append_of_le_length a]
theorem By{r:Rx}(hr:pV r=0){m:DF}(hm:(DZ (kA r 0)).length<=4096->aK tbl gC [.d (pr [.list tI,.list (.list tI),.list tB,tI]) (dN (kA r 0))] [] d7 (m,())): aK tbl oO [.d .rx r] [] iK (match Hu (kA r 0) NL with| .inl _=>(m,0,())| .inr _=>(zD,8,())):=by
 obtain⟨hw,hsz⟩:=Do hr;have hg:=YK hw hsz;have U:=zcA r;refine aG (by cases Hu (kA r 0) NL<;>rfl) (aF VU rfl (λO n=>eM (JF O n r)) ?_);unfold JF;refine ak (EH r (by omega)) ?_;rw[hr];refine aH rfl ?_;have j:=Wb r hw (by omega) [] [] [] rfl (λp q h=>by cases h) (by simp;omega);simp only[aU_,U_,as_]at j;have ef:iS ([]:List (Nat×Nat)) 0=[]:=rfl;rw[ef]at j;refine ak j ?_;generalize kA r 0=g at*;have hk:=MR hg;refine ak (QX hg _) ?_;refine dt (x:=dM none) (by decide) rfl (cD (x:=dM none) rfl (ar rfl ?_));refine ae (Ev.wp_loop (λs=>∃i S,s=aX g i S/\Hu g i= .inl S/\i<=S.1.length) (λs=>NL - s.1.toNat) ⟨0,([none],[],[]),rfl,rfl,by simp⟩ ?_);rintro s ⟨i,S,rfl,J,gc⟩;obtain⟨B,hq⟩:=(lY i).1 S J;have B:S=iY g i:=B;have el:=zb2;subst B;have C:Ok (jB g) none (fB g) (iY g i).1 (iY g i).2.1:=iH i;have A:=Qw hq;have qr:=WQ (g:=g) i;unfold EV;have ph:((iY g i).1.map dM).length=(iY g i).1.length:=f_ _;simp only[aX];refine aA (λh=>?_) λh=>?_
 ·have l:i<(iY g i).1.length:=by have:=of_decide_eq_true h;omega
  have D:=a_ l;generalize rg:(iY g i).1[i]=x at D;have H:((iY g i).1.map dM)[i]? =some (dM x):=by rw[List.getElem?_map,D];rfl
  refine dt (x:=dM x) (by omega) (by rw[e_];exact H) (cD (x:=dM x) (by rw[e_];exact H) ?_);refine ae (Ev.wp_mono (Q:=λv=>v=(((Ro g x:Nat):Int),(0:Int),Ld g,KI g,F64 g,((bX g.fi:Nat):Int),((bX g.la:Nat):Int),g.em,fB g,(0:Int),kF (iY g i).2.2,((iY g i).1.take i).map (BS g),(iY g i).1.map dM,Qb 0 (iY g i).1,(dM x).1,(dM x).2.1,())) ?_ ?_)
  ·cases x with
   |none=>exact aH rfl (aa rfl)|some b=>
    have M:b<2^64:=by
     have:=C.inv (P:=λy=>∀c,y=some c->c<2^64) (λc hc=>by cases hc) (λy c _ _ d hd=>by
      have:Ro g y&&&MZ g c=d:=by simpa[jB]using hd
      rw[<-this];exact R_ au_ (zcv hg y)) i _ D
     exact this b rfl
    refine bc rfl (ae (Ev.wp_mono (Ot hg i (iY g i) M false) ?_));rintro v rfl;exact aa rfl
  rintro v rfl;dsimp only;refine ar (M0 (by omega)) (ae (Ev.wp_mono (O9 hg C A D _ _ ((0:Int),(iY g i).1.map dM,Qb 0 (iY g i).1)) λt I=>?_));have a:Hu g (i+1)=match nK (pg (spN 4096) (jB g) x i) ((iY g i).1,(iY g i).2.1,[]) (fB g)with
   | .inl r=>.inl (r.1,r.2.1,(iY g i).2.2++[r.2.2])
   | .inr r=>.inr (r.1,r.2,(iY g i).2.2):=by
   have L:lz (jB g) none (fB g) (spN 4096) i= .inl (iY g i):=J
   simp only[Hu,lz,L,D]
   generalize nK (pg (spN 4096) (jB g) x i) ((iY g i).1,(iY g i).2.1,[]) (fB g)=z
   cases z<;>rfl
  cases Y:nK (pg (spN 4096) (jB g) x i) ((iY g i).1,(iY g i).2.1,[]) (fB g)with
  |inl u=>
   rw[Y]at I a;obtain⟨rfl,h2⟩:=I;have F:=((lY (i+1)).1 _ a).1;have hp:=(pX (f:=jB g) (s0:=none) (ls:=fB g) i).1;rw[<-F]at hp;have R:(iY g i).1.length<=u.1.length:=hp.length_le;refine ar (decide_eq_true (by simp[kF];omega)) ?_;refine ae (cG (b:=g.em) (λ_=>aa rfl) ?_);refine ae (cN (b:= !(dM x).1&&(gE .u64 .and (dM x).2.1 ((bX g.la:Nat):Int) != (0:Int))) (λ_=>ae (cG (λ_=>aa rfl) (aa rfl))) ?_);have E:(((dM x).1&&g.em)||(!(dM x).1&&(gE .u64 .and (dM x).2.1 ((bX g.la:Nat):Int) != (0:Int))))=BS g x:=by
    cases x with
    |none=>simp[dM,BS]|some b=>
     have M:b<2^64:=by
      have:=C.inv (P:=λy=>∀c,y=some c->c<2^64) (λc hc=>by cases hc) (λy c _ _ d hd=>by
       have:Ro g y&&&MZ g c=d:=by simpa[jB]using hd
       rw[<-this];exact R_ au_ (zcv hg y)) i _ D
      exact this b rfl
     simp only[dM,BS,Bool.false_and,Bool.not_false,Bool.true_and,Bool.false_or];rw[zck M (zir hg)];by_cases e:b&&&bX g.la=0;·rw[e];rfl
     ·rw[show((((b&&&bX g.la:Nat):Int)) != 0)=true by simp;omega,show(b&&&bX g.la != 0)=true by simpa using e]
   rw[E];refine ar (decide_eq_true (by simp;omega)) (aa ?_);refine⟨⟨i+1,(u.1,u.2.1,(iY g i).2.2++[u.2.2]),?_,a,p_ l R⟩,?_⟩;·simp only[aX,kF,j_,B_,D_];rw[au l (by omega),show(u.1.take (i+1)).map (BS g)=((iY g i).1.take i).map (BS g)++[BS g x]from by rw[zax D,zdQ (L':=u.1) hp (Nat.succ_le_of_lt l)]]
   ·rw[au l (by omega)];simp only[e_];omega
  |inr u=>rw[Y]at I a;subst I;refine aa (aa ?_);have N:Hu g NL= .inr (u.1,u.2,(iY g i).2.2):=MB (by omega) a;rw[N];rfl
 ·have l:(iY g i).1.length<=i:=by have:=of_decide_eq_false h;omega
  have N:Hu g NL= .inl (iY g i):=P5 (by omega) J l;have k:iY g NL=iY g i:=MC (by omega) l;have w:(DZ g).length<=4096:=by unfold DZ;rw[k];exact A
  have hd:((fB g,kF (iY g i).2.2,((iY g i).1.take i).map (BS g),(0:Int),()):DF)=dN g:=by have T:=zfm w;rw[k]at T;rw[<-T,r_ l,<-k];rfl
  rw[N];refine aa ?_;show Wp (λn=>Option.bind (aC (tj tbl n) gC [.d (pr [.list tI,.list (.list tI),.list tB,tI]) (fB g,kF (iY g i).2.2,((iY g i).1.take i).map (BS g),(0:Int),())] [] d7) _) _;rw[hd];exact ak (hm w) (aa rfl)
theorem EE{r:Rx}(hr:pV r=0):∃c:DF×Int×Unit,(c.2.1=0->Good c.1)/\aK tbl oO [.d .rx r] [] iK c:=by
 obtain⟨w,hsz⟩:=Do hr;have hg:=YK w hsz;cases d:Hu (kA r 0) NL with
 |inr S=>
  have g:¬(DZ (kA r 0)).length<=4096:=by intro h;obtain⟨L,y,n,x,z,p,s,_⟩:=(lY NL).2 S d;have e:=s.length_le;rw[n,q_]at e;have A:4096<=L.length:=of_decide_eq_true p;have B:(iY (kA r 0) NL).1.length<=4096:=h;simp only[W_]at e;have C:L.length+1<=(iY (kA r 0) NL).1.length:=e;omega
  have b:=By hr (m:=zD) (λh=>absurd h g);rw[d]at b;exact⟨_,(λh=>by cases h),b⟩
 |inl S=>
  obtain⟨_,a⟩:=zch d;have u:(dN (kA r 0)).1.length<=129:=MR hg;have v:(dN (kA r 0)).2.1.length<=4096:=by show((DZ (kA r 0)).map _).length<=_;rw[f_];exact a
  obtain⟨⟨m,_⟩,⟨j,k,l⟩,f⟩:=EF (zhK hg a) (by omega) (by omega);have b:=By hr (m:=m) (λ_=>f);rw[d]at b;exact⟨_,λ_=>Qs j (by simp only at k⊢;omega) (by simp only at l⊢;omega),b⟩
theorem GA{a b:DF}(d:Good a)(e:Good b):∃c:DF×Int×Unit,(c.2.1=0->Good c.1)/\aK tbl rD [.d (pr [.list tI,.list (.list tI),.list tB,tI]) a,.d (pr [.list tI,.list (.list tI),.list tB,tI]) b] [] gZ c:=by
 rcases zgc d e with⟨p,f⟩|⟨r,hr⟩
 ·obtain⟨u,v⟩:=zdR d e;obtain⟨⟨x,_⟩,⟨k,s,g⟩,l⟩:=EF (zfX d e) (by omega) (by omega);refine⟨_,λh=>?_,zcs d e p f l⟩;unfold zfl at h⊢;split at h;·cases h
  ·rename_i j;rw[if_neg j];exact Qs k (aS_ j) (by simp only at g⊢;omega)
 ·refine⟨(zD,8,()),(λh=>by cases h),aG rfl (aF ND rfl (λO n=>eM (yB O n a b)) ?_)⟩;unfold yB;refine ak (oH a) ?_;rw[good_iff.2 d];refine aA (λh=>by cases h) λ_=>ak (oH b) ?_;rw[good_iff.2 e];refine aA (λh=>by cases h) λ_=>ak (wl d e) ?_;rw[show Eo a b=Jm a b true r from by unfold Eo;rw[hr]];exact aA (λh=>aa rfl) (λh=>by cases h)
abbrev ziD:Rc:=([],[],0,())
theorem N1(s:PS)(n:List UInt8)(d:PolOk qK s):aK tbl r9 [.d yS s,.d tS n] [] kK ((zcS s n).getD ziD,(zcS s n).isSome,()):=by
 have hl:=d.l4;refine aG rfl (aF Pn rfl (λO k=>eM (EO O k s n)) ?_);unfold EO;refine ae (zeJ (xs:=s.2.2.2.1) (p:=(·.1==n)) (enc:=λi=>((i:Int),([]:List UInt8),(0:Int),())) (g:=λx=>(true,x.1,x.2.1,x.2.2.1,())) (e:=(([]:List UInt8),(0:Int),())) (λi c=>?_) ?_ ?_)
 ·unfold td;refine bA c (aD c (aA (λh=>aa ?_) λh=>?_));·rw[if_neg (by grind),au c (by omega)]
  have hp:=d.r4 _ (b_ c);have h:(s.2.2.2.1[i].1==n)=true:=by grind
  rw[if_pos h];generalize s.2.2.2.1[i]=p at hp;have f:=hp.tl;refine ae (bi (N:=p.2.1.length) (I:=λj t=>t=((j:Int),([]:List UInt8),(0:Int),p.1,p.2.2.1,p.2.1.take j,())) rfl (λj t b a=>?_) λt a=>?_)
  ·subst a;unfold s9;have a:=hp.tr _ (b_ b);have l:=a.ml;have u:=a.al;refine bA b (aD b (ar (decide_eq_true (by grind)) (ar (decide_eq_true (by grind)) (ar ?_ (aa ?_)))));·grind
   ·show(A_ .i64 ((j:Int)+1),([]:List UInt8),(0:Int),p.1,p.2.2.1,p.2.1.take j++[p.2.1[j]],())=_;rw[au b (by omega),List.take_append_getElem b]
  ·subst a;unfold s9;refine be (aa (aa ?_));simp
 ·unfold td;exact be (aa rfl)
 ·unfold zcS;cases s.2.2.2.1.find? (·.1==n)with|some r=>exact aa rfl|none=>exact aa rfl
theorem zgI(a:eC)(hl:a.2.2.1.length<=1000000000000):∃c:Bool×Unit,(c.1=true->a.2.1.length<=4096/\a.2.2.1.length<=4096)/\aK tbl pM [.d yAU a] [] gX c:=by
 refine gT (sh:=gX) (λ_=>rfl) (aF NA rfl (λO m=>eM (BF O m a)) ?_);unfold BF;refine ae (Iu (xs:=a.2.2.1) (P:=λl=>l.2.1.length<=2000) (e:=(false,())) (g:=()) (λi d=>?_) ?_ (λh=>?_) λh=>?_);·unfold ri;refine bA d (aD d (fK ?_ (by rw[au d (by omega)])));grind
 ·unfold ri;exact be (aa rfl)
 ·refine ae (cG (b:=decide ((a.2.2.1.length:Int)<=4096)) (λ_=>aa rfl) (aa ⟨(_,()),rfl,λh=>?_⟩));grind
 ·exact aa ⟨(false,()),rfl,λh=>by grind⟩
theorem zar(l:List Iv)(hl:l.length<=1000000):∃c:List Iv×Bool×Unit,(c.2.1=true->Srt c.1/\(∀x∈c.1,∃y∈l,y.1=x.1)/\c.1.length<=l.length)/\aK tbl lc [.d (.list (pr [tI,tB])) l] [] eu c:=by
 refine gT (sh:=eu) (λ_=>rfl) (aF Il rfl (λO m=>eM (wm O m l)) ?_);unfold wm;refine ae (bi (N:=l.length) (I:=λi st=>∃d:List Iv,st=(d,(i:Int),())/\Srt d/\(∀x∈d,∃y∈l,y.1=x.1)/\d.length<=i) ⟨[],rfl,.nil,by simp,by simp⟩ (λi st u n=>?_) λst n=>?_)
 ·obtain⟨d,rfl,p,E,H⟩:=n;unfold mU;have C:=b_ u;refine bA u (ae (aD u ?_));generalize l[i]=x at C;refine ae (Wp.imp (Q:=λv=>∃k:Nat,v=((k:Int),x.1,x.2.1,())/\k<=d.length/\(∀j (r:j<d.length),j<k->d[j].1<x.1)/\∀f:k<d.length,¬d[k].1<x.1) ?_ λv M=>?_)
  ·refine Go.Ev.wp_loop (λv=>∃k:Nat,v=((k:Int),x.1,x.2.1,())/\k<=d.length/\∀j (r:j<d.length),j<k->d[j].1<x.1) (λv=>d.length - v.1.toNat) ⟨0,rfl,aa_ _,λj _ h=>by omega⟩ ?_;rintro v ⟨k,rfl,F,D⟩;unfold ub;by_cases f:k<d.length
   ·have hd:decide ((k:Int)<(d.length:Int))=true:=decide_eq_true (by omega);refine ae (cG (b:=decide (d[k].1<x.1)) (λ_=>aD f (aa rfl)) (aA (λh=>aa ?_) λh=>aa ?_));·have h:d[k].1<x.1:=of_decide_eq_true (Bool.and_eq_true_iff.1 h).2;rw[au f (by omega)];grind
    grind
   ·exact ae (aH (decide_eq_false (by grind)) (aa (aH rfl (aa ⟨k,rfl,F,D,λh=>absurd h f⟩))))
  ·obtain⟨k,rfl,F,D,U⟩:=M;by_cases g:∃f:k<d.length,d[k].1=x.1
   ·obtain⟨f,g⟩:=g;refine ae (cG (b:=true) (λ_=>aD f (aa (by grind))) (bc (by grind) (aD f (aA (λ_=>aa ?_) λ_=>aa ?_))));·exact aa (aa ⟨([],false,()),rfl,λh=>by simp⟩)
    ·refine aa ⟨d,?_,p,E,by omega⟩;rw[au u (by omega)]
   ·have B:∀f:k<d.length,x.1<d[k].1:=λf=>by grind
    refine ae (cG (b:=false) (λh=>?_) (aH (by simp) ?_))
    ·have f:k<d.length:=by grind
     exact aD f (aa (beq_eq_false_iff_ne.2 λe=>g ⟨f,e⟩))
    ·have L:(d.take k).length=k:=by grind
     refine ar (decide_eq_true (by simp)) (ar (decide_eq_true (by simp)) (ar (by grind) (ar (by simp) (ar (decide_eq_true (by simp)) (ar (by grind) (ar (decide_eq_true ?_) (ar (decide_eq_true ?_) (aa (aa ⟨d.take k++x::d.drop k,?_,?_,λz T=>?_,?_⟩)))))))));·grind
     ·grind
     ·rw[au u (by omega),e_,o_,List.drop_zero];rfl
     ·refine List.pairwise_append.2 ⟨p.sublist (List.take_sublist _ _),?_,λa J b s=>?_⟩
      ·refine J_.2 ⟨λb s=>?_,p.sublist (List.drop_sublist _ _)⟩;obtain⟨j,r,rfl⟩:=h_.1 s;rw[aJ_];simp only[aN_]at r;have w:k<d.length:=by omega
       have:=B w;by_cases e:j=0;·grind
       ·have:=C_.1 p k (k+j) w (by omega) (by omega);omega
      ·obtain⟨j,r,rfl⟩:=h_.1 J;rw[L]at r;rw[List.getElem_take];have R:=D j (by omega) r;rcases x_.1 s with rfl|s;·omega
       ·obtain⟨P,A,rfl⟩:=h_.1 s;rw[aJ_];simp only[aN_]at A;exact C_.1 p j (k+P) (by omega) (by omega) (by omega)
     all_goals grind
 ·obtain⟨d,rfl,p,E,H⟩:=n;unfold mU;exact be (aa (aa ⟨(d,true,()),rfl,λ_=>⟨p,E,H⟩⟩))
theorem Wc(l:List HRU)(hl:l.length<=64)(hp:∀r∈l,r.2.1.length<=1048576):∃c:DF×Int×Unit,(c.2.1=0->Good c.1)/\aK tbl j0 [.d (.list yH) l] [] dQ c:=by
 refine gT (sh:=dQ) (λ_=>rfl) (aF Gs rfl (λO m=>eM (uU O m l)) ?_);unfold uU;obtain⟨v,C,F⟩:=EE (r:=.mk 4 0 0 []) rfl;refine ak F (ae (Go.Ev.wp_loop (λst=>∃(e i:Int) (d:DF),st=(e,i,0,d.1,d.2.1,d.2.2.1,d.2.2.2.1,())/\-1<=i/\i<(l.length:Int)/\(e=0->Good d)) (λst=>(st.2.1+1).toNat) ⟨v.2.1,(l.length:Int) - 1,v.1,by rw[wrap_i64 (by omega) (by omega)],by omega,by omega,C⟩ ?_));rintro st ⟨e,i,d,rfl,L,M,hd⟩;unfold sy;by_cases hg:0<=i/\e=0
 ·obtain⟨y,rfl⟩:=hg;have j:i.toNat<l.length:=by omega
  have z:=hp _ (b_ j);have gd:=hd rfl;refine ae (cG (b:=true) (λ_=>aa rfl) (bc (by grind) (ae (cw y j ?_))));generalize hr:l[i.toNat]=r at z;have g:l[i.toNat]? =some r:=by grind
  obtain⟨c,J,I⟩:=EI r.2.1 z;refine ak I (aA (λk=>aa (aa (aa ⟨(([],[],[],0,()),c.2.1,()),rfl,λh=>?_⟩))) λk=>?_);·grind
  have k:c.2.1=0:=by grind
  obtain⟨a,s,_,rfl⟩:∃a,pV a=0/\nn a=r.2.1/\c=(a,0,()):=by rcases J with h|⟨_,rfl⟩;all_goals grind
  obtain⟨n,E,H⟩:=EE s;have B:Rx.mk a.out.1 a.out.2.1 a.out.2.2.1 a.out.2.2.2.1=a:=by cases a;rfl
  simp only;rw[B];refine ak H (aA (λk=>aa (aa (aa ⟨(([],[],[],0,()),n.2.1,()),rfl,λh=>?_⟩))) λk=>?_);·grind
  have x:=E (by grind);have A:∀(e:Int) (D:DF),(e=0->Good D)->(∃(w i':Int) (d:DF),(e,A_ .i64 (i - 1),(0:Int),D.1,D.2.1,D.2.2.1,D.2.2.2.1,())=(w,i',0,d.1,d.2.1,d.2.2.1,d.2.2.2.1,())/\-1<=i'/\i'<(l.length:Int)/\(w=0->Good d))/\(A_ .i64 (i - 1)+1).toNat<(i+1).toNat:=λe D h=>by rw[wrap_i64 (by omega) (by omega)];grind
  refine dt y g (aA (λ_=>?_) λ_=>?_);·obtain⟨f,p,u⟩:=GA (CG x) (CG gd);exact ak (uI n.1) (ak (uI d) (ak u (ak (uI f.1) (aa (aa (A f.2.1 (Sk f.1) λh=>CG (p h)))))))
  ·obtain⟨f,p,u⟩:=GA (CG x) gd;exact ak (uI n.1) (ak u (aa (aa (A f.2.1 f.1 p))))
 ·refine ae (cG (b:=(e==0)) (λ_=>aa rfl) (aH ?_ (aa (aa ⟨(d,e,()),rfl,hd⟩))));grind
theorem Qa{a b:Ty}{k:a.den}{v:b.den}:∀{D:List (a.den×b.den)},bY a b D k=some v->∃c,(c,v)∈D
 |[],h=>by cases h
 |(x,y)::l,h=>by unfold bY at h;cases e:jk a k x with|true=>grind|false=>rw[e]at h;obtain⟨c,d⟩:=Qa (D:=l) h;grind
theorem Qe{a b:Ty}{k:a.den}{v:b.den}:∀{D:List (a.den×b.den)} {p},p∈dn a b D k v->p∈D\/p.2=v
 |[],p,h=>by rw[m_.1 h];simp
 |(x,y)::l,p,h=>by
  unfold dn at h;cases e:jk a k x with
  |true=>grind|false=>
   rw[e]at h;rcases x_.1 h with rfl|h;·simp
   ·exact(Qe (D:=l) h).imp_left (y_ _)
theorem Qd{a b:Ty}(k:a.den)(v:b.den):∀D:List (a.den×b.den),(dn a b D k v).length<=D.length+1
 |[]=>by simp[dn]
 |(x,y)::l=>by unfold dn;cases jk a k x with|true=>simp|false=>have:=Qd k v l;grind
theorem SY{s:PS}{m:Tb}(a:uA s m=0){R:List V7}{D:DFT}{C:List Wa}(c:if m.1=1 then R.length<=64/\cE rP R=0 else R=[])(d:if m.1=2 then ik D=0 else D=zDF) (e:if m.1=3 then C.length<=64/\cE sC C=0 else C=[]):wk (m.1,m.2.2.1,m.2.2.2.1,R,D,C,())=0:=by
 obtain⟨k,nm,N,⟨g,pl,⟨⟩⟩,nt,⟨⟩⟩:=m;unfold uA at a;simp only at c d e a⊢;split at a;·omega
 split at a;·omega
 rename_i b f;unfold wk sQ;have b:k=1\/k=2\/k=3\/k=4\/k=5\/k=6\/k=7\/k=8:=by omega
 rcases b with rfl|rfl|rfl|rfl|rfl|rfl|rfl|rfl<;>simp_all<;>omega
theorem zg4{s:PS}{m:Tb}(a:uA s m=0)(h:m.1=2):∃l∈s.2.1,l.1=m.2.1:=by
 obtain⟨k,nm,N,⟨d,pl,⟨⟩⟩,nt,⟨⟩⟩:=m;simp only at h;subst h;rw[rO (.inr (.inl rfl))]at a;split at a;·omega
 split at a;·rename_i h;obtain⟨l,b,c⟩:=List.any_eq_true.1 (show s.2.1.any (·.1==nm)=true from h);grind
 omega
structure GI(n:Nat)(T:List yZ)(W:List (List Iv))(K:List (Tb×Int)):Prop where
 tT:∀t∈T,wk t=0/\okD NV t
 tW:∀l∈W,l.length<=64/\∀x∈l,0<=x.1/\x.1<(T.length:Int)
 tK:∀q∈K,0<=q.2/\q.2<(T.length:Int)
 lT:T.length<=n
 lK:K.length<=n
theorem GI.put{n:Nat}{T T':List yZ}{W:List (List Iv)}{K:List (Tb×Int)}(h:GI n T W K)(E:T'=T\/∃t,T'=T++[t]/\wk t=0/\okD NV t){k:Int}(J:0<=k/\k<(T'.length:Int))(m:Tb): GI (n+1) T' W (dn yM tI K m k)/\T.length<=T'.length:=by
 have hl:T.length<=T'.length/\T'.length<=T.length+1:=by grind
 refine⟨⟨λt z=>?_,λl hl=>⟨(h.tW l hl).1,λx H=>by have:=(h.tW l hl).2 x H;omega⟩,λq C=>?_,by have:=h.lT;omega,by have:=h.lK;have:=Qd (a:=yM) (b:=tI) m k K;omega⟩,hl.1⟩
 ·rcases E with rfl|⟨M,rfl,I⟩;·exact h.tT t z
  ·rcases c_.1 z with z|z;·exact h.tT t z
   grind
 ·rcases Qe (a:=yM) (b:=tI) C with C|C;·have:=h.tK q C;omega
  grind
theorem zdD{d:DF}(h:Good d):okD yF d:=by
 have hl:=mf h;have hs:=h.starts;have n:∀x:Int,0<=x->x<=4294967295->okD tI x:=λx f g=>by show -9223372036854775808<=x/\x<=9223372036854775807;omega
 refine⟨⟨by show _<=9223372036854775807;omega,λx b=>n x ?_ (hs.2.2.2 x b)⟩,⟨by show _<=9223372036854775807;omega,λr hr=>⟨by rw[h.rows r hr];show _<=9223372036854775807;omega,λt a=>n t (h.to r hr t a).1 (by have:=h.to r hr t a;omega)⟩⟩,⟨by show _<=9223372036854775807;omega,λ_ _=>trivial⟩,n _ h.start.1 (by have:=h.start;omega),trivial⟩;obtain⟨i,c,rfl⟩:=h_.1 b;have e:=hs.2.1 hs.1;rcases t_ i with rfl|hp;·omega
 ·have:=uO hs i 0 c hp;omega
theorem zgL{s:PS}(k:PolOk qK s)(hs:SmP s){m:Tb}(p:uA s m=0)(f:okD yM m):∃c:yZ×Int×Unit,(c.2.1=0->wk c.1=0/\okD NV c.1)/\aK tbl pN [.d yS s,.d yM m] [] gY c:=by
 refine gT (sh:=gY) (λ_=>rfl) (aF NC rfl (λO n=>eM (BH O n s m)) ?_);unfold BH;have d:∀{R:List V7} {D:DFT} {C:List Wa},okD (.list yR) R->okD yF D->okD (.list yC) C->okD NV (m.1,m.2.2.1,m.2.2.2.1,R,D,C,()):=λz u A=>⟨f.1,f.2.2.1,f.2.2.2.1,z,u,A,trivial⟩;have y:okD yF zDF:=⟨jv,jv,jv,(by show IntKind.min .i64<=(0:Int)/\(0:Int)<=IntKind.max .i64;decide),trivial⟩;by_cases z:m.1=1
 ·have E:=k.l1;refine ae (bc (by grind) (ae (bi (N:=s.1.length) (I:=λi x=>∃R:List V7,x=((i:Int),0,0,0,0,0,m.1,m.2.2.1,m.2.2.2.1.1,m.2.2.2.1.2.1,0,R,())/\(R.length<=64/\cE rP R=0)/\okD (.list yR) R) ⟨[],rfl,⟨by simp,rfl⟩,jv⟩ (λi x a b=>?_) λx b=>?_)))
  ·obtain⟨R,rfl,v,r⟩:=b;unfold rk;have hl:=k.r1 _ (b_ a);have w:=(hs.ok.1.2 _ (b_ a)).2.1;refine bA a (ae (aD a (aA (λ_=>ar (decide_eq_true (by grind)) (aa (aa ?_))) λ_=>aa (aa ?_))));·rw[au a (by omega)];exact⟨_,rfl,⟨hl.1,errL_zero.2 hl.2⟩,w⟩
   ·rw[au a (by omega)];grind
  ·obtain⟨R,rfl,v,r⟩:=b;unfold rk;exact be (aa (aa (aa ⟨((m.1,m.2.2.1,m.2.2.2.1,R,zDF,[],()),0,()),rfl,λ_=>⟨SY p (by grind) (by grind) (by grind),d r y jv⟩⟩)))
 by_cases u:m.1=2
 ·have F:=k.l2;refine ae (aH (by grind) (bc (by grind) (ae (bi (N:=s.2.1.length) (I:=λi x=>x=((i:Int),0,0,0,0,0,m.1,m.2.2.1,m.2.2.2.1.1,m.2.2.2.1.2.1,0,())/\∀j (B:j<s.2.1.length),j<i->s.2.1[j].1≠m.2.1) ⟨rfl,λj _ h=>by omega⟩ (λi x a b=>?_) λx b=>?_))))
  ·obtain⟨rfl,b⟩:=b;unfold xT;refine bA a (aD a (aA (λ_=>?_) λJ=>aa ?_));·obtain⟨c,hc,L⟩:=Wc s.2.1[i].2.1 (k.r2 _ (b_ a)).1 (hs.pt _ (b_ a));refine ak L (aa (aa (aa ⟨((m.1,m.2.2.1,m.2.2.2.1,[],c.1,[],()),c.2.1,()),rfl,λh=>?_⟩)));have g:=hc h;exact⟨SY p (by grind) (by rw[if_pos u];exact good_iff.2 g) (by grind),d jv (zdD g) jv⟩
   ·rw[au a (by omega)];grind
  ·obtain⟨rfl,b⟩:=b;obtain⟨l,hl,e⟩:=zg4 p u;obtain⟨j,B,rfl⟩:=h_.1 hl;grind
 by_cases A:m.1=3
 ·have H:=k.l3;refine ae (aH (by grind) (aH (by grind) (bc (by grind) (ae (bi (N:=s.2.2.1.length) (I:=λi x=>∃R:List Wa,x=((i:Int),0,0,0,0,0,m.1,m.2.2.1,m.2.2.2.1.1,m.2.2.2.1.2.1,0,R,())/\(R.length<=64/\cE sC R=0)/\okD (.list yC) R) ⟨[],rfl,⟨by simp,rfl⟩,jv⟩ (λi x a b=>?_) λx b=>?_)))))
  ·obtain⟨R,rfl,v,r⟩:=b;unfold rm;have hl:=k.r3 _ (b_ a);have w:=(hs.ok.2.2.1.2 _ (b_ a)).2.1;refine bA a (ae (aD a (aA (λ_=>ar (decide_eq_true (by grind)) (aa (aa ?_))) λ_=>aa (aa ?_))));·rw[au a (by omega)];exact⟨_,rfl,⟨hl.1,errL_zero.2 hl.2⟩,w⟩
   ·rw[au a (by omega)];grind
  ·obtain⟨R,rfl,v,r⟩:=b;unfold rm;exact be (aa (aa (aa ⟨((m.1,m.2.2.1,m.2.2.2.1,[],zDF,R,()),0,()),rfl,λ_=>⟨SY p (by grind) (by grind) (by grind),d jv y r⟩⟩)))
 exact ae (aH (by grind) (aH (by grind) (aH (by grind) (aa (aa ⟨((m.1,m.2.2.1,m.2.2.2.1,[],zDF,[],()),0,()),rfl,λ_=>⟨SY p (by grind) (by grind) (by grind),d jv y jv⟩⟩)))))
theorem zhO{T:List yZ}(d:∀t∈T,okD NV t)(hl:T.length<=100000)(W:List (List Iv))(K:List (Tb×Int))(l:List Iv)(m:Tb)(t:yZ): Wp (λn=>aT n (oo (tj tbl n) n) ((0:Int),T,W,K,l,m.1,m.2.1,m.2.2.1,m.2.2.2.1.1,m.2.2.2.1.2.1,false,t.1,t.2.1,t.2.2.1.1,t.2.2.1.2.1,t.2.2.2.1,t.2.2.2.2.1.1,t.2.2.2.2.1.2.1,t.2.2.2.2.1.2.2.1,t.2.2.2.2.1.2.2.2.1,t.2.2.2.2.2.1,())) (λv=>∃j:Nat,j<=T.length/\v=((j:Int),T,W,K,l,m.1,m.2.1,m.2.2.1,m.2.2.2.1.1,m.2.2.2.1.2.1,false,t.1,t.2.1,t.2.2.1.1,t.2.2.1.2.1,t.2.2.2.1,t.2.2.2.2.1.1,t.2.2.2.2.1.2.1,t.2.2.2.2.1.2.2.1,t.2.2.2.2.1.2.2.2.1,t.2.2.2.2.2.1,())):=by
 refine Go.Ev.wp_loop (λv=>∃j:Nat,j<=T.length/\v=((j:Int),T,W,K,l,m.1,m.2.1,m.2.2.1,m.2.2.2.1.1,m.2.2.2.1.2.1,false,t.1,t.2.1,t.2.2.1.1,t.2.2.1.2.1,t.2.2.2.1,t.2.2.2.2.1.1,t.2.2.2.2.1.2.1,t.2.2.2.2.1.2.2.1,t.2.2.2.2.1.2.2.2.1,t.2.2.2.2.2.1,())) (λv=>T.length - v.1.toNat) ⟨0,aa_ _,rfl⟩ ?_;rintro v ⟨j,c,rfl⟩;unfold oo;by_cases a:j<T.length;·refine ae (cG (b:= !decide (T[j]=t)) (λ_=>rW (by simp) (a_ a) (ak (uR _ t (d _ (b_ a))) (aa rfl))) (aA (λ_=>aa ?_) λ_=>aa ⟨j,c,rfl⟩));rw[au a (by omega)];grind
 ·exact ae (aH (decide_eq_false (by grind)) (aa (aH rfl (aa ⟨j,c,rfl⟩))))
theorem zhP{s:PS}(M:PolOk qK s)(hs:SmP s){t:V8}(p:TrmOk s t)(A:okD yT t){f:Nat}{T:List yZ}{W:List (List Iv)}{K:List (Tb×Int)}(h:GI f T W K)(hn:f<=10000): Wp (λn=>aT n (jR (tj tbl n) n s t) ((0:Int),T,W,K,([]:List Iv),())) (λr=>(∃e:Int,e≠0/\r= .inl (e,()))\/∃T' K' l,r= .inr (T',W,K',l,())/\GI (f+64) T' W K'/\l.length<=64/\∀x∈l,0<=x.1/\x.1<(T'.length:Int)):=by
 have Q:=p.ml;refine bi (N:=t.2.1.length) (I:=λi st=>∃T' K' l,st=((i:Int),T',W,K',l,())/\GI (f+i) T' W K'/\l.length=i/\∀x∈l,0<=x.1/\x.1<(T'.length:Int)) ⟨T,K,[],rfl,h,rfl,by simp⟩ (λi st g d=>?_) λst d=>?_
 ·obtain⟨T,K,l,rfl,h,hl,J⟩:=d;have H:=p.ma _ (b_ g);have a:=A.2.1.2 _ (b_ g);unfold jR;refine bA g (aD g (ae ?_));generalize t.2.1[i]=m at H a;have P:=h.lT;have O:=h.lK;have B:∀{T':List yZ} {K':List (Tb×Int)} {k:Int},GI (f+(i+1)) T' W K'->T.length<=T'.length->0<=k->k<(T'.length:Int)->∃w E l2,((A_ .i64 ((i:Int)+1),T',W,K',l++[(k,!m.2.2.2.2.1,())],()):Int×List yZ×List (List Iv)×List (Tb×Int)×List Iv×Unit)=(((i+1:Nat):Int),w,W,E,l2,())/\GI (f+(i+1)) w W E/\l2.length=i+1/\∀x∈l2,0<=x.1/\x.1<(w.length:Int):=fun{T' K' k} U Y g3 g4=>by rw[au g (by omega)];grind
  have y:decide ((l.length+1)*16<=140737488355328)=true:=decide_eq_true (by omega);cases e:bY yM tI K (m.1,m.2.1,m.2.2.1,m.2.2.2.1,false,())with
  |some v=>obtain⟨k',z⟩:=Qa e;have u:=h.tK _ z;refine aH rfl (aa (ar y (aa ?_)));exact B (T':=T) (K':=K) (k:=v) ⟨h.tT,h.tW,h.tK,by omega,by omega⟩ (S_ _) u.1 u.2
  |none=>
   obtain⟨c,hc,R⟩:=zgL M hs (m:=(m.1,m.2.1,m.2.2.1,m.2.2.2.1,false,())) H ⟨a.1,a.2.1,a.2.2.1,a.2.2.2.1,trivial,trivial⟩;refine bc rfl (ak R (aA (λL=>aa (aa (.inl ⟨c.2.1,by grind,rfl⟩))) λL=>ae (Wp.imp (zhO (λt p=>(h.tT t p).2) (by omega) W K l (m.1,m.2.1,m.2.2.1,m.2.2.2.1,false,()) c.1) λv u=>?_)));obtain⟨j,hj,rfl⟩:=u;have hc:=hc (by grind);have F:decide (K.length<maxLen)=true:=decide_eq_true (by simp only[maxLen];omega);refine ae (aA (λb=>ar (decide_eq_true (by grind)) (aa (ar F (aa (ar y (aa ?_)))))) λb=>aa (ar F (aa (ar y (aa ?_)))))
   ·have b:j=T.length:=by grind
    obtain⟨C,D⟩:=h.put (T':=T++[c.1]) (.inr ⟨c.1,rfl,hc⟩) (k:=(j:Int)) ⟨by simp,by grind⟩ (m.1,m.2.1,m.2.2.1,m.2.2.2.1,false,());exact B (T':=T++[c.1]) (k:=(j:Int)) C D (by simp) (by grind)
   ·have b:j<T.length:=by grind
    obtain⟨C,D⟩:=h.put (T':=T) (.inl rfl) (k:=(j:Int)) ⟨by simp,by omega⟩ (m.1,m.2.1,m.2.2.1,m.2.2.2.1,false,());exact B (T':=T) (k:=(j:Int)) C D (by simp) (by omega)
 ·obtain⟨T',K',l,rfl,h,hl,J⟩:=d;unfold jR;exact be (aa (.inr ⟨T',K',l,rfl,⟨h.tT,h.tW,h.tK,by have:=h.lT;omega,by have:=h.lK;omega⟩,by omega,J⟩))
theorem zbW{s:PS}(v:PolOk qK s)(hs:SmP s){p:Rc}(hp:PlcOk s p)(f:okD yO p):∃c:List yZ×List (List Iv)×Int×Unit,(c.2.2.1=0->c.1.length<=2000/\(∀t∈c.1,wk t=0/\okD NV t)/\c.2.1.length=p.2.1.length/\∀l∈c.2.1,l.length<=64/\∀x∈l,0<=x.1/\x.1<(c.1.length:Int))/\aK tbl mB [.d yS s,.d yO p] [] dW c:=by
 refine gT (sh:=dW) (λ_=>rfl) (aF Js rfl (λO n=>eM (xQ O n s p)) ?_);unfold xQ;have w:=hp.tl;refine ae (bi (N:=p.2.1.length) (I:=λj st=>∃T W K,st=((j:Int),T,W,K,())/\GI (64*j) T W K/\W.length=j) ⟨[],[],[],rfl,⟨by simp,by simp,by simp,by simp,by simp⟩,rfl⟩ (λj st b a=>?_) λst a=>?_)
 ·obtain⟨T,W,K,rfl,h,k⟩:=a;unfold oq;refine bA b (aD b (ae (Wp.imp (zhP v hs (hp.tr _ (b_ b)) (f.2.1.2 _ (b_ b)) h (by omega)) λr hr=>?_)));rcases hr with⟨e,u,rfl⟩|⟨T',K',l,rfl,g,y,z⟩;·exact aa (aa ⟨([],[],e,()),rfl,λh=>absurd h u⟩)
  ·refine ar (decide_eq_true (by grind)) (aa ⟨T',W++[l],K',by rw[au b (by omega)],⟨g.tT,λx d=>?_,g.tK,g.lT,g.lK⟩,by grind⟩);rcases c_.1 d with d|d;·exact g.tW x d
   grind
 ·obtain⟨T,W,K,rfl,h,k⟩:=a;unfold oq;refine be (aa (aA (λ_=>aa ⟨([],[],4,()),rfl,λh=>by grind⟩) λA=>aa ⟨(T,W,0,()),rfl,λ_=>⟨?_,h.tT,k,h.tW⟩⟩));grind
theorem VP{F i:Nat}{ts:List yZ}{B B1:List d6}{L L1:List lF}{r y:Int}{RY:List Int}(h:LI i ts B L)(v:i<64)(b:Fit F (tA ts B L) r)(a:YS i ts B L B1 L1 y RY){l:List Iv}(hs:Srt l)(j:l.length<=64)(d:∀x∈l,0<=x.1/\x.1<(ts.length:Int)): ∃R:Int×(List d6×Kc),LI (i+1) ts R.2.1 L1/\ndT R.2.1 L1 R.1/\Pz l y r (B1,[]) L1 R:=by
 obtain⟨E,rfl⟩:=a.eB;obtain⟨E',rfl⟩:=a.eL;have e:Clo (B++E) (L++E') ((vw F (tA ts B L) r).2.2.2.map (·.1)):=b.num.clo.app;have hn:=b.num.len;have n:=b.l2;have p:=b.l3;have g:=a.len;have s:=h.cB;have u:=a.cB;have hp:=ay_ (show l.length+1<=65 by omega) (ay_ g (show((vw F (tA ts B L) r).2.2.2.map (·.1)).length<=8192 by omega));obtain⟨c,f⟩:=zbS (nt:=ts.length) (lits:=l) (B0:=B++E) (L:=L++E') (by omega) (by omega) (by omega) a.tab a.clo e (zg1 hs) d (ts.length+2) l y r (-1) (B++E,[]) ⟨[],rfl⟩ a.mem b.num.mem ⟨zcY a.tab (a.clo _ a.mem).1,zcY a.tab (e _ b.num.mem).1,λx k=>by have:=(d x (List.mem_of_mem_drop (List.mem_of_mem_head? k))).1;omega⟩ (by simp) (by omega) (by simp) (CI.nil a.tab);refine⟨_,⟨c.inv.tab,?_,?_,a.lv,a.le⟩,c.nd,f⟩;·have:=c.inv.cB;have:=c.inv.len;omega
 ·have:=a.cL;have:=h.cL;omega
theorem LI.gok{i:Nat}{ts:List yZ}{B:List d6}{L:List lF}(h:LI i ts B L)(z:i<=64):GOk (tA ts B L):=⟨h.tab.low,by have:=h.cB;grind,by have:=h.cL;grind,λl hl=>by have:=(h.lv l hl).2;omega⟩
theorem LI.mono{i:Nat}{ts:List yZ}{B:List d6}{L:List lF}(h:LI i ts B L):LI (i+1) ts B L:=⟨h.tab,p_ h.cB (az_ _ (bd_ i)),p_ h.cL (Nat.succ_le_succ (az_ _ (bd_ i))),λl hl=>⟨(h.lv l hl).1,by have:=(h.lv l hl).2;omega⟩,h.le⟩
theorem zhX{F:Nat}{g:eC}{r:Int}(h:Num F g r)(a:AutOk (fE F g r))(j:∀t∈g.1,okD NV t)(hl:∀l∈g.2.2.1,okD K1 l):okD yAU (fE F g r):=by
 have l1:=a.l1;have l2:=a.l2;have l3:=a.l3;have f:∀x:Int,-4096<=x->x<=4096->okD tI x:=λx u v=>by show -9223372036854775808<=x/\x<=9223372036854775807;omega
 have nd:∀{n:Int},ct (fE F g r) n=true->okD tI n:=λhn=>by have:=nodeB_of.1 hn;grind
 refine⟨⟨by show _<=9223372036854775807;omega,j⟩,⟨by show _<=9223372036854775807;omega,λb e=>?_⟩,⟨by show _<=9223372036854775807;omega,λl k=>hl l (h.lvs k)⟩,nd a.rt,trivial⟩;obtain⟨⟨p,s⟩,⟨c,d⟩,_⟩:=Rm (a.br b e);exact⟨f _ (by omega) (by omega),nd c,nd d,trivial⟩
structure BldC(F:Nat)(a:eC):Prop where
 red:O7 F a=a
 aut:AutOk a
 ok:okD yAU a
 lv:∀l∈a.2.2.1,l.2.1.length<=1048576
theorem zfc{F:Nat}(f:4100<=F){i:Nat}(g:i<=64){ts:List yZ}(d:ts.length<=2000)(e:∀t∈ts,wk t=0/\okD NV t){B:List d6}{L:List lF}(h:LI i ts B L){r:Int}(a:Fit F (tA ts B L) r):BldC F (fE F (tA ts B L) r):=by have b:=a.num.aut d a.l2 a.l3 (λt c=>(e t c).1) λl hl=>h.le l (a.num.lvs hl);exact⟨zfM f a.num b,b,zhX a.num b (λt c=>(e t c).2) λl hl=>(h.lv l hl).1,λl hl=>by have:=(h.lv l (a.num.lvs hl)).2;omega⟩
theorem J8{F:Nat}(hF:1000000000000<=F){s:PS}(hs:SmP s)(nm:List UInt8):∃c:eC×Int×Unit,(c.2.1=0->BldC F c.1)/\aK tbl dc [.d yS s,.d tS nm] [] bK c:=by
 refine gT (sh:=bK) (λ_=>rfl) (aF KN rfl (λO n=>eM (Aw O n s nm)) ?_);unfold Aw;refine ak (uS s hs) (aA (λhe=>aa ⟨(([],[],[],0,()),KL qK s,()),rfl,λh=>?_⟩) λhe=>?_);·grind
 have hk:=zfV (show KL qK s=0 by grind);refine ak (N1 s nm hk) ?_;cases ef:zcS s nm with|none=>exact bc rfl (aa ⟨(([],[],[],0,()),6,()),rfl,λh=>by grind⟩)|some p=>
 have H:=zcT ef;have hp:=hk.r4 p H;have I:=hs.ok.2.2.2.1.2 p H;have ur:=hp.tl;refine aH rfl ?_;obtain⟨c,hc,kc⟩:=zbW hk hs hp I;refine ak kc (aA (λhe=>aa ⟨(([],[],[],0,()),c.2.2.1,()),rfl,λh=>?_⟩) λhe=>?_);·grind
 obtain⟨g1,g2,g3,g4⟩:=hc (by grind);obtain⟨T,W,e0,⟨⟩⟩:=c;simp only at g1 g2 g3 g4;let b:lF:=(p.2.2.1==1,[],());have P:dO [] b=(-1,[b]):=rfl;have c0:=po [] [] b (by simp) (by simp);rw[P]at c0;have t0:LI 0 T [] [b]:=⟨⟨List.nodup_nil,by simp,by simp⟩,by simp,by simp,λl hl=>by rw[m_.1 hl];exact⟨⟨trivial,jv,trivial⟩,by grind⟩,λl hl=>by rw[m_.1 hl];exact Lb (λ_=>rfl) (by simp)⟩;have n0:ct (tA T [] [b]) (-1)=true:=nodeB_of.2 ⟨by simp,by simp⟩;have U:Num F (tA T [] [b]) (-1):=zdv (g:=tA T [] [b]) t0.tab n0 (by grind);have k0:Fit F (tA T [] [b]) (-1):=⟨U,p_ U.lens.1 (by simp),p_ U.lens.2 (by simp)⟩;refine ak Ls (ak c0 (ak (FP (g:=tA T [] [b]) (t0.gok (by simp)) (-1) n0 (F:=F) (by grind) (iZ [])) (ae ?_)));refine Go.Ev.wp_loop (λst=>∃(i:Nat) (B:List d6) (L:List lF) (r:Int),st=(r,(p.2.1.length:Int) - 1 - (i:Int),0,p.1,p.2.1,p.2.2.1,B,iZ B,L,[],(vw F (tA T B L) r).2.1,(vw F (tA T B L) r).2.2.1,(vw F (tA T B L) r).1,())/\i<=p.2.1.length/\LI i T B L/\Fit F (tA T B L) r) (λst=>(st.2.1+1).toNat) ⟨0,[],[b],-1,?_,aa_ _,t0,k0⟩ ?_;·rw[wrap_i64 (by omega) (by grind)];simp only[Int.natCast_zero,Int.sub_zero];rfl
 rintro st ⟨i,B,L,r,rfl,hi,h,a⟩;unfold wu;by_cases el:i<p.2.1.length
 ·have f:(0:Int)<=(p.2.1.length:Int) - 1 - (i:Int):=by omega
  have E:((p.2.1.length:Int) - 1 - (i:Int)).toNat<W.length:=by omega
  have j:((p.2.1.length:Int) - 1 - (i:Int)).toNat<p.2.1.length:=by omega
  obtain⟨w1,w2⟩:=g4 _ (b_ E);have w:=hp.tr _ (b_ j);have M:=I.2.1.2 _ (b_ j);obtain⟨o,ho,ko⟩:=zar W[((p.2.1.length:Int) - 1 - (i:Int)).toNat] (by omega);have nd:ndT B L r:=nodeB_of.1 (a.num.v.inv.kd _ _ a.num.v.mem);refine bc (decide_eq_true f) (cw f E (ak ko (ae (Wp.imp (Q:=λv=>∃B' L' d,v=(d,(0:Int),p.1,p.2.1,p.2.2.1,B',iZ B',L',([]:List yZ),(vw F (tA T B L) r).2.1,(vw F (tA T B L) r).2.2.1,(vw F (tA T B L) r).1,())/\LI (i+1) T B' L'/\ndT B' L' d) ?_ λv hv=>?_))))
  ·refine aA (λJ=>?_) λ_=>aa ⟨B,L,r,rfl,h.mono,nd⟩;obtain⟨s1,s2,s3⟩:=ho J;refine cw f j (ae (Wp.imp (Q:=λv=>∃B1 L1 y RY,v=(y,(0:Int),p.1,p.2.1,p.2.2.1,B1,iZ B1,L1,([]:List yZ),(vw F (tA T B L) r).2.1,(vw F (tA T B L) r).2.2.1,(vw F (tA T B L) r).1,())/\YS i T B L B1 L1 y RY) ?_ λv hv=>?_))
   ·generalize p.2.1[((p.2.1.length:Int) - 1 - (i:Int)).toNat]=t at w M;have u:=M.2.2.1;have D:∀x∈L,okD K1 x:=λx hx=>(h.lv x hx).1;have C:L.length<=1000000000000:=by have:=h.cL;omega
    refine aA (λ_=>?_) λ_=>aA (λ_=>?_) λ_=>?_;·exact ak (po B L (true,t.2.2.1,()) D C) (aa ⟨B,_,_,_,rfl,h.leaf ⟨trivial,u,trivial⟩ w.al (Lb (λe=>by grind) w.ac)⟩)
    ·exact ak (po B L (false,[],()) D C) (aa ⟨B,_,_,_,rfl,h.leaf ⟨trivial,jv,trivial⟩ (by simp) (Lb (λ_=>rfl) (by simp))⟩)
    ·have hn:=a.num.len;have h2:=a.l2;have h3:=a.l3;have ph:=w.al;exact ak (Wd (g:=tA T B L) (A:=t.2.2.1) (k:=64*i) a.num.clo h.tab (by omega) (by have:=h.cB;grind) (by have:=h.cL;grind) u.2 h.lv (by omega) ((r+1).toNat+1) r (B,L,[]) a.num.mem (aT_ _) (PI.nil t.2.2.1 _ h.tab)) (aa ⟨_,_,_,_,rfl,h.pre (by omega) a u.2 w.al w.ac (aT_ _)⟩)
   ·obtain⟨B1,L1,y,RY,rfl,hy⟩:=hv;obtain⟨R,q1,q2,q3⟩:=VP h (by omega) a hy s1 (by omega) λx hx=>by grind
    exact ak q3 (aa ⟨R.2.1,L1,R.1,rfl,q1,q2⟩)
  ·obtain⟨B',L',d,rfl,h',N⟩:=hv;have z:(tA T B' L').2.1.length<F:=by have:=h'.cB;grind
   have num:=zdv (g:=tA T B' L') h'.tab (nodeB_of.2 N) z;have rg:=num.lens.2;have qr:=h'.cL;obtain⟨cf,Y,kf⟩:=zgI ([],(vw F (tA T B' L') d).2.1,(vw F (tA T B' L') d).2.2.1,(vw F (tA T B' L') d).1,()) (by show(fE F (tA T B' L') d).2.2.1.length<=1000000000000;grind);refine ak (FP (g:=tA T B' L') (h'.gok (by omega)) d (nodeB_of.2 N) z (iZ B')) (ak kf (aA (λ_=>aa (aa ⟨(([],[],[],0,()),8,()),rfl,λh=>by grind⟩)) λgc=>aa ?_));obtain⟨f2,f3⟩:=Y (by grind);rw[wrap_i64 (by grind) (by grind)];exact⟨⟨i+1,B',L',d,by simp only[Int.natCast_add,Int.natCast_one,Int.sub_sub];rfl,el,h',⟨num,f2,f3⟩⟩,by grind⟩
 ·refine aH (decide_eq_false (by grind)) (aa (aa ⟨(fE F (tA T B L) r,0,()),rfl,λ_=>zfc (by omega) (by omega) g1 g2 h a⟩))
open Go Go.Av Go.Ev
theorem A0:aK tbl nY [] [] kE ((([([111,119,110],([(true,((167772160,(8,())),(8,(24,()))))],()))],([],([([98,108,117,101],([(true,(65000,((-1),())))],()))],([([105,109,112,111,114,116],([([102,105,114,115,116],([(1,([111,119,110],(0,((0,(0,())),(true,())))))],([(1,(200,(0,(0,(0,())))))],(1,()))))],(2,())))],()))))),()):=pT (m:=90) λk=>by kernel_rfl
theorem A1:aK tbl dc [.d (pr [(.list (pr [tS,(.list (pr [tB,(pr [tW,tI]),tI,tI]))])),(.list (pr [tS,(.list (pr [tB,tS]))])),(.list (pr [tS,(.list (pr [tB,tI,tI]))])),(.list (pr [tS,(.list (pr [tS,(.list (pr [tI,tS,tI,(pr [tW,tI]),tB])),(.list (pr [tI,tI,tI,tW,tW])),tI])),tI]))]) (([([111,119,110],([(true,((167772160,(8,())),(8,(24,()))))],()))],([],([([98,108,117,101],([(true,(65000,((-1),())))],()))],([([105,109,112,111,114,116],([([102,105,114,115,116],([(1,([111,119,110],(0,((0,(0,())),(true,())))))],([(1,(200,(0,(0,(0,())))))],(1,()))))],(2,())))],()))))),.d tS ([105,109,112,111,114,116])] [] bK ((([(1,(0,((0,(0,())),([(true,((167772160,(8,())),(8,(24,()))))],(([],([],([],(0,())))),([],()))))))],([(0,((-1),((-2),())))],([(false,([],())),(true,([(1,(200,(0,(0,(0,())))))],()))],(0,()))))),(0),()):=pT (m:=90) λk=>by kernel_rfl
theorem A2:aK tbl dc [.d (pr [(.list (pr [tS,(.list (pr [tB,(pr [tW,tI]),tI,tI]))])),(.list (pr [tS,(.list (pr [tB,tS]))])),(.list (pr [tS,(.list (pr [tB,tI,tI]))])),(.list (pr [tS,(.list (pr [tS,(.list (pr [tI,tS,tI,(pr [tW,tI]),tB])),(.list (pr [tI,tI,tI,tW,tW])),tI])),tI]))]) (([([111,119,110],([(true,((167772160,(8,())),(8,(24,()))))],()))],([],([([98,108,117,101],([(true,(65000,((-1),())))],()))],([([105,109,112,111,114,116],([([102,105,114,115,116],([(1,([111,119,110],(0,((0,(0,())),(true,())))))],([(1,(200,(0,(0,(0,())))))],(1,()))))],(2,())))],()))))),.d tS ([110,111,110,101])] [] bK ((([],([],([],(0,()))))),(6),()):=pT (m:=90) λk=>by kernel_rfl
theorem A3:aK tbl dc [.d (pr [(.list (pr [tS,(.list (pr [tB,(pr [tW,tI]),tI,tI]))])),(.list (pr [tS,(.list (pr [tB,tS]))])),(.list (pr [tS,(.list (pr [tB,tI,tI]))])),(.list (pr [tS,(.list (pr [tS,(.list (pr [tI,tS,tI,(pr [tW,tI]),tB])),(.list (pr [tI,tI,tI,tW,tW])),tI])),tI]))]) (([],([],([],([([112],([([116],([],([],(1,()))))],(2,())))],()))))),.d tS ([112])] [] bK ((([],([],([(true,([],()))],((-1),()))))),(0),()):=pT (m:=90) λk=>by kernel_rfl
theorem A4:aK tbl vg [.d (pr [(.list (pr [tI,tI,(pr [tW,tI]),(.list (pr [tB,(pr [tW,tI]),tI,tI])),(pr [(.list tI),(.list (.list tI)),(.list tB),tI]),(.list (pr [tB,tI,tI]))])),(.list (pr [tI,tI,tI])),(.list (pr [tB,(.list (pr [tI,tI,tI,tW,tW]))])),tI]) (([(1,(0,((0,(0,())),([(true,((167772160,(8,())),(8,(24,()))))],(([],([],([],(0,())))),([],()))))))],([(0,((-1),((-2),())))],([(false,([],())),(true,([(1,(200,(0,(0,(0,())))))],()))],(0,()))))),.d (pr [(pr [tW,tI]),tI,tW,(.list tI),(.list tW),tI,tI,tI,tI]) (((2886729728,(12,())),(6,(0,([],([],(0,(0,(0,(0,()))))))))))] [] qu (((true,(((2886729728,(12,())),(6,(0,([],([],(200,(0,(0,(0,()))))))))),()))),(1),(0),()):=pT (m:=90) λk=>by kernel_rfl
theorem A5:aK tbl pK [.d (pr [(.list (pr [tI,tI,(pr [tW,tI]),(.list (pr [tB,(pr [tW,tI]),tI,tI])),(pr [(.list tI),(.list (.list tI)),(.list tB),tI]),(.list (pr [tB,tI,tI]))])),(.list (pr [tI,tI,tI])),(.list (pr [tB,(.list (pr [tI,tI,tI,tW,tW]))])),tI]) (([(1,(0,((0,(0,())),([(true,((167772160,(8,())),(8,(24,()))))],(([],([],([],(0,())))),([],()))))))],([(0,((-1),((-2),())))],([(false,([],())),(true,([(1,(200,(0,(0,(0,())))))],()))],(0,()))))),.d (.list tB) ([true])] [] lC (((false,([],()))),(0),()):=pT (m:=90) λk=>by kernel_rfl
theorem A6:aK tbl gH [.d (pr [(.list (pr [tI,tI,(pr [tW,tI]),(.list (pr [tB,(pr [tW,tI]),tI,tI])),(pr [(.list tI),(.list (.list tI)),(.list tB),tI]),(.list (pr [tB,tI,tI]))])),(.list (pr [tI,tI,tI])),(.list (pr [tB,(.list (pr [tI,tI,tI,tW,tW]))])),tI]) (([(1,(0,((0,(0,())),([(true,((167772160,(8,())),(8,(24,()))))],(([],([],([],(0,())))),([],()))))))],([(0,((-1),((-2),())))],([(false,([],())),(true,([(1,(200,(0,(0,(0,())))))],()))],(0,())))))] [] dV ((([(1,(0,((0,(0,())),([(true,((167772160,(8,())),(8,(24,()))))],(([],([],([],(0,())))),([],()))))))],([(0,((-1),((-2),())))],([(false,([],())),(true,([(1,(200,(0,(0,(0,())))))],()))],(0,()))))),(0),()):=pT (m:=90) λk=>by kernel_rfl
theorem A7:aK tbl vh [.d (pr [(.list (pr [tI,tI,(pr [tW,tI]),(.list (pr [tB,(pr [tW,tI]),tI,tI])),(pr [(.list tI),(.list (.list tI)),(.list tB),tI]),(.list (pr [tB,tI,tI]))])),(.list (pr [tI,tI,tI])),(.list (pr [tB,(.list (pr [tI,tI,tI,tW,tW]))])),tI]) (([(1,(0,((0,(0,())),([(true,((167772160,(8,())),(8,(24,()))))],(([],([],([],(0,())))),([],()))))))],([(0,((-1),((-2),())))],([(false,([],())),(true,([(1,(200,(0,(0,(0,())))))],()))],(0,()))))),.d (pr [(.list (pr [tI,tI,(pr [tW,tI]),(.list (pr [tB,(pr [tW,tI]),tI,tI])),(pr [(.list tI),(.list (.list tI)),(.list tB),tI]),(.list (pr [tB,tI,tI]))])),(.list (pr [tI,tI,tI])),(.list (pr [tB,(.list (pr [tI,tI,tI,tW,tW]))])),tI]) (([(1,(0,((0,(0,())),([(true,((167772160,(8,())),(8,(24,()))))],(([],([],([],(0,())))),([],()))))))],([(0,((-1),((-2),())))],([(false,([],())),(true,([(1,(200,(0,(0,(0,())))))],()))],(0,())))))] [] qw ((true),()):=pT (m:=90) λk=>by kernel_rfl
theorem A8:aK tbl dK [.d (pr [(.list (pr [tI,tI,(pr [tW,tI]),(.list (pr [tB,(pr [tW,tI]),tI,tI])),(pr [(.list tI),(.list (.list tI)),(.list tB),tI]),(.list (pr [tB,tI,tI]))])),(.list (pr [tI,tI,tI])),(.list (pr [tB,(.list (pr [tI,tI,tI,tW,tW]))])),tI]) (([(1,(0,((0,(0,())),([(true,((167772160,(8,())),(8,(24,()))))],(([],([],([],(0,())))),([],()))))))],([(0,((-1),((-2),())))],([(false,([],())),(true,([(1,(200,(0,(0,(0,())))))],()))],(0,())))))] [] bR ((0),()):=pT (m:=90) λk=>by kernel_rfl
theorem A9:aK tbl tf [.d (pr [tI,tI,(pr [tW,tI]),(.list (pr [tB,(pr [tW,tI]),tI,tI])),(pr [(.list tI),(.list (.list tI)),(.list tB),tI]),(.list (pr [tB,tI,tI]))]) ((1,(0,((0,(0,())),([(true,((167772160,(8,())),(8,(24,()))))],(([],([],([],(0,())))),([],()))))))),.d (pr [(pr [tW,tI]),tI,tW,(.list tI),(.list tW),tI,tI,tI,tI]) (((2886729728,(12,())),(6,(0,([],([],(0,(0,(0,(0,()))))))))))] [] od ((false),()):=pT (m:=90) λk=>by kernel_rfl
theorem A10:aK tbl dK [.d (pr [(.list (pr [tI,tI,(pr [tW,tI]),(.list (pr [tB,(pr [tW,tI]),tI,tI])),(pr [(.list tI),(.list (.list tI)),(.list tB),tI]),(.list (pr [tB,tI,tI]))])),(.list (pr [tI,tI,tI])),(.list (pr [tB,(.list (pr [tI,tI,tI,tW,tW]))])),tI]) (([],([],([],(0,())))))] [] bR ((5),()):=pT (m:=90) λk=>by kernel_rfl
theorem QT:aK tbl kG [] [] fk (true,()):=by
 refine aG rfl (aF Pj rfl (λO n=>Pw O n) ?_);unfold EL;repeat first
  |refine ak A0 ?_
  |refine ak A1 ?_
  |refine ak A2 ?_
  |refine ak A3 ?_
  |refine ak A4 ?_
  |refine ak A5 ?_
  |refine ak A6 ?_
  |refine ak A7 ?_
  |refine ak A8 ?_
  |refine ak A9 ?_
  |refine ak A10 ?_
  |refine bc rfl ?_
  |refine aH rfl ?_
  |refine aa ?_
  |refine dt (by decide) rfl ?_
  |refine ae ?_
 rfl
theorem U1{t:Ty}{l:List t.den}{x:t.den}(a:x∈l):gF t x<=(l.map (gF t)).sum:=by
 induction l with
 |nil=>cases a|cons y l b=>
  rw[B_,aZ_];rcases x_.1 a with rfl|h;·omega
  ·have:=b h;omega
theorem HQ{t:Ty}{l:List t.den}(h:∀x∈l,1<=gF t x):l.length<=(l.map (gF t)).sum:=by induction l with|nil=>exact aa_ _|cons y l b=>rw[B_,aZ_,H_];have:=b λx a=>h x (y_ _ a);have:=h y (Q_ ..);omega
theorem QY(s:PS)(hs:okD yS s):∃n:Int,aK tbl pQ [.d yS s] [] mJ (n,()):=by
 have:=gT (tbl:=tbl) (f:=pQ) (ars:=[.d yS s]) (os:=[]) (sh:=mJ) (R:=λ_=>True) (λc=>rfl) (aF SO rfl (λO n=>eM (GG O n s)) ?_);·obtain⟨⟨n,_⟩,_,h⟩:=this;grind
 unfold GG;obtain⟨g,k,l,e,_⟩:=hs;refine ae (Wp.imp (Q:=λ_=>True) (bi (N:=s.1.length) (I:=λi x=>∃m:Int,x=(m,(i:Int),())) ⟨_,rfl⟩ (λi x b a=>?_) λx a=>?_) λv _=>?_);·obtain⟨m,rfl⟩:=a;unfold uZ;exact bA b (aD b (aa ⟨_,by rw[au b g.1]⟩))
 ·obtain⟨m,rfl⟩:=a;unfold uZ;exact be (aa trivial)
 refine ae (Wp.imp (Q:=λ_=>True) (bi (N:=s.2.1.length) (I:=λi x=>∃m:Int,x=(m,(i:Int),())) ⟨_,rfl⟩ (λi x b a=>?_) λx a=>?_) λv _=>?_);·obtain⟨m,rfl⟩:=a;unfold u4;exact bA b (aD b (aa ⟨_,by rw[au b k.1]⟩))
 ·obtain⟨m,rfl⟩:=a;unfold u4;exact be (aa trivial)
 refine ae (Wp.imp (Q:=λ_=>True) (bi (N:=s.2.2.1.length) (I:=λi x=>∃m:Int,x=(m,(i:Int),())) ⟨_,rfl⟩ (λi x b a=>?_) λx a=>?_) λv _=>?_);·obtain⟨m,rfl⟩:=a;unfold u5;exact bA b (aD b (aa ⟨_,by rw[au b l.1]⟩))
 ·obtain⟨m,rfl⟩:=a;unfold u5;exact be (aa trivial)
 refine ae (Wp.imp (Q:=λ_=>True) (bi (N:=s.2.2.2.1.length) (I:=λi x=>∃m:Int,x=(m,(i:Int),())) ⟨_,rfl⟩ (λi x b a=>?_) λx a=>?_) λv _=>aa ⟨_,rfl,trivial⟩)
 ·obtain⟨m,rfl⟩:=a;unfold u7;have hp:=(e.2 _ (b_ b)).2.1;refine bA b (aD b (ae (Wp.imp (Q:=λ_=>True) (bi (N:=s.2.2.2.1[i].2.1.length) (I:=λj x=>∃m:Int,x=(m,(j:Int),())) ⟨_,rfl⟩ (λj x d a=>?_) λx a=>?_) λv _=>aa ⟨_,by rw[au b e.1]⟩)));·obtain⟨m,rfl⟩:=a;unfold u6;exact bA d (aD d (aa ⟨_,by rw[au d hp.1]⟩))
  ·obtain⟨m,rfl⟩:=a;unfold u6;exact be (aa trivial)
 ·obtain⟨m,rfl⟩:=a;unfold u7;exact be (aa trivial)
theorem NY(s:PS)(hs:okD yS s):∃b:Bool,aK tbl r6 [.d yS s] [] nM (b,()):=by obtain⟨n,hn⟩:=QY s hs;refine⟨decide (n>400),aG rfl (aF Pi rfl (λO k=>eM (EK O k s)) ?_)⟩;unfold EK;exact ak hn (aa rfl)
theorem Xo{s:PS}(a:okD yS s)(b:gF yS s<=1048576):SmP s:=by
 have b:(aL_ (gF yL) s.1).sum+1+((aL_ (gF yG) s.2.1).sum+1+((aL_ (gF yD) s.2.2.1).sum+1+((aL_ (gF yO) s.2.2.2.1).sum+1+0)))<=1048576:=b;have g:=HQ (t:=yL) (l:=s.1) λx _=>by show 1<=ax_ x.1+1+_;omega
 have h:=HQ (t:=yG) (l:=s.2.1) λx _=>by show 1<=ax_ x.1+1+_;omega
 have j:=HQ (t:=yD) (l:=s.2.2.1) λx _=>by show 1<=ax_ x.1+1+_;omega
 have k:=HQ (t:=yO) (l:=s.2.2.2.1) λx _=>by show 1<=ax_ x.1+1+_;omega
 refine⟨a,by omega,by omega,by omega,by omega,λl hl r hr=>?_⟩;have c:=U1 (t:=yG) hl;have d:=U1 (t:=yH) hr;have e:gF yG l=l.1.length+1+((aL_ (gF yH) l.2.1).sum+1+0):=rfl;have f:gF yH r=1+(r.2.1.length+1+0):=rfl;omega
theorem NZ(s:PS)(hs:okD yS s):∃c:Bool×Unit,True/\aK tbl r7 [.d yS s] [] kJ c:=by
 refine gT (sh:=kJ) (λ_=>rfl) (aF Pk rfl (λO n=>eM (EM O n s)) ?_);unfold EM;have f:=hs.2.1;obtain⟨b,g⟩:=NY s hs;refine ae (Wp.imp (Q:=λ_=>True) (bi (N:=s.2.1.length) (I:=λi x=>∃m:Int,x=(m,(i:Int),())) ⟨_,rfl⟩ (λi x d a=>?_) λx a=>?_) λv _=>ak g (ae (Wp.imp (Q:=λ_=>True) (aA (λ_=>aa trivial) λ_=>aa trivial) λv _=>aa ⟨_,rfl,trivial⟩)))
 ·obtain⟨m,rfl⟩:=a;unfold s8;have hp:=(f.2 _ (b_ d)).2.1;refine bA d (aD d (ae (Wp.imp (Q:=λ_=>True) (bi (N:=s.2.1[i].2.1.length) (I:=λj x=>∃m:Int,x=(m,(j:Int),())) ⟨_,rfl⟩ (λj x e a=>?_) λx a=>?_) λv _=>aa ⟨_,by rw[au d f.1]⟩)));·obtain⟨m,rfl⟩:=a;unfold s7;exact bA e (aD e (aa ⟨_,by rw[au e hp.1]⟩))
  ·obtain⟨m,rfl⟩:=a;unfold s7;exact be (aa trivial)
 ·obtain⟨m,rfl⟩:=a;unfold s8;exact be (aa trivial)
theorem Gc:LawOkU j5 [yS,tS]:=by rintro⟨s,nm,_⟩ ⟨hs,hn,_⟩ e;have e:gF yS s+_<=1048576:=e;have sm:SmP s:=Xo (s:=s) hs (by omega);obtain⟨F,f⟩:∃F:Nat,1000000000000<=F:=⟨_,S_ _⟩;refine⟨f9 ev (true,()),?_,rfl⟩;refine aF Ai rfl (λO n=>eM (pp O n s nm)) ?_;unfold pp;obtain⟨b,_,j⟩:=NZ s hs;obtain⟨c,hc,k⟩:=J8 f sm nm;refine ak j (aA (λ_=>ak QT (aa rfl)) λ_=>ak k (aA (λ_=>ak QT (aa rfl)) λg=>?_));have h:=hc (by simpa using g);have d:=ze8 h.aut;have a:=Iz (by omega:4100<=F) h.ok h.lv;rw[show zea F c.1=(c.1,0,())from by unfold zea;rw[if_neg (not_not_intro d),h.red]]at a;refine ak a (ae (bc rfl (ak (QZ _ _ h.ok) (aa (ae (bc (by simp) (ak (Ap _ h.ok) (aa (ae (bc (by simpa using d) (ak QT (aa (aa rfl)))))))))))))
end Go.Proofs.YtdgiglmmpbndmaaGreatDoor
