import Derived.Test.YtdgiglmmpbndmaaGreatDoorMLawPfx
import Derived.Sort.Walk0
set_option linter.all false
set_option maxRecDepth 100000
set_option maxHeartbeats 1000000
open Bool renaming eq_iff_iff->z_,and_eq_true->aB_,or_eq_false_iff->aF_,false_or->bd_,or_false->be_,cond_decide->bj_,true_and->bp_
open Classical renaming byContradiction->E_,choose->S_,choose_spec->ax_
open Int renaming toNat_natCast->g_,toNat->ak_,le_refl->aW_
open Go.IntKind renaming wrap->H_,bits->aJ_
open List renaming getElem?_eq_getElem->a_,getElem_mem->b_,range->c_,length_append->d_,mem_iff_getElem->e_,getElem?_eq_some_iff->f_,mem_append->h_,take_add_one->i_,map_append->j_,take_length->k_,mem_map->l_,mem_cons_of_mem->m_,mem_range->n_,length_map->o_,length_singleton->p_,mem_singleton->q_,replicate->r_,take_of_length_le->s_,mem_append_left->t_,append_assoc->u_,getD_eq_getElem?_getD->v_,mem_cons_self->w_,map_cons->x_,ext_getElem->A_,mem_of_mem_take->B_,nodup_iff_pairwise_ne->C_,map_nil->D_,drop_eq_getElem_cons->F_,pairwise_iff_getElem->G_,append_nil->I_,range_succ->J_,getElem?_append_right->K_,getElem?_append_left->L_,getElem?_eq_none->M_,filter_append->N_,mem_of_getElem?->Q_,cons_append->T_,findIdx?_eq_some_iff_getElem->V_,mem_of_find?_eq_some->W_,foldl_cons->X_,flatMap_cons->Y_,getElem?_set_ne->Z_,nodup_append->aa_,map_congr_left->ab_,getElem?_set_self->ac_,length_pos_of_mem->ad_,pairwise_cons->ae_,prefix_append->af_,length_nil->ah_,getElem?_map->ai_,any_eq_true->al_,length_cons->am_,length_take->an_,findIdx?_eq_none_iff->ap_,flatMap_append->aq_,length_set->ar_,nil_append->as_,mem_append_right->ay_,set_append_right->az_,take_append_drop->aA_,getElem_set->aC_,prefix_refl->aD_,filter_sublist->aI_,nodup_nil->aK_,ext_getElem?->aM_,mem_cons->aN_,filter_cons_of_pos->aP_,mem_flatMap->aQ_,nodup_cons->aT_,getElem?_range->ba_,length_flatMap->bb_,replicate_zero->bc_,length_range->bf_,pairwise_map->bg_,nodup_range->bk_,any_append->bl_,map_const'->bm_,range_zero->bn_,take_zero->bo_,any_nil->bq_,map_map->br_
open Nat renaming eq_zero_or_pos->y_,le_trans->P_,le_refl->R_,lt_or_eq_of_le->ag_,pow_le_pow_right->aj_,zero_add->ao_,lt_of_le_of_lt->av_,lt_of_lt_of_le->aw_,mod_eq_of_lt->aE_,zero_le->aG_,min_eq_left->aH_,add_assoc->aO_,sub_self->aR_,testBit_lt_two_pow->aS_,and_le_left->aU_,eq_of_testBit_eq->aX_,pow_lt_pow_right->aY_,beq_refl->bh_,succ_le_of_lt->bi_,lt_or_ge->bs_
open Option renaming getD_some->O_,toList_some->U_,map_some->au_,bind->aZ_
open Option.some renaming inj->aV_,injEq->bt_
open Prod renaming ext->aL_
namespace Go.Proofs.YtdgiglmmpbndmaaGreatDoor
open Z
open Go Go.Av Go.Ev
open Go Go.Av Go.Ev Go.Pl
def rQ{xs:List Int}(h:ce xs):Asc xs:=G_.2 λi j _ b a=>gT h j i b a
def sE(a b:List Int)(C:Asc a)(D:Asc b)(F:a.length<=1000000000)(H:b.length<=1000000000):aB tbl 269 [.d (.list tI) a,.d (.list tI) b] [] ev (pU (a++b),()):=by
 refine cm ?_;refine ae (Go.Ev.wp_loop (σ:=List Int×List Int×List Int×Unit) (λs=>Asc s.1/\Asc s.2.1/\Asc s.2.2.1/\(∀x∈s.2.2.1,(∀y∈s.1,x<y)/\∀y∈s.2.1,x<y)/\(∀x,(x∈s.2.2.1\/x∈s.1\/x∈s.2.1)↔x∈a++b)/\s.2.2.1.length+s.1.length+s.2.1.length<=2000000000) (λs=>s.1.length+s.2.1.length) ⟨C,D,by simp[Asc],by simp,by simp,by grind⟩ ?_);rintro⟨xs,ys,j,_⟩ ⟨h1,h2,k,e,f,B⟩;simp only at h1 h2 k e f B;have c:∀v:Int,(∀x∈j,x<v)->Asc (j++[v]):=λv M=>m8 k (by simp[Asc]) λx g y A=>by grind
 refine ae (bq (λ_=>aa rfl) (au (λI=>?_) λL=>?_))
 .match xs,ys with
  |[],[]=>grind|[],y::ys=>
   have A:(∀z∈ys,y<z)/\Asc ys:=ae_.1 h2;refine ae (bq (b:=false) (λ_=>ae (bh (b:=false) (λh=>absurd h (by simp)) (aa rfl))) (au (λh=>(by grind)) λ_=>?_));refine ae (bq (b:=true) (λh=>absurd h (by simp)) (au (λ_=>?_) λh=>absurd h (by simp)));refine bH (x:=y) (by simp) rfl (ao (decide_eq_true (by grind)) (ao rfl (ao (by simp) (aa ?_))));refine⟨⟨h1,(by grind),c y λx g=>(e x g).2 y (by simp),λx g=>⟨by simp,λz d=>?_⟩,λx=>?_,by grind⟩,by simp⟩;.grind
   .rw[<-f x];simp;grind
  |x::xs,[]=>
   have g:(∀z∈xs,x<z)/\Asc xs:=ae_.1 h1;refine ae (bq (b:=true) (λh=>absurd h (by simp)) (au (λ_=>?_) λh=>absurd h (by simp)));refine bH (x:=x) (by simp) rfl (ao (decide_eq_true (by grind)) (ao rfl (ao (by simp) (aa ?_))));refine⟨⟨(by grind),h2,c x λz d=>(e z d).1 x (by simp),λw r=>⟨λz d=>?_,by simp⟩,λw=>?_,by grind⟩,by simp⟩;.grind
   .rw[<-f w];simp;grind
  |x::xs,y::ys=>
   have g:(∀z∈xs,x<z)/\Asc xs:=ae_.1 h1;have A:(∀z∈ys,y<z)/\Asc ys:=ae_.1 h2;refine ae (bq (b:=decide (x<y)) (λ_=>ae (bh (b:=decide (x<y)) (λ_=>bH (x:=x) (by simp) rfl (bH (x:=y) (by simp) rfl (aa rfl))) (aa (by simp)))) (au (λh=>?_) λh=>?_))
   .have p:x<y:=by grind
    refine bH (x:=x) (by simp) rfl (ao (decide_eq_true (by grind)) (ao rfl (ao (by simp) (aa ?_))));refine⟨⟨(by grind),h2,c x λz d=>(e z d).1 x (by simp),λw r=>⟨λz d=>?_,λz d=>?_⟩,λw=>?_,by grind⟩,by simp⟩;.grind
    .grind
    .rw[<-f w];simp;grind
   .have E:¬x<y:=by grind
    refine ae (bq (b:=decide (y<x)) (λ_=>bH (x:=y) (by simp) rfl (bH (x:=x) (by simp) rfl (aa rfl))) (au (λh=>?_) λh=>?_))
    .have p:y<x:=by grind
     refine bH (x:=y) (by simp) rfl (ao (decide_eq_true (by grind)) (ao rfl (ao (by simp) (aa ?_))));refine⟨⟨h1,(by grind),c y λz d=>(e z d).2 y (by simp),λw r=>⟨λz d=>?_,λz d=>?_⟩,λw=>?_,by grind⟩,by simp⟩;.grind
     .grind
     .rw[<-f w];simp;grind
    .have J:¬y<x:=by grind
     have u:x=y:=by omega
     subst u;refine bH (x:=x) (by simp) rfl (ao (decide_eq_true (by grind)) (ao rfl (ao (by simp) (ao rfl (ao (by simp) (aa ?_))))));refine⟨⟨(by grind),(by grind),c x λz d=>(e z d).1 x (by simp),λw r=>⟨λz d=>?_,λz d=>?_⟩,λw=>?_,by grind⟩,by grind⟩;.grind
     .grind
     .rw[<-f w];simp;grind
 .have l:xs=[]:=by cases xs with|nil=>rfl|cons _ _=>grind
  have n:ys=[]:=by cases ys with|nil=>rfl|cons _ _=>grind
  subst l n;refine aa (aa ?_);rw[mz k λx=>by grind]
def sL(l:List Int)(hl:l.length<=1000000000):aB tbl 275 [.d (.list tI) l] [] ev (pU l,()):=by
 refine cm ?_;refine ae (aK (N:=l.length) (I:=λi s=>∃a:List Int,s=((i:Int),a,())/\Asc a/\a.length<=i/\∀x,x∈a↔x∈l.take i) ⟨[],rfl,by simp[Asc],by simp,by simp⟩ ?_ ?_)
 .rintro i s n ⟨a,rfl,h1,h2,E⟩;have f:∀c:List Int,(∀x,x∈c↔x=l[i]\/x∈a)->∀x,x∈c↔x∈l.take (i+1):=λc hc x=>by rw[hc x,E x,i_,a_ n,h_,U_,q_];grind
  refine aQ n (ae (aA n ?_));generalize hv:l[i]=v at f;refine ae (Go.Ev.wp_loop (σ:=Int×List Int×Unit) (λs=>∃k:Nat,s=((k:Int),a,())/\k<=a.length/\∀j (A:j<a.length),j<k->a[j]<v) (λs=>a.length - s.1.toNat) ⟨0,rfl,by simp,λj _ h=>absurd h (by simp)⟩ ?_);rintro s ⟨k,rfl,F,T⟩;refine ae (bh (b:=decide (∃h:k<a.length,a[k]<v)) (λh=>?_) (au (λh=>aa ?_) λh=>aa ?_))
  .have d:k<a.length:=by grind
   refine aA d (aZ (x:=a[k]) (by simp) (aa ?_));grind
  .simp only[aB_,decide_eq_true_eq]at h;obtain⟨d,M⟩:=h.2;refine⟨⟨k+1,by rw[ak d],by omega,λj A L=>?_⟩,?_⟩;.grind
   .rw[ak d];omega
  .have H:∀h:k<a.length,v<=a[k]:=λd=>by grind
   have g:∀x∈a.take k,x<v:=λx u=>by obtain⟨j,A,rfl⟩:=e_.1 u;grind
   refine ae (bh (b:=decide (∃h:k<a.length,a[k]=v)) (λh=>?_) (au (λh=>aa ?_) λh=>?_))
   .have d:k<a.length:=by grind
    refine aA d (aZ (x:=a[k]) (by simp) (aa ?_));grind
   .simp only[aB_,decide_eq_true_eq]at h;obtain⟨d,Y⟩:=h.2;refine aa ⟨a,by rw[ak n],h1,by omega,f a λx=>⟨.inr,λh=>h.elim (λe=>by grind) id⟩⟩
   .have C:∀h:k<a.length,v<a[k]:=λd=>by grind
    have w:∀x∈a.drop k,v<x:=λx u=>by
     obtain⟨j,A,rfl⟩:=e_.1 u;rw[List.getElem_drop];simp at A;have d:k<a.length:=by omega
     have U:=C d;rcases y_ j with rfl|J;.omega
     .have:=wh h1 (i:=k) (j:=k+j) (by omega) (by omega);omega
    refine ao (decide_eq_true (by grind)) ?_;simp only;have O:H_ .i64 ((((a++[(0:Int)]).length:Int)) - (1:Int))=(a.length:Int):=by rw[wrap_i64 (by simp) (by grind)];simp
    rw[O];refine ae (Go.Ev.wp_loop (σ:=Int×List Int×Unit) (λs=>∃m y,s=(((m:Nat):Int),a.take m++[y]++a.drop m,())/\k<=m/\m<=a.length) (λs=>s.1.toNat) ⟨a.length,0,by simp,F,R_ _⟩ ?_);rintro s ⟨m,y,rfl,m1,D⟩;refine au (λh=>?_) λh=>?_
    .have p:k<m:=by grind
     have r:(a.take m++[y]++a.drop m).length=a.length+1:=by grind
     simp only;rw[qA (by omega) (by omega)];refine aA (by omega) (aZ (x:=a[m - 1]) ?_ (aA (by omega) (aZ (x:=y) ?_ (aa ?_))));.simp only[g_];grind
     .simp only[g_];rw[u_,K_ (by grind)];grind
     .refine⟨⟨m - 1,a[m - 1],?_,by omega,by omega⟩,by omega⟩;congr 2;simp only[g_];have B:(a.take m++[y]++a.drop m).set m a[m - 1]=a.take m++[a[m - 1]]++a.drop m:=by rw[u_,az_ _ _ (by grind)];simp[aH_ D]
      rw[B];have Q:a.take m=a.take (m - 1)++[a[m - 1]]:=by have:=i_ (l:=a) (i:=m - 1);grind
      have R:a.drop (m - 1)=a[m - 1]::a.drop m:=by have:=F_ (l:=a) (i:=m - 1) (by omega);rw[show m - 1+1=m by omega]at this;omega
      grind
    .have p:k=m:=by grind
     subst p;have r:(a.take k++[y]++a.drop k).length=a.length+1:=by grind
     refine aa (aA (by grind) (aZ (x:=y) ?_ (aa (aa ?_))));.simp only[g_];rw[u_,K_ (by grind)];simp[aH_ D]
     .have B:(a.take k++[y]++a.drop k).set k v=a.take k++([v]++a.drop k):=by rw[u_,az_ _ _ (by grind)];simp[aH_ D]
      simp only[g_];rw[B];refine⟨_,by rw[ak n],?_,by grind,f _ λx=>?_⟩;.refine m8 (List.Pairwise.sublist (List.take_sublist ..) h1) (m8 (by simp[Asc]) (List.Pairwise.sublist (List.drop_sublist ..) h1) λx u z P=>?_) λx u z P=>?_;all_goals grind
      .have:x∈a↔x∈a.take k\/x∈a.drop k:=by rw[<-h_,aA_]
       grind
 .rintro s ⟨a,rfl,h1,h2,E⟩;refine aJ (aa (aa ?_));rw[mz h1 λx=>by grind]
def yc{σ a β:Type}(f:σ->a->σ⊕β):∀(l:List a) (s:σ),El f s l=ig f s l
 |[],_=>rfl
 |x::l,s=>by simp only[El,ig];cases f s x with|inl s'=>exact yc f l s'|inr b=>rfl
def EM{k:Nat}(h:k<=1000000000):(decide (0<=(k:Int))&&decide ((k:Int)<=(k:Int))&&decide ((k:Int)<=9223372036854775807)&&decide (8*(k:Int)<=281474976710656))=true:=by grind
abbrev PR:Type:=Int×(Int×Unit)
noncomputable def dc(a b:DF)(x:PR)(v:Int):PR:=(bJ a x.1 v,bJ b x.2.1 v,())
def fp(a b:DF):PR:=(a.2.2.2.1,b.2.2.2.1,())
noncomputable def cr(a b:DF):List Int:=pU (a.1++b.1)
def PIn(a b:DF)(x:PR):Prop:=(0<=x.1/\x.1<(a.2.1.length:Int))/\0<=x.2.1/\x.2.1<(b.2.1.length:Int)
def bM(d:DF)(s:Int):Bool:=d.2.2.1.getD s.toNat false
def kt:Nat->List PR->List (PR×Int)
 |_,[]=>[]
 |k,x::l=>(x,(k:Int))::kt (k+1) l
def tG(T:List (Nat×Int)):List Int:=(-1)::T.map λt=>(t.1:Int)
def U3(T:List (Nat×Int)):List Int:=0::T.map (·.2)
def cM(R:List (List Nat)):List (List Int):=R.map λr=>r.map fun(k:Nat)=>(k:Int)
def Vk(x y:PR):gI Un x y=decide (x=y):=by obtain⟨a,b,_⟩:=x;obtain⟨c,d,_⟩:=y;show((a==c)&&((b==d)&&true))=_;grind
def EA(y:PR):∀(L:List PR) (k:Nat),dA Un tI (kt k L) y=if y∈L then some (((k+pos L y:Nat):Int))else none
 |[],k=>by simp[kt,dA]
 |x::L,k=>by have a:=EA y L (k+1);simp only[kt,dA];rw[Vk y x,a];grind
def EB(y:PR):∀(L:List PR) (k:Nat),y∉L->fh Un tI (kt k L) y (((k+L.length:Nat):Int))=kt k (L++[y])
 |[],k,_=>by simp[kt,fh]
 |x::L,k,h=>by have h1:y≠x:=λe=>h (by grind);have h2:y∉L:=λe=>h (by grind);have a:=EB y L (k+1) h2;simp only[T_,kt,fh];rw[Vk y x,decide_eq_false h1];grind
def Ez:∀(L:List PR) (k:Nat),(kt k L).length=L.length
 |[],_=>rfl
 |_::L,k=>by simp[kt,Ez L (k+1)]
def jP{a b:DF}(l:Good a)(n:Good b):∀v∈cr a b,0<=v/\v<=4294967295:=by
 intro v e;have g:∀{d:DF},Good d->∀v∈d.1,0<=v/\v<=4294967295:=fun{d} hd v e=>by
  refine⟨?_,hd.cu.2.2.2 v e⟩;obtain⟨i,h,rfl⟩:=e_.1 e;have k:=hd.cu.2.1 hd.cu.1;rcases y_ i with rfl|hp;.omega
  .have:=gT hd.cu i 0 h hp;omega
 have f:∃c,Asc c/\∀x,x∈c↔x∈a.1++b.1:=by unfold cr pU at e;grind
 obtain⟨c,hc,j⟩:=f;unfold cr at e;rw[mz hc j]at e;grind
def tJ{a b:DF}(g:Good a)(j:Good b):(cr a b).length<=4000:=by
 have k:=dz g;have l:=dz j;by_cases d:∃c,Asc c/\∀x,x∈c↔x∈a.1++b.1;.obtain⟨c,hc,f⟩:=d;unfold cr;rw[mz hc f];have:=gR c (a.1++b.1) (hc.imp λh e=>by omega) λx n=>(f x).1 n;grind
 .unfold cr pU;grind
def FA{a b:DF}(e:Good a)(f:Good b){x:PR}{v:Int}(d:0<=v)(c:PIn a b x):PIn a b (dc a b x v):=by obtain⟨_,_,_,h1⟩:=qy e c.1.1 c.1.2 d;obtain⟨_,_,_,h2⟩:=qy f c.2.1 c.2.2 d;exact⟨h1,h2⟩
def Nv{a b:DF}(c:Good a)(d:Good b):PIn a b (fp a b):=⟨c.start,d.start⟩
def YF(n m:Nat):List PR:=(c_ n).flatMap fun(i:Nat)=>(c_ m).map fun(j:Nat)=>((i:Int),(j:Int),())
def Vz(n m:Nat):(YF n m).length=n*m:=by unfold YF;rw[bb_];induction n with|zero=>simp|succ n a=>rw[J_,j_,List.sum_append,a,Nat.succ_mul];simp
def En{n m:Nat}{x:PR}:x∈YF n m↔(0<=x.1/\x.1<(n:Int))/\0<=x.2.1/\x.2.1<(m:Int):=by
 obtain⟨a,b,_⟩:=x;unfold YF;simp;constructor;.omega
 .rintro⟨h1,h2⟩;exact⟨a.toNat,by omega,b.toNat,by omega,by omega,by omega⟩
abbrev UJ(a b:DF):List PR->List (Nat×Int)->Prop:=Ok (dc a b) (fp a b) (cr a b)
def J0{a b:DF}(d:Good a)(e:Good b){L:List PR}{T:List (Nat×Int)}(h:UJ a b L T){k:Nat}{x:PR}(f:L[k]? =some x):PIn a b x:=h.inv (Nv d e) (λ_ c hc f=>FA d e (jP d e c hc).1 f) k x f
def uK{a b:DF}(d:Good a)(e:Good b){L:List PR}{T:List (Nat×Int)}(h:UJ a b L T):L.length<=a.2.1.length*b.2.1.length:=by rw[<-Vz];exact h.bound (En.2 (Nv d e)) λx c hc f=>En.2 (FA d e (jP d e c hc).1 (En.1 f))
def CE{a b:DF}(c:Good a)(d:Good b):a.2.1.length*b.2.1.length<=16777216:=P_ (Nat.mul_le_mul (dz c).1 (dz d).1) (by simp)
def IW{d:DF}(h:Good d){s:Int}(a:0<=s)(hs:s<(d.2.1.length:Int)):∃h1:s.toNat<d.2.2.1.length,d.2.2.1[s.toNat]=bM d s:=by
 have h1:s.toNat<d.2.2.1.length:=by have:=h.len;omega
 exact⟨h1,by unfold bM;grind⟩
abbrev SR:Type:=List PR×List (Nat×Int)×List (List Nat)
noncomputable def Yr(a b:DF)(i:Nat)(S:SR):Int×List Int×List PR×List Int×List Int×List (List Int)×List (PR×Int)×Unit:=
 ((i:Int),cr a b,S.1,tG S.2.1,U3 S.2.1,cM S.2.2,kt 0 S.1,())
def kM(k:Nat)(r:List Nat):List Int:=(r.map fun(k:Nat)=>(k:Int))++r_ (k - r.length) 0
def t7{k:Nat}{r:List Nat}{n:Nat}(h:r.length<k):(kM k r).set r.length (n:Int)=kM k (r++[n]):=by unfold kM;obtain⟨m,a⟩:∃m,k - r.length=m+1:=⟨k - r.length - 1,by omega⟩;grind
structure WF(d:DF):Prop where
 cu:ce d.1
 len:0<d.2.1.length/\d.2.2.1.length=d.2.1.length
 rows:∀r∈d.2.1,r.length=d.1.length
 start:0<=d.2.2.2.1/\d.2.2.2.1<(d.2.1.length:Int)
 to:∀r∈d.2.1,∀t∈r,0<=t/\t<(d.2.1.length:Int)
theorem Good.wf{d:DF}(h:Good d):WF d:=⟨h.cu,h.len,h.rows,h.start,h.to⟩
def j9{xs:List Int}{v:Int}(hs:ce xs)(e:0<=v):iI xs v (dy xs v):=by
 have key:∀n,0<n->∃c,∃h:c<xs.length,xs[c]<=v/\∀j (_:j<xs.length),c<j->j<n->v<xs[j]:=by
  intro n;induction n with
  |zero=>simp|succ n f=>
   intro _;rcases y_ n with rfl|hn;.exact⟨0,hs.1,by rw[hs.2.1 hs.1];omega,λj _ h1 h2=>by omega⟩
   grind
 obtain⟨c,h1,h2,b⟩:=key xs.length hs.1;have hc:iI xs v c:=⟨h1,h2,λj a d=>b j a d a⟩;rw[j8 hc];omega
def Lw{xs:List Int}(hs:ce xs){c:Nat}(hc:c<xs.length):dy xs xs[c]=c:=j8 ⟨hc,aW_ _,λj a h=>gT hs j c a h⟩
def gU{xs:List Int}(hs:ce xs):∀v∈xs,0<=v/\v<=4294967295:=λv a=>by
 refine⟨?_,hs.2.2.2 v a⟩;obtain⟨i,b,rfl⟩:=e_.1 a;have c:=hs.2.1 hs.1;rcases y_ i with rfl|hp;.omega
 .have:=gT hs i 0 b hp;omega
def In(d:DF)(s:Int):Prop:=0<=s/\s<(d.2.1.length:Int)
def bw(d:DF)(s:Int)(c:Nat):Int:=(d.2.1.getD s.toNat []).getD c 0
def kG(d:DF)(s v:Int):bJ d s v=bw d s (dy d.1 v):=rfl
def Ow{d:DF}(h:WF d){s:Int}(hs:In d s){c:Nat}(hc:c<d.1.length):∃h1:s.toNat<d.2.1.length,∃h2:c<d.2.1[s.toNat].length,d.2.1[s.toNat][c]=bw d s c/\In d (bw d s c):=by
 have h1:s.toNat<d.2.1.length:=by have:=hs.1;have:=hs.2;omega
 have h2:c<d.2.1[s.toNat].length:=by rw[h.rows _ (b_ h1)];omega
 have e:d.2.1[s.toNat][c]=bw d s c:=by unfold bw;grind
 exact⟨h1,h2,e,e▸h.to _ (b_ h1) _ (b_ h2)⟩
def R3{d:DF}(h:WF d){s v:Int}(hs:In d s)(a:0<=v):In d (bJ d s v):=(Ow h hs (j9 h.cu a).1).2.2.2
def gV{d:DF}(h:WF d)(s:Int){c:Nat}(hc:c<d.1.length):bJ d s d.1[c]=bw d s c:=by rw[kG,Lw h.cu hc]
def eH(w:List Int):Prop:=∀v∈w,0<=v/\v<=4294967295
def eH.app{w u:List Int}(h:eH w)(h':eH u):eH (w++u):=λv C=>(h_.1 C).elim (h v) (h' v)
def m4{v:Int}(h:0<=v/\v<=4294967295):eH [v]:=λu a=>by simp at a;subst a;exact h
noncomputable def dW(d:DF)(w:List Int):Int:=w.foldl (bJ d) d.2.2.2.1
def gN(d:DF)(w u:List Int):dW d (w++u)=u.foldl (bJ d) (dW d w):=List.foldl_append
def Z8(d:DF)(s t:Int):Prop:=∀w,eH w->bM d (w.foldl (bJ d) s)=bM d (w.foldl (bJ d) t)
def QT{d:DF}(h:WF d):∀(w:List Int) (s:Int),In d s->eH w->In d (w.foldl (bJ d) s)
 |[],_,hs,_=>hs
 |v::w,s,hs,a=>QT h w _ (R3 h hs (a v (w_ ..)).1) λu b=>a u (m_ _ b)
def Nc{d:DF}(h:WF d){w:List Int}(a:eH w):In d (dW d w):=QT h w _ h.start a
def dZ(n:Nat):List Int:=(c_ n).map fun(k:Nat)=>(k:Int)
def cj{n:Nat}{s:Int}:s∈dZ n↔0<=s/\s<(n:Int):=by
 unfold dZ;rw[l_];constructor;.grind
 .rintro⟨h1,h2⟩;exact⟨s.toNat,n_.2 (by omega),by omega⟩
def rI{n k:Nat}(h:k<n):(dZ n)[k]? =some (k:Int):=by simp[dZ,h]
def jz(n:Nat):(dZ n).length=n:=by simp[dZ]
structure Canon(d:DF):Prop where
 wf:WF d
 bfs:∃i0,∀i,i0<=i->(bD (bJ d) d.2.2.2.1 d.1 i).1=dZ d.2.1.length
 red:∀s t,In d s->In d t->Z8 d s t->s=t
 zcm:∀c (h:c+1<d.1.length),∃s,In d s/\bJ d s d.1[c+1]≠bJ d s d.1[c]
def zN{d:DF}(g:WF d){i:Nat}(e:(bD (bJ d) d.2.2.2.1 d.1 i).1=dZ d.2.1.length){s:Int}(hs:In d s):∃w,eH w/\dW d w=s:=by have c:=cj.2 hs;rw[<-e]at c;obtain⟨k,b,a⟩:=e_.1 c;obtain⟨p,hp⟩:=(cx i).tr k b;obtain⟨h1,h2⟩:=hp.reaches (cx i);rw[a_ b,a]at h1;exact⟨p,λv f=>gU g.cu v (h2 v f),(aV_ h1).symm⟩
def EL{d:DF}(h:Canon d)(v:Int):v∈d.1↔v=0\/(0<v/\v<=4294967295/\∃w,eH w/\dW d (w++[v])≠dW d (w++[v - 1])):=by
 have a:=h.wf.cu;constructor
 .intro n;have g:=gU a v n;obtain⟨i,k,rfl⟩:=e_.1 n;cases i with
  |zero=>exact .inl (a.2.1 a.1)|succ c=>
   have x:=a.2.2.1 c k;have r:=(gU a d.1[c] (b_ _)).1;refine .inr ⟨by omega,g.2,?_⟩;obtain⟨s,hs,b⟩:=h.zcm c k;obtain⟨y,u⟩:=h.bfs;obtain⟨w,p,rfl⟩:=zN h.wf (u y (R_ _)) hs;refine⟨w,p,?_⟩;rw[gN,gN];show bJ d (dW d w) d.1[c+1]≠bJ d (dW d w) (d.1[c+1] - 1);have e:bJ d (dW d w) (d.1[c+1] - 1)=bJ d (dW d w) d.1[c]:=by
    rw[kG,kG,Lw a (by omega)];congr 1;refine j8 ⟨by omega,by omega,λj l f=>?_⟩;rcases ag_ (show c+1<=j by omega)with h1|rfl;.have:=gT a j (c+1) l h1;omega
    omega
   omega
 .rintro(rfl|⟨r,A,w,p,b⟩);.have:=a.2.1 a.1;grind
  .refine E_ λhn=>b ?_;rw[gN,gN];show bJ d (dW d w) v=bJ d (dW d w) (v - 1);rw[kG];congr 1;obtain⟨h1,h2,z⟩:=j9 a (show 0<=v by omega);symm;refine j8 ⟨h1,?_,λj l f=>by grind⟩;grind
def xF{a b:DF}(j:Canon a)(l:Canon b)(hl:∀w,eH w->bM a (dW a w)=bM b (dW b w)):a=b:=by
 have r:∀{a b:DF},Canon b->(∀w,eH w->bM a (dW a w)=bM b (dW b w))->∀w u,eH w->eH u->dW a w=dW a u->dW b w=dW b u:=by intro a b l hl w u d z he;refine l.red _ _ (Nc l.wf d) (Nc l.wf z) λx hx=>?_;rw[<-gN,<-gN,<-hl _ (d.app hx),<-hl _ (z.app hx),gN,gN,he]
 have O:∀w u,eH w->eH u->(dW a w=dW a u↔dW b w=dW b u):=λw u d z=>⟨r l hl w u d z,r j (λw d=>(hl w d).symm) w u d z⟩;have D:a.1=b.1:=by
  refine wj _ _ (rQ j.wf.cu) (rQ l.wf.cu) λv=>?_;rw[EL j,EL l];refine or_congr Iff.rfl ⟨fun⟨L,T,w,d,C⟩=>⟨L,T,w,d,λe=>C ?_⟩,fun⟨L,T,w,d,C⟩=>⟨L,T,w,d,λe=>C ?_⟩⟩;.exact(O _ _ (d.app (m4 (by omega))) (d.app (m4 (by omega)))).2 e
  .exact(O _ _ (d.app (m4 (by omega))) (d.app (m4 (by omega)))).1 e
 have J:=xR (f:=bJ a) (g:=bJ b) (h:=id) (s0:=a.2.2.2.1) (t0:=b.2.2.2.1) (ls:=a.1) (i8:=λs t=>∃w,eH w/\dW a w=s/\dW b w=t) ⟨[],(λ_ h=>by grind),rfl,rfl⟩ (λx y c hc ⟨w,d,h1,h2⟩=>⟨w++[c],d.app (m4 (gU j.wf.cu c hc)),by rw[gN,h1];rfl,by rw[gN,h2];rfl⟩) (λs s' t t' ⟨w,d,h1,h2⟩ ⟨u,z,M,g2⟩=>by grind);obtain⟨U,P⟩:=j.bfs;obtain⟨Y,Q⟩:=l.bfs;have N:=(J (max U Y)).1;rw[List.map_id,P _ (by omega),D,Q _ (by omega)]at N;have hn:a.2.1.length=b.2.1.length:=by have:=N.len;rwa [jz,jz]at this
 have R:∀s,In a s->∃w,eH w/\dW a w=s/\dW b w=s:=by
  intro s hs;have h1:s.toNat<a.2.1.length:=by have:=hs.1;have:=hs.2;omega
  have A:=rI h1;have B:=rI (n:=b.2.1.length) (k:=s.toNat) (by omega);rw[show((s.toNat:Nat):Int)=s from Int.toNat_of_nonneg hs.1]at A B;exact N.get A B
 have E:∀s v,In a s->0<=v/\v<=4294967295->bJ a s v=bJ b s v:=by
  intro s v hs hv;obtain⟨w,d,h1,h2⟩:=R s hs;obtain⟨u,z,M,g2⟩:=R _ (R3 j.wf hs hv.1);have h3:dW a (w++[v])=bJ a s v:=by rw[gN,h1];rfl
  have h4:dW b (w++[v])=bJ b s v:=by rw[gN,h2];rfl
  have:=(O _ _ (d.app (m4 hv)) z).1 (h3.trans M.symm);omega
 refine aL_ D (aL_ ?_ (aL_ ?_ (aL_ ?_ rfl)))
 .refine A_ hn λk h1 h2=>?_;have p:In a (k:Int):=⟨by simp,by omega⟩;have I:In b (k:Int):=⟨by simp,by omega⟩;refine A_ (by rw[j.wf.rows _ (b_ h1),l.wf.rows _ (b_ h2),D]) λc M g2=>?_;have F:c<a.1.length:=by rw[<-j.wf.rows _ (b_ h1)];omega
  have H:c<b.1.length:=by grind
  obtain⟨_,_,A,_⟩:=Ow j.wf p F;obtain⟨_,_,B,_⟩:=Ow l.wf I H;simp only[g_]at A B;rw[A,B,<-gV j.wf _ F,<-gV l.wf _ H];have e3:b.1[c]=a.1[c]:=by grind
  rw[e3];exact E _ _ p (gU j.wf.cu _ (b_ _))
 .refine A_ (by rw[j.wf.len.2,l.wf.len.2,hn]) λk h1 h2=>?_;have p:In a (k:Int):=⟨by simp,by have:=j.wf.len.2;omega⟩;obtain⟨w,d,A,B⟩:=R _ p;have:=hl w d;rw[A,B]at this;unfold bM at this;grind
 .have L:=(cx (f:=bJ a) (s0:=a.2.2.2.1) (ls:=a.1) (max U Y)).head;have el:=(cx (f:=bJ b) (s0:=b.2.2.2.1) (ls:=b.1) (max U Y)).head;grind
def O4{d m:DF}(l:WF m){ψ:Int->Int}{P:Int->Prop}(g:P d.2.2.2.1)(j:∀s v,P s->0<=v->P (bJ d s v))(h1:ψ d.2.2.2.1=m.2.2.2.1) (h2:∀s v,P s->0<=v->ψ (bJ d s v)=bJ m (ψ s) v) (A:∀s,P s->bM m (ψ s)=bM d s) (E:∀s t,P s->P t->Z8 d s t->ψ s=ψ t) (B:∃f,∀i,f<=i->(bD (bJ m) m.2.2.2.1 m.1 i).1=dZ m.2.1.length) (hc:∀c (h:c+1<m.1.length),∃s,In m s/\bJ m s m.1[c+1]≠bJ m s m.1[c]): Canon m/\∀w,eH w->bM m (dW m w)=bM d (dW d w):=by
 have k:∀(w:List Int) (s:Int),P s->eH w->ψ (w.foldl (bJ d) s)=w.foldl (bJ m) (ψ s)/\P (w.foldl (bJ d) s):=by intro w;induction w with|nil=>grind|cons v w I=>intro s hs b;have H:=(b v (w_ ..)).1;have:=I (bJ d s v) (j s v hs H) λu n=>b u (m_ _ n);grind
 have a:∀w,eH w->ψ (dW d w)=dW m w/\P (dW d w):=λw b=>by have:=k w _ g b;rw[h1]at this;exact this
 refine⟨⟨l,B,λs t hs ht F=>?_,hc⟩,λw b=>?_⟩;.obtain⟨f,e⟩:=B;obtain⟨w,b,rfl⟩:=zN l (e f (R_ _)) hs;obtain⟨u,n,rfl⟩:=zN l (e f (R_ _)) ht;obtain⟨r,C⟩:=a w b;obtain⟨y,D⟩:=a u n;rw[<-r,<-y];refine E _ _ C D λx p=>?_;have z:=k x _ C p;have f2:=k x _ D p;rw[<-A _ z.2,<-A _ f2.2,z.1,f2.1,r,y];exact F x p
 grind
structure RW(d:DF):Prop where
 len:0<d.2.1.length/\d.2.2.1.length=d.2.1.length
 rows:∀r∈d.2.1,r.length=d.1.length
 start:In d d.2.2.2.1
 to:∀r∈d.2.1,∀t∈r,In d t
def WF.rw{d:DF}(h:WF d):RW d:=⟨h.len,h.rows,h.start,h.to⟩
def rN{d:DF}(h:RW d){s:Int}(hs:In d s):∃h1:s.toNat<d.2.1.length,d.2.1[s.toNat]=(c_ d.1.length).map (bw d s):=by
 have h1:s.toNat<d.2.1.length:=by have:=hs.1;have:=hs.2;omega
 refine⟨h1,?_⟩;have hr:=h.rows _ (b_ h1);refine A_ (by grind) λc a b=>?_;unfold bw;grind
def pm{d:DF}(h:RW d){s:Int}(hs:In d s){c:Nat}(hc:c<d.1.length):In d (bw d s c):=by obtain⟨h1,e⟩:=rN h hs;refine h.to _ (b_ h1) _ ?_;grind
abbrev kg(d:DF)(i:Nat):List Int×List (Nat×Nat)×List (List Nat):=bD (bw d) d.2.2.2.1 (c_ d.1.length) i
def aE(d:DF):List Int:=(kg d d.2.1.length).1
def iM{d:DF}(h:RW d)(i:Nat):∀x∈(kg d i).1,In d x:=λx a=>by obtain⟨k,b,rfl⟩:=e_.1 a;exact(cx i).inv h.start (λ_ c hc a=>pm h a (n_.1 hc)) k _ (a_ b)
def VD{d:DF}{L:List Int}(hn:L.Nodup)(a:∀x∈L,In d x):L.length<=d.2.1.length:=by have:=gR L (dZ d.2.1.length) hn λx b=>cj.2 (a x b);rwa [jz]at this
def jd{d:DF}(h:RW d)(i:Nat):(kg d i).1.length<=d.2.1.length:=VD (cx i).nodup (iM h i)
def Pi{d:DF}(h:RW d){i:Nat}(a:(kg d i).1.length<=i):aE d=(kg d i).1:=by have b:kg d (max i d.2.1.length)=kg d i:=ti (by omega) a;have c:kg d (max i d.2.1.length)=kg d d.2.1.length:=ti (by omega) (jd h d.2.1.length);unfold aE;grind
def bZ{d:DF}(h:RW d):∀x∈aE d,∀c,c<d.1.length->bw d x c∈aE d:=λx a c hc=>by exact lI _ x (by rw[s_ (jd h d.2.1.length)];exact a) c (n_.2 hc)
def eR{d:DF}:d.2.2.2.1∈aE d:=Q_ (cx _).head
def marks(n:Nat)(L:List Int):List Bool:=(c_ n).map fun(k:Nat)=>decide ((k:Int)∈L)
def V0{n:Nat}{L:List Int}{v:Int}(a:0<=v)(b:v<(n:Int)):∃h1:v.toNat<(marks n L).length,(marks n L)[v.toNat]=decide (v∈L):=by simp only[marks];grind
def H1{n:Nat}{L:List Int}{v:Int}(c:0<=v):(marks n L).set v.toNat true=marks n (L++[v]):=by refine A_ (by simp[marks]) λk a b=>?_;simp only[marks];grind
def S0{n:Nat}{v:Int}(a:0<=v):(r_ n false).set v.toNat true=marks n [v]:=by
 have:r_ n false=marks n []:=by refine A_ (by simp[marks]) λk b c=>?_;simp[marks]
 rw[this,H1 a];rfl
def IB{N:Nat}(ht:tbl N=some (.code rZ)){d:DF}(h:RW d)(hn:d.2.1.length<=16777216)(A:d.1.length<=16777216):aB tbl N [.d Uc d] [] ev (aE d,()):=by
 refine cm (hd:=fdZ (ht:=ht)) ?_;have hs:=h.start;have u:d.2.2.2.1.toNat<(r_ d.2.1.length false).length:=by have:=hs.1;have:=hs.2;grind
 refine ao (by grind) (bg hs.1 u (aZ (x:=false) (show(r_ d.2.1.length false)[d.2.2.2.1.toNat]? =some false from by grind) ?_));refine ae (Go.Ev.wp_loop (σ:=Int×List Bool×List Int×Unit) (λs=>∃i:Nat,s=((i:Int),marks d.2.1.length (kg d i).1,(kg d i).1,())/\i<=(kg d i).1.length) (λs=>d.2.1.length - s.1.toNat) ⟨0,?_,aG_ _⟩ ?_);.rw[show(kg d 0).1=[d.2.2.2.1]from rfl,<-S0 hs.1];rfl
 rintro s ⟨i,rfl,w⟩;have l:=jd h i;refine au (λc=>?_) λc=>aa (aa ?_)
 .have g:i<(kg d i).1.length:=by grind
  have b:=a_ g;have k:=iM h i _ (b_ g);obtain⟨h1,e⟩:=rN h k;have hr:=h.to _ (b_ h1);have p:d.2.1[(kg d i).1[i].toNat].length<=16777216:=by grind
  refine aA g (aZ (x:=(kg d i).1[i]) b (bg k.1 h1 ?_));refine ae (Wp.imp (Q:=λt=>t=(marks d.2.1.length (de (kg d i).1 d.2.1[(kg d i).1[i].toNat]),de (kg d i).1 d.2.1[(kg d i).1[i].toNat],())) ?_ λr hr=>aa ?_)
  .have n:=(cx (f:=bw d) (s0:=d.2.2.2.1) (ls:=c_ d.1.length) i).nodup;have j:=iM h i;generalize d.2.1[(kg d i).1[i].toNat]=r at hr p;change (kg d i).1.Nodup at n;generalize(kg d i).1=L at n j;refine aK (N:=r.length) (I:=λi s=>s=((i:Int),marks d.2.1.length (de L (r.take i)),de L (r.take i),())/\(de L (r.take i)).Nodup/\∀x∈de L (r.take i),In d x) ⟨rfl,n,j⟩ ?_ ?_
   .rintro i s a ⟨rfl,h1,h2⟩;have b:=hr _ (b_ a);have l:=VD h1 h2;obtain⟨v,z⟩:=V0 b.1 b.2;have hs:de L (r.take (i+1))=de (de L (r.take i)) [r[i]]:=by rw[i_,a_ a,pg];rfl
    refine aQ a (ae (aA a (bg b.1 v (aZ (x:=decide (r[i]∈de L (r.take i))) (by grind) (au (λc=>?_) λc=>aa (aa ?_))))))
    .have c:r[i]∉de L (r.take i):=by grind
     refine bg b.1 v (aZ (x:=decide (r[i]∈de L (r.take i))) (by grind) (ao (decide_eq_true (by grind)) (aa (aa ?_))));have e:de (de L (r.take i)) [r[i]]=de L (r.take i)++[r[i]]:=N7 c;rw[ak a,H1 b.1];grind
    .have c:r[i]∈de L (r.take i):=by grind
     rw[hs,Hm c,ak a];grind
   .rintro s ⟨rfl,h1,h2⟩;refine aJ (aa ?_);simp
  subst hr;have y:(kg d (i+1)).1=de (kg d i).1 d.2.1[(kg d i).1[i].toNat]:=by unfold kg;rw[cn b,e];simp only;rw[rM]
  rw[ak g];have:=(iu (f:=bw d) (s0:=d.2.2.2.1) (ls:=c_ d.1.length) i).1.length_le;grind
 .have g:(kg d i).1.length<=i:=by grind
  rw[Pi h g]
abbrev Z7(d:DF)(s t:Int):Prop:=NM (bw d) (bM d) (c_ d.1.length) s t
def bv(B:List Int)(s:Int):Int:=B.getD s.toNat 0
def mg{B:List Int}{s:Int}(h:s.toNat<B.length):B[s.toNat]=bv B s:=by unfold bv;grind
def sZ{B:List Int}{s t x:Int}(hs:0<=s)(ht:0<=t)(hl:s.toNat<B.length):bv (B.set s.toNat x) t=if t=s then x else bv B t:=by unfold bv;grind
def Ref(d:DF)(B:List Int)(s t:Int):Prop:=bv B s=bv B t/\∀c,c<d.1.length->bv B (bw d s c)=bv B (bw d t c)
section
variable {d:DF} {P:Int->Prop} {B B':List Int} {m m':Nat}
structure Zv(P:Int->Prop)(B:List Int)(m:Nat):Prop where
 nW:∀s,P s->0<=bv B s/\bv B s<(m:Int)
 Cg:∀i:Nat,i<m->∃s,P s/\bv B s=(i:Int)
structure f8(d:DF)(P:Int->Prop)(B:List Int):Prop where
 coarse:∀s t,P s->P t->Z7 d s t->bv B s=bv B t
 acc:∀s t,P s->P t->bv B s=bv B t->bM d s=bM d t
structure Hj(d:DF)(P:Int->Prop)(B B':List Int)(m':Nat):Prop where
 nW:Zv P B' m'
 ref:∀s t,P s->P t->(bv B' s=bv B' t↔Ref d B s t)
structure Hc(d:DF)(P:Int->Prop)(B:List Int)(m:Nat):Prop where
 nW:Zv P B m
 eqv:∀s t,P s->P t->(bv B s=bv B t↔Z7 d s t)
theorem CJ{l:List Int}(hg:Zv (·∈l) B m):m<=l.length:=by
 obtain⟨a,c⟩:∃a:Nat->Int,∀i,i<m->a i∈l/\bv B (a i)=(i:Int):=⟨λi=>if h:i<m then S_ (hg.Cg i h)else 0,λi d=>by grind⟩;have b:((c_ m).map a).Nodup:=by rw[C_,bg_];refine List.Pairwise.imp_of_mem ?_ (C_.1 bk_);grind
 have:=gR _ l b λx e=>by grind
 grind
theorem Qt(n:Nat)(s:Int):bv (r_ n 0) s=0:=by unfold bv;grind
theorem yV(e:∀s c,c<d.1.length->P s->P (bw d s c))(b:f8 d P B)(hr:Hj d P B B' m'):f8 d P B':=⟨λs t hs ht a=>(hr.ref s t hs ht).2 ⟨b.coarse s t hs ht a,λc hc=>b.coarse _ _ (e s c hc hs) (e t c hc ht) (a.step (n_.2 hc))⟩,λs t hs ht a=>b.acc s t hs ht ((hr.ref s t hs ht).1 a).1⟩
theorem M6(hg:Zv P B m)(hr:Hj d P B B' m'):m<=m':=by
 rcases y_ m with rfl|n;.simp
 obtain⟨b,a⟩:∃b:Nat->Int,∀i,i<m->P (b i)/\bv B (b i)=(i:Int):=⟨λi=>if h:i<m then S_ (hg.Cg i h)else 0,λi c=>by grind⟩;have e:((c_ m).map λi=>bv B' (b i)).Nodup:=by rw[C_,bg_];refine List.Pairwise.imp_of_mem ?_ (C_.1 bk_);intro i j c k g f;have c:=n_.1 c;have:=((hr.ref _ _ (a i c).1 (a j (n_.1 k)).1).1 f).1;grind
 have:=gR _ (dZ m') e λx l=>by obtain⟨i,c,rfl⟩:=l_.1 l;exact cj.2 (hr.nW.nW _ (a i (n_.1 c)).1)
 simpa[jz]using this
theorem M7(e:∀s c,c<d.1.length->P s->P (bw d s c))(f:f8 d P B)(hg:Zv P B m)(hr:Hj d P B B' m):Hc d P B' m:=by have b:∀s t,P s->P t->bv B s=bv B t->bv B' s=bv B' t:=λs t hs ht a=>Kd (b':=bv B') hg.Cg hr.nW.nW (λs t hs ht a=>((hr.ref s t hs ht).1 a).1) hs ht a;refine⟨hr.nW,λs t hs ht=>⟨λa=>(PZ (λs c hc=>e s c (n_.1 hc)) (yV e f hr).acc (λs t c hc hs ht a=>?_) hs ht a),λa=>(yV e f hr).coarse s t hs ht a⟩⟩;have hc:=n_.1 hc;exact b _ _ (e s c hc hs) (e t c hc ht) (((hr.ref s t hs ht).1 a).2 c hc)
end
section
variable {κ:Type} [DecidableEq κ]
structure Keyed(key:Int->κ)(l:List Int)(K:List κ)(B:List Int):Prop where
 nodup:K.Nodup
 num:∀s∈l,bv B s=(pos K (key s):Int)/\key s∈K
 Cg:∀x∈K,∃s∈l,key s=x
theorem J8{K:List κ}{x y:κ}(a:x∈K)(h:pos K x=pos K y):x=y:=by
 have h1:=w9.1 a;have b:K[pos K x]? =some x:=by rw[a_ h1,List.getElem_idxOf]
 grind
theorem Keyed.ZU{key:Int->κ}{l:List Int}{K:List κ}{d:DF}{B B':List Int}(h:Keyed key l K B')(H:∀s∈l,∀t∈l,key s=key t↔Ref d B s t):Hj d (·∈l) B B' K.length:=by
 refine⟨⟨λs hs=>?_,λi E=>?_⟩,λs t hs ht=>?_⟩;.obtain⟨h1,h2⟩:=h.num s hs;grind
 .obtain⟨s,hs,e⟩:=h.Cg _ (b_ E);refine⟨s,hs,?_⟩;rw[(h.num s hs).1,e];unfold pos;rw[List.Nodup.idxOf_getElem h.nodup]
 .obtain⟨h1,h2⟩:=h.num s hs;obtain⟨C,I⟩:=h.num t ht;rw[<-H s hs t ht,h1,C];exact⟨λe=>J8 h2 (by omega),λe=>by rw[e]⟩
theorem Keyed.old{key:Int->κ}{l:List Int}{K:List κ}{B:List Int}(h:Keyed key l K B)(hl:∀s∈l,0<=s){v:Int}(C:0<=v)(E:v.toNat<B.length)(I:key v∈K):Keyed key (l++[v]) K (B.set v.toNat (pos K (key v):Int)):=by
 refine⟨h.nodup,λs hs=>?_,λx H=>?_⟩
 .rcases h_.1 hs with hs|hs
  .rw[sZ C (hl s hs) E];split;.grind
   .exact h.num s hs
  .simp at hs;subst hs;rw[sZ C C E];grind
 .obtain⟨s,hs,e⟩:=h.Cg x H;grind
theorem Keyed.new{key:Int->κ}{l:List Int}{K:List κ}{B:List Int}(h:Keyed key l K B)(hl:∀s∈l,0<=s){v:Int}(J:0<=v)(I:v.toNat<B.length)(N:key v∉K):Keyed key (l++[v]) (K++[key v]) (B.set v.toNat (K.length:Int)):=by
 have hp:pos (K++[key v]) (key v)=K.length:=by grind
 have E:∀s∈l,pos (K++[key v]) (key s)=pos K (key s):=λs hs=>Aq (af_ _ _) (h.num s hs).2;refine⟨?_,λs hs=>?_,λx H=>?_⟩;.rw[aa_];exact⟨h.nodup,by simp,λa M b I=>by grind⟩
 .rcases h_.1 hs with C|hs
  .rw[sZ J (hl s C) I];split;.grind
   .rw[E s C];exact⟨(h.num s C).1,t_ _ (h.num s C).2⟩
  .simp at hs;subst hs;rw[sZ J J I,hp];simp
 .rcases h_.1 H with H|H;.obtain⟨s,hs,e⟩:=h.Cg x H;grind
  grind
theorem Keyed.len{key:Int->κ}{l:List Int}{K:List κ}{B:List Int}(h:Keyed key l K B):K.length<=l.length:=by
 have:=gR K (l.map key) h.nodup λx C=>by obtain⟨s,hs,e⟩:=h.Cg x C;grind
 grind
end
def XE(v:Int):List Int:=[H_ .u8 (Int.fdiv v (2^(min (ak_ (8:Int)) (aJ_ .i64)))),H_ .u8 v]
def tob(n:Int):UInt8:=UInt8.ofNat n.toNat
def pC(d:DF)(B:List Int)(s:Int):List Int:=bv B s::(c_ d.1.length).map λc=>bv B (bw d s c)
def Ke(d:DF)(B:List Int)(s:Int):List UInt8:=((pC d B s).flatMap XE).map tob
def R4{x y:Int}(a:0<=x/\x<256)(b:0<=y/\y<256)(h:tob x=tob y):x=y:=by have:=congrArg UInt8.toNat h;unfold tob at this;rw[UInt8.toNat_ofNat',UInt8.toNat_ofNat']at this;omega
def I4{v:Int}(h:0<=v/\v<65536):XE v=[v/256,v%256]:=by unfold XE;rw[wrap_u8,wrap_u8,show(2:Int)^(min (ak_ (8:Int)) (aJ_ .i64))=256 from rfl];grind
def RU:∀(l l':List Int),(∀v∈l,0<=v/\v<65536)->(∀v∈l',0<=v/\v<65536)->(l.flatMap XE).map tob=(l'.flatMap XE).map tob->l=l'
 |[],[],_,_,_=>rfl
 |[],v::l',_,h',h=>by rw[Y_,I4 (h' v (by simp))]at h;grind
 |v::l,[],h',_,h=>by rw[Y_,I4 (h' v (by simp))]at h;grind
 |v::l,u::l',hl,a,h=>by have d:=hl v (by simp);have c:=a u (by simp);rw[Y_,Y_,I4 d,I4 c]at h;simp only[T_,as_,x_,List.cons.injEq]at h;have h1:=R4 (by omega) (by omega) h.1;have h2:=R4 (by omega) (by omega) h.2.1;rw[RU l l' (λx b=>hl x (m_ _ b)) (λx b=>a x (m_ _ b)) h.2.2,show v=u by omega]
def yl{d:DF}{B:List Int}{s t:Int}:pC d B s=pC d B t↔Ref d B s t:=by unfold pC Ref;simp
def BF{d:DF}(h:RW d)(u:d.1.length<=16777216){B:List Int}(r:B.length=d.2.1.length){s:Int}(hs:In d s):aB tbl 292 [.d Uc d,.d (.list tI) B,.d tI s] [] aV (Ke d B s,()):=by
 refine cm ?_;rw[wrap_i64 (n:=(2:Int)*(d.1.length:Int)) (by omega) (by omega),wrap_i64];have g:s.toNat<B.length:=by have:=hs.1;have:=hs.2;omega
 obtain⟨h1,e⟩:=rN h hs;refine ao (by grind) (bg hs.1 g (ao rfl (bg hs.1 g (ao rfl (bg hs.1 h1 ?_)))));rw[mg g,e];have k:∀i (j:i<((c_ d.1.length).map (bw d s)).length),((c_ d.1.length).map (bw d s))[i]=bw d s i:=λi j=>by simp
 refine ae (aK (N:=((c_ d.1.length).map (bw d s)).length) (I:=λi t=>t=((i:Int),(bv B s::(c_ i).map λc=>bv B (bw d s c)).flatMap XE,())) (by simp[XE]) ?_ ?_)
 .rintro i t j rfl;have l:i<d.1.length:=by grind
  have b:=pm h hs l;have f:(bw d s i).toNat<B.length:=by have:=b.1;have:=b.2;omega
  refine aQ j (aA j ?_);rw[k i j];refine bg b.1 f (ao rfl (bg b.1 f (ao (decide_eq_true ?_) (aa ?_))))
  .have p:((bv B s::(c_ i).map λc=>bv B (bw d s c)).flatMap XE).length=2*(i+1):=by rw[bb_,show(λa=>(XE a).length)=λ_=>2 from rfl,bm_,List.sum_replicate_nat];grind
   grind
  .rw[mg f,ak j (by grind),J_,j_,<-T_,aq_];simp[XE]
 .rintro t rfl;refine aJ (aa (aa ?_));simp only[o_,bf_];rfl
def Cd:Nat->List (List UInt8)->List (List UInt8×Int)
 |_,[]=>[]
 |k,x::l=>(x,(k:Int))::Cd (k+1) l
def QM(x y:List UInt8):gI tS x y=decide (x=y):=by show(x==y)=_;by_cases h:x=y<;>simp[h]
def VJ(y:List UInt8):∀(L:List (List UInt8)) (k:Nat),dA tS tI (Cd k L) y=if y∈L then some (((k+pos L y:Nat):Int))else none
 |[],k=>by simp[Cd,dA]
 |x::L,k=>by have a:=VJ y L (k+1);simp only[Cd,dA];rw[QM y x,a];grind
def VK(y:List UInt8):∀(L:List (List UInt8)) (k:Nat),y∉L->fh tS tI (Cd k L) y (((k+L.length:Nat):Int))=Cd k (L++[y])
 |[],k,_=>by simp[Cd,fh]
 |x::L,k,h=>by have h1:y≠x:=λe=>h (by grind);have h2:y∉L:=λe=>h (by grind);have a:=VK y L (k+1) h2;simp only[T_,Cd,fh];rw[QM y x,decide_eq_false h1];grind
def uG:∀(L:List (List UInt8)) (k:Nat),(Cd k L).length=L.length
 |[],_=>rfl
 |_::L,k=>by simp[Cd,uG L (k+1)]
def Iy{d:DF}(h:RW d)(hk:d.1.length<=16777216)(hn:d.2.1.length<=65536):∃c:List Int×Int×Unit,(∃m:Nat,c.2.1=(m:Int)/\m<=d.2.1.length/\Hc d (·∈aE d) c.1 m/\c.1.length=d.2.1.length)/\aB tbl 271 [.d Uc d,.d (.list tI) (aE d)] [] mK c:=by
 refine KB (sh:=mK) ?_;have hl:∀s∈aE d,In d s:=iM h _;have u:(aE d).length<=d.2.1.length:=jd h _;have F:(aE d)[0]? =some d.2.2.2.1:=(cx _).head;have ph:0<(aE d).length:=(f_.1 F).1;have R:∀s c,c<d.1.length->s∈aE d->bw d s c∈aE d:=λs c hc hs=>bZ h s hs c hc;have y:∀s,In d s->∃h1:s.toNat<d.2.2.1.length,d.2.2.1[s.toNat]=bM d s:=λs hs=>by
  have h1:s.toNat<d.2.2.1.length:=by have:=h.len.2;have:=hs.1;have:=hs.2;omega
  exact⟨h1,by unfold bM;grind⟩
 refine ao (by grind) ?_;refine ae (aK (N:=(aE d).length) (I:=λi s=>∃(B:List Int) (cnt:Int),s=(cnt,(i:Int),B,())/\B.length=d.2.1.length/\(∀s,0<=s->bv B s=if s∈(aE d).take i/\bM d s≠bM d d.2.2.2.1 then 1 else 0)/\((cnt=1/\∀s∈(aE d).take i,bM d s=bM d d.2.2.2.1)\/(cnt=2/\∃s∈(aE d).take i,bM d s≠bM d d.2.2.2.1))) ⟨r_ d.2.1.length 0,1,rfl,by simp,λs _=>by rw[Qt];simp,.inl ⟨rfl,by simp⟩⟩ ?_ ?_)
 .rintro i s k ⟨B,cnt,rfl,C,b,p⟩;have a:=hl _ (b_ k);obtain⟨T,U⟩:=y _ a;obtain⟨Y,b2⟩:=y _ h.start;have f:(aE d).take (i+1)=(aE d).take i++[(aE d)[i]]:=by simp
  have g:((aE d)[i]).toNat<B.length:=by have:=a.1;have:=a.2;omega
  refine aQ k (ae (aA k (bg a.1 T (bH (x:=d.2.2.2.1) (by simp) F (bg h.start.1 Y ?_)))));rw[U,b2];refine au (λhc=>?_) λhc=>aa (aa ?_)
  .have hc:bM d (aE d)[i]≠bM d d.2.2.2.1:=by grind
   refine bg a.1 g (aZ (x:=B[((aE d)[i]).toNat]) (a_ g) (aa (aa ?_)));rw[ak k];refine⟨_,2,rfl,by grind,λs hs=>?_,.inr ⟨rfl,(aE d)[i],(by grind),hc⟩⟩;rw[sZ a.1 hs g,b s hs,f];by_cases e:s=(aE d)[i];all_goals grind
  .have hc:bM d (aE d)[i]=bM d d.2.2.2.1:=by grind
   rw[ak k];refine⟨B,cnt,rfl,C,λs hs=>?_,?_⟩;.rw[b s hs,f];by_cases e:s=(aE d)[i];all_goals grind
   grind
 .rintro s ⟨B,cnt,rfl,C,b,p⟩;rw[k_]at b p;refine aJ (aa ?_);have J:=eR (d:=d);have M:f8 d (·∈aE d) B:=by
   refine⟨λs t hs ht D=>?_,λs t hs ht D=>?_⟩;.rw[b s (hl s hs).1,b t (hl t ht).1,D.nil];grind
   .rw[b s (hl s hs).1,b t (hl t ht).1]at D;simp only[hs,ht,true_and]at D;generalize bM d d.2.2.2.1=z at D;cases h1:bM d s<;>cases h2:bM d t<;>cases z<;>simp_all
  have hg:∃m:Nat,cnt=(m:Int)/\Zv (·∈aE d) B m:=by
   rcases p with⟨rfl,h2⟩|⟨rfl,s1,h2,h3⟩
   .refine⟨1,rfl,λs hs=>?_,λi k=>⟨_,J,?_⟩⟩;.rw[b s (hl s hs).1];grind
    .rw[b _ h.start.1];grind
   .refine⟨2,rfl,λs hs=>?_,λi k=>?_⟩;.rw[b s (hl s hs).1];omega
    .rcases y_ i with rfl|hp;.exact⟨_,J,by rw[b _ h.start.1];simp⟩
     .exact⟨s1,h2,by rw[b _ (hl _ h2).1,if_pos ⟨h2,h3⟩];omega⟩
  obtain⟨m,rfl,hg⟩:=hg;refine ae (Go.Ev.wp_loop (σ:=Int×List Int×Unit) (λs=>∃(m:Nat) (B:List Int),s=((m:Int),B,())/\B.length=d.2.1.length/\f8 d (·∈aE d) B/\Zv (·∈aE d) B m) (λs=>d.2.1.length+1 - s.1.toNat) ⟨m,B,rfl,C,M,hg⟩ ?_);rintro s ⟨m,B,rfl,C,M,hg⟩;have qr:m<=d.2.1.length:=P_ (CJ hg) u;refine ao (by grind) (ae (Wp.imp (Q:=λr=>∃K B',r=(Cd 0 K,B',())/\Keyed (Ke d B) (aE d) K B'/\B'.length=d.2.1.length) ?_ λr hr=>?_))
  .have u:(aE d).length<=16777216:=by omega
   generalize aE d=l at hl u⊢;refine aK (N:=l.length) (I:=λi s=>∃K B',s=((i:Int),B,Cd 0 K,B',())/\Keyed (Ke d B) (l.take i) K B'/\B'.length=d.2.1.length) ⟨[],r_ d.2.1.length 0,rfl,⟨by simp,by simp,by simp⟩,by simp⟩ ?_ ?_
   .rintro i s k ⟨K,B',rfl,w,n⟩;have a:=hl _ (b_ k);have g:(l[i]).toNat<B'.length:=by have:=a.1;have:=a.2;omega
    have f:l.take (i+1)=l.take i++[l[i]]:=by simp
    have H:∀s∈l.take i,0<=s:=λs hs=>(hl s (B_ hs)).1;have gc:=w.len;have rg:(l.take i).length<=l.length:=by grind
    refine aQ k (aA k (aj (BF h hk C a) ?_));have E:=VJ (Ke d B l[i]) K 0;by_cases L:Ke d B l[i]∈K;.rw[if_pos L]at E;refine ae (au (λhc=>by grind) λ_=>aa (bg a.1 g (aZ (a_ g) (aa ?_))));rw[E,ak k,f];refine⟨K,B'.set (l[i]).toNat (pos K (Ke d B l[i]):Int),by simp,w.old H a.1 g L,by grind⟩
    .have A:=VK (Ke d B l[i]) K 0 L;simp only[ao_]at A;refine ae (au (λ_=>ao (decide_eq_true (by rw[uG];simp only[maxLen];omega)) (aa (bg a.1 g (aZ (a_ g) (aa ?_))))) λhc=>by grind);rw[ak k,f];refine⟨K++[Ke d B l[i]],B'.set (l[i]).toNat (K.length:Int),?_,w.new H a.1 g L,by grind⟩;rw[<-A,uG]
   .rintro s ⟨K,B',rfl,w,n⟩;rw[k_]at w;exact aJ (aa ⟨K,B',rfl,w,n⟩)
  obtain⟨K,B',rfl,w,n⟩:=hr;have hr:Hj d (·∈aE d) B B' K.length:=w.ZU λs hs t ht=>by
   rw[<-yl];have j:∀s∈aE d,∀v∈pC d B s,0<=v/\v<65536:=λs hs v P=>by
    have hb:∀s∈aE d,0<=bv B s/\bv B s<65536:=λs hs=>by have:=hg.nW s hs;omega
    rcases aN_.1 P with rfl|P;.grind
    .obtain⟨c,hc,rfl⟩:=l_.1 P;grind
   exact⟨λe=>RU _ _ (j s hs) (j t ht) e,λe=>by unfold Ke;rw[e]⟩
  have O:=M6 hg hr;refine au (λhc=>aa (aa ⟨_,rfl,K.length,?_,P_ (CJ hr.nW) u,?_,n⟩)) λhc=>aa ?_;.rw[uG]at hc;grind
  .rw[uG]at hc;have hc:(K.length:Int)=(m:Int):=by grind
   have hc:K.length=m:=by omega
   rw[hc]at hr⊢;exact M7 R M hg hr
  .rw[uG]at hc⊢;have hc:(K.length:Int)≠(m:Int):=by grind
   have el:=CJ hr.nW;refine⟨⟨K.length,B',rfl,n,yV R M hr,hr.nW⟩,?_⟩;omega
def FW{d:DF}(h:RW d)(y:d.1.length<=16777216){B:List Int}(x:B.length=d.2.1.length){s t:Int}(hs:In d s)(ht:In d t):aB tbl 294 [.d Uc d,.d (.list tI) B,.d tI s,.d tI t] [] aw (decide (pC d B s=pC d B t),()):=by
 refine cm ?_;have l:s.toNat<B.length:=by have:=hs.1;have:=hs.2;omega
 have n:t.toNat<B.length:=by have:=ht.1;have:=ht.2;omega
 obtain⟨h1,e⟩:=rN h hs;obtain⟨h2,w⟩:=rN h ht;refine bg hs.1 l (bg ht.1 n ?_);rw[mg l,mg n];refine au (λhc=>aa ?_) λhc=>?_
 .have hc:bv B s≠bv B t:=by grind
  rw[decide_eq_false λe=>hc (yl.1 e).1]
 have hc:bv B s=bv B t:=by grind
 refine bg hs.1 h1 ?_;rw[e];refine ae (pM (N:=((c_ d.1.length).map (bw d s)).length) (good:=λi=>bv B (bw d s i)=bv B (bw d t i)) (e:=(false,())) (g:=()) (λi p=>?_) ?_ (λhg=>aa ?_) (λr=>aa ?_))
 .have k:i<d.1.length:=by grind
  have v:((c_ d.1.length).map (bw d s)).length=d.1.length:=by simp
  have f:=pm h hs k;have a:=pm h ht k;have j:(bw d s i).toNat<B.length:=by have:=f.1;have:=f.2;omega
  have b:(bw d t i).toNat<B.length:=by have:=a.1;have:=a.2;omega
  refine aQ p (io (by grind) (bg f.1 j (bg ht.1 h2 (io (by grind) (bg a.1 b (dn ?_ (by rw[ak p])))))));rw[mg j,mg b];simp
 .exact aJ (aa rfl)
 .rw[decide_eq_true (yl.2 ⟨hc,λc u=>hg c (by grind)⟩)]
 .obtain⟨i,p,hn⟩:=r;rw[decide_eq_false λe=>hn ((yl.1 e).2 i (by grind))]
def CX{d:DF}(h:RW d)(hk:d.1.length<=16777216)(hn:d.2.1.length<=16777216):∃c:List Int×Unit,(∃m:Nat,m<=d.2.1.length/\Hc d (·∈dZ d.2.1.length) c.1 m/\c.1.length=d.2.1.length)/\aB tbl 278 [.d Uc d] [] ev c:=by
 refine KB (sh:=ev) ?_;have a:∀s,s∈dZ d.2.1.length↔In d s:=λs=>cj;have R:∀s c,c<d.1.length->s∈dZ d.2.1.length->bw d s c∈dZ d.2.1.length:=λs c hc hs=>(a _).2 (pm h ((a s).1 hs) hc);have gc:=h.len.2;refine ao (by grind) ?_;refine ae (aK (N:=d.2.2.1.length) (I:=λi s=>∃(B:List Int),s=((i:Int),B,())/\B.length=d.2.1.length/\(∀s,0<=s->bv B s=if s<(i:Int)/\bM d s=true then 1 else 0)) ⟨r_ d.2.1.length 0,rfl,by simp,λs hs=>by rw[Qt,if_neg λh=>by omega]⟩ ?_ ?_)
 .rintro i s p ⟨B,rfl,w,g⟩;have f:In d (i:Int):=⟨by simp,by omega⟩;have e:((i:Int)).toNat<B.length:=by omega
  have Y:d.2.2.1[i]=bM d (i:Int):=by unfold bM;grind
  refine aQ p (ae (aA p ?_));rw[Y];refine au (λhc=>?_) λhc=>aa (aa ?_);.refine bg f.1 e (aZ (x:=B[((i:Int)).toNat]) (a_ e) (aa (aa ?_)));rw[ak p];refine⟨_,rfl,by grind,λs hs=>?_⟩;rw[sZ f.1 hs e,g s hs];grind
  .rw[ak p];grind
 .rintro s ⟨B,rfl,w,g⟩;refine aJ (aa ?_);have C:f8 d (·∈dZ d.2.1.length) B:=by
   refine⟨λs t hs ht J=>?_,λs t hs ht J=>?_⟩
   .have h1:=(a s).1 hs;have h2:=(a t).1 ht;have D:s<(d.2.2.1.length:Int):=by have:=h1.2;omega
    have E:t<(d.2.2.1.length:Int):=by have:=h2.2;omega
    rw[g s h1.1,g t h2.1,J.nil];grind
   .have h1:=(a s).1 hs;have h2:=(a t).1 ht;have D:s<(d.2.2.1.length:Int):=by have:=h1.2;omega
    have E:t<(d.2.2.1.length:Int):=by have:=h2.2;omega
    rw[g s h1.1,g t h2.1]at J;grind
  refine ae (Go.Ev.wp_loop (σ:=Int×List Int×Unit) (λs=>∃(m:Nat) (B:List Int),s=((m:Int),B,())/\B.length=d.2.1.length/\f8 d (·∈dZ d.2.1.length) B/\(m=0\/Zv (·∈dZ d.2.1.length) B m)) (λs=>d.2.1.length+1 - s.1.toNat) ⟨0,B,rfl,w,C,.inl rfl⟩ ?_);rintro s ⟨m,B,rfl,w,C,hg⟩;refine ao (by grind) ?_;simp only[w];refine ae (Wp.imp (Q:=λr=>∃F B',r=(F,B',())/\Keyed (pC d B) (dZ d.2.1.length) (F.map (pC d B)) B'/\B'.length=d.2.1.length) ?_ λr hr=>?_)
  .refine aK (N:=d.2.1.length) (I:=λi s=>∃F B',s=((i:Int),B,F,B',())/\Keyed (pC d B) ((dZ d.2.1.length).take i) (F.map (pC d B)) B'/\B'.length=d.2.1.length/\∀x∈F,In d x) ⟨[],r_ d.2.1.length 0,rfl,⟨by simp,by simp,by simp⟩,by simp,by simp⟩ ?_ ?_
   .rintro i s p ⟨F,B',rfl,n,l,O⟩;have f:In d (i:Int):=⟨by simp,by omega⟩;have e:((i:Int)).toNat<B'.length:=by omega
    have v:(dZ d.2.1.length).take (i+1)=(dZ d.2.1.length).take i++[(i:Int)]:=by rw[i_,rI p];rfl
    have z:∀s∈(dZ d.2.1.length).take i,0<=s:=λs hs=>(cj.1 (B_ hs)).1;have el:F.length<=d.2.1.length:=by have:=n.len;grind
    refine aQ p (ae (Wp.imp (Q:=λr=>r=((pos (F.map (pC d B)) (pC d B (i:Int)):Int),B,F,B',())) ?_ λr hr=>?_))
    .have P:F.length<=16777216:=by omega
     refine Go.Ev.wp_loop (λs=>∃k:Nat,s=((k:Int),B,F,B',())/\k<=F.length/\∀j x,j<k->(F.map (pC d B))[j]? =some x->x≠pC d B (i:Int)) (λs=>F.length - s.1.toNat) ⟨0,rfl,by simp,λj x h=>absurd h (by simp)⟩ ?_;rintro s ⟨k,rfl,h1,h2⟩;dsimp only;by_cases u:k<F.length
     .have hx:=a_ u;refine ae (bh (b:=decide (pC d B F[k]≠pC d B (i:Int))) (λ_=>aA u (aZ hx (aj (FW h hk w f (O _ (b_ u))) (aa ?_)))) ?_);.grind
      .refine au (λhc=>aa ?_) λhc=>aa ?_;.rw[ak u];grind
       .rw[xc (by grind) h2 λx qr=>by grind]
     .have y:decide ((k:Int)<(F.length:Int))=false:=decide_eq_false (by omega);rw[y];refine ae (aa (aa ?_));grind
    subst hr;by_cases A:pC d B (i:Int)∈F.map (pC d B)
    .have y:=w9.1 A;have M:((pos (F.map (pC d B)) (pC d B (i:Int)):Int)==(F.length:Int))=false:=by grind
     rw[M];refine ae (aa (bg f.1 e (aZ (a_ e) (aa ?_))));rw[ak p,v];exact⟨F,_,rfl,n.old z f.1 e A,by grind,O⟩
    .have U:=CC A;refine ae (au (λ_=>ao (decide_eq_true (by grind)) (aa (bg f.1 e (aZ (a_ e) (aa ?_))))) λh=>by grind);rw[ak p];have T:=n.new z f.1 e A;grind
   .rintro s ⟨F,B',rfl,n,l,_⟩;rw[s_ (by rw[jz];simp)]at n;exact aJ (aa ⟨F,B',rfl,n,l⟩)
  obtain⟨F,B',rfl,n,l⟩:=hr;have hr:Hj d (·∈dZ d.2.1.length) B B' F.length:=by have:=n.ZU (B:=B) λs hs t ht=>yl;grind
  have ph:0<F.length:=by have h0:=(n.num _ ((a _).2 h.start)).2;grind
  have H:F.length<=d.2.1.length:=by have:=CJ hr.nW;rwa [jz]at this
  refine au (λhc=>aa (aa ⟨_,rfl,F.length,H,?_,l⟩)) λhc=>aa ?_
  .have hc:(F.length:Int)=(m:Int):=by grind
   have hc:F.length=m:=by omega
   rcases hg with rfl|hg;.omega
   .rw[hc]at hr⊢;exact M7 R C hg hr
  .refine⟨⟨F.length,B',rfl,l,yV R C hr,.inr hr.nW⟩,?_⟩;have L:m<=F.length:=by
    rcases hg with rfl|hg;.simp
    .exact M6 hg hr
   grind
def bP(q:DF)(cs:List Nat):DF:=
 (cs.map λc=>q.1.getD c 0,(aE q).map λb=>cs.map λc=>(pos (aE q) (bw q b c):Int),(aE q).map (bM q),0,())
structure aP(q:DF)(kp:Nat->Bool):Prop where
 zero:kp 0=true
 drop:∀s∈aE q,∀c,c<q.1.length->kp c=false->0<c/\bw q s c=bw q s (c - 1)
 keep:∀c,c+1<q.1.length->kp (c+1)=true->∃s∈aE q,bw q s (c+1)≠bw q s c
section
variable {q:DF} {kp:Nat->Bool}
abbrev gD(q:DF)(kp:Nat->Bool):List Nat:=(c_ q.1.length).filter kp
theorem uu{c:Nat}:c∈gD q kp↔c<q.1.length/\kp c=true:=by rw[List.mem_filter,n_]
theorem Yo:(gD q kp).Pairwise (·<·):=List.Pairwise.sublist (aI_ ..) List.pairwise_lt_range
theorem zW{i j:Nat}(a:i<j)(b:j<(gD q kp).length):(gD q kp)[i]<(gD q kp)[j]:=G_.1 Yo i j (by omega) b a
theorem zU{i:Nat}(a:i<(gD q kp).length):(gD q kp)[i]<q.1.length:=(uu.1 (b_ a)).1
theorem Ly(d:aP q kp)(f:0<q.1.length):∃h:0<(gD q kp).length,(gD q kp)[0]=0:=by
 have a:0∈gD q kp:=uu.2 ⟨f,d.zero⟩;refine⟨(ad_ a),?_⟩;obtain⟨i,c,e⟩:=e_.1 a;rcases y_ i with rfl|b;.omega
 .have:=zW b c;omega
theorem Dk(g:aP q kp):∀c,c<q.1.length->∃j,∃h:j<(gD q kp).length,(gD q kp)[j]<=c/\(∀b (_:b<(gD q kp).length),j<b->c<(gD q kp)[b])/\∀s∈aE q,bw q s c=bw q s (gD q kp)[j]
 |0,hc=>by obtain⟨h,e⟩:=Ly g hc;exact⟨0,h,by omega,λb a f=>by have:=zW (q:=q) (kp:=kp) f a;omega,λs _=>by rw[e]⟩
 |c+1,hc=>by
  cases d:kp (c+1)
  .obtain⟨j,h,h1,h2,l⟩:=Dk g c (by omega);refine⟨j,h,by omega,λb a f=>?_,λs hs=>?_⟩;.grind
   .rw[(g.drop s hs (c+1) hc d).2];grind
  .obtain⟨j,k,e⟩:=e_.1 (uu.2 ⟨hc,d⟩:c+1∈gD q kp);exact⟨j,k,by omega,λb a f=>by have:=zW (q:=q) (kp:=kp) f a;omega,λs _=>by rw[e]⟩
theorem getD_at{a:Type}{xs:List a}{i:Nat}{z:a}(h:i<xs.length):xs.getD i z=xs[i]:=by grind
theorem gB(c:RW q)(hs:ce q.1)(b:aP q kp){j:Nat}(a:j<(gD q kp).length):∃h:j<(bP q (gD q kp)).1.length,(bP q (gD q kp)).1[j]=q.1[(gD q kp)[j]]'(zU a):=by simp only[bP];grind
theorem tZ(b:RW q)(hs:ce q.1)(a:aP q kp):(bP q (gD q kp)).1.length=(gD q kp).length:=by simp[bP]
theorem Pp(b:RW q)(hs:ce q.1)(a:aP q kp):ce (bP q (gD q kp)).1:=by
 obtain⟨g,e0⟩:=Ly a hs.1;refine⟨by rw[tZ b hs a];omega,λh=>?_,λi c=>?_,λx k=>?_⟩;.obtain⟨_,e⟩:=gB b hs a g;rw[e];simp only[e0];exact hs.2.1 hs.1
 .rw[tZ b hs a]at c;obtain⟨_,d⟩:=gB b hs a (j:=i) (by omega);obtain⟨_,f⟩:=gB b hs a c;rw[d,f];exact gT hs _ _ _ (zW (by simp) c)
 .obtain⟨i,c,rfl⟩:=e_.1 k;rw[tZ b hs a]at c;obtain⟨_,d⟩:=gB b hs a c;rw[d];exact hs.2.2.2 _ (b_ _)
theorem zaY(e:RW q)(hs:ce q.1)(f:aP q kp):RW (bP q (gD q kp)):=by
 have a:0<(aE q).length:=ad_ eR;refine⟨⟨by simpa[bP]using a,by simp[bP]⟩,λr hr=>?_,⟨aW_ _,by simpa[bP]using a⟩,λr hr t ht=>?_⟩;.simp only[bP,l_]at hr;obtain⟨b,_,rfl⟩:=hr;simp[bP]
 .simp only[bP,l_]at hr;obtain⟨b,d,rfl⟩:=hr;obtain⟨c,hc,rfl⟩:=l_.1 ht;have:=w9.1 (bZ e b d c (uu.1 hc).1);refine⟨by simp,?_⟩;simp only[bP,o_];omega
theorem Pq(b:RW q)(hs:ce q.1)(a:aP q kp):WF (bP q (gD q kp)):=by have h:=zaY b hs a;exact⟨Pp b hs a,h.len,h.rows,h.start,h.to⟩
theorem CG(f:RW q)(hs:ce q.1)(d:aP q kp){b:Int}(c:b∈aE q){j:Nat}(a:j<(gD q kp).length):bw (bP q (gD q kp)) (pos (aE q) b:Int) j=(pos (aE q) (bw q b (gD q kp)[j]):Int):=by
 have e:(aE q)[pos (aE q) b]? =some b:=by grind
 unfold bw;simp only[bP,g_,v_,ai_,e,au_,O_,a_ a];rfl
theorem W1(d:RW q)(hs:ce q.1)(c:aP q kp){b:Int}(f:b∈aE q){v:Int}(r:0<=v):bJ (bP q (gD q kp)) (pos (aE q) b:Int) v=(pos (aE q) (bJ q b v):Int):=by
 obtain⟨hc,l,n⟩:=j9 hs r;obtain⟨j,g,h1,h2,k⟩:=Dk c _ hc;have e:dy (bP q (gD q kp)).1 v=j:=by
  obtain⟨h,s⟩:=gB d hs c g;refine j8 ⟨h,?_,λx a p=>?_⟩
  .rcases ag_ h1 with hl|w;.have:=gT hs _ _ hc hl;omega
   grind
  .rw[tZ d hs c]at a;obtain⟨_,u⟩:=gB d hs c a;grind
 rw[kG,e,CG d hs c f g,kG,k b f]
theorem Zb(d:RW q)(hs:ce q.1)(c:aP q kp){b:Int}(a:b∈aE q):bM (bP q (gD q kp)) (pos (aE q) b:Int)=bM q b:=by
 have e:(aE q)[pos (aE q) b]? =some b:=by grind
 unfold bM;simp only[bP,g_,v_,ai_,e,au_,O_];simp only[bM,v_]
theorem Zc(s:RW q)(hs:ce q.1)(w:aP q kp):∃O,∀i,O<=i->(bD (bJ (bP q (gD q kp))) (bP q (gD q kp)).2.2.2.1 (bP q (gD q kp)).1 i).1=dZ (bP q (gD q kp)).2.1.length:=by
 refine⟨q.2.1.length,λi N=>?_⟩;have r:(bD (bw q) q.2.2.2.1 (c_ q.1.length) i).1=aE q:=by have:=ti N (jd s _);rw[this];rfl
 have d:(bD (bw q) q.2.2.2.1 (gD q kp) i).1=aE q:=by rw[Ac i λx v c hc E=>w.drop x (by grind) c hc E,r]
 have u:=xR (f:=bw q) (g:=bJ (bP q (gD q kp))) (h:=λc=>q.1.getD c 0) (t0:=0) (ls:=gD q kp) (i8:=λb t=>b∈aE q/\t=(pos (aE q) b:Int)) ⟨eR,?_⟩ (λx y c hc ⟨v,A⟩=>?_) (λa P b b' ⟨J,M⟩ ⟨L,C⟩=>?_) i
 .have B:=u.1;rw[d]at B;have hl:=B.len;have I:(bP q (gD q kp)).2.1.length=(aE q).length:=by simp[bP]
  rw[I];refine aM_ λk=>?_;by_cases n:k<(aE q).length
  .have v:=a_ n;have A:=a_ (l:=(bD (bJ (bP q (gD q kp))) 0 ((gD q kp).map λc=>q.1.getD c 0) i).1) (i:=k) (by omega);have hr:=(B.get v A).2;have hp:pos (aE q) (aE q)[k]=k:=by exact List.Nodup.idxOf_getElem (cx _).nodup k n
   rw[hp]at hr;rw[rI n,<-hr];exact A
  .rw[M_ (show(dZ (aE q).length).length<=k by rw[jz];omega)];exact M_ (by show(bD (bJ (bP q (gD q kp))) 0 ((gD q kp).map λc=>q.1.getD c 0) i).1.length<=k;omega)
 .rw[show pos (aE q) q.2.2.2.1=0 from ?_];rfl;have R:(aE q)[0]? =some q.2.2.2.1:=(cx _).head;exact(xc (aG_ _) (λj z D=>by omega) (λz T=>by grind)).symm
 .have p:=uu.1 hc;obtain⟨j,D,e⟩:=e_.1 hc;obtain⟨H,Q⟩:=gB s hs w D;refine⟨bZ s x v c p.1,?_⟩;rw[A,getD_at p.1];have F:q.1[c]=(bP q (gD q kp)).1[j]:=by grind
  rw[F,gV (Pq s hs w) _ H,CG s hs w v D];grind
 .subst M C;exact⟨λe=>by rw[e],λe=>J8 J (by omega)⟩
theorem W0(f:RW q)(hs:ce q.1)(d:aP q kp):∀c (h:c+1<(bP q (gD q kp)).1.length),∃s,In (bP q (gD q kp)) s/\bJ (bP q (gD q kp)) s (bP q (gD q kp)).1[c+1]≠bJ (bP q (gD q kp)) s (bP q (gD q kp)).1[c]:=by
 intro c h;have p:=Pq f hs d;have h':c+1<(gD q kp).length:=by rwa [tZ f hs d]at h
 have x:=zW (show c<c+1 by simp) h';have u:=zU h';have g:=uu.1 (b_ h');obtain⟨e,v⟩:∃e,(gD q kp)[c+1]=e+1:=⟨(gD q kp)[c+1] - 1,by omega⟩;rw[v]at g u;obtain⟨b,a,l⟩:=d.keep e g.1 g.2;obtain⟨j,n,h1,h2,B⟩:=Dk d e (by omega);have k:j=c:=by
  rcases Nat.lt_trichotomy j c with hl|w|hl;.grind
  .omega
  .rcases ag_ (show c+1<=j by omega)with r|rfl;.have:=zW r n;omega
   omega
 subst k;refine⟨(pos (aE q) b:Int),⟨by simp,?_⟩,?_⟩;.have:=w9.1 a;simp only[bP,o_];omega
 .rw[gV p _ h,gV p _ (by omega),CG f hs d a h',CG f hs d a n];intro z;apply l;have A:=J8 (y:=bw q b (gD q kp)[j]) (bZ f b a (e+1) g.1) (by grind);grind
end
def zal{d:DF}(hd:WF d){s t:Int}(h:Z8 d s t):Z7 d s t:=by
 have a:∀(w:List Nat),(∀c∈w,c∈c_ d.1.length)->∀s,(w.map λc=>d.1.getD c 0).foldl (bJ d) s=w.foldl (bw d) s:=by intro w;induction w with|nil=>simp|cons c w g=>intro b s;have hc:=n_.1 (b c (w_ ..));rw[x_,X_,X_,g λx f=>b x (m_ _ f)];congr 1;rw[getD_at hc,gV hd _ hc]
 intro w b;rw[<-a w b,<-a w b];refine h _ λv e=>?_;obtain⟨c,hc,rfl⟩:=l_.1 e;have hc:=n_.1 (b c hc);rw[getD_at hc];exact gU hd.cu _ (b_ hc)
def Fa{d q:DF}(hd:WF d)(e:RW q)(h1:q.1=d.1){P:Int->Prop}{B:List Int}{m:Nat}(C:Hc d P B m)(f:∀s∈aE d,P s)(n:q.2.2.2.1=bv B d.2.2.2.1) (b:∀s∈aE d,∀c,c<d.1.length->bw q (bv B s) c=bv B (bw d s c)) (g:∀s∈aE d,bM q (bv B s)=bM d s) {kp:Nat->Bool} (l:aP q kp): Canon (bP q (gD q kp))/\∀w,eH w->bM (bP q (gD q kp)) (dW (bP q (gD q kp)) w)=bM d (dW d w):=by
 have hs:ce q.1:=h1▸hd.cu;have h:∀s∈aE d,bv B s∈aE q:=by intro s a;obtain⟨k,r,rfl⟩:=e_.1 a;refine(cx d.2.1.length).inv (P:=λs=>s∈aE d/\bv B s∈aE q) ⟨eR,by rw[<-n];exact eR⟩ (λx c hc ⟨A,y⟩=>?_) k _ (a_ r) |>.2;have hc:=n_.1 hc;exact⟨bZ hd.rw x A c hc,by rw[<-b x A c hc];exact bZ e _ y c (by grind)⟩
 refine O4 (Pq e hs l) (ψ:=λs=>(pos (aE q) (bv B s):Int)) eR (λs v a p=>?_) ?_ (λs v a p=>?_) (λs a=>?_) (λs t a u D=>?_) (Zc e hs l) (W0 e hs l);.exact bZ hd.rw s a _ (j9 hd.cu p).1
 .rw[<-n];have E:(aE q)[0]? =some q.2.2.2.1:=(cx _).head;rw[<-xc (aG_ _) (λj z F=>by omega) (λz H=>by grind)];rfl
 .rw[W1 e hs l (h s a) p,kG,kG,h1,b s a _ (j9 hd.cu p).1]
 .exact(Zb e hs l (h s a)).trans (g s a)
 .rw[(C.eqv s t (f s a) (f t u)).2 (zal hd D)]
def Tt{k i:Nat}{r:List Nat}{n:Nat}(hr:r.length=i)(h:i<k):(kM k r).set i (n:Int)=kM k (r++[n]):=by subst hr;exact t7 h
def W5{k:Nat}{r:List Nat}(h:r.length<=k):(kM k r).length=k:=by unfold kM;simp;omega
def Ts{k:Nat}{r:List Nat}(h:r.length=k):kM k r=r.map fun(n:Nat)=>(n:Int):=by unfold kM;rw[h];simp
def rL(d:DF):DF:=(d.1,(aE d).map λb=>(c_ d.1.length).map λc=>(pos (aE d) (bw d b c):Int),(aE d).map (bM d),0,())
def IX{d:DF}(h:RW d){s:Int}(hs:In d s):∃h1:s.toNat<d.2.2.1.length,d.2.2.1[s.toNat]=bM d s:=by
 have h1:s.toNat<d.2.2.1.length:=by have:=h.len.2;have:=hs.1;have:=hs.2;omega
 exact⟨h1,by unfold bM;grind⟩
def yQ{d:DF}:(aE d).Nodup:=(cx (f:=bw d) (s0:=d.2.2.2.1) (ls:=c_ d.1.length) _).nodup
def Wx{L:List Int}(hn:L.Nodup){i:Nat}(a:i<L.length):pos L L[i]=i:=by unfold pos;exact List.Nodup.idxOf_getElem hn i a
def CO{d:DF}(h:RW d)(B:d.1.length<=16777216)(hn:d.2.1.length<=16777216):aB tbl 272 [.d Uc d] [] bp (rL d,()):=by
 refine cm ?_;have hl:∀s∈aE d,In d s:=iM h _;have C:(aE d).length<=d.2.1.length:=jd h _;refine aj (IB rfl h hn B) (ao (by grind) ?_);refine ae (aK (N:=(aE d).length) (I:=λi s=>∃A:List Int,s=((i:Int),(0:Int),A,())/\A.length=d.2.1.length/\∀x∈(aE d).take i,bv A x=(pos (aE d) x:Int)) ⟨r_ d.2.1.length 0,rfl,by simp,by simp⟩ ?_ ?_)
 .rintro i s f ⟨A,rfl,z,u⟩;have a:=hl _ (b_ f);have j:((aE d)[i]).toNat<A.length:=by have:=a.1;have:=a.2;omega
  refine aQ f (aA f (bg a.1 j (aZ (x:=A[((aE d)[i]).toNat]) (a_ j) (aa ?_))));rw[ak f];refine⟨_,rfl,by grind,λx w=>?_⟩;rw[i_,a_ f]at w;have v:0<=x:=by
   rcases h_.1 w with h1|h1;.exact(hl x (B_ h1)).1
   .simp at h1;subst h1;exact a.1
  rw[sZ a.1 v j];split;.rename_i e;rw[e,Wx yQ f]
  grind
 .rintro s ⟨A,rfl,z,u⟩;rw[k_]at u;refine aJ (aa ?_);refine ae (aK (N:=(aE d).length) (I:=λi s=>s=((i:Int),(0:Int),A,d.1,(0:Int),((aE d).take i).map (λb=>(c_ d.1.length).map λc=>(pos (aE d) (bw d b c):Int)),((aE d).take i).map (bM d),())) rfl ?_ ?_)
  .rintro i s f rfl;have a:=hl _ (b_ f);obtain⟨h1,e⟩:=rN h a;obtain⟨h2,y⟩:=IX h a;refine aQ f (aA f (ao (EM (by omega)) (bg a.1 h1 ?_)));rw[e];generalize r:((aE d).take i).map (λb=>(c_ d.1.length).map λc=>(pos (aE d) (bw d b c):Int))=NX;generalize p:((aE d).take i).map (bM d)=AC;refine ae (aK (N:=d.1.length) (I:=λc s=>s=((c:Int),(0:Int),A,d.1,(0:Int),NX,AC,kM d.1.length ((c_ c).map λc=>pos (aE d) (bw d (aE d)[i] c)),())) (by rw[bn_,D_,show kM d.1.length []=r_ d.1.length 0 from by simp[kM]];rfl) ?_ ?_)
   .rintro c s hc rfl;have g:=bZ h _ (b_ f) c hc;have k:=hl _ g;have l:(bw d (aE d)[i] c).toNat<A.length:=by have:=k.1;have:=k.2;omega
    have D:(kM d.1.length ((c_ c).map λc=>pos (aE d) (bw d (aE d)[i] c))).length=d.1.length:=W5 (by grind);have n:((c_ d.1.length).map (bw d (aE d)[i])).length=d.1.length:=by simp
    rw[n];refine aQ hc (io (x:=bw d (aE d)[i] c) (by grind) (bg k.1 l (aZ (x:=A[(bw d (aE d)[i] c).toNat]) (a_ l) ?_)));refine aA (by grind) (aZ (x:=(kM d.1.length ((c_ c).map λc=>pos (aE d) (bw d (aE d)[i] c)))[c]'(by omega)) (a_ _) (aa ?_));rw[ak hc,mg l,u _ g];simp only[g_];rw[Tt (by simp) hc,J_,j_];rfl
   .rintro s rfl;have n:((c_ d.1.length).map (bw d (aE d)[i])).length=d.1.length:=by simp
    rw[n];refine aJ (aa ?_);refine ao (decide_eq_true (by grind)) (bg a.1 h2 (ao (decide_eq_true (by grind)) (aa ?_)));rw[ak f,y,Ts (by simp),<-r,<-p];simp only[i_,a_ f,j_,U_,x_,D_,br_];rfl
  .rintro s rfl;refine aJ (aa (aa ?_));simp only[k_];rfl
def jA(q:DF)(kp:Nat->Bool):DF:=((gD q kp).map λc=>q.1.getD c 0,q.2.1.map λr=>(gD q kp).map λc=>r.getD c 0,q.2.2.1,q.2.2.2.1,())
def RP{q:DF}(kp:Nat->Bool){s:Int}(hs:In q s){j:Nat}(a:j<(gD q kp).length):bw (jA q kp) s j=bw q s (gD q kp)[j]:=by
 have h1:s.toNat<q.2.1.length:=by have:=hs.1;have:=hs.2;omega
 unfold bw;simp only[jA,v_,ai_,a_ h1,au_,O_,a_ a]
def za4{q:DF}(kp:Nat->Bool)(b:RW q):RW (jA q kp):=by
 refine⟨⟨by simpa[jA]using b.len.1,by simpa[jA]using b.len.2⟩,λr hr=>?_,?_,λr hr t ht=>?_⟩;.simp only[jA,l_]at hr;obtain⟨r,_,rfl⟩:=hr;simp[jA]
 .have:=b.start;exact⟨this.1,by simpa[jA]using this.2⟩
 .simp only[jA,l_]at hr;obtain⟨r,hr,rfl⟩:=hr;obtain⟨c,hc,rfl⟩:=l_.1 ht;have a:c<r.length:=by rw[b.rows r hr];grind
  rw[getD_at a];have:=b.to r hr _ (b_ a);exact⟨this.1,by simpa[jA]using this.2⟩
def Tx{q:DF}{kp:Nat->Bool}(w:RW q)(z:aP q kp):aE (jA q kp)=aE q:=by
 have hn:(jA q kp).2.1.length=q.2.1.length:=by simp[jA]
 have hl:(jA q kp).1.length=(gD q kp).length:=by simp[jA]
 have g:(bD (bw q) q.2.2.2.1 (gD q kp) q.2.1.length).1=aE q:=by rw[Ac _ λx d c hc s=>z.drop x d c hc s];rfl
 have n:=xR (f:=bw (jA q kp)) (h:=λj=>(gD q kp).getD j 0) (ls:=c_ (gD q kp).length) (i8:=λx y=>x=y/\In q x) ⟨rfl,w.start⟩ (λx y c hc ⟨d,p⟩=>by subst d;have hc:=n_.1 hc;rw[RP kp p hc,getD_at hc];exact⟨rfl,pm w p (zU hc)⟩) (λa A b b' ⟨B,_⟩ ⟨C,_⟩=>by omega) q.2.1.length;have e:(c_ (gD q kp).length).map (λj=>(gD q kp).getD j 0)=gD q kp:=by refine A_ (by simp) λi h1 h2=>?_;grind
 have r:=n.1;rw[e,g]at r;unfold aE kg;rw[hn,hl];refine aM_ λk=>?_;have v:=r.len;by_cases u:k<(bD (bw (jA q kp)) q.2.2.2.1 (c_ (gD q kp).length) q.2.1.length).1.length;.have d:=a_ u;have p:=a_ (l:=aE q) (i:=k) (by omega);have:=(r.get d p).1;exact d.trans ((congrArg some this).trans p.symm)
 .rw[show(bD (bw (jA q kp)) (jA q kp).2.2.2.1 (c_ (gD q kp).length) q.2.1.length).1[k]? =none from M_ (by show(bD (bw (jA q kp)) q.2.2.2.1 (c_ (gD q kp).length) q.2.1.length).1.length<=k;omega)];exact(M_ (show(aE q).length<=k by omega)).symm
def Zf{q:DF}{kp:Nat->Bool}(a:RW q)(e:aP q kp):rL (jA q kp)=bP q (gD q kp):=by
 unfold rL bP;rw[(Tx a e)];refine aL_ rfl (aL_ ?_ (aL_ ?_ rfl))
 .refine ab_ λb c=>(A_ (by simp[jA]) λj h1 h2=>?_);have d:j<(gD q kp).length:=by grind
  simp;rw[RP kp (iM a _ b c) d]
 .rfl
def dI(NX:List (List Int))(c:Nat):Bool:=decide (c=0)||NX.any λr=>r.getD c 0 != r.getD (c - 1) 0
def Ch(k:Nat)(r:List Int):List Int:=r++r_ (k - r.length) 0
def W4{k i:Nat}{r:List Int}{x:Int}(hr:r.length=i)(h:i<k):(Ch k r).set i x=Ch k (r++[x]):=by subst hr;unfold Ch;obtain⟨m,a⟩:∃m,k - r.length=m+1:=⟨k - r.length - 1,by omega⟩;grind
def W3{k:Nat}{r:List Int}(h:r.length<=k):(Ch k r).length=k:=by unfold Ch;simp;omega
def Tq{k:Nat}{r:List Int}(h:r.length=k):Ch k r=r:=by unfold Ch;rw[h];simp
def YU{a β:Type}{g g':a->β}{xs:List a}{j:Nat}(b:j<xs.length):((xs.take j).map g'++(xs.drop j).map g)[j]? =some (g xs[j]):=by grind
def YV{b β:Type}{g g':b->β}{xs:List b}{j:Nat}(a:j<xs.length):((xs.take j).map g'++(xs.drop j).map g).set j (g' xs[j])=(xs.take (j+1)).map g'++(xs.drop (j+1)).map g:=by rw[az_ _ _ (by grind),F_ a,i_,a_ a];simp only[o_,an_,aH_ (Nat.le_of_lt a),aR_,x_,List.set_cons_zero,j_,U_,D_,u_,T_,as_]
structure Sb(d:DF)(B:List Int)(m:Nat)(NX:List (List Int))(AC:List Bool):Prop where
 dX:Hc d (·∈aE d) B m
 le:m<=d.2.1.length
 len:NX.length=m/\AC.length=m
 at_:∀s∈aE d,NX[(bv B s).toNat]? =some ((c_ d.1.length).map λc=>bv B (bw d s c))/\AC[(bv B s).toNat]? =some (bM d s)
def Sb.rw{d:DF}(hd:RW d){B:List Int}{m:Nat}{NX:List (List Int)}{AC:List Bool}(h:Sb d B m NX AC):RW (d.1,NX,AC,bv B d.2.2.2.1,()):=by
 have E:=h.dX.nW.nW _ (eR);have C:∀r∈NX,∃s∈aE d,r=(c_ d.1.length).map λc=>bv B (bw d s c):=λr hr=>by obtain⟨b,H,rfl⟩:=e_.1 hr;obtain⟨s,hs,e⟩:=h.dX.nW.Cg b (by rw[<-h.len.1];omega);have:=(h.at_ s hs).1;grind
 refine⟨⟨?_,?_⟩,λr hr=>?_,⟨E.1,?_⟩,λr hr t ht=>?_⟩;.rw[h.len.1];omega
 .rw[h.len.1,h.len.2]
 .grind
 .show bv B d.2.2.2.1<(NX.length:Int);rw[h.len.1];omega
 .obtain⟨s,hs,rfl⟩:=C r hr;obtain⟨c,hc,rfl⟩:=l_.1 ht;have:=h.dX.nW.nW _ (bZ hd s hs c (n_.1 hc));refine⟨this.1,?_⟩;rw[h.len.1];omega
def Sb.col{d:DF}{B:List Int}{m:Nat}{NX:List (List Int)}{AC:List Bool}(h:Sb d B m NX AC){s:Int}(hs:s∈aE d){c:Nat}(hc:c<d.1.length):bw (d.1,NX,AC,bv B d.2.2.2.1,()) (bv B s) c=bv B (bw d s c):=by show(NX.getD (bv B s).toNat []).getD c 0=_;simp only[v_,(h.at_ s hs).1,O_,ai_,ba_ hc,au_]
def Sb.acc{d:DF}{B:List Int}{m:Nat}{NX:List (List Int)}{AC:List Bool}(h:Sb d B m NX AC){s:Int}(hs:s∈aE d):bM (d.1,NX,AC,bv B d.2.2.2.1,()) (bv B s)=bM d s:=by show AC.getD (bv B s).toNat false=_;rw[v_,(h.at_ s hs).2];rfl
def Sb.reach{d:DF}(hd:RW d){B:List Int}{m:Nat}{NX:List (List Int)}{AC:List Bool}(h:Sb d B m NX AC){s:Int}(hs:s∈aE d):bv B s∈aE (d.1,NX,AC,bv B d.2.2.2.1,()):=by obtain⟨k,C,rfl⟩:=e_.1 hs;refine((cx d.2.1.length).inv (P:=λs=>s∈aE d/\bv B s∈aE (d.1,NX,AC,bv B d.2.2.2.1,())) ⟨eR,eR⟩ (λx c hc ⟨H,E⟩=>?_) k _ (a_ C)).2;have hc:=n_.1 hc;exact⟨bZ hd x H c hc,by rw[<-h.col H hc];exact bZ (h.rw hd) _ E c hc⟩
def Sb.keeps{d:DF}(hd:RW d){B:List Int}{m:Nat}{NX:List (List Int)}{AC:List Bool}(h:Sb d B m NX AC):aP (d.1,NX,AC,bv B d.2.2.2.1,()) (dI NX):=by
 have I:∀b,b∈aE (d.1,NX,AC,bv B d.2.2.2.1,())->∃r∈NX,∀c,bw (d.1,NX,AC,bv B d.2.2.2.1,()) b c=r.getD c 0:=λb H=>by
  have E:=iM (h.rw hd) _ b H;have h1:b.toNat<NX.length:=by have:=E.1;have:=E.2;grind
  refine⟨NX[b.toNat],b_ h1,λc=>?_⟩;unfold bw;grind
 refine⟨rfl,λb H c hc C=>?_,λc hc C=>?_⟩;.simp only[dI,aF_]at C;grind
 .simp only[dI,Bool.or_eq_true,decide_eq_true_eq,al_]at C;rcases C with C|⟨r,hr,C⟩;.omega
  obtain⟨b,H,rfl⟩:=e_.1 hr;obtain⟨s,hs,e⟩:=h.dX.nW.Cg b (by rw[<-h.len.1];omega);have J:=h.reach hd hs;unfold bw;grind
def Sc{d:DF}(hd:WF d){B:List Int}{m:Nat}{NX:List (List Int)}{AC:List Bool}(h:Sb d B m NX AC): Canon (rL (jA (d.1,NX,AC,bv B d.2.2.2.1,()) (dI NX)))/\∀w,eH w->bM (rL (jA (d.1,NX,AC,bv B d.2.2.2.1,()) (dI NX))) (dW (rL (jA (d.1,NX,AC,bv B d.2.2.2.1,()) (dI NX))) w)=bM d (dW d w):=by rw[Zf (h.rw hd.rw) (h.keeps hd.rw)];exact Fa hd (h.rw hd.rw) rfl h.dX (λ_ hs=>hs) rfl (λs hs c hc=>h.col hs hc) (λs hs=>h.acc hs) (h.keeps hd.rw)
def OX{NX:List (List Int)}{c j:Nat}(a:j<NX.length):(decide (c=0)||(NX.take (j+1)).any λr=>r.getD c 0 != r.getD (c - 1) 0)=((decide (c=0)||(NX.take j).any λr=>r.getD c 0 != r.getD (c - 1) 0)||(NX[j].getD c 0 != NX[j].getD (c - 1) 0)):=by rw[i_];grind
def AB{m:Nat}{b:Int}(a:b<=24)(d:m<=65536)(c:0<=b):(decide (0<=(m:Int))&&decide ((m:Int)<=(m:Int))&&decide ((m:Int)<=9223372036854775807)&&decide (b*(m:Int)<=281474976710656))=true:=by have:b*(m:Int)<=24*65536:=Int.mul_le_mul a (by omega) (by simp) (by simp);grind
def NV{d:DF}(hd:WF d)(v:d.1.length<=16777216)(hn:d.2.1.length<=65536):∃c:DF×Unit,((∃B m NX AC,Sb d B m NX AC/\c.1=rL (jA (d.1,NX,AC,bv B d.2.2.2.1,()) (dI NX)))/\c.1.1.length<=d.1.length/\c.1.2.1.length<=d.2.1.length)/\aB tbl 240 [.d Uc d] [] bp c:=by
 refine KB (sh:=bp) ?_;have h:=hd.rw;have hl:∀s∈aE d,In d s:=iM h _;have CD:(aE d).length<=d.2.1.length:=jd h _;obtain⟨⟨B,mi,_⟩,⟨m,U,hm,H,ph⟩,hc⟩:=Iy h v hn;simp only at U H ph;subst U;have gc:d.2.2.2.1.toNat<B.length:=by have:=h.start.1;have:=h.start.2;omega
 refine aj (IB rfl h (by omega) v) (aj hc ?_);refine ao (AB (m:=m) (by simp) (by omega) (by simp)) (ao (AB (m:=m) (by simp) (by omega) (by simp)) (bg h.start.1 gc ?_));rw[mg gc];refine ae (aK (N:=(aE d).length) (I:=λi s=>∃NX AC,s=((i:Int),(0:Int),bv B d.2.2.2.1,NX,AC,())/\NX.length=m/\AC.length=m/\∀s∈(aE d).take i,NX[(bv B s).toNat]? =some ((c_ d.1.length).map λc=>bv B (bw d s c))/\AC[(bv B s).toNat]? =some (bM d s)) ⟨r_ m [],r_ m false,rfl,by simp,by simp,by simp⟩ ?_ ?_)
 .rintro i s T ⟨NX,AC,rfl,z,J,C⟩;have a:=b_ T;have n:=hl _ a;obtain⟨h1,e⟩:=rN h n;obtain⟨h2,e2⟩:=IX h n;have p:((aE d)[i]).toNat<B.length:=by omega
  have M:=H.nW.nW _ a;refine aQ T (aA T (ao (by grind) (bg n.1 h1 ?_)));rw[e];refine ae (aK (N:=d.1.length) (I:=λc s=>s=((c:Int),(0:Int),bv B d.2.2.2.1,NX,AC,Ch d.1.length ((c_ c).map λc=>bv B (bw d (aE d)[i] c)),())) (by rw[bn_,D_,show Ch d.1.length []=r_ d.1.length 0 from by simp[Ch]];rfl) ?_ ?_)
  .rintro c s hc rfl;have P:=bZ h _ a c hc;have D:=hl _ P;have R:(bw d (aE d)[i] c).toNat<B.length:=by have:=D.1;have:=D.2;omega
   have CT:(Ch d.1.length ((c_ c).map λc=>bv B (bw d (aE d)[i] c))).length=d.1.length:=W3 (by grind);have u:((c_ d.1.length).map (bw d (aE d)[i])).length=d.1.length:=by simp
   rw[u];refine aQ hc (io (x:=bw d (aE d)[i] c) (by grind) (bg D.1 R ?_));refine aA (by grind) (aZ (x:=(Ch d.1.length ((c_ c).map λc=>bv B (bw d (aE d)[i] c)))[c]'(by omega)) (a_ _) (aa ?_));rw[ak hc,mg R];simp only[g_];rw[W4 (by simp) hc,J_,j_];rfl
  .rintro s rfl;have u:((c_ d.1.length).map (bw d (aE d)[i])).length=d.1.length:=by simp
   rw[u];have A:(bv B (aE d)[i]).toNat<NX.length:=by omega
   have y:(bv B (aE d)[i]).toNat<AC.length:=by omega
   refine aJ (aa (bg n.1 p ?_));rw[mg p];refine bg M.1 A (aZ (x:=NX[(bv B (aE d)[i]).toNat]) (a_ A) (bg n.1 p ?_));rw[mg p];refine bg n.1 h2 (bg M.1 y (aZ (x:=AC[(bv B (aE d)[i]).toNat]) (a_ y) (aa ?_)));rw[ak T,e2,Tq (by simp)];refine⟨_,_,rfl,by grind,by grind,λs hs=>?_⟩;rw[i_,a_ T]at hs;have F:s∈aE d:=by grind
   have Dg:=H.nW.nW s F;by_cases k:bv B s=bv B (aE d)[i];.have he:=(H.eqv s _ F a).1 k;rw[k,ac_ A,ac_ y];refine⟨?_,by rw[he.nil]⟩;congr 1;refine ab_ λc hc=>?_;have O:=n_.1 hc;exact((H.eqv _ _ (bZ h s F c O) (bZ h _ a c O)).2 (he.step hc)).symm
   .have Y:(bv B (aE d)[i]).toNat≠(bv B s).toNat:=λe=>k (by omega);rw[Z_ Y,Z_ Y];grind
 .rintro s ⟨NX,AC,rfl,z,J,C⟩;rw[k_]at C;refine aJ (aa ?_);have hQ:Sb d B m NX AC:=⟨H,hm,⟨z,J⟩,C⟩;have L:=hQ.rw h;refine ao (AB (m:=m) (by simp) (by omega) (by simp)) ?_;subst z;refine ae (Wp.imp (Q:=λr=>r=((0:Int),bv B d.2.2.2.1,((c_ d.1.length).filter (dI NX)).map (λc=>d.1.getD c 0),NX,AC,NX.map (λr=>((c_ d.1.length).filter (dI NX)).map λc=>r.getD c 0),())) ?_ λr hr=>?_)
  .have hr:∀r∈NX,r.length=d.1.length:=λr hr=>L.rows r hr;have hn:NX.length<=16777216:=by omega
   generalize bv B d.2.2.2.1=st;refine aK (N:=d.1.length) (I:=λc s=>s=((c:Int),(0:Int),st,((c_ c).filter (dI NX)).map (λc=>d.1.getD c 0),NX,AC,NX.map (λr=>((c_ c).filter (dI NX)).map λc=>r.getD c 0),())) ?_ ?_ ?_;.show _=((0:Int),(0:Int),st,[],NX,AC,NX.map (λ_=>[]),());rw[bm_];rfl
   .rintro c s hc rfl;generalize hS:((c_ c).filter (dI NX)).map (λc=>d.1.getD c 0)=S1;have Bx:S1.length<=c:=by grind
    generalize hg:(λr:List Int=>((c_ c).filter (dI NX)).map λc=>r.getD c 0)=g;have ur:∀r,(g r).length<=c:=λr=>by grind
    refine aQ hc (ae (aA hc ?_));refine ae (aK (N:=NX.length) (I:=λj s=>s=((decide (c=0)||(NX.take j).any λr=>r.getD c 0 != r.getD (c - 1) 0),(j:Int),(0:Int),st,S1,NX,AC,NX.map g,())) ?_ ?_ ?_);.rw[bo_,bq_,be_,show(((c:Int)==(0:Int)))=decide (c=0)from ?_];all_goals grind
    .rintro j s l rfl;have wr:=hr _ (b_ l);refine aQ l (aA l (aZ (x:=NX[j]) (a_ l) ?_));refine ae (bq (b:=NX[j].getD c 0 != NX[j].getD (c - 1) 0) (λhf=>?_) (aa ?_))
     .have h0:0<c:=by grind
      rw[qA h0 (by omega)];refine aA (by omega) (aA (by omega) (aa ?_));grind
     .rw[ak l,OX l]
    .rintro s rfl;refine aJ (aa ?_);rw[k_];have At:(decide (c=0)||NX.any λr=>r.getD c 0 != r.getD (c - 1) 0)=dI NX c:=rfl;rw[At];have Bk:(c_ (c+1)).filter (dI NX)=(c_ c).filter (dI NX)++(if dI NX c=true then [c]else []):=by rw[J_,N_];grind
     refine au (λv=>?_) λv=>aa (aa ?_)
     .have v:dI NX c=true:=v;have rg:(λr:List Int=>((c_ (c+1)).filter (dI NX)).map λc=>r.getD c 0)=λr=>g r++[r.getD c 0]:=by grind
      have qr:((c_ (c+1)).filter (dI NX)).map (λc=>d.1.getD c 0)=S1++[d.1[c]]:=by grind
      refine ao (decide_eq_true (by grind)) ?_;refine ae (aK (N:=NX.length) (I:=λj s=>s=((j:Int),(0:Int),st,S1++[d.1[c]],NX,AC,(NX.take j).map (λr=>g r++[r.getD c 0])++(NX.drop j).map g,())) rfl ?_ ?_);.rintro j s l rfl;have wr:=hr _ (b_ l);have BT:=ur NX[j];have f:=YU (g:=g) (g':=λr=>g r++[r.getD c 0]) l;have u:j<((NX.take j).map (λr=>g r++[r.getD c 0])++(NX.drop j).map g).length:=(f_.1 f).1;refine aQ l (aA l (aZ (x:=NX[j]) (a_ l) (ao (decide_eq_true (by simp)) ?_)));refine aZ (x:=g NX[j]) f (io f (aZ (x:=g NX[j]) f (ao (by simp) (aA (by omega) (ao (decide_eq_true (by grind)) ?_)))));refine io f (aZ (x:=g NX[j]) f (ao (by simp) (aZ (x:=g NX[j]) f (aa ?_))));have el:=YV (g:=g) (g':=λr=>g r++[r.getD c 0]) l;simp only[getD_at (show c<NX[j].length by omega)]at el;rw[ak l];simp only[g_];grind
      .rintro s rfl;refine aJ (aa (aa (aa ?_)));rw[ak hc,qr,rg,k_,List.drop_length,D_,I_]
     .have v:dI NX c=false:=v;have E:(c_ (c+1)).filter (dI NX)=(c_ c).filter (dI NX):=by grind
      rw[ak hc,E,hS,hg]
   .rintro s rfl;exact aJ (aa rfl)
  subst hr;have w:=za4 (dI NX) L;refine aj (CO (d:=jA (d.1,NX,AC,bv B d.2.2.2.1,()) (dI NX)) w ?_ ?_) (aa ⟨_,rfl,⟨B,NX.length,NX,AC,hQ,rfl⟩,?_,?_⟩);.simp only[jA,o_];grind
  .simp only[jA,o_];omega
  .simp only[rL,jA,o_];grind
  .simp only[rL,o_];refine P_ (jd w _) ?_;simp only[jA,o_];omega
def vA{d:DF}(hd:WF d)(b:d.1.length<=16777216)(hn:d.2.1.length<=65536):∃c:DF×Unit,((Canon c.1/\∀w,eH w->bM c.1 (dW c.1 w)=bM d (dW d w))/\c.1.1.length<=d.1.length/\c.1.2.1.length<=d.2.1.length)/\aB tbl 240 [.d Uc d] [] bp c:=by obtain⟨⟨c,_⟩,⟨⟨B,m,NX,AC,a,rfl⟩,h1⟩,h2⟩:=NV hd b hn;exact⟨_,⟨Sc hd a,h1⟩,h2⟩
structure IT(d:DF)(B:List Int)(m:Nat)(NX:List (List Int))(AC:List Bool):Prop where
 dX:Hc d (·∈dZ d.2.1.length) B m
 len:NX.length=m/\AC.length=m
 at_:∀s,In d s->NX[(bv B s).toNat]? =some ((c_ d.1.length).map λc=>bv B (bw d s c))/\AC[(bv B s).toNat]? =some (bM d s)
section
variable {d:DF} {B:List Int} {m:Nat} {NX:List (List Int)} {AC:List Bool}
abbrev qD(d:DF)(B:List Int)(NX:List (List Int))(AC:List Bool):DF:=(d.1,NX,AC,bv B d.2.2.2.1,())
theorem IT.rw(hd:RW d)(h:IT d B m NX AC):RW (qD d B NX AC):=by
 have E:=h.dX.nW.nW _ (cj.2 hd.start);have C:∀r∈NX,∃s,In d s/\r=(c_ d.1.length).map λc=>bv B (bw d s c):=λr hr=>by obtain⟨b,H,rfl⟩:=e_.1 hr;obtain⟨s,hs,e⟩:=h.dX.nW.Cg b (by rw[<-h.len.1];omega);refine⟨s,cj.1 hs,?_⟩;have:=(h.at_ s (cj.1 hs)).1;grind
 refine⟨⟨?_,?_⟩,λr hr=>?_,⟨E.1,?_⟩,λr hr t ht=>?_⟩;.rw[h.len.1];omega
 .rw[h.len.1,h.len.2]
 .grind
 .show bv B d.2.2.2.1<(NX.length:Int);rw[h.len.1];omega
 .obtain⟨s,hs,rfl⟩:=C r hr;obtain⟨c,hc,rfl⟩:=l_.1 ht;have:=h.dX.nW.nW _ (cj.2 (pm hd hs (n_.1 hc)));refine⟨this.1,?_⟩;rw[h.len.1];omega
theorem IT.col(h:IT d B m NX AC){s:Int}(hs:In d s){c:Nat}(hc:c<d.1.length):bw (qD d B NX AC) (bv B s) c=bv B (bw d s c):=by show(NX.getD (bv B s).toNat []).getD c 0=_;simp only[v_,(h.at_ s hs).1,O_,ai_,ba_ hc,au_]
theorem IT.acc(h:IT d B m NX AC){s:Int}(hs:In d s):bM (qD d B NX AC) (bv B s)=bM d s:=by show AC.getD (bv B s).toNat false=_;rw[v_,(h.at_ s hs).2];rfl
def mj(q:DF)(c:Nat):Bool:=decide (c=0)||(aE q).any λs=>bw q s c != bw q s (c - 1)
theorem Mi(q:DF):aP q (mj q):=by
 refine⟨rfl,λb d c hc a=>?_,λc hc a=>?_⟩;.simp only[mj]at a;grind
 .simp only[mj]at a;grind
theorem IT.canon(hd:WF d)(h:IT d B m NX AC):Canon (bP (qD d B NX AC) (gD (qD d B NX AC) (mj (qD d B NX AC))))/\∀w,eH w->bM (bP (qD d B NX AC) (gD (qD d B NX AC) (mj (qD d B NX AC)))) (dW (bP (qD d B NX AC) (gD (qD d B NX AC) (mj (qD d B NX AC)))) w)=bM d (dW d w):=Fa hd (h.rw hd.rw) rfl h.dX (λs hs=>cj.2 (iM hd.rw _ s hs)) rfl (λs hs c hc=>h.col (iM hd.rw _ s hs) hc) (λs hs=>h.acc (iM hd.rw _ s hs)) (Mi _)
end
abbrev nI:Nat->Int:=λk=>(k:Int)
def QC{q:DF}(h:RW q){s:Int}(hs:In q s):∃h1:s.toNat<q.2.1.length,∀c,(hc:c<q.1.length)->∃h2:c<q.2.1[s.toNat].length,q.2.1[s.toNat][c]=bw q s c:=by obtain⟨h1,e⟩:=rN h hs;grind
def sJ{d:DF}(hd:WF d)(hk:d.1.length<=16777216)(hn:d.2.1.length<=65536):∃c:DF×Unit,(Canon c.1/\∀w,eH w->bM c.1 (dW c.1 w)=bM d (dW d w))/\aB tbl 250 [.d Uc d] [] bp c:=by
 refine KB (sh:=bp) ?_;have h:=hd.rw;obtain⟨⟨B,_⟩,⟨m,hm,O,ur⟩,hc⟩:=CX h hk (by omega);simp only at O ur;have rg:d.2.2.2.1.toNat<B.length:=by have:=h.start.1;have:=h.start.2;omega
 refine aj hc (bg h.start.1 rg ?_);rw[mg rg];refine ae (Wp.imp (Q:=λr=>∃NX AC,r=((0:Int),d.1,bv B d.2.2.2.1,NX,AC,())/\IT d B m NX AC) ?_ λr hr=>?_)
 .refine Go.Ev.wp_loop (σ:=Int×Int×List Int×Int×List (List Int)×List Bool×Unit) (λs=>∃(b:Nat) (NX:List (List Int)) (AC:List Bool),s=((b:Int),(0:Int),d.1,bv B d.2.2.2.1,NX,AC,())/\b<=m/\NX.length=b/\AC.length=b/\∀s,In d s->bv B s<(b:Int)->NX[(bv B s).toNat]? =some ((c_ d.1.length).map λc=>bv B (bw d s c))/\AC[(bv B s).toNat]? =some (bM d s)) (λs=>m - s.1.toNat) ⟨0,[],[],rfl,aG_ _,rfl,rfl,λs hs hb=>by have:=(O.nW.nW s (cj.2 hs)).1;omega⟩ ?_;rintro s ⟨b,NX,AC,rfl,DP,E,M,At⟩;dsimp only;refine ae (Wp.imp (Q:=λr=>∃k:Nat,r=((k:Int),(0:Int),d.1,bv B d.2.2.2.1,NX,AC,())/\k<=B.length/\(∀h:k<B.length,B[k]=(b:Int))/\(k=B.length->∀x∈B,x≠(b:Int))) ?_ λr hr=>?_)
  .refine Go.Ev.wp_loop (λs=>∃k:Nat,s=((k:Int),(0:Int),d.1,bv B d.2.2.2.1,NX,AC,())/\k<=B.length/\∀j (h:j<B.length),j<k->B[j]≠(b:Int)) (λs=>B.length - s.1.toNat) ⟨0,rfl,by simp,λj _ h=>absurd h (by simp)⟩ ?_;rintro s ⟨k,rfl,h1,h2⟩;dsimp only;by_cases hk:k<B.length
   .refine ae (bh (b:=decide (B[k]≠(b:Int))) (λ_=>aA hk (aa ?_)) ?_);.grind
    .refine au (λhc=>aa ?_) λhc=>aa ⟨k,rfl,h1,λ_=>by grind,λe=>by omega⟩;rw[ak hk];grind
   .rw[show decide ((k:Int)<(B.length:Int))=false from decide_eq_false (by omega)];refine ae (aa (aa ⟨k,rfl,h1,λh=>absurd h hk,λ_ x hx=>?_⟩));obtain⟨j,g,rfl⟩:=e_.1 hx;grind
  obtain⟨k,rfl,DS,P,el⟩:=hr;simp only;by_cases Dg:k<B.length
  .have f:In d (k:Int):=⟨by simp,by omega⟩;have Bx:bv B (k:Int)=(b:Int):=by rw[<-P Dg,<-mg (B:=B) (s:=(k:Int)) (by omega)];rfl
   have DQ:=O.nW.nW _ (cj.2 f);obtain⟨h1,e⟩:=rN h f;obtain⟨h2,e2⟩:=IX h f;rw[show(((k:Int))==(B.length:Int))=false from by grind];refine au (λh=>by grind) λ_=>bg f.1 h1 ?_;rw[e];refine ae (aK (N:=d.1.length) (I:=λc s=>s=((c:Int),(0:Int),d.1,bv B d.2.2.2.1,NX,AC,(c_ c).map (λc=>bv B (bw d (k:Int) c)),())) rfl ?_ ?_)
   .rintro c s hc rfl;have u:=pm h f hc;have Y:(bw d (k:Int) c).toNat<B.length:=by have:=u.1;have:=u.2;omega
    have p:((c_ d.1.length).map (bw d (k:Int))).length=d.1.length:=by simp
    dsimp only;rw[p];refine aQ hc (io (x:=bw d (k:Int) c) (by grind) (bg u.1 Y (ao (decide_eq_true (by grind)) (aa ?_))));rw[ak hc,mg Y,J_,j_];rfl
   .rintro s rfl;dsimp only;have p:((c_ d.1.length).map (bw d (k:Int))).length=d.1.length:=by simp
    rw[p];refine aJ (aa (ao (decide_eq_true (by grind)) (bg f.1 h2 (ao (decide_eq_true (by grind)) (aa ?_)))));rw[e2];have hw:H_ .i64 ((b:Int)+1)=((b+1:Nat):Int):=ak (n:=b+1) (by simp) (by omega);refine⟨⟨b+1,_,_,by rw[hw],by omega,by grind,by grind,λs hs GS=>?_⟩,?_⟩
    .have Fr:=(O.nW.nW s (cj.2 hs)).1;by_cases J:bv B s=(b:Int);.have he:=(O.eqv s (k:Int) (cj.2 hs) (cj.2 f)).1 (J.trans Bx.symm);dsimp only;rw[J,g_,K_ (by omega),K_ (by omega),E,M,aR_];refine⟨?_,by rw[he.nil];rfl⟩;show some _=some _;congr 1;refine ab_ λc hc=>?_;have gc:=n_.1 hc;exact((O.eqv _ _ (cj.2 (pm h hs gc)) (cj.2 (pm h f gc))).2 (he.step hc)).symm
     grind
    omega
  .have CD:k=B.length:=by omega
   rw[show(((k:Int))==(B.length:Int))=true from by grind];refine au (λ_=>aa ⟨NX,AC,rfl,?_⟩) λh=>by grind
   have Bk:b=m:=by
    refine E_ λFk=>?_;obtain⟨s,hs,e⟩:=O.nW.Cg b (by omega);have hs:=cj.1 hs;have qr:s.toNat<B.length:=by omega
    exact el CD _ (b_ qr) ((mg qr).trans e)
   subst Bk;exact⟨O,⟨E,M⟩,λs hs=>At s hs (O.nW.nW s (cj.2 hs)).2⟩
 obtain⟨NX,AC,rfl,hQ⟩:=hr;have l:=hQ.canon hd;have L:=hQ.rw h;have DA:(qD d B NX AC).2.1.length<=65536:=by show NX.length<=_;rw[hQ.len.1];omega
 generalize Fm:qD d B NX AC=q at l L DA;have e1:d.1=q.1:=by grind
 have e2:NX=q.2.1:=by grind
 have e3:AC=q.2.2.1:=by grind
 have e4:bv B d.2.2.2.1=q.2.2.2.1:=by grind
 rw[e4,e1,e2,e3];rw[e1]at hk;have hl:∀s∈aE q,In q s:=iM L _;have CT:(aE q).length<=q.2.1.length:=jd L _;refine aj (IB rfl (d:=q) L (by omega) hk) ?_;refine ae (Wp.imp (Q:=λr=>r=((0:Int),q.1,q.2.1,q.2.2.1,q.2.2.2.1,(gD q (mj q)).map nI,())) ?_ λr hr=>?_)
 .have CT:(aE q).length<=q.2.1.length:=jd L _;refine aK (N:=q.1.length) (I:=λc s=>s=((c:Int),(0:Int),q.1,q.2.1,q.2.2.1,q.2.2.2.1,((c_ c).filter (mj q)).map nI,())) rfl ?_ ?_
  .rintro c s hc rfl;generalize hS:((c_ c).filter (mj q)).map nI=S1;have DM:S1.length<=c:=by grind
   refine aQ hc (ae ?_);refine ae (aK (N:=(aE q).length) (I:=λj s=>s=((decide (c=0)||((aE q).take j).any λs=>bw q s c != bw q s (c - 1)),(j:Int),(0:Int),q.1,q.2.1,q.2.2.1,q.2.2.2.1,S1,())) ?_ ?_ ?_);.rw[bo_,bq_,be_,show(((c:Int)==(0:Int)))=decide (c=0)from ?_];all_goals grind
   .rintro j s g rfl;have a:=(iM L _) _ (b_ g);obtain⟨h1,C⟩:=QC L a;refine aQ g (aA g ?_);refine ae (bq (b:=decide (0<c)&&(bw q (aE q)[j] c != bw q (aE q)[j] (c - 1))) (λhf=>ae (bh (b:=bw q (aE q)[j] c != bw q (aE q)[j] (c - 1)) (λh0=>?_) (aa ?_))) (aa ?_))
    .have h0:0<c:=by grind
     obtain⟨g1,e1⟩:=C c hc;obtain⟨g2,e2⟩:=C (c - 1) (by omega);rw[qA h0 (by omega)];refine bg a.1 h1 (aA g1 (bg a.1 h1 (aA g2 (aa ?_))));grind
    .simp
    .rw[ak g,i_,a_ g,bl_];grind
   .rintro s rfl;refine aJ (aa ?_);rw[k_];have BT:(decide (c=0)||(aE q).any λs=>bw q s c != bw q s (c - 1))=mj q c:=rfl;rw[BT];have T:(c_ (c+1)).filter (mj q)=(c_ c).filter (mj q)++(if mj q c=true then [c]else []):=by rw[J_,N_];grind
    refine au (λv=>ao (decide_eq_true (by grind)) (aa (aa ?_))) λv=>aa (aa ?_);.have v:mj q c=true:=v;rw[ak hc,T,if_pos v,j_,hS];rfl
    .have v:mj q c=false:=v;rw[ak hc,T,v,if_neg (by simp),I_,hS]
  .rintro s rfl;exact aJ (aa rfl)
 subst hr;simp only;generalize hcs:gD q (mj q)=cs at l;have Y:cs.length<=q.1.length:=by grind
 have ph:∀c∈cs,c<q.1.length:=λc hc=>by grind
 refine ao (by grind) ?_;refine ae (aK (N:=(aE q).length) (I:=λi s=>∃A:List Int,s=((i:Int),(0:Int),q.1,q.2.1,q.2.2.1,q.2.2.2.1,cs.map nI,A,())/\A.length=q.2.1.length/\∀x∈(aE q).take i,bv A x=(pos (aE q) x:Int)) ⟨r_ q.2.1.length 0,rfl,by simp,by simp⟩ ?_ ?_)
 .rintro i s D ⟨A,rfl,hA,hb⟩;have a:=hl _ (b_ D);have U:((aE q)[i]).toNat<A.length:=by have:=a.1;have:=a.2;omega
  refine aQ D (aA D (bg a.1 U (aZ (x:=A[((aE q)[i]).toNat]) (a_ U) (aa ?_))));rw[ak D];refine⟨_,rfl,by grind,λx hx=>?_⟩;rw[i_,a_ D]at hx;have DB:0<=x:=by
   rcases h_.1 hx with h1|h1;.exact(hl x (B_ h1)).1
   .simp at h1;subst h1;exact a.1
  rw[sZ a.1 DB U];split;.rename_i e;rw[e,Wx yQ D]
  grind
 .rintro s ⟨A,rfl,hA,hb⟩;rw[k_]at hb;refine aJ (aa ?_);have p:(cs.map nI).length=cs.length:=by simp
  have y:∀j (g:j<cs.length),(cs.map nI)[j]? =some ((cs[j]:Nat):Int):=λj g=>by grind
  refine ae (aK (N:=cs.length) (I:=λj s=>s=((j:Int),(0:Int),q.1,q.2.1,q.2.2.1,q.2.2.2.1,cs.map nI,A,(0:Int),(cs.take j).map (λc=>q.1.getD c 0),())) rfl ?_ ?_);.rintro j s g rfl;have F:=ph _ (b_ g);simp only[p];refine aQ g (io (y j g) (aZ (x:=((cs[j]:Nat):Int)) (y j g) (aA F (ao (decide_eq_true (by simp;omega)) (aa ?_)))));rw[ak g,i_,a_ g,j_,<-getD_at (z:=0) F];rfl
  .rintro s rfl;simp only[p];refine aJ (aa ?_);rw[k_];generalize wr:cs.map (λc=>q.1.getD c 0)=ST;refine ae (aK (N:=(aE q).length) (I:=λi s=>s=((i:Int),(0:Int),q.1,q.2.1,q.2.2.1,q.2.2.2.1,cs.map nI,A,(0:Int),ST,((aE q).take i).map (λb=>cs.map λc=>(pos (aE q) (bw q b c):Int)),((aE q).take i).map (bM q),())) rfl ?_ ?_)
   .rintro i s D rfl;have a:=hl _ (b_ D);obtain⟨h1,C⟩:=QC L a;obtain⟨h2,ea⟩:=IX L a;generalize E:((aE q).take i).map (λb=>cs.map λc=>(pos (aE q) (bw q b c):Int))=NO;generalize M:((aE q).take i).map (bM q)=AO;have DH:NO.length=i:=by rw[<-E];simp;omega
    have DE:AO.length=i:=by grind
    refine aQ D (aA D ?_);refine ae (aK (N:=cs.length) (I:=λj s=>s=((j:Int),(0:Int),q.1,q.2.1,q.2.2.1,q.2.2.2.1,cs.map nI,A,(0:Int),ST,NO,AO,(cs.take j).map (λc=>(pos (aE q) (bw q (aE q)[i] c):Int)),())) rfl ?_ ?_)
    .rintro j s g rfl;have F:=ph _ (b_ g);obtain⟨g1,eg⟩:=C _ F;have R:=bZ L _ (b_ D) _ F;have u:=hl _ R;have H:(bw q (aE q)[i] cs[j]).toNat<A.length:=by have:=u.1;have:=u.2;omega
     simp only[p];refine aQ g (io (y j g) (aZ (x:=((cs[j]:Nat):Int)) (y j g) (bg a.1 h1 (aA g1 ?_))));rw[eg];refine bg u.1 H (aZ (x:=A[(bw q (aE q)[i] cs[j]).toNat]) (a_ H) (ao (decide_eq_true (by simp;omega)) (aa ?_)));rw[ak g,mg H,hb _ R,i_,a_ g,j_];rfl
    .rintro s rfl;simp only[p];refine aJ (aa (ao (decide_eq_true (by simp;omega)) ?_));simp only;refine bg a.1 h2 (ao (decide_eq_true (by simp;omega)) (aa ?_));rw[ak D,ea,<-E,<-M,k_];simp only[i_,a_ D,j_,U_,x_,D_]
   .rintro s rfl;refine aJ (aa (aa ⟨_,rfl,?_⟩));rw[k_,<-wr];exact l
noncomputable abbrev dw(a b:DF)(i:Nat):SR:=bD (dc a b) (fp a b) (cr a b) i
noncomputable abbrev lH(a b:DF)(sp:List PR->PR->Bool)(i:Nat):SR⊕SR:=gJ (dc a b) (fp a b) (cr a b) sp i
noncomputable abbrev dv(a b:DF):SR:=dw a b (a.2.1.length*b.2.1.length)
def K8{a b:DF}(c:Good a)(d:Good b):(dv a b).1.length<=a.2.1.length*b.2.1.length:=uK c d (cx _)
noncomputable def AQ(a b:DF)(f:Bool)(S:SR):Bool×List Int×List PR×List Int×List Int×List (List Int)×Unit:=(f,cr a b,S.1,tG S.2.1,U3 S.2.1,cM S.2.2,())
def Nb{a b:DF}(i:Nat):(dw a b i).2.2.length<=i:=by rw[mU i i (R_ _),o_,an_];omega
def Bl{a b:DF}:∀(l:List Int) (x:PR),l.foldl (dc a b) x=(l.foldl (bJ a) x.1,l.foldl (bJ b) x.2.1,())
 |[],_=>rfl
 |v::l,x=>by rw[X_,Bl l];rfl
def qO:∀l:List Int,∃c,Asc c/\∀x,x∈c↔x∈l
 |[]=>⟨[],by simp[Asc],by simp⟩
 |v::l=>by
  obtain⟨c,hc,d⟩:=qO l;refine⟨c.filter (λy=>decide (y<v))++([v]++c.filter λy=>decide (v<y)),?_,λx=>?_⟩;.refine m8 (List.Pairwise.sublist (aI_ ..) hc) (m8 (by simp[Asc]) (List.Pairwise.sublist (aI_ ..) hc) λx a y b=>?_) λx a y b=>?_;all_goals grind
  grind
def EC(a b:DF):Asc (cr a b)/\∀x,x∈cr a b↔x∈a.1\/x∈b.1:=by obtain⟨c,hc,d⟩:=qO (a.1++b.1);unfold cr;rw[mz hc d];grind
def qP{xs:List Int}(hs:ce xs){v c:Int}(b:0<=c)(d:c<=v)(a:∀x∈xs,x<=v->x<=c):dy xs v=dy xs c:=by obtain⟨h1,h2,f⟩:=j9 hs (show 0<=v by omega);symm;exact j8 ⟨h1,a _ (b_ h1) h2,λj g e=>by grind⟩
def VL{a b:DF}(h:Good a)(p:Good b){v:Int}(r:0<=v):∃c∈cr a b,dy a.1 v=dy a.1 c/\dy b.1 v=dy b.1 c:=by
 obtain⟨n,j⟩:=EC a b;have key:∀l:List Int,(∃x∈l,x<=v)->∃c∈l,c<=v/\∀x∈l,x<=v->x<=c:=by intro l;induction l with|nil=>simp|cons y l s=>by_cases hl:∃x∈l,x<=v;all_goals grind
 obtain⟨c,hc,g,f⟩:=key _ ⟨0,((j 0).2 (.inl (by have:=h.cu.2.1 h.cu.1;grind))),r⟩;have e:=(jP h p c hc).1;exact⟨c,hc,qP h.cu e g λx k d=>f x ((j x).2 (.inl k)) d,qP p.cu e g λx k d=>f x ((j x).2 (.inr k)) d⟩
abbrev P4:Type:=Int×(Int×(Int×(Int×Unit)))
def YW(x:PR)(t:Int×Int):P4:=(x.1,x.2.1,t.1,t.2,())
def P1(T:List (Nat×Int)):List (Int×Int):=(-1,0)::T.map λt=>((t.1:Int),t.2)
def qt(L:List PR)(T:List (Nat×Int)):List P4:=List.zipWith YW L (P1 T)
def yU{L:List PR}{T:List (Nat×Int)}(h:L.length=T.length+1):(qt L T).length=L.length:=by simp[qt,P1,h]
def Fc{L:List PR}{T:List (Nat×Int)}(h:L.length=T.length+1){k:Nat}{x:PR}(b:L[k]? =some x):∃t,(P1 T)[k]? =some t/\(qt L T)[k]? =some (YW x t):=by
 have c:=(f_.1 b).1;have a:k<(P1 T).length:=by simp[P1];omega
 refine⟨(P1 T)[k],a_ a,?_⟩;unfold qt;grind
def WW{L:List PR}{T:List (Nat×Int)}(h:L.length=T.length+1)(y:PR)(i:Nat)(c:Int):qt (L++[y]) (T++[(i,c)])=qt L T++[YW y ((i:Int),c)]:=by unfold qt P1;rw[j_,<-T_,List.zipWith_append (by grind)];rfl
abbrev vS(a:Nat):List PR->PR->Bool:=λL _=>decide (a<=L.length)
noncomputable def Kb(a b:DF)(c:Nat):List P4×List (List Int)×List Int×Bool×Unit:=
 match lH a b (vS c) (a.2.1.length*b.2.1.length)with
 | .inl S=>(qt S.1 S.2.1,cM S.2.2,cr a b,true,())
 | .inr _=>([],[],[],false,())
def vD{a b:DF}(p:Good a)(e:Good b)(c:Nat):aB tbl 251 [.d Uc a,.d Uc b,.d tI (c:Int)] [] pI (Kb a b c):=by
 refine cm ?_;have qr:=dz p;have rg:=dz e;have hB:=CE p e;have Y:=tJ p e;refine ao (decide_eq_true (by omega)) (ao (decide_eq_true (by omega)) (aj (sL (a.1++b.1) (by grind)) ?_));simp only[show pU (a.1++b.1)=cr a b from rfl];refine ae (Go.Ev.wp_loop (σ:=Int×List P4×List (List Int)×Unit) (λs=>∃(i:Nat) (S:SR),s=((i:Int),qt S.1 S.2.1,cM S.2.2,())/\lH a b (vS c) i= .inl S/\i<=S.1.length) (λs=>a.2.1.length*b.2.1.length - s.1.toNat) ⟨0,([fp a b],[],[]),rfl,rfl,by simp⟩ ?_);rintro s ⟨i,S,rfl,U,ph⟩;have gc:S=dw a b i:=((eG i).1 S U).1;subst gc;have n:UJ a b (dw a b i).1 (dw a b i).2.1:=cx i;have C:=uK p e n;have u:=Nb (a:=a) (b:=b) i;have M:=yU n.len;refine au (λh=>?_) λh=>?_
 .have B:i<(dw a b i).1.length:=by grind
  have F:=a_ B;refine ae (Wp.imp (Q:=λr=>match ig (hH (vS c) (dc a b) (dw a b i).1[i] i) ((dw a b i).1,(dw a b i).2.1,[]) (cr a b)with
   | .inl g=>r= .inr (qt g.1 g.2.1,cM (dw a b i).2.2,g.2.2.map (fun(k:Nat)=>(k:Int)),())/\UJ a b g.1 g.2.1/\g.2.2.length=(cr a b).length
   | .inr _=>r= .inl (false,())) ?_ λr hr=>?_)
  .have h:=n;clear n C U u ph M;generalize(dw a b i).1[i]=x at F⊢;clear B;generalize(dw a b i).2.2=R;generalize(dw a b i).2.1=T at h⊢;generalize(dw a b i).1=L at h F⊢;have Y:=tJ p e;have hB:=CE p e;have qr:=dz p;have rg:=dz e;refine zi (xs:=cr a b) (f:=hH (vS c) (dc a b) x i) (s0:=(L,T,[])) (Inv:=λj st=>UJ a b st.1 st.2.1/\L<+:st.1/\st.2.2.length=j) (enc:=λj st=>((j:Int),qt st.1 st.2.1,cM R,st.2.2.map (fun(k:Nat)=>(k:Int)),())) (oE:=λst=>.inr (qt st.1 st.2.1,cM R,st.2.2.map (fun(k:Nat)=>(k:Int)),())) (oB:=λr=>.inl (false,())) ⟨h,aD_ _,rfl⟩ (λj D st N=>?_) (λst N=>?_) (λr hr hs=>?_)
   .obtain⟨v,O,I⟩:=st;obtain⟨w,P,g3⟩:=N;simp only at w P g3;subst g3;have A:=rF P F;have B:=(f_.1 A).1;have l:=J0 p e w A;have C:=uK p e w;have u:=yU w.len;have hv:=(jP p e _ (b_ D)).1;obtain⟨t,_,ht⟩:=Fc w.len A;obtain⟨p1,p2,p3,p4⟩:=qy p l.1.1 l.1.2 hv;obtain⟨r1,r2,r3,r4⟩:=qy e l.2.1 l.2.2 hv;dsimp only;refine aQ D (aA D (aA (by omega) (aZ (x:=((x.1,x.2.1,t.1,t.2,()):P4)) ht ?_)));refine bg l.1.1 p1 (aj (sP a.1 _ p.cu (by omega) hv) (aA p2 ?_));refine aA (by omega) (aZ (x:=((x.1,x.2.1,t.1,t.2,()):P4)) ht ?_);refine bg l.2.1 r1 (aj (sP b.1 _ e.cu (by omega) hv) (aA r2 ?_));dsimp only;rw[p3,r3];generalize H:dc a b x (cr a b)[I.length]=y;have e1:bJ a x.1 (cr a b)[I.length]=y.1:=by rw[<-H];rfl
    have e2:bJ b x.2.1 (cr a b)[I.length]=y.2.1:=by rw[<-H];rfl
    rw[e1,e2];refine ae (Wp.imp (Q:=λr=>r=((pos v y:Int),qt v O,cM R,I.map (fun(k:Nat)=>(k:Int)),())) ?_ λr hr=>?_)
    .have hl:=w.len;have e:v.length<=16777216:=by omega
     generalize I.map (fun(k:Nat)=>(k:Int))=Bk;generalize cM R=nx;generalize v=L at hl e u⊢;generalize O=T at hl u⊢;have u:=yU hl;refine Go.Ev.wp_loop (λs=>∃k:Nat,s=((k:Int),qt L T,nx,Bk,())/\k<=L.length/\∀j z,j<k->L[j]? =some z->z≠y) (λs=>L.length - s.1.toNat) ⟨0,rfl,by simp,λj z h=>absurd h (by simp)⟩ ?_;rintro s ⟨k,rfl,h1,h2⟩;dsimp only;by_cases Y:k<L.length
     .have F:=a_ Y;obtain⟨t,_,ht⟩:=Fc hl F;have hr:k<(qt L T).length:=by omega
      refine ae (bh (b:=decide (L[k]≠y)) (λ_=>aA hr (aZ (x:=YW L[k] t) (by grind) (ae (bq (b:=decide (L[k].2.1≠y.2.1)) (λ_=>aA hr (aZ (x:=YW L[k] t) (by grind) (aa ?_))) (aa ?_))))) ?_);.show(L[k].2.1 != y.2.1)=_;grind
      .show((L[k].1 != y.1)||_)=_;grind
      .refine au (λhc=>aa ?_) λhc=>aa ?_;.rw[ak Y];grind
       .rw[xc h1 h2 λz hz=>by grind]
     .have ur:decide ((k:Int)<((qt L T).length:Int))=false:=decide_eq_false (by omega);rw[ur];refine ae (aa (aa ?_));grind
    subst hr;by_cases E:y∈v
    .rw[yX H E];have wr:((pos v y:Int)==((qt v O).length:Int))=false:=by grind
     rw[wr];refine ae (aa (ao (decide_eq_true (by grind)) (aa ?_)));refine⟨⟨w,P,by simp⟩,?_⟩;rw[ak D];simp
    .have J:=CC E;refine ae (au (λ_=>au (λhc=>aa ?_) λhc=>?_) λh=>by grind)
     .have hc:vS c v y=true:=by grind
      rw[uN H E hc];exact aa rfl
     .have hc:vS c v y=false:=by grind
      rw[yY H E hc];have n:UJ a b (v++[y]) (O++[(i,(cr a b)[I.length])]):=by rw[<-H]at E⊢;exact w.add A (b_ D) E
      refine ao (decide_eq_true (by grind)) (aa (ao (decide_eq_true (by grind)) (aa ?_)));refine⟨⟨n,P.trans (af_ _ _),by simp⟩,?_⟩;rw[ak D,WW w.len,J];simp[YW]
   .exact aJ (aa rfl)
   .rw[yc]at hr;grind
  have d:lH a b (vS c) (i+1)=match ig (hH (vS c) (dc a b) (dw a b i).1[i] i) ((dw a b i).1,(dw a b i).2.1,[]) (cr a b)with
   | .inl r=>.inl (r.1,r.2.1,(dw a b i).2.2++[r.2.2])
   | .inr r=>.inr (r.1,r.2,(dw a b i).2.2):=by
   have el:gJ (dc a b) (fp a b) (cr a b) (vS c) i= .inl (dw a b i):=U
   simp only[lH,gJ,el,F]
   grind
  cases hf:ig (hH (vS c) (dc a b) (dw a b i).1[i] i) ((dw a b i).1,(dw a b i).2.1,[]) (cr a b)with
  |inl g=>
   rw[hf]at hr d;obtain⟨rfl,h2,h3⟩:=hr;refine ao (decide_eq_true (by simp[cM];omega)) (aa ?_);have hp:=(iu (f:=dc a b) (s0:=fp a b) (ls:=cr a b) i).1;rw[<-(((eG (i+1)).1 _ d).1)]at hp;have At:(dw a b i).1.length<=g.1.length:=hp.length_le;refine⟨⟨i+1,(g.1,g.2.1,(dw a b i).2.2++[g.2.2]),?_,d,P_ B At⟩,?_⟩;.simp only[cM,j_,x_,D_];rw[ak B]
   .rw[ak B];omega
  |inr g=>rw[hf]at hr d;subst hr;refine aa (aa ?_);have he:lH a b (vS c) (a.2.1.length*b.2.1.length)= .inr (g.1,g.2,(dw a b i).2.2):=qS (by omega) d;rw[show Kb a b c=([],[],[],false,())from by unfold Kb;grind]
 .have B:(dw a b i).1.length<=i:=by grind
  refine aa (aa ?_);have he:lH a b (vS c) (a.2.1.length*b.2.1.length)= .inl (dw a b i):=uA (by omega) U B;rw[show Kb a b c=(qt (dw a b i).1 (dw a b i).2.1,cM (dw a b i).2.2,cr a b,true,())from by unfold Kb;grind]
section
variable {κ:Type} [DecidableEq κ]
theorem MW{L:List κ}{x:κ}(h:x∈L):L[pos L x]? =some x:=by grind
variable (f:κ->Int->κ) (s0:κ) (ls:List Int) (acc:κ->Bool) (L:List κ)
def TV:DF:=(ls,L.map λx=>ls.map λc=>(pos L (f x c):Int),L.map acc,0,())
structure UF:Prop where
 st:ce ls
 cl:∀x∈L,∀c∈ls,f x c∈L
 hd:L[0]? =some s0
 same:∀x v (h:dy ls v<ls.length),0<=v->v<=4294967295->f x v=f x ls[dy ls v]
variable {f s0 ls acc L}
theorem zbu(h:UF f s0 ls L):WF (TV f ls acc L):=by
 have b:=(f_.1 h.hd).1;have hn:(TV f ls acc L).2.1.length=L.length:=by simp[TV]
 refine⟨h.st,⟨by omega,by simp[TV]⟩,λr hr=>?_,⟨aW_ _,by rw[hn];show(0:Int)<_;omega⟩,λr hr t ht=>?_⟩;.obtain⟨x,_,rfl⟩:=l_.1 hr;simp[TV]
 .obtain⟨x,a,rfl⟩:=l_.1 hr;obtain⟨c,hc,rfl⟩:=l_.1 ht;have:=w9.1 (h.cl x a c hc);omega
theorem Yw(h:UF f s0 ls L){x:κ}(b:x∈L){v:Int}(a:0<=v/\v<=4294967295):bJ (TV f ls acc L) (pos L x:Int) v=(pos L (f x v):Int)/\f x v∈L:=by obtain⟨h1,h2,d⟩:=j9 h.st a.1;have e:=h.same x v h1 a.1 a.2;refine⟨?_,by rw[e];exact h.cl x b _ (b_ h1)⟩;rw[kG];have c:L[pos L x]? =some x:=MW b;unfold bw TV;grind
theorem Vs(h:UF f s0 ls L):∀(w:List Int) (x:κ),x∈L->eH w->w.foldl (bJ (TV f ls acc L)) (pos L x:Int)=(pos L (w.foldl f x):Int)/\w.foldl f x∈L
 |[],x,a,_=>⟨rfl,a⟩
 |v::w,x,a,b=>by obtain⟨h1,h2⟩:=Yw (acc:=acc) h a (b v (w_ ..));rw[X_,X_,h1];exact Vs h w _ h2 λu c=>b u (m_ _ c)
theorem Yv(h:UF f s0 ls L){w:List Int}(b:eH w):bM (TV f ls acc L) (dW (TV f ls acc L) w)=acc (w.foldl f s0):=by have a:pos L s0=0:=(xc (aG_ _) (λj z d=>by omega) (λz c=>by rw[h.hd]at c;grind)).symm;obtain⟨h1,h2⟩:=Vs h w _ (Q_ h.hd) b;rw[a]at h1;have e0:dW (TV f ls acc L) w=(pos L (w.foldl f s0):Int):=h1;have e:L[pos L (w.foldl f s0)]? =some (w.foldl f s0):=MW h2;show(L.map acc).getD _ false=_;grind
end
def Qp:∀{c l:List Int},Asc c->(∀x,x∈c->x∈l)->c.length<=l.length:=fun{c l} hc a=>gR c l (C_.2 (List.Pairwise.imp (λh=>by omega) hc)) a
structure uW(g:G):Prop where
 SP:FM 0 g
 je:∀q∈g.sp,0<=q.1/\q.2<=4294967295
 le:∀q∈g.sp,q.1<=q.2
 n64:g.sp.length<=64
def JF{r:Rx}(a:eW r=true)(hs:sz r<=64):uW (di r 0):=⟨jm r 0,zb2 r a 0,zb3 r a 0,by rw[(fU r a 0).1];exact P_ (Ov r) hs⟩
noncomputable def ct(g:G):List Int:=pU (nX g.sp)
def yn(g:G):Asc (ct g)/\∀x,x∈ct g↔x∈nX g.sp:=by obtain⟨c,hc,a⟩:=qO (nX g.sp);unfold ct;rw[mz hc a];grind
def tH{g:G}(h:uW g):(ct g).length<=129:=by obtain⟨h1,h2⟩:=yn g;have:=Qp h1 λx a=>(h2 x).1 a;have:=xz g.sp;have:=h.n64;omega
def Q6{g:G}(h:uW g):∀v∈ct g,0<=v/\v<=4294967295:=λv a=>Yh h.je h.le v ((yn g).2 v |>.1 a)
def Bq{g:G}(h:uW g):ce (ct g):=by
 obtain⟨a,f⟩:=yn g;have c:(0:Int)∈ct g:=(f 0).2 (w_ ..);refine⟨(ad_ c),λh'=>?_,λi h'=>wh a (by simp) h',λv j=>(Q6 h v j).2⟩;obtain⟨i,d,e⟩:=e_.1 c;have h1:=(Q6 h _ (b_ h')).1;rcases y_ i with rfl|b;.omega
 .have:=wh a b d;omega
def SK{g:G}(h:uW g)(x:Option Nat)(v:Int)(hc:dy (ct g) v<(ct g).length)(c:0<=v)(e:v<=4294967295):da g x v=da g x (ct g)[dy (ct g) v]:=by
 obtain⟨a,d⟩:=yn g;obtain⟨h1,h2,l⟩:=j9 (Bq h) c;refine TL h.je h2 e (λy f k=>?_) x;obtain⟨j,p,rfl⟩:=e_.1 ((d y).2 f);rcases bs_ (dy (ct g) v) j with hl|b;.grind
 .rcases ag_ b with hl|n;.have:=wh a hl h1;omega
  grind
abbrev Km(a:Nat):List (Option Nat)->Option Nat->Bool:=λL _=>decide (a<=L.length)
noncomputable abbrev bK(g:G)(i:Nat):=bD (da g) none (ct g) i
noncomputable abbrev kh(g:G)(i:Nat):=gJ (da g) none (ct g) (Km 4096) i
def Tn{m:Nat}{L:List (Option Nat)}(h:Quiet (Km (m+1)) L):L.length<=m+1:=by apply E_;intro hn;have h1:=h m _ (a_ (by omega));grind
def AM{L:List (Option Nat)}(h:Quiet (Km 4096) L):L.length<=4096:=Tn (m:=4095) h
def ZG:∃n:Nat,n=4097:=⟨_,rfl⟩
noncomputable def NL:Nat:=S_ ZG
def Qi:NL=4097:=ax_ ZG
noncomputable def sS(g:G):List (Option Nat):=(bK g NL).1
noncomputable def dN(g:G):DF:=TV (da g) (ct g) (iJ g) (sS g)
def K7{g:G}{S}(h:kh g NL= .inl S):S=bK g NL/\(sS g).length<=4096:=by obtain⟨h1,h2⟩:=(eG NL).1 S h;exact⟨h1,by have:=AM h2;rw[h1]at this;exact this⟩
def Qm{g:G}(hg:uW g)(h:(sS g).length<=4096):UF (da g) none (ct g) (sS g):=⟨Bq hg,λx b c hc=>lI NL x (by rw[s_ (by show(sS g).length<=NL;rw[Qi];omega)];exact b) c hc,(cx NL).head,λx v hc a h1=>SK hg x v hc a h1⟩
def zbp{g:G}(hg:uW g)(h:(sS g).length<=4096):WF (dN g):=zbu (Qm hg h)
def Yp{g:G}(hg:uW g)(h:(sS g).length<=4096){w:List Int}(a:eH w):bM (dN g) (dW (dN g) w)=JW g w:=by rw[<-UO hg.SP w];exact Yv (Qm hg h) a
def QF{g:G}(h:(sS g).length<=4096):(dN g).2.1=cM (bK g NL).2.2:=by rw[mU NL NL (R_ _),s_ (by show(sS g).length<=NL;rw[Qi];omega)];unfold cM;rw[br_];refine ab_ λx _=>?_;show _=((ct g).map λc=>pos (sS g) (da g x c)).map (fun(k:Nat)=>(k:Int));simp
abbrev NK:Type:=Bool×(Int×Unit)
def dL:Option Nat->NK
 |none=>(true,0,())
 |some b=>(false,(b:Int),())
def Vh{x y:Option Nat}:dL x=dL y↔x=y:=by
 constructor
 .intro h;cases x<;>cases y;.rfl
  .cases h
  .cases h
  .rename_i a b;have e:(a:Int)=(b:Int):=by simpa[dL]using h
   grind
 grind
def QL(x y:Option Nat):gI Uy (dL x) (dL y)=decide (x=y):=by
 have h:∀a b:NK,gI Uy a b=decide (a=b):=by rintro⟨c,d,_⟩ ⟨e,f,_⟩;show((c==e)&&((d==f)&&true))=_;grind
 rw[h];exact decide_eq_decide.2 Vh
def Mm:Nat->List (Option Nat)->List (NK×Int)
 |_,[]=>[]
 |k,x::l=>(dL x,(k:Int))::Mm (k+1) l
def Q3(y:Option Nat):∀(L:List (Option Nat)) (k:Nat),dA Uy tI (Mm k L) (dL y)=if y∈L then some (((k+pos L y:Nat):Int))else none
 |[],k=>by simp[Mm,dA]
 |x::L,k=>by have a:=Q3 y L (k+1);simp only[Mm,dA];rw[QL y x,a];grind
def Q5(y:Option Nat):∀(L:List (Option Nat)) (k:Nat),y∉L->fh Uy tI (Mm k L) (dL y) (((k+L.length:Nat):Int))=Mm k (L++[y])
 |[],k,_=>by simp[Mm,fh]
 |x::L,k,h=>by have h1:y≠x:=λe=>h (by grind);have h2:y∉L:=λe=>h (by grind);have a:=Q5 y L (k+1) h2;simp only[T_,Mm,fh];rw[QL y x,decide_eq_false h1];grind
def Q4:∀(L:List (Option Nat)) (k:Nat),(Mm k L).length=L.length
 |[],_=>rfl
 |_::L,k=>by simp[Mm,Q4 L (k+1)]
def cL(l:List Nat):List Int:=l.map fun(k:Nat)=>(k:Int)
def U4(a b:List Nat):cL (a++b)=cL a++cL b:=j_
def fF(l:List Nat):(cL l).length=l.length:=o_ _
def I5{l:List Nat}{i:Nat}(h:i<l.length):(cL l)[i]'(by rw[fF];exact h)=(l[i]:Int):=by simp[cL]
def Pg{a:List Nat}{i:Nat}(h:i<a.length)(b:List Nat):dD (a.take (i+1)) b=dD (a.take i) b++dD [a[i]] b:=by unfold dD;rw[i_,a_ h,aq_];rfl
structure lY(n:Nat)(F:List (List Int))(P:List (Nat×Nat)):Prop where
 len:F.length=n
 nd:∀l∈F,l.Nodup
 bd:∀l∈F,∀x∈l,0<=x/\x<(n:Int)
 mem:∀p (h:p<F.length) (q:Nat),(q:Int)∈F[p]↔(p,q)∈P
def lY.congr{n:Nat}{F:List (List Int)}{P C:List (Nat×Nat)}(h:lY n F P)(e:∀x,x∈P↔x∈C):lY n F C:=⟨h.len,h.nd,h.bd,λp hp q=>(h.mem p hp q).trans (e _)⟩
def lY.zat{n:Nat}{F:List (List Int)}{P:List (Nat×Nat)}(h:lY n F P){p:Nat}(hp:p<F.length):F[p].length<=n:=by
 have h1:=gR F[p] ((c_ n).map fun(k:Nat)=>(k:Int)) (h.nd _ (b_ hp)) λx C=>by have:=h.bd _ (b_ hp) x C;exact l_.2 ⟨x.toNat,n_.2 (by omega),by omega⟩
 grind
def lY.add{n:Nat}{F:List (List Int)}{P:List (Nat×Nat)}(h:lY n F P){p q:Nat}(hp:p<F.length)(U:q<n)(hn:(q:Int)∉F[p]):lY n (F.set p (F[p]++[(q:Int)])) (P++[(p,q)]):=by
 have C:∀l∈F.set p (F[p]++[(q:Int)]),l∈F\/l=F[p]++[(q:Int)]:=λl hl=>by grind
 refine⟨by rw[ar_,h.len],λl hl=>?_,λl hl x H=>?_,λI J Y=>?_⟩
 .rcases C l hl with h1|rfl;.exact h.nd l h1
  .exact aa_.2 ⟨h.nd _ (b_ hp),by simp,λa M b N=>by grind⟩
 .rcases C l hl with h1|rfl;.exact h.bd l h1 x H
  .rcases h_.1 H with h2|h2;.exact h.bd _ (b_ hp) x h2
   grind
 .have E:I<F.length:=by grind
  rw[aC_];split;.simp only[h_,h.mem p hp];grind
  .simp only[h.mem I E];grind
def xp{n:Nat}{F:List (List Int)}{P:List (Nat×Nat)}(J:lY n F P)(sp:List (Int×(Int×Unit))){la fi:List Nat}(C:∀p∈la,p<n)(B:∀q∈fi,q<n)(h1:la.length<=1000000)(h2:fi.length<=1000000)(hn:n<=1000000): ∃f,lY n f (P++dD la fi)/\aB tbl 253 [.ptr 0 0,.d (.list tI) (cL la),.d (.list tI) (cL fi)] [.box 292 [.sl 1,.sl 2],.vec 296 Un sp,.tree 47 (.s 3 1 .e .e) (.list tI) F none] cG (sp,f,()):=by
 suffices h:∃c:List (Int×(Int×Unit))×List (List Int)×Unit,(∃f,c=(sp,f,())/\lY n f (P++dD la fi))/\aB tbl 253 [.ptr 0 0,.d (.list tI) (cL la),.d (.list tI) (cL fi)] [.box 292 [.sl 1,.sl 2],.vec 296 Un sp,.tree 47 (.s 3 1 .e .e) (.list tI) F none] cG c by grind
 refine KB (sh:=cG) ?_;refine ae (aK (N:=(cL la).length) (I:=λi s=>∃f,s=((i:Int),sp,f,())/\lY n f (P++dD (la.take i) fi)) ⟨F,rfl,J.congr λx=>by simp[dD]⟩ ?_ ?_)
 .rintro i s y ⟨z,rfl,k⟩;have l:i<la.length:=by rw[fF]at y;omega
  refine aQ y (aA y ?_);rw[I5 l];have L:la[i]<n:=(C _ (b_ l));refine ae (aK (N:=(cL fi).length) (I:=λj s=>∃f,s=((j:Int),sp,f,())/\lY n f (P++dD (la.take i) fi++dD [la[i]] (fi.take j))) ⟨z,rfl,k.congr λx=>by simp[dD]⟩ ?_ ?_)
  .rintro j s v ⟨F2,rfl,d⟩;have r:j<fi.length:=by rw[fF]at v;omega
   have a:la[i]<F2.length:=by rw[d.len];omega
   refine aQ v (ae (aA v ?_));rw[I5 r];refine aA a (ao (decide_eq_true (by simp)) ?_);refine aZ (x:=F2[la[i]]) (by simp) (aZ (x:=F2[la[i]]) (by simp) (ao (bh_ _) ?_));refine ae (aK (N:=F2[la[i]].length) (I:=λm s=>s=((F2[la[i]].take m).any (·==((fi[j]:Nat):Int)),(m:Int),sp,(F2,((la[i]:Nat):Int)),F2[la[i]],())) (by simp) ?_ ?_);.rintro m s u rfl;have hl:=d.zat a;refine aQ u (aA u (aZ (x:=F2[la[i]][m]) (by simp) ?_));refine ae (bq (b:=(F2[la[i]][m]==((fi[j]:Nat):Int))) (λ_=>aa rfl) (aa ?_));rw[ak u,i_,a_ u,bl_];simp
   .rintro s rfl;refine aJ (aa ?_);rw[k_];have w:F2.set la[i] F2[la[i]]=F2:=List.set_getElem_self a;have e:F2[la[i]]? =some F2[la[i]]:=a_ a;have E:(ak_ ((la[i]:Nat):Int))=la[i]:=by simp
    simp only[E,g_,w];refine aZ (x:=F2[la[i]]) e ?_;have hl:=d.zat a;have g:∀A,lY n A (P++dD (la.take i) fi++dD [la[i]] (fi.take j)++[(la[i],fi[j])])->lY n A (P++dD (la.take i) fi++dD [la[i]] (fi.take (j+1))):=λA H=>H.congr λx=>by rw[i_,a_ r];simp only[dD,Y_,List.flatMap_nil,I_,j_,U_,x_,D_,u_]
    refine au (λh=>?_) λh=>aa (aa ⟨F2,?_,g F2 ?_⟩)
    .have D:((fi[j]:Nat):Int)∉F2[la[i]]:=λu=>by grind
     refine ao (decide_eq_true (by simp)) (aZ (x:=F2[la[i]]) e (aA a (aZ (x:=F2[la[i]]) e (ao (bh_ _) ?_))));refine ao (decide_eq_true (by grind)) (aA a (aZ (x:=F2[la[i]]) e (ao (bh_ _) (aZ (x:=F2[la[i]]) e (aa (aa ⟨_,?_,g _ (d.add a (B _ (b_ r)) D)⟩))))));rw[ak v (by rw[fF];omega)]
    .rw[ak v (by rw[fF];omega)]
    .refine d.congr λx=>?_;have u:((fi[j]:Nat):Int)∈F2[la[i]]:=by grind
     have:=(d.mem _ a fi[j]).1 u;grind
  .rintro s ⟨F2,rfl,d⟩;refine aJ (aa (aa ⟨F2,?_,d.congr λx=>?_⟩));.rw[ak y (by rw[fF];omega)]
   .rw[fF,k_,Pg l,u_]
 .rintro s ⟨z,rfl,k⟩;refine aJ (aa (aa ⟨_,rfl,z,rfl,k.congr λx=>?_⟩));rw[fF,k_]
def o8(l:List (Int×Int)):List (Int×(Int×Unit)):=l.map λp=>(p.1,p.2,())
def R1(a b:List (Int×Int)):o8 (a++b)=o8 a++o8 b:=j_
def o9(l:List (Int×Int)):(o8 l).length=l.length:=o_ _
def lY.one{n:Nat}{F:List (List Int)}{P:List (Nat×Nat)}(h:lY n F P)(E:∀p q,(p,q)∈P->p<n):lY (n+1) (F++[[]]) P:=by
 refine⟨by simp[h.len],λl hl=>?_,λl hl x I=>?_,λp hp q=>?_⟩
 .rcases h_.1 hl with h1|h1;.exact h.nd l h1
  grind
 .rcases h_.1 hl with h1|h1;.have:=h.bd l h1 x I;omega
  grind
 .by_cases C:p<F.length;.rw[List.getElem_append_left C];exact h.mem p C q
  .have:p=F.length:=by grind
   subst this;simp;intro H;have:=E _ _ H;have:=h.len;omega
def ID:∀(r:Rx),eW r=true->sz r<=1000000->∀(sp:List (Int×(Int×Unit))) (F:List (List Int)) (P:List (Nat×Nat)),lY sp.length F P->(∀p q,(p,q)∈P->p<sp.length)->sp.length+cnt r<=1000000->∃j,lY (sp.length+(di r sp.length).sp.length) j (P++(di r sp.length).pr)/\aB tbl 217 [.ptr 0 0,.d .rx r] [.box 292 [.sl 1,.sl 2],.vec 296 Un sp,.tree 47 (.s 3 1 .e .e) (.list tI) F none] cT (cL (di r sp.length).fi,cL (di r sp.length).la,sp++o8 (di r sp.length).sp,j,()):=by
 refine hU λk lo d ks ih hw hs sp F P hF hP hM=>?_;obtain⟨CT,R⟩:=Fq hs;obtain⟨hn,C⟩:=fe.1 hw;have DB:=fU _ hw sp.length;have DA:=jm (.mk k lo d ks) sp.length;have hcs:dt ks<=cnt (.mk k lo d ks):=by simp only[cnt];simp
 suffices h:∃c:List Int×List Int×List (Int×(Int×Unit))×List (List Int)×Unit,(∃j,c=(cL (di (.mk k lo d ks) sp.length).fi,cL (di (.mk k lo d ks) sp.length).la,sp++o8 (di (.mk k lo d ks) sp.length).sp,j,())/\lY (sp.length+(di (.mk k lo d ks) sp.length).sp.length) j (P++(di (.mk k lo d ks) sp.length).pr))/\aB tbl 217 [.ptr 0 0,.d .rx (.mk k lo d ks)] [.box 292 [.sl 1,.sl 2],.vec 296 Un sp,.tree 47 (.s 3 1 .e .e) (.list tI) F none] cT c by
  obtain⟨c,⟨j,rfl,O⟩,hc⟩:=h
  grind
 refine KB (sh:=cT) ?_;by_cases el:k=1\/k=2
 .have J:∀E H,di (.mk k lo d ks) sp.length=KE sp.length E H->Wp (λ_=>(ci (decide ((sp.length+(([(E,H,())]:List (Int×(Int×Unit)))).length)*16<=140737488355328)) (ci (decide ((F.length+(([([]:List Int)]:List (List Int))).length)*24<=140737488355328)) (some ((.inr ((([H_ .i64 (((sp++(([(E,H,())]:List (Int×(Int×Unit))))).length:Int) - (1:Int))]:List Int),([H_ .i64 (((sp++(([(E,H,())]:List (Int×(Int×Unit))))).length:Int) - (1:Int))]:List Int),sp++(([(E,H,())]:List (Int×(Int×Unit)))),F++(([([]:List Int)]:List (List Int))),()))):(List (Int×(Int×Unit))×List (List Int)×List Int×List Int×Unit)⊕(List Int×List Int×List (Int×(Int×Unit))×List (List Int)×Unit)))))) λr=>∃j,r= .inr (cL (di (.mk k lo d ks) sp.length).fi,cL (di (.mk k lo d ks) sp.length).la,sp++o8 (di (.mk k lo d ks) sp.length).sp,j,())/\lY (sp.length+(di (.mk k lo d ks) sp.length).sp.length) j (P++(di (.mk k lo d ks) sp.length).pr):=λE H he=>by
   have Dg:=hF.len
   refine ao (decide_eq_true (by grind)) (ao (decide_eq_true (by grind)) (aa ⟨F++[[]],?_,?_⟩))
   .rw[he];simp only[d_,p_];rw[wrap_i64 (by simp) (by omega),show((sp.length+1:Nat):Int) - 1=(sp.length:Int) by simp];rfl
   .rw[he];simp only[KE,p_,I_];exact hF.one hP
  rcases el with rfl|rfl;.refine ae (Wp.imp (J lo d (by simp[di])) λr hr=>?_);obtain⟨j,rfl,O⟩:=hr;exact aa ⟨_,rfl,j,rfl,O⟩
  .have hz:=hn.zero (by simp);refine ae (Wp.imp (J lo 4294967295 (by rw[hz.1];simp[di])) λr hr=>?_);obtain⟨j,rfl,O⟩:=hr;exact aa ⟨_,rfl,j,rfl,O⟩
 have h1:k≠1:=λe=>el (.inl e);have h2:k≠2:=λe=>el (.inr e);have e1:(k==(1:Int))=false:=by grind
 have e2:(k==(2:Int))=false:=by grind
 have key:∀(g:G),g.sp.length<=cnt (.mk k lo d ks)->FM sp.length g->g.fi.length<=1000000/\g.la.length<=1000000:=λg h hl=>by have:=hl.fl;have:=hl.ll;omega
 have ur:∀(g:G),FM sp.length g->∀p q,(p,q)∈P++g.pr->p<sp.length+g.sp.length:=λg hl p q h=>by
  rcases h_.1 h with h|h;.have:=hP p q h;omega
  .have:=hl.pr p q h;omega
 have qr:∀i,dt (ks.take i)<=dt ks:=λi=>by
  have:dt ks=dt (ks.take i)+dt (ks.drop i):=by rw[<-s9,aA_]
  omega
 have T:∀i (h:i<ks.length),dt (ks.take i)+cnt ks[i]<=dt ks:=λi h=>by
  have e:dt (ks.take (i+1))=dt (ks.take i)+cnt ks[i]:=by rw[i_,a_ h,s9];simp[dt]
  have:=qr (i+1);omega
 have zav:∀i,FM sp.length (ee (ks.take i) sp.length (Pl.g0 true))/\(ee (ks.take i) sp.length (Pl.g0 true)).sp.length=dt (ks.take i)/\(ee (ks.take i) sp.length (Pl.g0 true)).em=qp (ks.take i):=λi=>by
  have hl:=jm (.mk 3 0 0 (ks.take i)) sp.length;have e:di (.mk 3 0 0 (ks.take i)) sp.length=ee (ks.take i) sp.length (Pl.g0 true):=by simp[di]
  rw[e]at hl;refine⟨hl,?_⟩;have:∀(l:List Rx) (a:G),(∀r∈l,r∈ks)->(ee l sp.length a).sp.length=a.sp.length+dt l/\(ee l sp.length a).em=(a.em&&qp l):=by intro l;induction l with|nil=>intro a _;simp[ee,dt,qp]|cons r l rg=>intro a hl;have hr:=hl r (w_ ..);obtain⟨g1,g2⟩:=fU r (C r hr) (sp.length+a.sp.length);obtain⟨g3,g4⟩:=rg (jB a (di r (sp.length+a.sp.length))) λx hx=>hl x (m_ _ hx);simp only[ee,g3,g4,dt,qp];simp only[jB,d_,g1,g2,Bool.and_assoc];exact⟨by omega,trivial⟩
  have:=this (ks.take i) (Pl.g0 true) λr hr=>B_ hr;simpa[Pl.g0]using this
 have YN:∀i,FM sp.length (cK (ks.take i) sp.length (Pl.g0 false))/\(cK (ks.take i) sp.length (Pl.g0 false)).sp.length=dt (ks.take i):=λi=>by
  have hl:=jm (.mk 4 0 0 (ks.take i)) sp.length;have e:di (.mk 4 0 0 (ks.take i)) sp.length=cK (ks.take i) sp.length (Pl.g0 false):=by simp[di]
  rw[e]at hl;refine⟨hl,?_⟩;have:∀(l:List Rx) (a:G),(∀r∈l,r∈ks)->(cK l sp.length a).sp.length=a.sp.length+dt l:=by intro l;induction l with|nil=>intro a _;simp[cK,dt]|cons r l rg=>intro a hl;have hr:=hl r (w_ ..);obtain⟨g1,g2⟩:=fU r (C r hr) (sp.length+a.sp.length);have g3:=rg (r9 a (di r (sp.length+a.sp.length))) λx hx=>hl x (m_ _ hx);simp only[cK,g3,dt];simp only[r9,d_,g1];omega
  have:=this (ks.take i) (Pl.g0 false) λr hr=>B_ hr;simpa[Pl.g0]using this
 refine ae (ae (cO (a:=(false,sp,F,())) (λ_=>?_) ?_));.show(bif (k==(1:Int))then some ((k==(1:Int)),sp,F,())else some ((k==(2:Int)),sp,F,()))=_;rw[e1,e2];rfl
 show Wp (λn=>bif (k==(3:Int))then _ else _) _;by_cases h3:k=3
 .subst h3;have eg:di (.mk 3 lo d ks) sp.length=ee ks sp.length (Pl.g0 true):=by simp[di]
  refine ae (aK (N:=ks.length) (I:=λi s=>∃j,s=((ee (ks.take i) sp.length (Pl.g0 true)).em,(i:Int),sp++o8 (ee (ks.take i) sp.length (Pl.g0 true)).sp,j,cL (ee (ks.take i) sp.length (Pl.g0 true)).fi,cL (ee (ks.take i) sp.length (Pl.g0 true)).la,())/\lY (sp.length+(ee (ks.take i) sp.length (Pl.g0 true)).sp.length) j (P++(ee (ks.take i) sp.length (Pl.g0 true)).pr)) ⟨F,by simp[ee,Pl.g0,o8,cL],by simpa[ee,Pl.g0]using hF⟩ ?_ ?_)
  .rintro i s u ⟨U,rfl,A⟩;obtain⟨l1,l2,l3⟩:=zav i;rw[HP u];have f:(sp++o8 (ee (ks.take i) sp.length (Pl.g0 true)).sp).length=sp.length+(ee (ks.take i) sp.length (Pl.g0 true)).sp.length:=by rw[d_,o9]
   have Q:=key _ (by rw[l2];have:=qr i;omega) l1;generalize ee (ks.take i) sp.length (Pl.g0 true)=a at*;have hr:=b_ u;obtain⟨w1,w2⟩:=fU ks[i] (C _ hr) (sp.length+a.sp.length);have D:=jm ks[i] (sp.length+a.sp.length);refine aQ u (aA u ?_);rw[cV];have hsz:=R _ hr;have BT:=T i u;obtain⟨F2,B,hc⟩:=ih ks[i] hr (C _ hr) (by omega) (sp++o8 a.sp) U (P++a.pr) (by rw[f];omega) (by rw[f];exact ur a l1) (by omega);rw[f]at B hc;generalize di ks[i] (sp.length+a.sp.length)=x at*;refine aj hc (aj (pO ks[i] (by omega)) ?_);have CD:=D.fl;have wr:=D.ll;obtain⟨Y,At,Bx⟩:=xp B (sp++o8 a.sp++o8 x.sp) (la:=a.la) (fi:=x.fi) (λp hp=>by have:=l1.la p hp;omega) (λq hq=>by have:=D.fi q hq;omega) (by omega) (by omega) (by omega);refine aj Bx ?_;have w:lY (sp.length+(jB a x).sp.length) Y (P++(jB a x).pr):=by simp only[jB,d_];rw[<-aO_];exact At.congr λy=>by simp
   have z:∀b:Bool,a.em=b->∀b2:Bool,x.em=b2->((b&&b2,((i+1:Nat):Int),sp++o8 a.sp++o8 x.sp,Y,(bif b then cL a.fi++cL x.fi else cL a.fi),(bif b2 then cL a.la else [])++cL x.la,()):Bool×Int×List (Int×(Int×Unit))×List (List Int)×List Int×List Int×Unit)=((jB a x).em,((i+1:Nat):Int),sp++o8 (jB a x).sp,Y,cL (jB a x).fi,cL (jB a x).la,()):=λb L b2 v=>by simp only[jB,L,v,R1,u_];cases b<;>cases b2<;>simp[U4,cL]
   rw[<-w2];show Wp (λn=>aZ_ (bif a.em then _ else _) _) _;cases L:a.em
   .refine ae (aa (ae (aa ?_)));cases v:x.em;.refine ae (aa (ao (decide_eq_true (by simp only[fF,ah_];omega)) (aa ⟨Y,?_,w⟩)));rw[ak u];exact z false L false v
    .refine ae (aa (ao (decide_eq_true (by simp only[fF];omega)) (aa ⟨Y,?_,w⟩)));rw[ak u];exact z false L true v
   .refine ae (ao (decide_eq_true (by simp only[fF];omega)) (aa (ae (aa ?_))));cases v:x.em;.refine ae (aa (ao (decide_eq_true (by simp only[fF,ah_];omega)) (aa ⟨Y,?_,w⟩)));rw[ak u];exact z true L false v
    .refine ae (aa (ao (decide_eq_true (by simp only[fF];omega)) (aa ⟨Y,?_,w⟩)));rw[ak u];exact z true L true v
  .rintro s ⟨U,rfl,A⟩;rw[k_]at A⊢;refine aJ (aa (aa (aa ⟨_,rfl,U,?_,by rw[eg];omega⟩)));rw[eg]
 .have e3:(k==(3:Int))=false:=by simpa using h3
  rw[e3];refine ae (aK (N:=ks.length) (I:=λi s=>∃j,s=((i:Int),sp++o8 (cK (ks.take i) sp.length (Pl.g0 false)).sp,j,cL (cK (ks.take i) sp.length (Pl.g0 false)).fi,cL (cK (ks.take i) sp.length (Pl.g0 false)).la,())/\lY (sp.length+(cK (ks.take i) sp.length (Pl.g0 false)).sp.length) j (P++(cK (ks.take i) sp.length (Pl.g0 false)).pr)) ⟨F,by simp[cK,Pl.g0,o8,cL],by simpa[cK,Pl.g0]using hF⟩ ?_ ?_)
  .rintro i s u ⟨U,rfl,A⟩;obtain⟨l1,l2⟩:=YN i;rw[HO u];have f:(sp++o8 (cK (ks.take i) sp.length (Pl.g0 false)).sp).length=sp.length+(cK (ks.take i) sp.length (Pl.g0 false)).sp.length:=by rw[d_,o9]
   have Q:=key _ (by rw[l2];have:=qr i;omega) l1;generalize cK (ks.take i) sp.length (Pl.g0 false)=a at*;have hr:=b_ u;obtain⟨w1,w2⟩:=fU ks[i] (C _ hr) (sp.length+a.sp.length);have D:=jm ks[i] (sp.length+a.sp.length);refine aQ u (aA u ?_);rw[cV];have hsz:=R _ hr;have BT:=T i u;obtain⟨F2,B,hc⟩:=ih ks[i] hr (C _ hr) (by omega) (sp++o8 a.sp) U (P++a.pr) (by rw[f];omega) (by rw[f];exact ur a l1) (by omega);rw[f]at B hc;generalize di ks[i] (sp.length+a.sp.length)=x at*;have CD:=D.fl;have wr:=D.ll;refine aj hc (ao (decide_eq_true (by simp only[fF];omega)) (ao (decide_eq_true (by simp only[fF];omega)) (aa ⟨F2,?_,?_⟩)));.rw[ak u];simp only[r9,R1,U4,u_]
   .simp only[r9,d_];rw[<-aO_];exact B.congr λy=>by simp
  .rintro s ⟨U,rfl,A⟩;obtain⟨l1,l2⟩:=YN ks.length;rw[k_]at A l1 l2⊢;have Q:=key _ (by omega) l1;refine aJ (aa ?_);have ph:∀(hk:di (.mk k lo d ks) sp.length=nC (cK ks sp.length (Pl.g0 false))\/di (.mk k lo d ks) sp.length=QJ (nC (cK ks sp.length (Pl.g0 false)))),(di (.mk k lo d ks) sp.length).fi=(cK ks sp.length (Pl.g0 false)).fi/\(di (.mk k lo d ks) sp.length).la=(cK ks sp.length (Pl.g0 false)).la/\(di (.mk k lo d ks) sp.length).sp=(cK ks sp.length (Pl.g0 false)).sp/\(di (.mk k lo d ks) sp.length).pr=(cK ks sp.length (Pl.g0 false)).pr++dD (cK ks sp.length (Pl.g0 false)).la (cK ks sp.length (Pl.g0 false)).fi:=λhk=>by rcases hk with h|h<;>rw[h]<;>exact⟨rfl,rfl,rfl,rfl⟩
   have gc:∀(hk:di (.mk k lo d ks) sp.length=cK ks sp.length (Pl.g0 false)\/di (.mk k lo d ks) sp.length=QJ (cK ks sp.length (Pl.g0 false))),(di (.mk k lo d ks) sp.length).fi=(cK ks sp.length (Pl.g0 false)).fi/\(di (.mk k lo d ks) sp.length).la=(cK ks sp.length (Pl.g0 false)).la/\(di (.mk k lo d ks) sp.length).sp=(cK ks sp.length (Pl.g0 false)).sp/\(di (.mk k lo d ks) sp.length).pr=(cK ks sp.length (Pl.g0 false)).pr:=λhk=>by rcases hk with h|h<;>rw[h]<;>exact⟨rfl,rfl,rfl,rfl⟩
   by_cases M:k=5\/k=6
   .have L:(bif (k==(5:Int))then some true else some (k==(6:Int)))=some true:=by rcases M with rfl|rfl<;>rfl
    refine ae (cO (a:=true) (λ_=>L) ?_);obtain⟨q1,q2,q3,q4⟩:=ph (by
     rcases M with rfl|rfl;.exact .inr (by simp[di])
     .exact .inl (by simp[di]))
    obtain⟨F2,B,Bk⟩:=xp A (sp++o8 (cK ks sp.length (Pl.g0 false)).sp) (la:=(cK ks sp.length (Pl.g0 false)).la) (fi:=(cK ks sp.length (Pl.g0 false)).fi) (λp hp=>by have:=l1.la p hp;omega) (λq hq=>by have:=l1.fi q hq;omega) Q.2 Q.1 (by omega);refine aj Bk (aa (aa ⟨_,rfl,F2,?_,?_⟩));.rw[q1,q2,q3]
    .rw[q3,q4,<-u_];omega
   .have h5:k≠5:=λe=>M (.inl e);have h6:k≠6:=λe=>M (.inr e);have L:(bif (k==(5:Int))then some true else some (k==(6:Int)))=some false:=by rw[show(k==(5:Int))=false by simpa using h5,show(k==(6:Int))=false by simpa using h6];rfl
    refine ae (cO (a:=false) (λ_=>L) ?_);obtain⟨q1,q2,q3,q4⟩:=gc (by
     rcases hn.known with rfl|rfl|rfl|rfl|rfl|rfl|rfl|rfl;.have:=len_nil (hn.leaf (by simp));subst this;exact .inr (by simp[di,cK,Pl.g0,QJ])
     .omega
     .omega
     .omega
     .exact .inl (by simp[di])
     .omega
     .omega
     .exact .inr (by simp[di]))
    refine aa (aa ⟨_,rfl,U,?_,?_⟩);.rw[q1,q2,q3]
    .rw[q3,q4];omega
def zav{ks:List Rx}(b:∀r∈ks,eW r=true)(o i:Nat):FM o (ee (ks.take i) o (Pl.g0 true))/\(ee (ks.take i) o (Pl.g0 true)).sp.length=dt (ks.take i):=by
 have hl:=jm (.mk 3 0 0 (ks.take i)) o;refine⟨hl,?_⟩;have:∀(l:List Rx) (a:G),(∀r∈l,r∈ks)->(ee l o a).sp.length=a.sp.length+dt l:=by intro l;induction l with|nil=>intro a _;simp[ee,dt]|cons r l c=>intro a hl;have hr:=hl r (w_ ..);obtain⟨e,f⟩:=fU r (b r hr) (o+a.sp.length);simp only[ee,(c (jB a (di r (o+a.sp.length))) λx d=>hl x (m_ _ d)),dt];simp only[jB,d_];omega
 have:=this (ks.take i) (Pl.g0 true) λr hr=>B_ hr;simpa[Pl.g0]using this
def YN{ks:List Rx}(b:∀r∈ks,eW r=true)(o i:Nat):FM o (cK (ks.take i) o (Pl.g0 false))/\(cK (ks.take i) o (Pl.g0 false)).sp.length=dt (ks.take i):=by
 have hl:=jm (.mk 4 0 0 (ks.take i)) o;refine⟨hl,?_⟩;have:∀(l:List Rx) (a:G),(∀r∈l,r∈ks)->(cK l o a).sp.length=a.sp.length+dt l:=by intro l;induction l with|nil=>intro a _;simp[cK,dt]|cons r l c=>intro a hl;have hr:=hl r (w_ ..);obtain⟨e,f⟩:=fU r (b r hr) (o+a.sp.length);simp only[cK,(c (r9 a (di r (o+a.sp.length))) λx d=>hl x (m_ _ d)),dt];simp only[r9,d_];omega
 have:=this (ks.take i) (Pl.g0 false) λr hr=>B_ hr;simpa[Pl.g0]using this
def Ja(ks:List Rx)(i:Nat):dt (ks.take i)<=dt ks:=by
 have:dt ks=dt (ks.take i)+dt (ks.drop i):=by rw[<-s9,aA_]
 omega
def xI{ks:List Rx}{i:Nat}(h:i<ks.length):dt (ks.take i)+cnt ks[i]<=dt ks:=by
 have e:dt (ks.take (i+1))=dt (ks.take i)+cnt ks[i]:=by rw[i_,a_ h,s9];simp[dt]
 have:=Ja ks (i+1);omega
def G2{a b:Nat}(c:a<2^64)(d:b<2^64):lE .u64 .or (a:Int) (b:Int)=((a|||b:Nat):Int):=by show IntKind.u64.wrap ((BitVec.ofNat 64 a|||BitVec.ofNat 64 b).toNat:Int)=_;rw[BitVec.toNat_or,BitVec.toNat_ofNat,BitVec.toNat_ofNat,aE_ c,aE_ d,wrap_u64];have:=zbN c d;omega
def UU{a b:Nat}(c:a<2^64)(d:b<2^64):lE .u64 .and (a:Int) (b:Int)=((a&&&b:Nat):Int):=by show IntKind.u64.wrap ((BitVec.ofNat 64 a&&&BitVec.ofNat 64 b).toNat:Int)=_;rw[BitVec.toNat_and,BitVec.toNat_ofNat,BitVec.toNat_ofNat,aE_ c,aE_ d,wrap_u64];have:a&&&b<2^64:=av_ aU_ c;omega
def zbY{i:Nat}(a:i<64):min (ak_ (H_ .u64 (i:Int))) (aJ_ .u64)=i:=by rw[wrap_u64];show min _ 64=i;omega
def Zy{i:Nat}(a:i<64):H_ .u64 ((1:Int)*2^(min (ak_ (H_ .u64 (i:Int))) (aJ_ .u64)))=((2^i:Nat):Int):=by rw[zbY a,wrap_u64];have h1:2^i<2^64:=aY_ (by simp) a;grind
def Xq{a i:Nat}(c:a<2^64)(d:i<64):(lE .u64 .and (Int.fdiv (a:Int) (2^(min (ak_ (H_ .u64 (i:Int))) (aJ_ .u64)))) (1:Int)==(1:Int))=a.testBit i:=by rw[zbY d];have e:=UU (a:=a/2^i) (b:=1) (av_ (Nat.div_le_self _ _) c) (by simp);grind
def gf(P:List (Nat×Nat))(n:Nat):List Int:=(c_ n).map λi=>((bS (Ek P i):Nat):Int)
def nu(P:List (Nat×Nat))(n:Nat):(gf P n).length=n:=by simp[gf]
def nr{P:List (Nat×Nat)}{n i:Nat}(h:i<(gf P n).length):(gf P n)[i]=((bS (Ek P i):Nat):Int):=by simp[gf]
def Df{a b:List Nat}(h:∀x,x∈a↔x∈b):bS a=bS b:=by refine aX_ λi=>?_;rw[cP,cP];grind
def wJ{P a:List (Nat×Nat)}{n:Nat}(h:∀i,i<n->∀q,(i,q)∈P↔(i,q)∈a):gf P n=gf a n:=by
 refine ab_ λi b=>?_;have e:bS (Ek P i)=bS (Ek a i):=Df λq=>by rw[jl,jl];grind
 rw[e]
def ZI{P:List (Nat×Nat)}{n:Nat}(a:∀p q,(p,q)∈P->q<n)(hn:n<=64)(i:Nat):bS (Ek P i)<2^64:=fy λq b=>by have:=a _ _ (jl.1 b);omega
def Vu{P:List (Nat×Nat)}{n i:Nat}(b:i<n)(fi:List Nat):(gf P n).set i ((bS (Ek P i)|||bS fi:Nat):Int)=gf (P++dD [i] fi) n:=by
 refine A_ (by simp[gf]) λj h1 h2=>?_;rw[aC_];split
 .rename_i e;subst e;have e:bS (Ek P i++fi)=bS (Ek (P++dD [i] fi) i):=Df λq=>by rw[h_,jl,jl,h_,jQ];simp
  rw[<-xC,e,nr]
 .have a:bS (Ek P j)=bS (Ek (P++dD [i] fi) j):=Df λq=>by rw[jl,jl,h_,jQ];grind
  rw[nr,nr,a]
def Hf(x y:Int)(lo a F:List Int)(h1:lo.length<64)(h2:a.length<64)(b:F.length<64):aB tbl 267 [.ptr 0 0,.d tI x,.d tI y] [.box 323 [.sl 1,.sl 2,.sl 3],.vec 3 tI lo,.vec 3 tI a,.vec 324 tQ F] cC ((((2^lo.length:Nat):Int),((2^lo.length:Nat):Int),false,()),lo++[x],a++[y],F++[0],()):=by refine cm ?_;rw[Zy h1];refine ao (decide_eq_true (by rw[wrap_u64];omega)) (ao (decide_eq_true ?_) (ao (decide_eq_true ?_) (ao (decide_eq_true ?_) (aa rfl))));all_goals grind
def vY{n:Nat}(P:List (Nat×Nat))(lo k:List Int){la fi:List Nat}(y:∀p q,(p,q)∈P->q<n)(v:∀p∈la,p<n)(g:∀q∈fi,q<n)(hn:n<=64): aB tbl 268 [.ptr 0 0,.d tQ ((bS la:Nat):Int),.d tQ ((bS fi:Nat):Int)] [.box 323 [.sl 1,.sl 2,.sl 3],.vec 3 tI lo,.vec 3 tI k,.vec 324 tQ (gf P n)] fI (lo,k,gf (P++dD la fi) n,()):=by
 refine cm ?_;refine ae (aK (N:=(gf P n).length) (I:=λi s=>s=((i:Int),lo,k,gf (P++dD (la.filter λp=>decide (p<i)) fi) n,())) ?_ ?_ ?_)
 .have:(la.filter λp=>decide (p<0))=[]:=by simp
  rw[this];simp[dD]
 .rintro i s f rfl;rw[nu]at f;refine aQ (by rw[nu];omega) (ae ?_);have key:∀b:Bool,(bS la).testBit i=b->(gf (P++dD (la.filter λp=>decide (p<i)) fi) n).set i (bif b then((bS (Ek (P++dD (la.filter λp=>decide (p<i)) fi) i)|||bS fi:Nat):Int)else((bS (Ek (P++dD (la.filter λp=>decide (p<i)) fi) i):Nat):Int))=gf (P++dD (la.filter λp=>decide (p<i+1)) fi) n:=λb u=>by
   rw[cP]at u;cases b with
   |true=>rw[cond_true,Vu f];refine wJ λj l q=>?_;simp only[h_,jQ];grind|false=>
    rw[cond_false];have:(gf (P++dD (la.filter λp=>decide (p<i)) fi) n).set i ((bS (Ek (P++dD (la.filter λp=>decide (p<i)) fi) i):Nat):Int)=gf (P++dD (la.filter λp=>decide (p<i)) fi) n:=by
     refine A_ (by simp) λj h1 h2=>?_;rw[aC_];split;.rename_i e;subst e;rw[nr]
     simp
    rw[this];refine wJ λj l q=>?_;simp only[h_,jQ];grind
  have w:∀p q,(p,q)∈P++dD (la.filter λp=>decide (p<i)) fi->q<n:=λp q h=>by
   rcases h_.1 h with h|h;.grind
   .exact g q (jQ.1 h).2
  generalize r:P++dD (la.filter λp=>decide (p<i)) fi=c at*;refine ao (decide_eq_true (by rw[wrap_u64];omega)) ?_;rw[Xq (fy λp hp=>by grind) (by omega)];have a:i<(gf c n).length:=by rw[nu];omega
  refine au (λh=>?_) λh=>aa (aa ?_);.refine aA a (aZ (x:=(gf c n)[i]) (by simp) (aA a (aZ (x:=(gf c n)[i]) (by simp) (aa (aa ?_)))));have d:=key true h;rw[cond_true]at d;rw[nr,G2 (ZI w hn i) (fy λp hp=>by grind),g_,d,ak f]
  .have d:=key false h;rw[cond_false]at d;have:(gf c n).set i ((bS (Ek c i):Nat):Int)=gf c n:=by
    refine A_ (by simp) λj h1 h2=>?_;rw[aC_];split;.rename_i e;subst e;rw[nr]
    simp
   rw[this]at d;rw[d,ak f]
 .rintro s rfl;refine aJ (aa (aa ?_));rw[nu];have:gf (P++dD (la.filter λp=>decide (p<n)) fi) n=gf (P++dD la fi) n:=wJ λj l q=>by simp only[h_,jQ];grind
  grind
def NW:∀(r:Rx),eW r=true->sz r<=1000000->∀(lo f:List Int) (P:List (Nat×Nat)),f.length=lo.length->(∀p q,(p,q)∈P->p<lo.length/\q<lo.length)->lo.length+cnt r<=64->aB tbl 237 [.ptr 0 0,.d .rx r] [.box 323 [.sl 1,.sl 2,.sl 3],.vec 3 tI lo,.vec 3 tI f,.vec 324 tQ (gf P lo.length)] cC ((((bS (di r lo.length).fi:Nat):Int),((bS (di r lo.length).la:Nat):Int),(di r lo.length).em,()),lo++(di r lo.length).sp.map (·.1),f++(di r lo.length).sp.map (·.2),gf (P++(di r lo.length).pr) (lo.length+(di r lo.length).sp.length),()):=by
 refine hU λk F H ks Q hw hs lo f P z C M=>?_;obtain⟨el,g⟩:=Fq hs;obtain⟨hn,e⟩:=fe.1 hw;have hcs:dt ks<=cnt (.mk k F H ks):=by simp only[cnt];simp
 refine cm ?_;have one:gf P lo.length++[0]=gf P (lo.length+1):=by
  unfold gf;rw[J_,j_];have:Ek P lo.length=[]:=by refine List.eq_nil_iff_forall_not_mem.2 λq E=>?_;have:=(C _ _ (jl.1 E)).1;omega
  simp[this,bS]
 have Y:bS [lo.length]=2^lo.length:=by simp[bS]
 rcases hn.known with rfl|rfl|rfl|rfl|rfl|rfl|rfl|rfl;.have:=len_nil (hn.leaf (by simp));subst this;refine cO (a:=some (fW cC (((0:Int),(0:Int),true,()),lo,f,gf P lo.length,()))) (λ_=>rfl) ?_;simp[di,Pl.g0,bS]
 .have:=len_nil (hn.leaf (by simp));subst this;have D:lo.length<64:=by simp[cnt,dt]at M;omega
  refine aD rfl (aj (Hf F H lo f _ D (by omega) (by rw[nu];omega)) (aa ?_));rw[one];simp[di,KE,Y]
 .have:=len_nil (hn.leaf (by simp));subst this;have D:lo.length<64:=by simp[cnt,dt]at M;omega
  refine ap rfl (aD rfl (aj (Hf 0 4294967295 lo f _ D (by omega) (by rw[nu];omega)) (aa ?_)));rw[one];simp[di,KE,Y]
 .have A:di (.mk 3 F H ks) lo.length=ee ks lo.length (Pl.g0 true):=by simp[di]
  rw[A];refine ap rfl (ap rfl (aD rfl ?_));refine ae (aK (N:=ks.length) (I:=λi s=>s=((i:Int),lo++(ee (ks.take i) lo.length (Pl.g0 true)).sp.map (·.1),f++(ee (ks.take i) lo.length (Pl.g0 true)).sp.map (·.2),gf (P++(ee (ks.take i) lo.length (Pl.g0 true)).pr) (lo.length+(ee (ks.take i) lo.length (Pl.g0 true)).sp.length),(0:Int),(0:Int),false,((bS (ee (ks.take i) lo.length (Pl.g0 true)).fi:Nat):Int),((bS (ee (ks.take i) lo.length (Pl.g0 true)).la:Nat):Int),(ee (ks.take i) lo.length (Pl.g0 true)).em,())) (by simp[ee,Pl.g0,bS]) ?_ ?_)
  .rintro i s c rfl;obtain⟨l1,l2⟩:=zav e lo.length i;rw[HP c];have U:=xI c;generalize ee (ks.take i) lo.length (Pl.g0 true)=a at*;have hr:=b_ c;obtain⟨w1,w2⟩:=fU ks[i] (e _ hr) (lo.length+a.sp.length);have d:=jm ks[i] (lo.length+a.sp.length);refine aQ c (aA c ?_);rw[cV];have hsz:=g _ hr;have B:∀p q,(p,q)∈P++a.pr->p<lo.length+a.sp.length/\q<lo.length+a.sp.length:=λp q h=>by
    rcases h_.1 h with h|h;.have:=C p q h;omega
    .have:=l1.pr p q h;omega
   have hc:=Q ks[i] hr (e _ hr) (by omega) (lo++a.sp.map (·.1)) (f++a.sp.map (·.2)) (P++a.pr) (by simp[z]) (by simpa using B) (by simp;omega);rw[show(lo++a.sp.map (·.1)).length=lo.length+a.sp.length by simp]at hc;generalize di ks[i] (lo.length+a.sp.length)=x at*;have O:lo.length+a.sp.length+x.sp.length<=64:=by omega
   refine aj hc (aj (vY (n:=lo.length+a.sp.length+x.sp.length) (P++a.pr++x.pr) _ _ (la:=a.la) (fi:=x.fi) (λp q h=>?_) (λp hp=>by have:=l1.la p hp;omega) (λq E=>by have:=d.fi q E;omega) O) ?_)
   .rcases h_.1 h with h|h;.have:=B p q h;omega
    .have:=d.pr p q h;omega
   have R:bS a.fi<2^64:=fy λp hp=>by have:=l1.fi p hp;omega
   have T:bS x.fi<2^64:=fy λp hp=>by have:=d.fi p hp;omega
   have l:bS a.la<2^64:=fy λp hp=>by have:=l1.la p hp;omega
   have u:bS x.la<2^64:=fy λp hp=>by have:=d.la p hp;omega
   dsimp only;rw[G2 R T];have j:∀b:Bool,a.em=b->∀L:Bool,x.em=L->((((i+1:Nat):Int),lo++a.sp.map (·.1)++x.sp.map (·.1),f++a.sp.map (·.2)++x.sp.map (·.2),gf (P++a.pr++x.pr++dD a.la x.fi) (lo.length+a.sp.length+x.sp.length),(0:Int),(0:Int),false,(bif b then((bS a.fi|||bS x.fi:Nat):Int)else((bS a.fi:Nat):Int)),(bif L then((bS a.la|||bS x.la:Nat):Int)else((bS x.la:Nat):Int)),b&&L,()):Int×List Int×List Int×List Int×Int×Int×Bool×Int×Int×Bool×Unit)=(((i+1:Nat):Int),lo++(jB a x).sp.map (·.1),f++(jB a x).sp.map (·.2),gf (P++(jB a x).pr) (lo.length+(jB a x).sp.length),(0:Int),(0:Int),false,((bS (jB a x).fi:Nat):Int),((bS (jB a x).la:Nat):Int),(jB a x).em,()):=λb J L v=>by simp only[jB,J,v,j_,u_,d_,aO_];cases b<;>cases L<;>simp[xC]
   cases J:a.em<;>cases v:x.em;.simp only[cond_false,cond_true];refine ae (aa ?_);simp only[cond_false,cond_true];refine ae (aa (ae (aa (aa ?_))));rw[ak c];have y:=j false J false v;simp only[cond_false,cond_true]at y;simp only[G2 l u];exact y
   .simp only[cond_false,cond_true];refine ae (aa ?_);simp only[cond_false,cond_true];refine ae (aa (ae (aa (aa ?_))));rw[ak c];have y:=j false J true v;simp only[cond_false,cond_true]at y;simp only[G2 l u];exact y
   .simp only[cond_false,cond_true];refine ae (aa ?_);simp only[cond_false,cond_true];refine ae (aa (ae (aa (aa ?_))));rw[ak c];have y:=j true J false v;simp only[cond_false,cond_true]at y;simp only[G2 l u];exact y
   .simp only[cond_false,cond_true];refine ae (aa ?_);simp only[cond_false,cond_true];refine ae (aa (ae (aa (aa ?_))));rw[ak c];have y:=j true J true v;simp only[cond_false,cond_true]at y;simp only[G2 l u];exact y
  .rintro s rfl;refine aJ (aa (aa ?_));simp
 .have A:di (.mk 4 F H ks) lo.length=cK ks lo.length (Pl.g0 false):=by simp[di]
  rw[A];refine ap rfl (ap rfl (ap rfl (aD rfl ?_)));refine ae (aK (N:=ks.length) (I:=λi s=>s=((i:Int),lo++(cK (ks.take i) lo.length (Pl.g0 false)).sp.map (·.1),f++(cK (ks.take i) lo.length (Pl.g0 false)).sp.map (·.2),gf (P++(cK (ks.take i) lo.length (Pl.g0 false)).pr) (lo.length+(cK (ks.take i) lo.length (Pl.g0 false)).sp.length),(0:Int),(0:Int),false,((bS (cK (ks.take i) lo.length (Pl.g0 false)).fi:Nat):Int),((bS (cK (ks.take i) lo.length (Pl.g0 false)).la:Nat):Int),(cK (ks.take i) lo.length (Pl.g0 false)).em,())) (by simp[cK,Pl.g0,bS]) ?_ ?_)
  .rintro i s c rfl;obtain⟨l1,l2⟩:=YN e lo.length i;rw[HO c];have U:=xI c;generalize cK (ks.take i) lo.length (Pl.g0 false)=a at*;have hr:=b_ c;obtain⟨w1,w2⟩:=fU ks[i] (e _ hr) (lo.length+a.sp.length);have d:=jm ks[i] (lo.length+a.sp.length);refine aQ c (aA c ?_);rw[cV];have hsz:=g _ hr;have B:∀p q,(p,q)∈P++a.pr->p<lo.length+a.sp.length/\q<lo.length+a.sp.length:=λp q h=>by
    rcases h_.1 h with h|h;.have:=C p q h;omega
    .have:=l1.pr p q h;omega
   have hc:=Q ks[i] hr (e _ hr) (by omega) (lo++a.sp.map (·.1)) (f++a.sp.map (·.2)) (P++a.pr) (by simp[z]) (by simpa using B) (by simp;omega);rw[show(lo++a.sp.map (·.1)).length=lo.length+a.sp.length by simp]at hc;generalize di ks[i] (lo.length+a.sp.length)=x at*;have R:bS a.fi<2^64:=fy λp hp=>by have:=l1.fi p hp;omega
   have T:bS x.fi<2^64:=fy λp hp=>by have:=d.fi p hp;omega
   have l:bS a.la<2^64:=fy λp hp=>by have:=l1.la p hp;omega
   have u:bS x.la<2^64:=fy λp hp=>by have:=d.la p hp;omega
   refine aj hc ?_;dsimp only;rw[G2 R T,G2 l u];refine ae (bq (b:=x.em) (λ_=>aa rfl) (aa ?_));rw[ak c];simp only[r9,j_,xC,u_,d_,aO_]
  .rintro s rfl;refine aJ (aa (aa ?_));simp
 .obtain⟨x,rfl⟩:=ku (hn.one (by simp));have hr:x∈[x]:=q_.2 rfl;have hsz:=g _ hr;have w:lo.length+cnt x<=64:=by simp only[dt]at hcs;omega
  have hc:=Q x hr (e _ hr) (by omega) lo f P z C w;have d:=jm x lo.length;obtain⟨w1,w2⟩:=fU x (e _ hr) lo.length;have A:di (.mk 5 F H [x]) lo.length=if(5:Int)=5 then QJ (nC (di x lo.length))else nC (di x lo.length):=rfl;rw[A];refine ap rfl (ap rfl (ap rfl (ap rfl (ae ?_))));refine cO (a:=((5:Int)==5||true,lo,f,gf P lo.length,(0:Int),(0:Int),false,())) (λ_=>rfl) ?_;refine aD rfl (bH (by simp) rfl (aj hc (aj (vY (n:=lo.length+(di x lo.length).sp.length) (P++(di x lo.length).pr) _ _ (la:=(di x lo.length).la) (fi:=(di x lo.length).fi) (λp q h=>?_) (λp hp=>by have:=d.la p hp;omega) (λq E=>by have:=d.fi q E;omega) (by omega)) (ae (bq (b:=(5:Int)==5) (λ_=>aa rfl) (aa ?_))))))
  .rcases h_.1 h with h|h;.have:=C p q h;omega
   .have:=d.pr p q h;omega
  .simp[QJ,nC]
 .obtain⟨x,rfl⟩:=ku (hn.one (by simp));have hr:x∈[x]:=q_.2 rfl;have hsz:=g _ hr;have w:lo.length+cnt x<=64:=by simp only[dt]at hcs;omega
  have hc:=Q x hr (e _ hr) (by omega) lo f P z C w;have d:=jm x lo.length;obtain⟨w1,w2⟩:=fU x (e _ hr) lo.length;have A:di (.mk 6 F H [x]) lo.length=if(6:Int)=5 then QJ (nC (di x lo.length))else nC (di x lo.length):=rfl;rw[A];refine ap rfl (ap rfl (ap rfl (ap rfl (ae ?_))));refine cO (a:=((6:Int)==5||true,lo,f,gf P lo.length,(0:Int),(0:Int),false,())) (λ_=>rfl) ?_;refine aD rfl (bH (by simp) rfl (aj hc (aj (vY (n:=lo.length+(di x lo.length).sp.length) (P++(di x lo.length).pr) _ _ (la:=(di x lo.length).la) (fi:=(di x lo.length).fi) (λp q h=>?_) (λp hp=>by have:=d.la p hp;omega) (λq E=>by have:=d.fi q E;omega) (by omega)) (ae (bq (b:=(6:Int)==5) (λ_=>aa rfl) (aa ?_))))))
  .rcases h_.1 h with h|h;.have:=C p q h;omega
   .have:=d.pr p q h;omega
  .simp[QJ,nC]
 .obtain⟨x,rfl⟩:=ku (hn.one (by simp));have hr:x∈[x]:=q_.2 rfl;have hsz:=g _ hr;have w:lo.length+cnt x<=64:=by simp only[dt]at hcs;omega
  have hc:=Q x hr (e _ hr) (by omega) lo f P z C w;have A:di (.mk 7 F H [x]) lo.length=QJ (di x lo.length):=rfl;rw[A];refine ap rfl (ap rfl (ap rfl (ap rfl (ae ?_))));refine cO (a:=(false,lo,f,gf P lo.length,(0:Int),(0:Int),false,())) (λ_=>rfl) ?_;refine ap rfl (aD rfl (bH (by simp) rfl (aj hc (aa ?_))));simp[QJ]
def xo(x:PR):aB tbl 242 [.d Un x] [] aw (false,()):=crZ
noncomputable def vz(a b:DF):Bool×List Int×List PR×List Int×List Int×List (List Int)×Unit:=
 match lH a b (vS 4096) (a.2.1.length*b.2.1.length)with
 | .inl S=>AQ a b false S
 | .inr S=>AQ a b true S
def oo{a b:DF}(n:Good a)(p:Good b):aB tbl 241 [.d Uc a,.d Uc b,.d tI (4096:Int),.HK IP []] [] iX (vz a b):=by
 refine cm ?_;have qr:=dz n;have rg:=dz p;have hB:=CE n p;have hk:=tJ n p;refine aj (sE a.1 b.1 (rQ n.cu) (rQ p.cu) (by omega) (by omega)) ?_;refine bH (x:=fp a b) (by simp) rfl (aZ (x:=fp a b) rfl (ao rfl ?_));refine bH (x:=fp a b) (by simp) rfl (aZ (x:=fp a b) rfl (aj (xo _) ?_));refine au (λh=>by grind) λ_=>?_;refine ae (Go.Ev.wp_loop (λs=>∃i S,s=Yr a b i S/\lH a b (vS 4096) i= .inl S/\i<=S.1.length) (λs=>a.2.1.length*b.2.1.length - s.1.toNat) ⟨0,([fp a b],[],[]),rfl,rfl,by simp⟩ ?_);rintro s ⟨i,S,rfl,Y,ph⟩;have gc:S=dw a b i:=((eG i).1 S Y).1;subst gc;have v:UJ a b (dw a b i).1 (dw a b i).2.1:=cx i;have D:=uK n p v;have At:=Nb (a:=a) (b:=b) i;simp only[Yr];refine au (λh=>?_) λh=>?_
 .have z:i<(dw a b i).1.length:=by grind
  have hx:=a_ z;refine ao (EM (by omega)) (ae (Wp.imp (Q:=λr=>match ig (hH (vS 4096) (dc a b) (dw a b i).1[i] i) ((dw a b i).1,(dw a b i).2.1,[]) (cr a b)with
   | .inl g=>r= .inr (cr a b,g.1,tG g.2.1,U3 g.2.1,cM (dw a b i).2.2,kt 0 g.1,g.2.2.map (fun(k:Nat)=>(k:Int)),())/\UJ a b g.1 g.2.1/\g.2.2.length=(cr a b).length
   | .inr g=>r= .inl (true,cr a b,g.1,tG g.2,U3 g.2,cM (dw a b i).2.2,())) ?_ λr hr=>?_))
  .have h:=v;clear v D Y At ph;generalize(dw a b i).1[i]=x at hx⊢;clear z;generalize(dw a b i).2.2=R;generalize(dw a b i).2.1=T at h⊢;generalize(dw a b i).1=L at h hx⊢;have hk:=tJ n p;have hB:=CE n p;have qr:=dz n;have rg:=dz p;refine zi (xs:=cr a b) (f:=hH (vS 4096) (dc a b) x i) (s0:=(L,T,[])) (Inv:=λj st=>UJ a b st.1 st.2.1/\L<+:st.1/\st.2.2.length=j) (enc:=λj st=>((j:Int),cr a b,st.1,tG st.2.1,U3 st.2.1,cM R,kt 0 st.1,kM (cr a b).length st.2.2,())) (oE:=λst=>.inr (cr a b,st.1,tG st.2.1,U3 st.2.1,cM R,kt 0 st.1,kM (cr a b).length st.2.2,())) (oB:=λr=>.inl (true,cr a b,r.1,tG r.2,U3 r.2,cM R,())) ⟨h,aD_ _,rfl⟩ (λj C st O=>?_) (λst O=>?_) (λr hr hs=>?_)
   .obtain⟨l,w,c⟩:=st;obtain⟨B,J,M⟩:=O;simp only at B J M;subst M;have A:=rF J hx;have z:=(f_.1 A).1;have Bx:=(f_.1 A).2;have u:=J0 n p B A;have D:=uK n p B;have P:=(jP n p _ (b_ C)).1;have hT:w.length<l.length:=by have:=B.len;omega
    obtain⟨p1,p2,p3,p4⟩:=qy n u.1.1 u.1.2 P;obtain⟨r1,r2,r3,r4⟩:=qy p u.2.1 u.2.2 P;simp only[Yr];refine aQ C (aA C (aA z (aZ (x:=x) (by grind) ?_)));refine bg u.1.1 p1 (aj (xr a.1 _ n.cu (by omega) P) (aA p2 ?_));refine aA z (aZ (x:=x) (by grind) (bg u.2.1 r1 (aj (xr b.1 _ p.cu (by omega) P) (aA r2 ?_))));rw[p3,r3];have H:((bJ a x.1 (cr a b)[c.length],bJ b x.2.1 (cr a b)[c.length],()):PR)=dc a b x (cr a b)[c.length]:=rfl;simp only[H];generalize U:dc a b x (cr a b)[c.length]=y;have Bk:PIn a b y:=by rw[<-U];exact FA n p P u
    have I:=EA y l 0;have N:c.length<(kM (cr a b).length c).length:=by unfold kM;grind
    by_cases E:y∈l;.rw[if_pos E]at I;have e:hH (vS 4096) (dc a b) x i (l,w,c) (cr a b)[c.length]= .inl (l,w,c++[pos l y]):=yX U E;rw[e];refine ae (au (λhc=>by grind) λ_=>aa ?_);refine aA N (aZ (x:=(kM (cr a b).length c)[c.length]) (by simp) (aa ?_));refine⟨⟨B,J,by simp⟩,?_⟩;rw[I,ak C];simp only[O_,g_,ao_];rw[t7 C]
    .rw[if_neg E]at I;have v:UJ a b (l++[y]) (w++[(i,(cr a b)[c.length])]):=by rw[<-U]at E⊢;exact B.add A (b_ C) E
     have ur:=uK n p v;simp only[d_,p_]at ur;have F:=EB y l 0 E;simp only[ao_]at F;have ef:tG (w++[(i,(cr a b)[c.length])])=tG w++[(i:Int)]:=by simp[tG]
     have eb:U3 (w++[(i,(cr a b)[c.length])])=U3 w++[(cr a b)[c.length]]:=by simp[U3]
     refine ae (au (λ_=>?_) λhc=>by grind);refine ao (decide_eq_true (by rw[Ez];simp only[maxLen];omega)) ?_;refine ao (decide_eq_true (by grind)) (ao (decide_eq_true (by simp[tG];omega)) (ao (decide_eq_true (by simp[U3];omega)) ?_));refine ae (bq (b:=false) (λ_=>aj (xo y) (aa rfl)) ?_);rw[be_];refine au (λhd=>aa ?_) λhd=>aa ?_
     .have hd:vS 4096 l y=true:=by grind
      have e:hH (vS 4096) (dc a b) x i (l,w,c) (cr a b)[c.length]= .inr (l++[y],w++[(i,(cr a b)[c.length])]):=uN U E hd;rw[e];refine aa ?_;grind
     .have hd:vS 4096 l y=false:=by grind
      have e:hH (vS 4096) (dc a b) x i (l,w,c) (cr a b)[c.length]= .inl (l++[y],w++[(i,(cr a b)[c.length])],c++[l.length]):=yY U E hd;rw[e];refine aA N (aZ (x:=(kM (cr a b).length c)[c.length]) (by simp) (aa ?_));refine⟨⟨v,J.trans (af_ _ _),by simp⟩,?_⟩;rw[ak C,ef,eb];simp only[g_];rw[t7 C,F]
   .exact aJ (aa rfl)
   .rw[yc]at hr;rw[hr];cases r with
    |inl st=>obtain⟨B,J,M⟩:=hs st rfl;refine⟨?_,B,M⟩;simp only[kM,M,aR_,bc_,I_]
    |inr r=>rfl
  have d:lH a b (vS 4096) (i+1)=match ig (hH (vS 4096) (dc a b) (dw a b i).1[i] i) ((dw a b i).1,(dw a b i).2.1,[]) (cr a b)with
   | .inl r=>.inl (r.1,r.2.1,(dw a b i).2.2++[r.2.2])
   | .inr r=>.inr (r.1,r.2,(dw a b i).2.2):=by
   have el:gJ (dc a b) (fp a b) (cr a b) (vS 4096) i= .inl (dw a b i):=Y
   simp only[lH,gJ,el,hx]
   grind
  cases hf:ig (hH (vS 4096) (dc a b) (dw a b i).1[i] i) ((dw a b i).1,(dw a b i).2.1,[]) (cr a b)with
  |inl g=>
   rw[hf]at hr d;obtain⟨rfl,h2,h3⟩:=hr;refine ao (decide_eq_true (by simp[cM];omega)) (aa ?_);have hp:=(iu (f:=dc a b) (s0:=fp a b) (ls:=cr a b) i).1;rw[<-(((eG (i+1)).1 _ d).1)]at hp;have wr:(dw a b i).1.length<=g.1.length:=hp.length_le;refine⟨⟨i+1,(g.1,g.2.1,(dw a b i).2.2++[g.2.2]),?_,d,P_ z wr⟩,?_⟩;.simp only[Yr,cM,j_,x_,D_];rw[ak z]
   .rw[ak z];omega
  |inr g=>rw[hf]at hr d;subst hr;refine aa (aa ?_);have he:lH a b (vS 4096) (a.2.1.length*b.2.1.length)= .inr (g.1,g.2,(dw a b i).2.2):=qS (by omega) d;rw[show vz a b=AQ a b true (g.1,g.2,(dw a b i).2.2)from by unfold vz;grind];rfl
 .have z:(dw a b i).1.length<=i:=by grind
  refine aa (aa ?_);have he:lH a b (vS 4096) (a.2.1.length*b.2.1.length)= .inl (dw a b i):=uA (by omega) Y z;rw[show vz a b=AQ a b false (dw a b i)from by unfold vz;grind];rfl
def Ro{κ:Type} [DecidableEq κ]{L:List κ}{x:κ}(h:x∈L):L[pos L x]? =some x:=by grind
noncomputable def lT(a b:DF):DF:=(cr a b,cM (dv a b).2.2,(dv a b).1.map λx=>bM a x.1&&bM b x.2.1,0,())
section
variable {a b:DF}
theorem Bc(d:Good a)(e:Good b):∀x∈(dv a b).1,∀c∈cr a b,dc a b x c∈(dv a b).1:=λx f c hc=>lI _ x (by rw[s_ (K8 d e)];omega) c hc
theorem AL(d:Good a)(e:Good b):(lT a b).2.1=(dv a b).1.map λx=>(cr a b).map λc=>(pos (dv a b).1 (dc a b x c):Int):=by show cM (dv a b).2.2=_;rw[mU _ _ (R_ _),s_ (K8 d e)];unfold cM;simp
theorem Br(d:Good a)(j:Good b):ce (cr a b):=by
 obtain⟨c,l⟩:=EC a b;have g:(0:Int)∈cr a b:=(l 0).2 (.inl (by have:=d.cu.2.1 d.cu.1;grind));refine⟨(ad_ g),λh=>?_,λi h=>wh c (by simp) h,λv n=>(jP d j v n).2⟩;obtain⟨i,k,e⟩:=e_.1 g;have h1:=(jP d j _ (b_ h)).1;rcases y_ i with rfl|f;.omega
 .have:=wh c f k;omega
theorem Rp(e:Good a)(f:Good b):WF (lT a b):=by
 have hr:=AL e f;have h:0<(dv a b).1.length:=(f_.1 (cx _).head).1;have hn:(lT a b).2.1.length=(dv a b).1.length:=by grind
 refine⟨Br e f,⟨by omega,by rw[hn];simp[lT]⟩,λr d=>?_,⟨aW_ _,by rw[hn];show(0:Int)<_;omega⟩,λr d t ht=>?_⟩;.rw[hr]at d;obtain⟨x,_,rfl⟩:=l_.1 d;simp[lT]
 .rw[hr]at d;obtain⟨x,g,rfl⟩:=l_.1 d;obtain⟨c,hc,rfl⟩:=l_.1 ht;have:=w9.1 (Bc e f x g c hc);omega
theorem Wz(c:Good a)(d:Good b){x:PR}(f:x∈(dv a b).1){j:Nat}(g:j<(cr a b).length):bw (lT a b) (pos (dv a b).1 x:Int) j=(pos (dv a b).1 (dc a b x (cr a b)[j]):Int):=by have e:(dv a b).1[pos (dv a b).1 x]? =some x:=Ro f;unfold bw;rw[AL c d];grind
theorem Ti(k:Good a)(l:Good b){x:PR}(s:x∈(dv a b).1){v:Int}(r:0<=v):bJ (lT a b) (pos (dv a b).1 x:Int) v=(pos (dv a b).1 (dc a b x v):Int):=by
 obtain⟨f,p⟩:=EC a b;obtain⟨h1,h2,u⟩:=j9 (Br k l) r;have g:=(jP k l _ (b_ h1)).1;have d:∀x∈cr a b,x<=v->x<=(cr a b)[dy (cr a b) v]:=λy h c=>by
  obtain⟨j,z,rfl⟩:=e_.1 h;rcases bs_ (dy (cr a b) v) j with hl|n;.grind
  .rcases ag_ n with hl|w;.have:=wh f hl h1;omega
   grind
 show bw (lT a b) (pos (dv a b).1 x:Int) (dy (cr a b) v)=_;rw[Wz k l s h1];have e:dc a b x (cr a b)[dy (cr a b) v]=dc a b x v:=by unfold dc bJ;rw[qP k.cu g h2 λy h c=>d y ((p y).2 (.inl h)) c,qP l.cu g h2 λy h c=>d y ((p y).2 (.inr h)) c]
 rw[e]
theorem Sk(d:Good a)(f:Good b){x:PR}(h:x∈(dv a b).1){v:Int}(g:0<=v):dc a b x v∈(dv a b).1:=by
 obtain⟨c,hc,j,k⟩:=VL d f g;have e:dc a b x v=dc a b x c:=by unfold dc bJ;grind
 rw[e];exact Bc d f x h c hc
theorem MZ(d:Good a)(e:Good b):∀(w:List Int) (x:PR),x∈(dv a b).1->eH w->w.foldl (bJ (lT a b)) (pos (dv a b).1 x:Int)=(pos (dv a b).1 (w.foldl (dc a b) x):Int)/\w.foldl (dc a b) x∈(dv a b).1
 |[],x,c,_=>⟨rfl,c⟩
 |v::w,x,c,g=>by have f:=(g v (w_ ..)).1;rw[X_,X_,Ti d e c f];exact MZ d e w _ (Sk d e c f) λu h=>g u (m_ _ h)
theorem Tg(g:Good a)(h:Good b){w:List Int}(k:eH w):bM (lT a b) (dW (lT a b) w)=(bM a (dW a w)&&bM b (dW b w)):=by
 have c:(dv a b).1[0]? =some (fp a b):=(cx _).head;have d:pos (dv a b).1 (fp a b)=0:=(xc (aG_ _) (λj z l=>by omega) (λz n=>by grind)).symm;obtain⟨h1,h2⟩:=MZ g h w _ (Q_ c) k;rw[d]at h1;have e0:dW (lT a b) w=(pos (dv a b).1 (w.foldl (dc a b) (fp a b)):Int):=h1;rw[e0];have e:(dv a b).1[pos (dv a b).1 (w.foldl (dc a b) (fp a b))]? =some (w.foldl (dc a b) (fp a b)):=Ro h2;have f:bM (lT a b) (pos (dv a b).1 (w.foldl (dc a b) (fp a b)):Int)=(bM a (w.foldl (dc a b) (fp a b)).1&&bM b (w.foldl (dc a b) (fp a b)).2.1):=by show((dv a b).1.map λx=>bM a x.1&&bM b x.2.1).getD _ false=_;grind
 rw[f,Bl];rfl
end
def WA{a b:DF}(c:Good a)(d:Good b):(lT a b).1.length<=4000/\(lT a b).2.1.length=(dv a b).1.length:=by refine⟨tJ c d,?_⟩;rw[AL c d,o_]
def Zj{a b:DF}(f:Good a)(g:Good b):(lH a b (vS 4096) (a.2.1.length*b.2.1.length)= .inl (dv a b)/\(dv a b).1.length<=4096)\/∃r,lH a b (vS 4096) (a.2.1.length*b.2.1.length)= .inr r:=by cases h:lH a b (vS 4096) (a.2.1.length*b.2.1.length)with|inr r=>simp|inl S=>obtain⟨d,e⟩:=(eG _).1 S h;subst d;refine .inl ⟨rfl,Nat.le_of_not_lt λc=>?_⟩;have:=e 4095 _ (a_ c);grind
def zD:DF:=([],[],[],0,())
def KI(a b:DF)(c:DF×Int×Unit):Prop:=
 c.2.1=0->Good a/\Good b/\Good c.1/\∀w,eH w->bM c.1 (dW c.1 w)=(bM a (dW a w)&&bM b (dW b w))
def Jd(m:DF):DF×Int×Unit:=if m.1.length>2000 then(zD,8,())else(m,0,())
def Ri:Sa zD:=⟨by simp[zD],by simp[zD],by simp[zD],by simp[zD]⟩
def H9{m:DF}(a:WF m)(h1:m.1.length<=2000)(h2:m.2.1.length<=4096):Good m:=by exact⟨a.cu,by unfold Big;have:=a.len;omega,a.len,a.rows,a.start,a.to⟩
def K5{a b:DF}{L:List PR}{i:Nat}(c:i<L.length):(L.take i).map (λx=>bM a x.1&&bM b x.2.1)++([bM a L[i].1&&bM b L[i].2.1]:List Bool)=(L.take (i+1)).map λx=>bM a x.1&&bM b x.2.1:=by simp only[i_,a_ c,j_,U_,x_,D_]
def U0{a b:DF}(f:Good a)(g:Good b){m:DF}(p:lH a b (vS 4096) (a.2.1.length*b.2.1.length)= .inl (dv a b))(j:(dv a b).1.length<=4096) (n:aB tbl 240 [.d Uc (lT a b)] [] bp (m,())): aB tbl 205 [.d Uc a,.d Uc b] [] bA (Jd m):=by
 refine cm ?_;refine aj (gh a) ?_;rw[dQ.2 f];refine au (λh=>by grind) λ_=>aj (gh b) ?_;rw[dQ.2 g];refine au (λh=>by grind) λ_=>aj (oo f g) ?_;rw[show vz a b=AQ a b false (dv a b)from by unfold vz;grind];refine ae (aK (N:=(dv a b).1.length) (I:=λi s=>s=((i:Int),(0:Int),cr a b,(0:Int),cM (dv a b).2.2,((dv a b).1.take i).map (λx=>bM a x.1&&bM b x.2.1),(dv a b).1,())) (by simp[AQ]) ?_ ?_);.rintro i s d rfl;have c:=J0 f g (cx _) (a_ d);obtain⟨h1,k⟩:=IW f c.1.1 c.1.2;obtain⟨h2,l⟩:=IW g c.2.1 c.2.2;refine aQ d (aA d (aZ (by simp) (bg c.1.1 h1 ?_)));refine ae (bh (λ_=>bg c.2.1 h2 (aa l)) ?_);rw[k];refine ao (decide_eq_true (by grind)) (aa ?_);simp only[K5 d];rw[ak d]
 .rintro s rfl;refine aJ (aa ?_);rw[k_];refine aj n ?_;refine au (λh=>?_) λh=>?_
  .have h1:m.1.length>2000:=by grind
   have e:Jd m=(zD,8,()):=if_pos h1;exact cO (λ_=>rfl) (by rw[e];rfl)
  .have h1:¬m.1.length>2000:=by grind
   have e:Jd m=(m,0,()):=if_neg h1;exact cO (λ_=>rfl) (by rw[e])
def U1{a b:DF}(g:Good a)(j:Good b){m:DF}(v:lH a b (vS 4096) (a.2.1.length*b.2.1.length)= .inl (dv a b))(n:(dv a b).1.length<=4096) (u:aB tbl 250 [.d Uc (lT a b)] [] bp (m,())): aB tbl 211 [.d Uc a,.d Uc b] [] bA (Jd m):=by
 refine cm ?_;refine aj (eS a) ?_;rw[dQ.2 g];refine au (λh=>by grind) λ_=>aj (eS b) ?_;rw[dQ.2 j];refine au (λh=>by grind) λ_=>aj (vD g j 4096) ?_;have d:UJ a b (dv a b).1 (dv a b).2.1:=cx _;have f:(qt (dv a b).1 (dv a b).2.1).length=(dv a b).1.length:=yU d.len;rw[show Kb a b 4096=(qt (dv a b).1 (dv a b).2.1,cM (dv a b).2.2,cr a b,true,())from by unfold Kb;grind];refine ae (aK (N:=(dv a b).1.length) (I:=λi s=>s=((i:Int),(0:Int),cr a b,cM (dv a b).2.2,(0:Int),((dv a b).1.take i).map (λx=>bM a x.1&&bM b x.2.1),())) (by simp) ?_ ?_);.rintro i s k rfl;have c:=J0 g j d (a_ k);obtain⟨h1,p⟩:=IW g c.1.1 c.1.2;obtain⟨h2,r⟩:=IW j c.2.1 c.2.2;obtain⟨t,ht,hr⟩:=Fc d.len (a_ k);refine aQ (by grind) (io hr (bg (i:=(YW (dv a b).1[i] t).1) c.1.1 h1 ?_));refine ae (bh (b:=bM b (dv a b).1[i].2.1) (λ_=>bg (i:=(YW (dv a b).1[i] t).2.1) c.2.1 h2 (aa r)) ?_);have l:a.2.2.1[(YW (dv a b).1[i] t).1.toNat]=bM a (dv a b).1[i].1:=p;rw[l];refine ao (decide_eq_true (by grind)) (aa ?_);simp only[K5 k];rw[ak k]
 .rintro s rfl;rw[<-f];refine aJ (aa ?_);rw[f,k_];refine aj u ?_;refine au (λh=>?_) λh=>?_
  .have h1:m.1.length>2000:=by grind
   have e:Jd m=(zD,8,()):=if_pos h1;exact cO (λ_=>rfl) (by rw[e];rfl)
  .have h1:¬m.1.length>2000:=by grind
   have e:Jd m=(m,0,()):=if_neg h1;exact cO (λ_=>rfl) (by rw[e])
def Ht(a b:DF):∃c:DF×Int×Unit,KI a b c/\(c.2.1=0\/c.1=zD)/\aB tbl 205 [.d Uc a,.d Uc b] [] bA c/\aB tbl 211 [.d Uc a,.d Uc b] [] bA c:=by
 by_cases d:Good a
 .by_cases f:Good b
  .have B:=dz d;have C:=dz f;rcases Zj d f with⟨p,g⟩|⟨r,hr⟩
   .obtain⟨D,E⟩:=WA d f;obtain⟨⟨x,_⟩,⟨⟨h1,h2⟩,k,l⟩,z⟩:=vA (Rp d f) (by omega) (by omega);obtain⟨⟨y,_⟩,⟨s,u⟩,v⟩:=sJ (Rp d f) (by omega) (by omega);have n:x=y:=xF h1 s λw j=>(h2 w j).trans (u w j).symm;subst n;simp only at k l h1 h2;refine⟨Jd x,?_,?_,U0 d f p g z,U1 d f p g v⟩
    .unfold Jd;split;.intro h;grind
     .intro _;exact⟨d,f,H9 h1.wf (by grind) (by grind),λw j=>(h2 w j).trans (Tg d f j)⟩
    .unfold Jd;grind
   .refine⟨(zD,8,()),(λh=>absurd h (by simp):KI a b (zD,8,())),.inr rfl,?_,?_⟩;.refine cm ?_;refine aj (gh a) ?_;rw[dQ.2 d];refine au (λh=>by grind) λ_=>aj (gh b) ?_;rw[dQ.2 f];refine au (λh=>by grind) λ_=>aj (oo d f) ?_;rw[show vz a b=AQ a b true r from by unfold vz;grind];exact au (λ_=>aa rfl) λh=>by cases h
    .refine cm ?_;refine aj (eS a) ?_;rw[dQ.2 d];refine au (λh=>by grind) λ_=>aj (eS b) ?_;rw[dQ.2 f];refine au (λh=>by grind) λ_=>aj (vD d f 4096) ?_;rw[show Kb a b 4096=([],[],[],false,())from by unfold Kb;grind];exact au (λ_=>aa rfl) λh=>by grind
  .have hc:bL b≠0:=λe=>f (dQ.1 e);have A:(bL b != (0:Int))=true:=by grind
   refine⟨(zD,bL b,()),(λh=>absurd h hc:KI a b (zD,bL b,())),.inr rfl,?_,?_⟩;.refine cm ?_;refine aj (gh a) ?_;rw[dQ.2 d];refine au (λh=>by grind) λ_=>aj (gh b) ?_;exact au (λ_=>aa rfl) λh=>by grind
   .refine cm ?_;refine aj (eS a) ?_;rw[dQ.2 d];refine au (λh=>by grind) λ_=>aj (eS b) ?_;exact au (λ_=>aa rfl) λh=>by grind
 .have hc:bL a≠0:=λe=>d (dQ.1 e);refine⟨(zD,bL a,()),(λh=>absurd h hc:KI a b (zD,bL a,())),.inr rfl,?_,?_⟩;.refine cm ?_;refine aj (gh a) ?_;exact au (λ_=>aa rfl) λh=>by grind
  .refine cm ?_;refine aj (eS a) ?_;exact au (λ_=>aa rfl) λh=>by grind
def ug(l:List Int):Asc (pU l)/\∀x,x∈pU l↔x∈l:=by obtain⟨c,hc,a⟩:=qO l;rw[mz hc a];exact⟨hc,a⟩
def Od{l l':List Int}(h:∀x,x∈l↔x∈l'):pU l=pU l':=by obtain⟨h1,h2⟩:=ug l';exact mz h1 λx=>(h2 x).trans (h x).symm
def Ll(a b:List Int):pU (pU a++b)=pU (a++b):=Od λx=>by rw[h_,h_,(ug a).2]
def Lm(l:List Int):(pU l).length<=l.length:=Qp (ug l).1 λx a=>((ug l).2 x).1 a
abbrev JR(g:G):List Int:=g.sp.map (·.1)
abbrev JI(g:G):List Int:=g.sp.map (·.2)
def Hs{sp:List (Int×Int)}{i:Nat}(h:i<sp.length):nX (sp.take (i+1))=nX (sp.take i)++(sp[i].1::if sp[i].2<4294967295 then [sp[i].2+1]else []):=by unfold nX;rw[i_,a_ h,aq_];simp
def Iz{g:G}(hg:uW g)(F:List Int):aB tbl 238 [.ptr 0 0] [.box 323 [.sl 1,.sl 2,.sl 3],.vec 3 tI (JR g),.vec 3 tI (JI g),.vec 324 tQ F] fJ (ct g,JR g,JI g,F,()):=by
 refine cm ?_;have hn:=hg.n64;refine ae (aK (N:=(JR g).length) (I:=λi s=>s=(pU (nX (g.sp.take i)),(i:Int),JR g,JI g,F,())) ?_ ?_ ?_);.have:pU (nX (g.sp.take 0))=[0]:=mz (by simp[Asc]) (by simp[nX]);grind
 .rintro i s c rfl;have a:i<g.sp.length:=by grind
  have b:i<(JI g).length:=by grind
  have j:(JR g)[i]=g.sp[i].1:=by simp
  have f:(JI g)[i]=g.sp[i].2:=by simp
  have n:=hg.je _ (b_ a);have l:=hg.le _ (b_ a);have k:=Lm (nX (g.sp.take i));have d:=xz (g.sp.take i);rw[an_]at d;dsimp only;refine aQ c (ae (aA c (aZ (x:=(JR g)[i]) (by grind) ?_)));rw[j];refine aj (sE _ [g.sp[i].1] (ug _).1 (by simp[Asc]) (by omega) (by simp)) ?_;rw[Ll];refine aA b (aZ (x:=(JI g)[i]) (by grind) ?_);rw[f,Hs a];refine au (λh=>?_) λh=>aa (aa ?_);.have h:=of_decide_eq_true h;refine aA b (aZ (x:=(JI g)[i]) (by grind) ?_);rw[f,wrap_i64];have e:=Lm (nX (g.sp.take i)++[g.sp[i].1]);rw[d_,p_]at e;refine aj (sE (pU (nX (g.sp.take i)++[g.sp[i].1])) [g.sp[i].2+1] (ug _).1 (by simp[Asc]) (by omega) (by simp)) (aa (aa ?_));rw[Ll,ak c (by grind),if_pos h];simp
  .have h:=of_decide_eq_false h;rw[ak c (by grind),if_neg h]
 .rintro s rfl;refine aJ (aa (aa ?_));rw[s_ (by simp)];rfl
def CN{g:G}(hg:uW g)(F:List Int)(a:Int):aB tbl 239 [.ptr 0 0,.d tI a] [.box 323 [.sl 1,.sl 2,.sl 3],.vec 3 tI (JR g),.vec 3 tI (JI g),.vec 324 tQ F] eP (((tL g a:Nat):Int),JR g,JI g,F,()):=by
 refine cm ?_;have hn:=hg.n64;refine ae (aK (N:=(JR g).length) (I:=λi s=>s=(((bS ((c_ i).filter (l7 g a)):Nat):Int),(i:Int),JR g,JI g,F,())) rfl ?_ ?_)
 .rintro i s c rfl;have k:i<g.sp.length:=by grind
  have d:i<(JI g).length:=by grind
  have e:(JR g)[i]=g.sp[i].1:=by simp
  have f:l7 g a i=(decide (g.sp[i].1<=a)&&decide (a<=g.sp[i].2)):=by unfold l7;grind
  refine aQ c (ae (aA c (aZ (x:=(JR g)[i]) (by grind) ?_)));rw[e];refine ae (bh (b:=decide (a<=g.sp[i].2)) (λ_=>aA d (aZ (x:=(JI g)[i]) (by grind) (aa (by simp)))) ?_);rw[<-f];have j:bS ((c_ i).filter (l7 g a))<2^64:=fy λp hp=>by grind
  have hs:(c_ (i+1)).filter (l7 g a)=(c_ i).filter (l7 g a)++(if l7 g a i=true then [i]else []):=by rw[J_,N_,List.filter_cons,List.filter_nil]
  rw[hs];refine au (λh=>ao (decide_eq_true (by rw[wrap_u64];omega)) (aa (aa ?_))) λh=>aa (aa ?_);.rw[Zy (by omega),G2 j (aY_ (by simp) (by omega)),ak c (by grind),if_pos h,xC];simp[bS]
  .rw[ak c (by grind),if_neg (by grind),I_]
 .rintro s rfl;refine aJ (aa (aa ?_));rw[o_];rfl
abbrev XB(g:G):List Int:=gf g.pr g.sp.length
def ZO{g:G}(hg:uW g):∀p q,(p,q)∈g.pr->q<g.sp.length:=λp q h=>by have:=hg.SP.pr p q h;omega
def U7{g:G}(hg:uW g)(x:Option Nat):l5 g x<2^64:=aw_ (Qw hg.SP x) (aj_ (by decide) hg.n64)
def zbB{g:G}(hg:uW g)(a:Int):tL g a<2^64:=aw_ (YR g a) (aj_ (by decide) hg.n64)
def zct{g:G}(hg:uW g):bS g.la<2^64:=fy λp hp=>by have:=hg.SP.la p hp;have:=hg.n64;omega
abbrev SN:Type:=List (Option Nat)×List (Nat×Int)×List (List Nat)
noncomputable def aU(g:G)(i:Nat)(S:SN):Int×Int×List Int×List Int×List Int×Int×Int×Bool×List Int×Int×List (List Int)×List Bool×List NK×List (NK×Int)×Unit:=
 ((i:Int),(0:Int),JR g,JI g,XB g,((bS g.fi:Nat):Int),((bS g.la:Nat):Int),g.em,ct g,(0:Int),cM S.2.2,(S.1.take i).map (iJ g),S.1.map dL,Mm 0 S.1,())
def DD{g:G}(i:Nat):(bK g i).2.2.length<=i:=by rw[mU i i (R_ _),o_,an_];omega
def Hl{g:G}{L:List (Option Nat)}{i:Nat}{x:Option Nat}(a:L[i]? =some x):(L.take i).map (iJ g)++[iJ g x]=(L.take (i+1)).map (iJ g):=by rw[i_,a,j_];rfl
def MY{a:Type}{L L':List a}(h:L<+:L'){i:Nat}(b:i<=L.length):L'.take i=L.take i:=by obtain⟨t,rfl⟩:=h;grind
def sD{r:Rx}(hr:eO r=0){m:DF}(E:(sS (di r 0)).length<=4096->aB tbl 240 [.d Uc (dN (di r 0))] [] bp (m,())): aB tbl 204 [.d .rx r] [] bA (match kh (di r 0) NL with| .inl _=>(m,0,())| .inr _=>(zD,8,())):=by
 obtain⟨hw,hsz⟩:=kS hr;have hg:=JF hw hsz;have Dg:=Ov r;refine na (by cases kh (di r 0) NL<;>rfl) (QB bA ?_);refine aj (pf r (by omega)) ?_;rw[hr];refine ap rfl ?_;have l:=NW r hw (by omega) [] [] [] rfl (λp q h=>by grind) (by grind);simp only[ah_,ao_,as_]at l;have ef:gf ([]:List (Nat×Nat)) 0=[]:=rfl;rw[ef]at l;refine aj l ?_;generalize di r 0=g at*;have Y:=tH hg;refine aj (Iz hg _) ?_;refine bH (x:=dL none) (by simp) rfl (aZ (x:=dL none) rfl (ao rfl ?_));refine ae (Ev.wp_loop (λs=>∃i S,s=aU g i S/\kh g i= .inl S/\i<=S.1.length) (λs=>NL - s.1.toNat) ⟨0,([none],[],[]),rfl,rfl,by simp⟩ ?_);rintro s ⟨i,S,rfl,hS,At⟩;obtain⟨D,hq⟩:=(eG i).1 S hS;have D:S=bK g i:=D;have DA:=Qi;subst D;have w:Ok (da g) none (ct g) (bK g i).1 (bK g i).2.1:=cx i;have J:=AM hq;have Bx:=DD (g:=g) i;have R:((bK g i).1.map dL).length=(bK g i).1.length:=o_ _;simp only[aU];refine au (λh=>?_) λh=>?_
 .have C:i<(bK g i).1.length:=by grind
  have U:=a_ C;generalize CD:(bK g i).1[i]=x at U;have CT:((bK g i).1.map dL)[i]? =some (dL x):=by grind
  refine bH (x:=dL x) (by simp) (by rw[g_];omega) (aZ (x:=dL x) (by rw[g_];omega) ?_);refine ae (Ev.wp_mono (Q:=λv=>v=(((l5 g x:Nat):Int),(0:Int),JR g,JI g,XB g,((bS g.fi:Nat):Int),((bS g.la:Nat):Int),g.em,ct g,(0:Int),cM (bK g i).2.2,((bK g i).1.take i).map (iJ g),(bK g i).1.map dL,Mm 0 (bK g i).1,(dL x).1,(dL x).2.1,())) ?_ ?_)
  .cases x with
   |none=>exact ap rfl (aa rfl)|some b=>
    have hb:b<2^64:=by
     have:=w.inv (P:=λy=>∀c,y=some c->c<2^64) (λc hc=>by grind) (λy c _ _ d hd=>by
      have:l5 g y&&&tL g c=d:=by simpa[da]using hd
      rw[<-this];exact av_ aU_ (U7 hg y)) i _ U
     grind
    refine aD rfl (ae (Ev.wp_mono (Q:=λr=>r=(((l5 g (some b):Nat):Int),(0:Int),JR g,JI g,XB g,((bS g.fi:Nat):Int),((bS g.la:Nat):Int),g.em,ct g,(0:Int),cM (bK g i).2.2,((bK g i).1.take i).map (iJ g),(bK g i).1.map dL,Mm 0 (bK g i).1,false,(b:Int),())) ?_ (by rintro v rfl;exact aa rfl)));have hn:=hg.n64;have hF:(XB g).length=g.sp.length:=nu _ _;refine aK (N:=(XB g).length) (I:=λk s=>s=(((bS ((c_ k).flatMap λk=>if b.testBit k then Ek g.pr k else []):Nat):Int),(k:Int),(0:Int),JR g,JI g,XB g,((bS g.fi:Nat):Int),((bS g.la:Nat):Int),g.em,ct g,(0:Int),cM (bK g i).2.2,((bK g i).1.take i).map (iJ g),(bK g i).1.map dL,Mm 0 (bK g i).1,false,(b:Int),())) rfl ?_ ?_
    .rintro k s Y rfl;have DB:k<g.sp.length:=by omega
     have hc:bS ((c_ k).flatMap λk=>if b.testBit k then Ek g.pr k else [])<2^64:=fy λp hp=>by
      obtain⟨j,_,hp⟩:=aQ_.1 hp;split at hp;.have:=ZO hg _ _ (jl.1 hp);omega
      grind
     have hs:(c_ (k+1)).flatMap (λk=>if b.testBit k then Ek g.pr k else [])=((c_ k).flatMap λk=>if b.testBit k then Ek g.pr k else [])++(if b.testBit k then Ek g.pr k else []):=by rw[J_,aq_];simp
     rw[hs];dsimp only;refine aQ Y (ae (ao (decide_eq_true (by rw[wrap_u64];omega)) ?_));rw[Xq hb (by omega)];refine au (λh=>?_) λh=>aa (aa ?_);.refine aA Y (aZ (x:=(XB g)[k]) (by simp) (aa (aa ?_)));rw[nr,G2 hc (ZI (ZO hg) hn k),ak Y,if_pos h,xC]
     .rw[ak Y,if_neg (by grind),I_]
    .rintro s rfl;refine aJ (aa ?_);rw[hF];rfl
  rintro v rfl;dsimp only;refine ao (EM (by omega)) (ae (Ev.wp_mono (Q:=λr=>match ig (hH (Km 4096) (da g) x i) ((bK g i).1,(bK g i).2.1,[]) (ct g)with
   | .inl u=>r= .inr ((0:Int),JR g,JI g,XB g,((bS g.fi:Nat):Int),((bS g.la:Nat):Int),g.em,ct g,(0:Int),cM (bK g i).2.2,((bK g i).1.take i).map (iJ g),u.1.map dL,Mm 0 u.1,(dL x).1,(dL x).2.1,u.2.2.map (fun(k:Nat)=>(k:Int)),())/\u.1.length<=4096
   | .inr _=>r= .inl ((8:Int),(0:Int),())) ?_ λt ht=>?_))
  .have h:=w;have hL:=J;clear w J hS D hq Bx R CT C At CD;generalize cM (bK g i).2.2=RR;generalize((bK g i).1.take i).map (iJ g)=AA;generalize(bK g i).2.1=T at h⊢;generalize(bK g i).1=L at h hL U⊢;have Y:=tH hg;refine zi (xs:=ct g) (f:=hH (Km 4096) (da g) x i) (s0:=(L,T,[])) (Inv:=λj st=>Ok (da g) none (ct g) st.1 st.2.1/\L<+:st.1/\st.2.2.length=j/\st.1.length<=4096) (enc:=λj st=>((j:Int),(0:Int),JR g,JI g,XB g,((bS g.fi:Nat):Int),((bS g.la:Nat):Int),g.em,ct g,(0:Int),RR,AA,st.1.map dL,Mm 0 st.1,(dL x).1,(dL x).2.1,kM (ct g).length st.2.2,())) (oE:=λst=>.inr ((0:Int),JR g,JI g,XB g,((bS g.fi:Nat):Int),((bS g.la:Nat):Int),g.em,ct g,(0:Int),RR,AA,st.1.map dL,Mm 0 st.1,(dL x).1,(dL x).2.1,kM (ct g).length st.2.2,())) (oB:=λ_=>.inl ((8:Int),(0:Int),())) ⟨h,aD_ _,rfl,hL⟩ (λj O st rg=>?_) (λst rg=>?_) (λr hr hs=>?_)
   .obtain⟨B,Tj,A⟩:=st;obtain⟨g1,g2,g3,g4⟩:=rg;simp only at g1 g2 g3 g4;subst g3;have BT:=rF g2 U;refine aQ O (aA O (aj (CN hg _ _) ?_));rw[UU (U7 hg x) (zbB hg _)];have gc:((false,((l5 g x&&&tL g (ct g)[A.length]:Nat):Int),()):NK)=dL (da g x (ct g)[A.length]):=rfl;rw[gc];generalize hy:da g x (ct g)[A.length]=y;have ph:=Q3 y B 0;have qr:A.length<(kM (ct g).length A).length:=by unfold kM;grind
    by_cases E:y∈B;.rw[if_pos E]at ph;have e:hH (Km 4096) (da g) x i (B,Tj,A) (ct g)[A.length]= .inl (B,Tj,A++[pos B y]):=yX hy E;rw[e];refine ae (au (λhc=>by grind) λ_=>aa ?_);refine aA qr (aZ (x:=(kM (ct g).length A)[A.length]) (by simp) (aa ?_));refine⟨⟨g1,g2,by simp,g4⟩,?_⟩;rw[ph,ak O];simp only[O_,g_,ao_];rw[t7 O]
    .have M:=Q5 y B 0 E;simp only[ao_]at M;have R:(B.map dL).length=B.length:=o_ _;refine ae (au (λ_=>?_) λhc=>by grind);rw[R];refine au (λhd=>aa ?_) λhd=>?_
     .have hd:Km 4096 B y=true:=by grind
      rw[uN hy E hd];exact aa rfl
     .have wr:Km 4096 B y=false:=by grind
      have w:Ok (da g) none (ct g) (B++[y]) (Tj++[(i,(ct g)[A.length])]):=by rw[<-hy]at E⊢;exact g1.add BT (b_ O) E
      rw[yY hy E wr];refine ao (decide_eq_true (by rw[Q4];simp only[maxLen];omega)) (ao (decide_eq_true (by grind)) (aa ?_));refine aA qr (aZ (x:=(kM (ct g).length A)[A.length]) (by simp) (aa ?_));refine⟨⟨w,g2.trans (af_ _ _),by simp,by grind⟩,?_⟩;rw[ak O];simp only[g_];rw[t7 O,M,j_];rfl
   .exact aJ (aa rfl)
   .rw[yc]at hr;rw[hr];cases r with
    |inl st=>obtain⟨g1,g2,g3,g4⟩:=hs st rfl;refine⟨?_,g4⟩;simp only[kM,g3,aR_,bc_,I_]
    |inr r=>rfl
  have a:kh g (i+1)=match ig (hH (Km 4096) (da g) x i) ((bK g i).1,(bK g i).2.1,[]) (ct g)with
   | .inl r=>.inl (r.1,r.2.1,(bK g i).2.2++[r.2.2])
   | .inr r=>.inr (r.1,r.2,(bK g i).2.2):=by
   have ur:gJ (da g) none (ct g) (Km 4096) i= .inl (bK g i):=hS
   simp only[kh,gJ,ur,U]
   generalize ig (hH (Km 4096) (da g) x i) ((bK g i).1,(bK g i).2.1,[]) (ct g)=z
   grind
  cases hf:ig (hH (Km 4096) (da g) x i) ((bK g i).1,(bK g i).2.1,[]) (ct g)with
  |inl u=>
   rw[hf]at ht a;obtain⟨rfl,h2⟩:=ht;have hp:=(iu (f:=da g) (s0:=none) (ls:=ct g) i).1;rw[<-(((eG (i+1)).1 _ a).1)]at hp;have Bk:(bK g i).1.length<=u.1.length:=hp.length_le;refine ao (decide_eq_true (by simp[cM];omega)) ?_;refine ae (bh (b:=g.em) (λ_=>aa rfl) ?_);refine ae (bq (b:= !(dL x).1&&(lE .u64 .and (dL x).2.1 ((bS g.la:Nat):Int) != (0:Int))) (λ_=>ae (bh (λ_=>aa rfl) (aa rfl))) ?_);have el:(((dL x).1&&g.em)||(!(dL x).1&&(lE .u64 .and (dL x).2.1 ((bS g.la:Nat):Int) != (0:Int))))=iJ g x:=by
    cases x with
    |none=>simp[dL,iJ]|some b=>
     have hb:b<2^64:=by
      have:=w.inv (P:=λy=>∀c,y=some c->c<2^64) (λc hc=>by grind) (λy c _ _ d hd=>by
       have:l5 g y&&&tL g c=d:=by simpa[da]using hd
       rw[<-this];exact av_ aU_ (U7 hg y)) i _ U
      grind
     simp only[dL,iJ,Bool.false_and,Bool.not_false,bp_,bd_];rw[UU hb (zct hg)];grind
   rw[el];refine ao (decide_eq_true (by grind)) (aa ?_);refine⟨⟨i+1,(u.1,u.2.1,(bK g i).2.2++[u.2.2]),?_,a,P_ C Bk⟩,?_⟩;.simp only[aU,cM,j_,x_,D_];rw[ak C,show(u.1.take (i+1)).map (iJ g)=((bK g i).1.take i).map (iJ g)++[iJ g x]from by rw[Hl U,MY (L':=u.1) hp (bi_ C)]]
   .rw[ak C];omega
  |inr u=>rw[hf]at ht a;subst ht;refine aa (aa ?_);have he:kh g NL= .inr (u.1,u.2,(bK g i).2.2):=qS (by omega) a;rw[he];rfl
 .have C:(bK g i).1.length<=i:=by grind
  have he:kh g NL= .inl (bK g i):=uA (by omega) hS C;have H:bK g NL=bK g i:=ti (by omega) C;have F:(sS g).length<=4096:=by unfold sS;grind
  have hd:((ct g,cM (bK g i).2.2,((bK g i).1.take i).map (iJ g),(0:Int),()):DF)=dN g:=by have h1:=QF F;rw[H]at h1;rw[<-h1,s_ C,<-H];rfl
  rw[he];refine aa ?_;show Wp (λn=>aZ_ (gm (rY tbl n) 240 [.d Uc (ct g,cM (bK g i).2.2,((bK g i).1.take i).map (iJ g),(0:Int),())] [] bp) _) _;rw[hd];exact aj (E F) (aa rfl)
def qn{k:Nat}(h:k<=1000000000):(decide (0<=(k:Int))&&decide ((k:Int)<=(k:Int))&&decide ((k:Int)<=9223372036854775807)&&decide (1*(k:Int)<=281474976710656))=true:=by grind
def AP(n:Nat):r_ (ak_ (n:Int)) (Ty.zero tB)=dx n λ_=>false:=by rw[g_];exact Xt n
def FY(n:Nat)(hn:n<=1000000)(l:List Nat)(hl:∀p∈l,p<n)(c:l.length<=1000000):aB tbl 276 [.d tI (n:Int),.d (.list tI) (cL l)] [] pH (dx n (λp=>decide (p∈l)),()):=by
 refine cm ?_;rw[AP];refine ao (qn (by omega)) (ae (aK (N:=(cL l).length) (I:=λi s=>s=((i:Int),dx n (λp=>decide (p∈l.take i)),())) ?_ ?_ ?_));.simp
 .rintro i s b rfl;have a:i<l.length:=by rw[<-fF];omega
  have hp:=hl _ (b_ a);refine aQ b (aA b ?_);rw[I5 a];have d:l[i]<(dx n (λp=>decide (p∈l.take i))).length:=by rw[gP];omega
  refine aA d (aZ (x:=(dx n (λp=>decide (p∈l.take i)))[l[i]]) (by simp) (aa ?_));rw[ak b (by rw[fF];omega),zg];have:dx n (λj=>if j=l[i]then true else decide (j∈l.take i))=dx n (λp=>decide (p∈l.take (i+1))):=iH λj e=>by rw[i_];grind
  grind
 .rintro s rfl;refine aJ (aa (aa ?_));rw[fF,k_]
def uT(n:Nat)(hn:n<=1000000)(l:List Nat)(hl:∀p∈l,p<n)(c:l.length<=1000000):aB tbl 10276 [.d tI (n:Int),.d (.list tI) (cL l)] [] iY (dx n (λp=>decide (p∈l)),()):=by
 refine cm ?_;rw[AP];refine ao (qn (by omega)) (ae (aK (N:=(cL l).length) (I:=λi s=>s=((i:Int),dx n (λp=>decide (p∈l.take i)),())) ?_ ?_ ?_));.simp
 .rintro i s b rfl;have a:i<l.length:=by rw[<-fF];omega
  have hp:=hl _ (b_ a);refine aQ b (aA b ?_);rw[I5 a];have d:l[i]<(dx n (λp=>decide (p∈l.take i))).length:=by rw[gP];omega
  refine aA d (aZ (x:=(dx n (λp=>decide (p∈l.take i)))[l[i]]) (by simp) (aa ?_));rw[ak b (by rw[fF];omega),zg];have:dx n (λj=>if j=l[i]then true else decide (j∈l.take i))=dx n (λp=>decide (p∈l.take (i+1))):=iH λj e=>by rw[i_];grind
  grind
 .rintro s rfl;refine aJ (aa (aa ?_));rw[fF,k_]
def mP(n:Nat):Option Nat->List Bool
 |none=>dx n λ_=>false
 |some b=>dx n b.testBit
def zh(n:Nat)(x:Option Nat):(mP n x).length=n:=by cases x<;>exact gP _ _
structure Sts(n:Nat)(L:List (Option Nat)):Prop where
 hd:L[0]? =some none
 tl:∀i,0<i->∀x,L[i]? =some x->∃b,x=some b/\b<2^n
def FZ{n:Nat}(hn:n<=1000000){L:List (Option Nat)}(w:Sts n L)(hl:L.length<=1000000){c:Nat}(hc:c<2^n): aB tbl 277 [.d (.list (.list tB)) (L.map (mP n)),.d (.list tB) (mP n (some c))] [] ar ((pos L (some c):Int),()):=by
 refine cm ?_;have A:(L.map (mP n)).length=L.length:=o_ _;refine ae (Ev.wp_mono (Q:=fun(r:(Int×Unit)⊕Unit)=>match r with| .inl v=>v=((pos L (some c):Int),())| .inr _=>pos L (some c)=L.length) (aK (N:=L.length - 1) (I:=λj s=>s=(((j+1:Nat):Int),())/\∀t z,t<j+1->L[t]? =some z->z≠some c) ⟨rfl,λt z ht g=>?_⟩ ?_ ?_) ?_)
 .have:t=0:=by omega
  subst this;rw[w.hd]at g;grind
 .rintro j s H ⟨rfl,d⟩;have f:j+1<L.length:=by omega
  obtain⟨b,E,l⟩:=w.tl (j+1) (by simp) _ (a_ f);refine aD (decide_eq_true (by omega)) ?_;refine ae (Ev.wp_mono (Q:=λr=>r=(decide (b=c),())) ?_ ?_)
  .refine aK (N:=(mP n (some c)).length) (I:=λk s=>s=(true,(k:Int),())/\∀t,t<k->b.testBit t=c.testBit t) ⟨rfl,λt ht=>absurd ht (by simp)⟩ ?_ ?_
   .rintro k s p ⟨rfl,a⟩;have u:k<n:=by rw[zh]at p;omega
    refine aQ p (aA p (io (x:=mP n (some b)) (by grind) (aA (by rw[zh];omega) ?_)));have C:(mP n (some c))[k]=c.testBit k:=ub _ _;have D:(mP n (some b))[k]'(by rw[zh];omega)=b.testBit k:=ub _ _;refine au (λh=>aa ?_) λh=>aa ⟨?_,?_⟩
    .have:b≠c:=by rintro rfl;simp at h
     grind
    .rw[ak u]
    grind
   .rintro s ⟨rfl,a⟩;rw[zh]at a;refine aJ (aa ?_);have:b=c:=aX_ λi=>by
     by_cases F:i<n;.grind
     .rw[aS_ (aw_ l (aj_ (by simp) (by omega))),aS_ (aw_ hc (aj_ (by simp) (by omega)))]
    grind
  rintro r rfl;refine au (λh=>aa ?_) λh=>aa ⟨?_,λt z ht g=>?_⟩;.have h:b=c:=of_decide_eq_true h;subst h;have:j+1=pos L (some b):=xc (by omega) (λt z ht g=>d t z ht g) (λz g=>by grind);grind
  .rw[ak f]
  grind
 .rintro s ⟨rfl,d⟩;refine ap (decide_eq_false (by omega)) (aa (CC λy=>?_));obtain⟨t,ht,e⟩:=e_.1 y;exact d t _ (by omega) (a_ ht) e
 .rintro(v|v) B;.subst B;exact aa rfl
  .refine aa ?_;grind
section
variable {g:G}
def IV(g:G)(b:Bool)(a:Nat->Bool)(k:Nat):Bool:=b||(c_ k).any λt=>a t&&decide (t∈g.la)
def uY(g:G)(b:Nat->Bool)(a:Nat->Bool)(k:Nat)(q:Nat):Bool:=b q||(c_ k).any λt=>a t&&decide ((t,q)∈g.pr)
def Sg(g:G):Option Nat->Bool
 |none=>g.em
 |some _=>false
def Su(g:G):Option Nat->Nat->Bool
 |none,q=>decide (q∈g.fi)
 |some _,_=>false
def Gc:Option Nat->Nat->Bool
 |none,_=>false
 |some b,p=>b.testBit p
theorem Xu(n:Nat)(x:Option Nat):mP n x=dx n (Gc x):=by cases x<;>rfl
theorem U8(hg:uW g)(x:Option Nat):IV g (Sg g x) (Gc x) g.sp.length=iJ g x/\dx g.sp.length (uY g (Su g x) (Gc x) g.sp.length)=dx g.sp.length (l5 g x).testBit:=by
 refine⟨?_,iH λq a=>?_⟩
 .cases x with
  |none=>simp[IV,iJ,Sg,Gc]|some b=>
   rw[Hk];simp only[IV,Sg,Gc,bd_];rw[z_,al_,al_];constructor;.grind
   .rintro⟨t,h1,h2⟩;exact⟨t,n_.2 (by have:=hg.SP.la t h1;omega),by grind⟩
 .cases x with
  |none=>have:(l5 g none).testBit q=decide (q∈g.fi):=cP _ _;rw[this];simp[uY,Su,Gc]|some b=>
   rw[Hy hg.SP,z_,JX];simp only[uY,Su,Gc,bd_];rw[al_];constructor;.grind
   .rintro⟨t,h1,h2⟩;exact⟨t,n_.2 (by have:=hg.SP.pr t q h2;omega),by grind⟩
theorem zcq{a b:Nat}(h:((a:Int)==(b:Int))=true):a=b:=by simp at h;omega
theorem zco{a b:Nat}(h:((a:Int)==(b:Int))=false):a≠b:=by simp at h;omega
theorem Xm(hg:uW g){L:List (Option Nat)}{T:List (Nat×Int)}(h:Ok (da g) none (ct g) L T):Sts g.sp.length L:=by
 refine⟨h.head,λi f x d=>?_⟩;rcases(h.inv (P:=λy=>y=none\/∃b,y=some b/\b<2^g.sp.length) (.inl rfl) (λy c _ _=>.inr ⟨_,rfl,Nw hg.SP y c⟩) i x d)with rfl|h';.exfalso;have a:=f_.1 d;have e:=f_.1 h.head;have:=(C_.1 h.nodup);have:=G_.1 this 0 i e.1 a.1 f;grind
 omega
end
noncomputable def encR(g:G)(F:List (List Int))(i:Nat)(S:SN):Int×Int×(List (List Int))×(List (Int×(Int×Unit)))×(List Int)×Int×(List (List Int))×(List Bool)×(List (List Bool))×Unit:=
 ((i:Int),(0:Int),F,o8 g.sp,ct g,(0:Int),cM S.2.2,(S.1.take i).map (iJ g),S.1.map (mP g.sp.length),())
def BH{r:Rx}(hr:eO r=0):aB tbl 249 [.d .rx r] [] jr (match kh (di r 0) NL with| .inl _=>(dN (di r 0),true,())| .inr _=>(zD,false,())):=by
 obtain⟨hw,hsz⟩:=kS hr;have hg:=JF hw hsz;have CD:=(fU r hw 0).2;have Fk:=Ov r;refine na (by cases kh (di r 0) NL<;>rfl) (QB jr ?_);obtain⟨F,hF,E⟩:=ID r hw (by omega) [] [] [] ⟨rfl,by simp,by simp,by simp⟩ (λp q h=>by grind) (by grind);simp only[ah_,ao_,as_]at E hF;refine aj E ?_;generalize di r 0=g at*;have B:=tH hg;have hn:=hg.n64;refine ae (Ev.wp_mono (Q:=λt=>t=((0:Int),o8 g.sp,F,nX g.sp,())) ?_ ?_)
 .refine aK (N:=(o8 g.sp).length) (I:=λi s=>s=((i:Int),(0:Int),o8 g.sp,F,nX (g.sp.take i),())) rfl ?_ ?_
  .rintro i s u rfl;have el:i<g.sp.length:=by rw[<-o9];omega
   have e1:(o8 g.sp)[i]=(g.sp[i].1,g.sp[i].2,()):=by simp[o8]
   have hq:=hg.je _ (b_ el);have Nd:=hg.le _ (b_ el);have KK:=xz (g.sp.take i);dsimp only;refine aQ u (ae (aA u (aZ (x:=(o8 g.sp)[i]) (by simp) ?_)));rw[e1,Hs el];refine ao (decide_eq_true (by grind)) (au (λh=>ao (decide_eq_true (by grind)) (aa (aa ?_))) λh=>aa (aa ?_));.have h:g.sp[i].2<4294967295:=of_decide_eq_true h;rw[ak u (by rw[o9];omega)];have ew:H_ .i64 (g.sp[i].2+1)=g.sp[i].2+1:=wrap_i64;grind
   .have h:¬g.sp[i].2<4294967295:=of_decide_eq_false h;rw[ak u (by rw[o9];omega),if_neg h]
  .rintro s rfl;dsimp only;refine aJ (aa ?_);rw[s_ (by rw[o9];simp)]
 rintro v5 rfl;have Fr:=xz g.sp;refine aj (sL (nX g.sp) (by omega)) ?_;have qr:=hg.SP.ll;have GS:=hg.SP.fl;have DE:((o8 g.sp).length:Int)=((g.sp.length:Nat):Int):=by rw[o9]
 dsimp only;rw[DE];refine aj (FY g.sp.length (by omega) g.la (λp hp=>by have:=hg.SP.la p hp;omega) (by omega)) ?_;refine ao (qn (by omega)) ?_;rw[AP];refine ae (Ev.wp_loop (λs=>∃i S,s=encR g F i S/\kh g i= .inl S/\i<=S.1.length) (λs=>NL - s.1.toNat) ⟨0,([none],[],[]),rfl,rfl,by simp⟩ ?_);rintro s ⟨i,S,rfl,hS,CT⟩;obtain⟨Y,hq⟩:=(eG i).1 S hS;have Y:S=bK g i:=Y;have Fm:=Qi;subst Y;have C:Ok (da g) none (ct g) (bK g i).1 (bK g i).2.1:=cx i;have R:=AM hq;have DB:=DD (g:=g) i;have D:=Xm hg C;have Dg:((bK g i).1.map (mP g.sp.length)).length=(bK g i).1.length:=o_ _;simp only[encR];refine au (λh=>?_) λh=>?_
 .have u:i<(bK g i).1.length:=by grind
  have U:=a_ u;generalize DM:(bK g i).1[i]=x at U;have DP:((bK g i).1.map (mP g.sp.length))[i]? =some (mP g.sp.length x):=by grind
  have At:i=0->x=none:=λe=>by subst e;rw[D.hd]at U;grind
  have Bk:i≠0->∃b,x=some b:=λe=>by obtain⟨b,hb,_⟩:=D.tl i (by omega) x U;grind
  refine ao (qn (by omega)) ?_;refine ae (Ev.wp_mono (Q:=λv=>v=(Sg g x,(0:Int),F,o8 g.sp,ct g,(0:Int),cM (bK g i).2.2,((bK g i).1.take i).map (iJ g),(bK g i).1.map (mP g.sp.length),dx g.sp.length (Su g x),())) (au (λh=>?_) λh=>?_) ?_);.have e:i=0:=zcq (b:=0) h;refine aj (uT g.sp.length (by omega) g.fi (λp hp=>by have:=hg.SP.fi p hp;omega) (by omega)) (aj (pO r (by omega)) (aa ?_));rw[(At e),<-CD];rfl
  .have e:i≠0:=zco (b:=0) h;obtain⟨b,rfl⟩:=Bk e;exact aa rfl
  rintro v rfl;dsimp only;refine bH (x:=mP g.sp.length x) (by simp) (by grind) (aZ (x:=mP g.sp.length x) (by grind) ?_);rw[Xu g.sp.length x];refine ae (Ev.wp_mono (Q:=λt=>t=(IV g (Sg g x) (Gc x) g.sp.length,(0:Int),F,o8 g.sp,ct g,(0:Int),cM (bK g i).2.2,((bK g i).1.take i).map (iJ g),(bK g i).1.map (mP g.sp.length),dx g.sp.length (uY g (Su g x) (Gc x) g.sp.length),())) ?_ ?_)
  .generalize cM (bK g i).2.2=O;generalize((bK g i).1.take i).map (iJ g)=M;generalize(bK g i).1.map (mP g.sp.length)=SS;generalize Sg g x=a0;generalize Su g x=A;generalize(Gc x)=c;generalize ct g=st;have hn:=hg.n64;refine aK (N:=(dx g.sp.length c).length) (I:=λk s=>s=(IV g a0 c k,(k:Int),(0:Int),F,o8 g.sp,st,(0:Int),O,M,SS,dx g.sp.length (uY g A c k),())) ?_ ?_ ?_
   .have:uY g A c 0=A:=funext λq=>by simp[uY]
    rw[this];simp[IV]
   .rintro k s B rfl;have Hx:k<g.sp.length:=by rw[gP]at B;omega
    refine aQ B (ae (aA B ?_));rw[ub];have ea:IV g a0 c (k+1)=(IV g a0 c k||(c k&&decide (k∈g.la))):=by unfold IV;grind
    have ec:∀q,uY g A c (k+1) q=(uY g A c k q||(c k&&decide ((k,q)∈g.pr))):=λq=>by unfold uY;grind
    rw[ak B (by rw[gP];omega)];cases hb:c k
    .refine aD rfl (aa (aa ?_));have:dx g.sp.length (uY g A c (k+1))=dx g.sp.length (uY g A c k):=iH λq _=>by grind
     grind
    .have J:k<F.length:=by rw[hF.len];omega
     refine ap rfl (ae (bq (λ_=>aA (by rw[gP];omega) (aa (ub _ _))) (aA J ?_)));have JT:=hF.zat J;refine ae (Ev.wp_mono (Q:=λt=>t=((0:Int),F,o8 g.sp,st,(0:Int),O,M,SS,dx g.sp.length (λq=>uY g A c k q||decide ((q:Int)∈F[k])),())) ?_ ?_)
     .have hl:=hF.bd _ (b_ J);have qr:F[k].length<=64:=by omega
      generalize F[k]=l at hl qr⊢;generalize uY g A c k=f;generalize o8 g.sp=gc;generalize g.sp.length=n at hn hl⊢;refine aK (N:=l.length) (I:=λi s=>s=((i:Int),(0:Int),F,gc,st,(0:Int),O,M,SS,dx n (λq=>f q||decide ((q:Int)∈l.take i)),())) (by simp) ?_ ?_
      .rintro i s u rfl;have U:=hl _ (b_ u);refine aQ u (aA u ?_);obtain⟨k,B⟩:∃k:Nat,l[i]=(k:Int):=⟨l[i].toNat,by omega⟩;have hv:k<(dx n (λq=>f q||decide ((q:Int)∈l.take i))).length:=by rw[gP];omega
       rw[B];refine aA hv (aZ (x:=(dx n (λq=>f q||decide ((q:Int)∈l.take i)))[k]) (by simp) (aa ?_));rw[ak u,g_,zg];have:dx n (λj=>if j=k then true else(f j||decide ((j:Int)∈l.take i)))=dx n (λq=>f q||decide ((q:Int)∈l.take (i+1))):=iH λj hj=>by rw[i_];grind
       grind
      .rintro s rfl;refine aJ (aa ?_);simp
     rintro t rfl;refine aa (aa ?_);have:dx g.sp.length (uY g A c (k+1))=dx g.sp.length (λq=>uY g A c k q||decide ((q:Int)∈F[k])):=iH λq _=>by rw[ec,hb,bp_,decide_eq_decide.2 (hF.mem k J q)]
     grind
   .rintro s rfl;refine aJ (aa ?_);rw[gP]
  rintro v rfl;obtain⟨r1,r2⟩:=U8 hg x;rw[r1,r2];refine ao (decide_eq_true (by grind)) (ae (Ev.wp_mono (Q:=λr=>match ig (hH (Km 4096) (da g) x i) ((bK g i).1,(bK g i).2.1,[]) (ct g)with
   | .inl z=>r= .inr ((0:Int),F,o8 g.sp,ct g,(0:Int),cM (bK g i).2.2,((bK g i).1.take i).map (iJ g)++[iJ g x],z.1.map (mP g.sp.length),z.2.2.map (fun(k:Nat)=>(k:Int)),())/\z.1.length<=4096
   | .inr _=>r= .inl (false,(0:Int),())) ?_ λt ht=>?_))
  .have h:=C;have hL:=R;clear C R hS hq DB Dg DP u CT DM D At Bk r1 r2;generalize cM (bK g i).2.2=O;generalize((bK g i).1.take i).map (iJ g)++[iJ g x]=M;generalize(bK g i).2.1=T at h⊢;generalize(bK g i).1=L at h hL U⊢;have B:=tH hg;have hn:=hg.n64;refine zi (xs:=ct g) (f:=hH (Km 4096) (da g) x i) (s0:=(L,T,[])) (Inv:=λj st=>Ok (da g) none (ct g) st.1 st.2.1/\L<+:st.1/\st.2.2.length=j/\st.1.length<=4096) (enc:=λj st=>((j:Int),(0:Int),F,o8 g.sp,ct g,(0:Int),O,M,st.1.map (mP g.sp.length),dx g.sp.length (l5 g x).testBit,st.2.2.map (fun(k:Nat)=>(k:Int)),())) (oE:=λst=>.inr ((0:Int),F,o8 g.sp,ct g,(0:Int),O,M,st.1.map (mP g.sp.length),st.2.2.map (fun(k:Nat)=>(k:Int)),())) (oB:=λ_=>.inl (false,(0:Int),())) ⟨h,aD_ _,rfl,hL⟩ (λj hj st wr=>?_) (λst wr=>?_) (λr hr hs=>?_)
   .obtain⟨Lj,Tj,H⟩:=st;obtain⟨g1,g2,g3,g4⟩:=wr;simp only at g1 g2 g3 g4;subst g3;have DH:=rF g2 U;dsimp only;refine aQ hj (aA hj ?_);refine ao (qn (by omega)) (ae (Ev.wp_mono (Q:=λt=>t=((0:Int),F,o8 g.sp,ct g,(0:Int),O,M,Lj.map (mP g.sp.length),dx g.sp.length (l5 g x).testBit,(H.map fun(k:Nat)=>(k:Int)),dx g.sp.length (λq=>(l5 g x).testBit q&&l7 g (ct g)[H.length] q),())) ?_ ?_))
    .generalize(ct g)[H.length]=a;generalize(l5 g x).testBit=w;generalize Lj.map (mP g.sp.length)=SS;generalize H.map (fun(k:Nat)=>(k:Int))=DS;generalize ct g=st;refine aK (N:=g.sp.length) (I:=λk s=>s=((k:Int),(0:Int),F,o8 g.sp,st,(0:Int),O,M,SS,dx g.sp.length w,DS,dx g.sp.length (λq=>decide (q<k)&&(w q&&l7 g a q)),())) (by simp) ?_ ?_
     .rintro k s B rfl;have hz:k<(o8 g.sp).length:=by rw[o9];omega
      have e1:(o8 g.sp)[k]=(g.sp[k].1,g.sp[k].2,()):=by simp[o8]
      have hc:k<(dx g.sp.length w).length:=by rw[gP];omega
      have hs:k<(dx g.sp.length (λq=>decide (q<k)&&(w q&&l7 g a q))).length:=by rw[gP];omega
      have eh:l7 g a k=(decide (g.sp[k].1<=a)&&decide (a<=g.sp[k].2)):=by unfold l7;grind
      dsimp only;rw[gP];refine aQ B (aA hc (aZ (x:=(dx g.sp.length w)[k]) (by simp) ?_));rw[ub];refine ae (bh (b:=decide (g.sp[k].1<=a)) (λ_=>aA hz (aZ (x:=(o8 g.sp)[k]) (by simp) (aa (by grind)))) (ae (bh (b:=decide (a<=g.sp[k].2)) (λ_=>aA hz (aZ (x:=(o8 g.sp)[k]) (by simp) (aa (by grind)))) (aA hs (aZ (x:=(dx g.sp.length (λq=>decide (q<k)&&(w q&&l7 g a q)))[k]) (by simp) (aa ?_))))));rw[ak B,g_,zg];grind
     .rintro s rfl;dsimp only;rw[gP];refine aJ (aa ?_);have:dx g.sp.length (λq=>decide (q<g.sp.length)&&(w q&&l7 g a q))=dx g.sp.length (λq=>w q&&l7 g a q):=iH λj hj=>by grind
      grind
    rintro t rfl;have ur:dx g.sp.length (λq=>(l5 g x).testBit q&&l7 g (ct g)[H.length] q)=mP g.sp.length (some (l5 g x&&&tL g (ct g)[H.length])):=iH λq _=>by rw[Nat.testBit_and,yr]
    rw[ur];refine aj (FZ (by omega) (Xm hg g1) (by omega) (Nw hg.SP x _)) ?_;have DQ:(some (l5 g x&&&tL g (ct g)[H.length]):Option Nat)=da g x (ct g)[H.length]:=rfl;rw[DQ];generalize hy:da g x (ct g)[H.length]=y;by_cases hm:y∈Lj;.have MT:=w9.1 hm;rw[yX hy hm];refine ae (ap (by grind) (aa (ao (decide_eq_true (by grind)) (aa ⟨⟨g1,g2,by simp,g4⟩,?_⟩))));rw[ak hj];simp
    .have rg:=CC hm;rw[rg];refine ae (aD (by simp) ?_);refine au (λhd=>aa ?_) λhd=>?_
     .have hd:Km 4096 Lj y=true:=by grind
      rw[uN hy hm hd];exact aa rfl
     .have BT:Km 4096 Lj y=false:=by grind
      have C:Ok (da g) none (ct g) (Lj++[y]) (Tj++[(i,(ct g)[H.length])]):=by rw[<-hy]at hm⊢;exact g1.add DH (b_ hj) hm
      rw[yY hy hm BT];refine ao (decide_eq_true (by grind)) (aa (ao (decide_eq_true (by grind)) (aa ⟨⟨C,g2.trans (af_ _ _),by simp,by grind⟩,?_⟩)));rw[ak hj];simp
   .exact aJ (aa rfl)
   .rw[yc]at hr;grind
  have d:kh g (i+1)=match ig (hH (Km 4096) (da g) x i) ((bK g i).1,(bK g i).2.1,[]) (ct g)with
   | .inl r=>.inl (r.1,r.2.1,(bK g i).2.2++[r.2.2])
   | .inr r=>.inr (r.1,r.2,(bK g i).2.2):=by
   have Bx:gJ (da g) none (ct g) (Km 4096) i= .inl (bK g i):=hS
   simp only[kh,gJ,Bx,U]
   grind
  cases hf:ig (hH (Km 4096) (da g) x i) ((bK g i).1,(bK g i).2.1,[]) (ct g)with
  |inl z=>
   rw[hf]at ht d;obtain⟨rfl,h2⟩:=ht;have hp:=(iu (f:=da g) (s0:=none) (ls:=ct g) i).1;rw[<-(((eG (i+1)).1 _ d).1)]at hp;have DA:(bK g i).1.length<=z.1.length:=hp.length_le;refine ao (decide_eq_true (by simp[cM];omega)) (aa ?_);refine⟨⟨i+1,(z.1,z.2.1,(bK g i).2.2++[z.2.2]),?_,d,P_ u DA⟩,?_⟩;.simp only[encR,cM,j_,x_,D_];rw[ak u,show(z.1.take (i+1)).map (iJ g)=((bK g i).1.take i).map (iJ g)++[iJ g x]from by rw[Hl U,MY (L':=z.1) hp (bi_ u)]]
   .rw[ak u];omega
  |inr z=>rw[hf]at ht d;subst ht;refine aa (aa ?_);have he:kh g NL= .inr (z.1,z.2,(bK g i).2.2):=qS (by omega) d;rw[he];rfl
 .have u:(bK g i).1.length<=i:=by grind
  have he:kh g NL= .inl (bK g i):=uA (by omega) hS u;have P:bK g NL=bK g i:=ti (by omega) u;have ph:(sS g).length<=4096:=by unfold sS;grind
  have hd:((ct g,cM (bK g i).2.2,((bK g i).1.take i).map (iJ g),(0:Int),()):DF)=dN g:=by have h1:=QF ph;rw[P]at h1;rw[<-h1,s_ u,<-P];rfl
  refine aa (aa ?_);grind
def pP{r:Rx}(hr:eO r=0){m:DF}(b:(sS (di r 0)).length<=4096->aB tbl 250 [.d Uc (dN (di r 0))] [] bp (m,())): aB tbl 209 [.d .rx r] [] bA (match kh (di r 0) NL with| .inl _=>(m,0,())| .inr _=>(zD,8,())):=by obtain⟨c,hsz⟩:=kS hr;have h1:=BH hr;refine na (by cases kh (di r 0) NL<;>rfl) (QB bA (aj (pd r (by omega)) ?_));rw[hr];cases a:kh (di r 0) NL with|inl S=>rw[a]at h1;exact aj h1 (ap rfl (aj (b ((K7 a).2)) (aa rfl)))|inr S=>rw[a]at h1;exact aj h1 (aD rfl (aa rfl))
structure TZ(r:Rx)(c:DF×Int×Unit):Prop where
 err:c.2.1=0\/c.2.1≠0/\c.1=zD
 zcQ:c.2.1=0->eO r=0/\Canon c.1/\(∀w,eH w->bM c.1 (dW c.1 w)=JW (di r 0) w)/\Good c.1
 ok:Sa c.1
 e8:eO r=0->c.2.1=0\/c.2.1=8
def Om(r:Rx)(hs:sz r<=1000000):∃c:DF×Int×Unit,TZ r c/\aB tbl 204 [.d .rx r] [] bA c/\aB tbl 209 [.d .rx r] [] bA c:=by
 by_cases hr:eO r=0
 .obtain⟨d,hsz⟩:=kS hr;have hg:=JF d hsz;cases g:kh (di r 0) NL with
  |inr S=>
   have h1:=sD hr (m:=zD) (λh=>?_);have h2:=pP hr (m:=zD) (λh=>?_);rw[g]at h1 h2;.exact⟨(zD,8,()),⟨.inr ⟨by simp,rfl⟩,(λh=>by grind),Ri,λ_=>.inr rfl⟩,h1,h2⟩
   all_goals
    exfalso;obtain⟨L,y,s,D,E,u,v,_⟩:=(eG NL).2 S g;have x:=v.length_le;rw[s,d_]at x;have F:4096<=L.length:=of_decide_eq_true u;have H:(bK (di r 0) NL).1.length<=4096:=h;grind
  |inl S=>
   obtain⟨_,b⟩:=K7 g;have f:=zbp hg b;have z:(dN (di r 0)).1.length<=129:=(tH hg);have A:(dN (di r 0)).2.1.length<=4096:=by show((sS (di r 0)).map _).length<=_;grind
   obtain⟨⟨m,_⟩,⟨⟨n,p⟩,B,C⟩,j⟩:=vA f (by omega) (by omega);obtain⟨⟨m',_⟩,⟨d1,l⟩,k⟩:=sJ f (by omega) (by omega);have e:m'=m:=xF d1 n λw d=>(l w d).trans (p w d).symm;subst e;have h1:=sD hr (m:=m') (λ_=>j);have h2:=pP hr (m:=m') (λ_=>k);rw[g]at h1 h2;have a:=H9 d1.wf (by grind) (by grind);refine⟨(m',0,()),⟨.inl rfl,λ_=>⟨hr,d1,λw d=>(l w d).trans (Yp hg b d),a⟩,Tb a,λ_=>.inl rfl⟩,h1,h2⟩
 .refine⟨(zD,eO r,()),⟨.inr ⟨hr,rfl⟩,λh=>absurd h hr,Ri,λh=>absurd h hr⟩,?_,?_⟩;.refine cm ?_;exact aj (pf r (by omega)) (aD (by grind) (aa rfl))
  .refine cm ?_;exact aj (pd r (by omega)) (aD (by grind) (aa rfl))
end Go.Proofs.YtdgiglmmpbndmaaGreatDoor
namespace Go.Cm
def ZK(x:Int):List Int->Bool->List Int
 |[],d=>if d then []else [x]
 |y::r,d=>(if !d&&decide (x<=y)then [x]else [])++((if y != x then [y]else [])++ZK x r (d||decide (x<=y)))
abbrev ins(x:Int)(l:List Int):List Int:=ZK x l false
def asc(l:List Int):List Int:=l.foldl (λo x=>ins x o) []
abbrev Up(l:List Int):Prop:=l.Pairwise (·<·)
def uniq:∀(a b:List Int),Up a->Up b->(∀z,z∈a↔z∈b)->a=b
 |[],[],_,_,_=>rfl
 |[],y::b,_,_,h=>by have:=h y;simp at this
 |y::b,[],_,_,h=>by have:=h y;simp at this
 |x::a,y::b,c,d,h=>by
  have h1:=(h x).1 (by simp);have h2:=(h y).2 (by simp);unfold Up at c d;rw[ae_]at c d;have e:x=y:=by grind
  subst e;rw[uniq a b c.2 d.2];grind
def left(l a:List Int):Nat:=l.countP λz=>a.all (λy=>decide (y<z))
def add(l:List Int)(c:Int):List Int:=if 255<=(asc l).length/\c∉asc l then asc l else ins c (asc l)
def drop(l:List Int)(c:Int):List Int:=(asc l).filter (λx=>x != c)
end Go.Cm
namespace Go.Pl
open Go Go.Av Go.Ev
abbrev XZ:Type:=List Int×(List (List Int)×(List Bool×(Int×Unit)))
abbrev fj:Type:=Int×(Int×(PFX×(List Qj×(XZ×(List Qb×Unit)))))
abbrev cQ:Type:=Int×(Int×(Int×Unit))
abbrev ff:Type:=Bool×(List sB×Unit)
abbrev gQ:Type:=List fj×(List cQ×(List ff×(Int×Unit)))
abbrev yF:Ty:=pr [.list tI,.list (.list tI),.list tB,tI]
abbrev NT:Ty:=pr [tI,tI,yP,.list yR,yF,.list yC]
abbrev rU:Ty:=pr [tI,tI,tI]
abbrev xn:Ty:=pr [tB,.list yA]
abbrev ZY:Ty:=pr [.list NT,.list rU,.list xn,tI]
instance iDF:DecidableEq XZ:=by unfold XZ;infer_instance
instance iPR:DecidableEq Qj:=by unfold Qj;infer_instance
instance iT2:DecidableEq (XZ×(List Qb×Unit)):=instDecidableEqProd
instance iT1:DecidableEq (PFX×(List Qj×(XZ×(List Qb×Unit)))):=instDecidableEqProd
instance iTS:DecidableEq fj:=instDecidableEqProd
instance iAC:DecidableEq sB:=by unfold sB;infer_instance
instance iLA:DecidableEq (List sB×Unit):=instDecidableEqProd
instance iLE:DecidableEq ff:=instDecidableEqProd
instance iA2:DecidableEq (List ff×(Int×Unit)):=instDecidableEqProd
instance iA1:DecidableEq (List cQ×(List ff×(Int×Unit))):=instDecidableEqProd
instance iAU:DecidableEq gQ:=instDecidableEqProd
def ZE(a b:PFX):gI yP a b=decide (a=b):=by obtain⟨c,d,⟨⟩⟩:=a;obtain⟨e,f,⟨⟩⟩:=b;rw[z_];simp[gI]
def ZF(a b:Qj):gI yR a b=decide (a=b):=by obtain⟨c,⟨d,e,⟨⟩⟩,f,g,⟨⟩⟩:=a;obtain⟨h,⟨j,k,⟨⟩⟩,l,n,⟨⟩⟩:=b;rw[z_];simp[gI,and_assoc]
def ZD(a b:Qb):gI yC a b=decide (a=b):=by obtain⟨c,d,e,⟨⟩⟩:=a;obtain⟨f,g,h,⟨⟩⟩:=b;rw[z_];simp[gI]
def HF(a b:cQ):gI rU a b=decide (a=b):=by obtain⟨c,d,e,⟨⟩⟩:=a;obtain⟨f,g,h,⟨⟩⟩:=b;rw[z_];simp[gI]
def ZC(a b:sB):gI yA a b=decide (a=b):=by rw[z_];simpa using QK a b
def rT{g:Type}{a b:List g}{body:Nat->(Int×Unit)->Option ((Int×Unit)⊕(Bool×Unit)⊕Unit)}{Q:(Bool×Unit)⊕Unit->Prop}(hl:a.length=b.length) (h:∀i (c:i<a.length) (d:i<b.length),Wp (λn=>body n ((i:Int),())) λr=>(a[i]=b[i]/\r= .inl (((i+1:Nat):Int),()))\/(¬a[i]=b[i]/\r= .inr (.inl (false,())))) (f:Wp (λn=>body n ((a.length:Int),())) λr=>r= .inr (.inr ())) (h1:a=b->Q (.inr ())) (h2:¬a=b->Q (.inl (false,()))):Wp (λn=>gr n (body n) ((0:Int),())) Q:=by
 refine pM (N:=a.length) (good:=λi=>a[i]? =b[i]?) (λi c=>?_) f (λh=>h1 (aM_ λi=>?_)) (fun⟨i,_,hn⟩=>h2 λe=>hn (by rw[e]))
 .have d:i<b.length:=by omega
  refine Go.Ev.wp_mono (h i c d) λr hr=>?_;rw[a_ c,a_ d,bt_];exact hr
 .by_cases c:i<a.length;.exact h i c
  .rw[M_ (by omega),M_ (by omega)]
end Go.Pl
set_option maxRecDepth 100000
namespace Go.Proofs.YtdgiglmmpbndmaaGreatDoor
open Z
open Go Go.Av Go.Ev Go.Pl
def wY(s:List UInt8)(hs:s.length<=1048576):∃c:Rx×Int×Unit,mw s c/\aB tbl 99 [.d tS s] [] bX c/\aB tbl 170 [.d tS s] [] bX c:=by obtain⟨c,h1,h2⟩:=vH s hs;obtain⟨d,a,b⟩:=vC s hs;cases h1.zaI hs a;grind
abbrev noD:DF:=([0],[[0]],[false],0,())
def Z4:aB tbl 204 [.d .rx (.mk 4 0 0 [])] [] bA (noD,0,()):=jk (m:=40) λk=>by kernel_rfl
noncomputable def jx(s:List UInt8):Rx:=if h:s.length<=1048576 then(S_ (wY s h)).1 else .mk 0 0 0 []
noncomputable def lF(r:Rx):DF×Int×Unit:=if h:sz r<=1000000 then S_ (Om r h)else(noD,0,())
noncomputable def uX(a b:DF):DF×Int×Unit:=S_ (Ht a b)
noncomputable def bO:List XC->DF×Int×Unit
 |[]=>(noD,0,())
 |r::l=>if(bO l).2.1≠0 then bO l else if(lF (jx r.2.1)).2.1≠0 then(zD,(lF (jx r.2.1)).2.1,())
  else if r.1 then(if(uX (gZ (lF (jx r.2.1)).1) (gZ (bO l).1)).2.1≠0 then(zD,(uX (gZ (lF (jx r.2.1)).1) (gZ (bO l).1)).2.1,())else(gZ (uX (gZ (lF (jx r.2.1)).1) (gZ (bO l).1)).1,0,()))
  else uX (gZ (lF (jx r.2.1)).1) (bO l).1
def jJ(a b:DF):KI a b (uX a b)/\((uX a b).2.1=0\/(uX a b).1=zD)/\aB tbl 205 [.d yF a,.d yF b] [] bA (uX a b)/\aB tbl 211 [.d yF a,.d yF b] [] bA (uX a b):=ax_ (Ht a b)
def zO{r:Rx}(h:sz r<=1000000):TZ r (lF r)/\aB tbl 204 [.d .rx r] [] bA (lF r)/\aB tbl 209 [.d .rx r] [] bA (lF r):=by unfold lF;grind
abbrev K1(s:List UInt8):Prop:=s.length<=1048576/\∃x,eO x=0/\pat x=s
def AK{s:List UInt8}(h:K1 s):eO (jx s)=0/\sz (jx s)<=64/\aB tbl 99 [.d tS s] [] bX (jx s,0,())/\aB tbl 170 [.d tS s] [] bX (jx s,0,()):=by
 obtain⟨b,x,h1,h2⟩:=h;have e:jx s=(S_ (wY s b)).1:=by unfold jx;grind
 obtain⟨g,c,d⟩:=ax_ (wY s b);rcases g with⟨r,a,j,f⟩|⟨a,_⟩;.rw[f]at c d e;rw[e];exact⟨a,(kS a).2,c,d⟩
 grind
def Vx:Good noD:=dQ.1 (by unfold bL;rw[if_neg (by simp[Big]),if_neg (by simp[ce]),if_neg (by simp),if_neg (by simp),if_neg (by simp),if_neg (by simp)])
def MV:∀l:List XC,(∀r∈l,K1 r.2.1)->((bO l).2.1=0->Good (bO l).1)/\((bO l).2.1=0\/(bO l).1=zD)
 |[],_=>⟨λ_=>Vx,.inl rfl⟩
 |r::l,h=>by
  have j:=MV l λx c=>h x (m_ _ c);obtain⟨k,n,_⟩:=AK (h r (w_ ..));obtain⟨f,_⟩:=zO (r:=jx r.2.1) (by omega);unfold bO;by_cases e:(bO l).2.1≠0;.grind
  rw[if_neg e];by_cases b:(lF (jx r.2.1)).2.1≠0;.grind
  rw[if_neg b];have d:=jJ (gZ (lF (jx r.2.1)).1) (gZ (bO l).1);have a:=jJ (gZ (lF (jx r.2.1)).1) (bO l).1;split
  .split;.grind
   .rename_i g;exact⟨λ_=>Vy (d.1 (by omega)).2.2.1,.inl rfl⟩
  .exact⟨λh=>(a.1 h).2.2.1,a.2.1⟩
set_option maxRecDepth 100000
def lb(l:List XC):∀k,k<=l.length->(bO (l.drop k)).2.1≠0->bO l=bO (l.drop k)
 |0,_,_=>by simp
 |k+1,a,h=>by
  have hd:l.drop k=l[k]::l.drop (k+1):=F_ a;have e:bO (l.drop k)=bO (l.drop (k+1)):=by
   rw[hd];conv=>lhs;unfold bO
   grind
  rw[<-e]at h⊢;exact lb l k (by omega) h
def vF(l:List XC)(hl:l.length<=64)(h:∀r∈l,K1 r.2.1):aB tbl 173 [.d (.list yH) l] [] bA (bO l):=by
 refine cm ?_;refine ae (Ev.wp_loop (λst=>∃k:Nat,k<=l.length/\(bO (l.drop k)).2.1=0/\st=((k:Int) - 1,(0:Int),(bO (l.drop k)).1.1,(bO (l.drop k)).1.2.1,(bO (l.drop k)).1.2.2.1,(bO (l.drop k)).1.2.2.2.1,())) (λst=>(st.1+1).toNat) ⟨l.length,R_ _,by simp[bO],by rw[wrap_i64];simp[bO]⟩ ?_);rintro st ⟨k,e,e0,rfl⟩;dsimp only;cases k with
 |zero=>refine ap (decide_eq_false (by simp)) (aa (aa ?_));grind|succ i=>
  have b:i<l.length:=e;have hd:l.drop i=l[i]::l.drop (i+1):=F_ b;obtain⟨n,p,_,f⟩:=AK (h _ (b_ b));obtain⟨g,_,c⟩:=zO (r:=jx l[i].2.1) (by omega);have j:l[((i+1:Nat):Int).toNat - 1]? =some l[i]:=by simp
  have hc:((i+1:Nat):Int) - 1=(i:Int):=by simp
  rw[hc];refine aD (decide_eq_true (by simp)) (ae (aA b (aj f ?_)));rw[cV];refine aj c ?_;have hp:bO (l.drop i)=bO (l[i]::l.drop (i+1)):=by simp
  conv at hp=>rhs;unfold bO
  rw[if_neg (by omega)]at hp;refine au (λd=>aa (aa (aa ?_))) λd=>aj (sK _) (aA b (au (λhr=>aj (sK _) (aj (jJ _ _).2.2.2 (au (λh2=>aa (aa (aa ?_))) λh2=>aj (sK _) (aa (aa ?_))))) λhr=>aj (jJ _ _).2.2.2 (au (λh2=>aa (aa (aa ?_))) λh2=>aa (aa ?_))))
  .have a:(lF (jx l[i].2.1)).2.1≠0:=by grind
   rw[if_pos a]at hp;have:=lb l i (by omega) (by grind);rw[this,hp];rfl
  all_goals rw[if_neg (show ¬(lF (jx l[i].2.1)).2.1≠0 by grind)]at hp
  .have a:(uX (gZ (lF (jx l[i].2.1)).1) (gZ (bO (l.drop (i+1))).1)).2.1≠0:=by grind
   rw[if_pos hr,if_pos a]at hp;have:=lb l i (by omega) (by grind);rw[this,hp];rfl
  .rw[if_pos hr,if_neg (show ¬(uX (gZ (lF (jx l[i].2.1)).1) (gZ (bO (l.drop (i+1))).1)).2.1≠0 by grind)]at hp;refine⟨⟨i,by omega,by grind,?_⟩,?_⟩;.rw[hp,wrap_i64]
   .rw[wrap_i64];simp
  .have a:(uX (gZ (lF (jx l[i].2.1)).1) (bO (l.drop (i+1))).1).2.1≠0:=by grind
   rw[if_neg (by grind)]at hp;have:=lb l i (by omega) (by grind);rw[this,hp,show uX (gZ (lF (jx l[i].2.1)).1) (bO (l.drop (i+1))).1=(zD,(uX (gZ (lF (jx l[i].2.1)).1) (bO (l.drop (i+1))).1).2.1,())from aL_ ((jJ (gZ (lF (jx l[i].2.1)).1) (bO (l.drop (i+1))).1).2.1.resolve_left a) rfl];rfl
  .rw[if_neg (by grind)]at hp;refine⟨⟨i,by omega,by grind,?_⟩,?_⟩;.rw[hp,wrap_i64]
   .rw[wrap_i64];simp
def vV(l:List XC)(hl:l.length<=64)(h:∀r∈l,K1 r.2.1):aB tbl 169 [.d (.list yH) l] [] bA (bO l):=by
 refine cm ?_;refine aj Z4 (ae (Ev.wp_loop (λst=>∃k:Nat,k<=l.length/\st=((bO (l.drop k)).2.1,(k:Int) - 1,(0:Int),(bO (l.drop k)).1.1,(bO (l.drop k)).1.2.1,(bO (l.drop k)).1.2.2.1,(bO (l.drop k)).1.2.2.2.1,())) (λst=>(st.2.1+1).toNat) ⟨l.length,R_ _,by rw[wrap_i64];simp[bO]⟩ ?_));rintro st ⟨k,g,rfl⟩;dsimp only;cases k with
 |zero=>refine ae (bh (b:=((bO (l.drop 0)).2.1==0)) (λ_=>aa rfl) (ap (by simp) (aa (aa ?_))));simp|succ i=>
  have a:i<l.length:=g;have hd:l.drop i=l[i]::l.drop (i+1):=F_ a;obtain⟨p,s,j,_⟩:=AK (h _ (b_ a));obtain⟨n,c,_⟩:=zO (r:=jx l[i].2.1) (by omega);have hc:((i+1:Nat):Int) - 1=(i:Int):=by simp
  rw[hc];by_cases e0:(bO (l.drop (i+1))).2.1=0
  .refine ae (bh (b:=((bO (l.drop (i+1))).2.1==0)) (λ_=>aa rfl) (aD (by grind) (ae (aA a (aj j ?_)))));refine ap rfl ?_;rw[cV];refine aj c ?_;have hp:bO (l.drop i)=bO (l[i]::l.drop (i+1)):=by simp
   conv at hp=>rhs;unfold bO
   rw[if_neg (by omega)]at hp;refine au (λf=>aa (aa (aa ?_))) λf=>aA a (au (λhr=>aj (ud _) (aj (ud _) (aj (jJ _ _).2.2.1 (aj (ud _) (aa (aa ?_)))))) λhr=>aj (ud _) (aj (jJ _ _).2.2.1 (aa (aa ?_))))
   .have d:(lF (jx l[i].2.1)).2.1≠0:=by grind
    rw[if_pos d]at hp;have:=lb l i (by omega) (by grind);rw[this,hp];rfl
   all_goals rw[if_neg (show ¬(lF (jx l[i].2.1)).2.1≠0 by grind)]at hp
   .have q:=(jJ (gZ (lF (jx l[i].2.1)).1) (gZ (bO (l.drop (i+1))).1)).2.1;have hp:bO (l.drop i)=(gZ (uX (gZ (lF (jx l[i].2.1)).1) (gZ (bO (l.drop (i+1))).1)).1,(uX (gZ (lF (jx l[i].2.1)).1) (gZ (bO (l.drop (i+1))).1)).2.1,()):=by
     rw[hp,if_pos hr];split;.rename_i e;rw[q.resolve_left e,show gZ zD=zD by unfold gZ;split<;>rfl]
     grind
    refine⟨⟨i,by omega,?_⟩,?_⟩;.rw[hp,wrap_i64]
    .rw[wrap_i64];simp
   .rw[if_neg (by grind)]at hp;refine⟨⟨i,by omega,?_⟩,?_⟩;.rw[hp,wrap_i64]
    .rw[wrap_i64];simp
  .refine ae (bh (b:=((bO (l.drop (i+1))).2.1==0)) (λ_=>aa rfl) (ap (by grind) (aa (aa ?_))));rw[lb l (i+1) (by omega) e0]
set_option maxRecDepth 100000
def kP(a b:List Qj)(hl:a.length<=9223372036854775807):aB tbl 156 [.d (.list yR) a,.d (.list yR) b] [] aw (decide (a=b),()):=by
 refine cm ?_;refine au (λh=>aa ?_) λh=>?_;.rw[decide_eq_false];rintro rfl;simp at h
 refine ae (rT (a:=a) (b:=b) (by simp at h;omega) (λi c d=>?_) ?_ (λe=>aa (by rw[decide_eq_true e])) λe=>aa (by rw[decide_eq_false e]));.exact aQ c (aA c (aA d (dn (by rw[show gI yR a[i] b[i]=_ from ZF _ _];simp) (by rw[ak c hl]))))
 .exact aJ (aa rfl)
def jR(a b:List Qb)(hl:a.length<=9223372036854775807):aB tbl 158 [.d (.list yC) a,.d (.list yC) b] [] aw (decide (a=b),()):=by
 refine cm ?_;refine au (λh=>aa ?_) λh=>?_;.rw[decide_eq_false];rintro rfl;simp at h
 refine ae (rT (a:=a) (b:=b) (by simp at h;omega) (λi c d=>?_) ?_ (λe=>aa (by rw[decide_eq_true e])) λe=>aa (by rw[decide_eq_false e]));.exact aQ c (aA c (aA d (dn (by rw[show gI yC a[i] b[i]=_ from ZD _ _];simp) (by rw[ak c hl]))))
 .exact aJ (aa rfl)
def m5(a b:List sB)(hl:a.length<=9223372036854775807):aB tbl 159 [.d (.list yA) a,.d (.list yA) b] [] aw (decide (a=b),()):=by
 refine cm ?_;refine au (λh=>aa ?_) λh=>?_;.rw[decide_eq_false];rintro rfl;simp at h
 refine ae (rT (a:=a) (b:=b) (by simp at h;omega) (λi c d=>?_) ?_ (λe=>aa (by rw[decide_eq_true e])) λe=>aa (by rw[decide_eq_false e]));.exact aQ c (aA c (aA d (dn (by rw[show gI yA a[i] b[i]=_ from ZC _ _];simp) (by rw[ak c hl]))))
 .exact aJ (aa rfl)
def sM(a b:List Qj)(hl:a.length<=9223372036854775807):aB tbl 124 [.d (.list yR) a,.d (.list yR) b] [] aw (decide (a=b),()):=by
 refine cm ?_;refine au (λh=>aa ?_) λh=>?_;.rw[decide_eq_false];rintro rfl;simp at h
 refine ae (rT (a:=a) (b:=b) (by simp at h;omega) (λi c d=>?_) ?_ (λe=>aa (by rw[decide_eq_true e])) λe=>aa (by rw[decide_eq_false e]));.exact aQ c (aA c (aA d (dn (by rw[show gI yR a[i] b[i]=_ from ZF _ _];simp) (by rw[ak c hl]))))
 .exact aJ (aa rfl)
def pR(a b:List Qb)(hl:a.length<=9223372036854775807):aB tbl 125 [.d (.list yC) a,.d (.list yC) b] [] aw (decide (a=b),()):=by
 refine cm ?_;refine au (λh=>aa ?_) λh=>?_;.rw[decide_eq_false];rintro rfl;simp at h
 refine ae (rT (a:=a) (b:=b) (by simp at h;omega) (λi c d=>?_) ?_ (λe=>aa (by rw[decide_eq_true e])) λe=>aa (by rw[decide_eq_false e]));.exact aQ c (aA c (aA d (dn (by rw[show gI yC a[i] b[i]=_ from ZD _ _];simp) (by rw[ak c hl]))))
 .exact aJ (aa rfl)
def zbH{d:XZ}(h:okD yF d):Sa d:=⟨h.1.1,h.2.1.1,λr hr=>(h.2.1.2 r hr).1,h.2.2.1.1⟩
def vX(a b:fj)(c:okD NT a):aB tbl 81 [.d NT a,.d NT b] [] aw (decide (a=b),()):=by refine cm ?_;refine ae (bh (λ_=>aa rfl) (ae (bh (λ_=>aa rfl) (ae (bh (λ_=>aj (kP a.2.2.2.1 b.2.2.2.1 c.2.2.2.1.1) (aa rfl)) (ae (bh (λ_=>aj (KS a.2.2.2.2.1 b.2.2.2.2.1 (zbH c.2.2.2.2.1)) (aa rfl)) (ae (bh (λ_=>aj (jR a.2.2.2.2.2.1 b.2.2.2.2.2.1 c.2.2.2.2.2.1.1) (aa rfl)) (aa ?_))))))))));rw[show gI Um a.2.2.1 b.2.2.1=_ from ZE _ _];refine congrArg (λx:Bool=>some (fW aw (x,()))) (z_.2 ?_);grind
def pT(a b:fj)(c:okD NT a):aB tbl 55 [.d NT a,.d NT b] [] aw (decide (a=b),()):=by refine cm ?_;refine ae (bh (λ_=>aa rfl) (ae (bh (λ_=>aa rfl) (ae (bh (λ_=>aj (sM a.2.2.2.1 b.2.2.2.1 c.2.2.2.1.1) (aa rfl)) (ae (bh (λ_=>aj (pR a.2.2.2.2.2.1 b.2.2.2.2.2.1 c.2.2.2.2.2.1.1) (aa rfl)) (ae (bh (λ_=>aj (FV a.2.2.2.2.1 b.2.2.2.2.1 (zbH c.2.2.2.2.1)) (aa rfl)) (aa ?_))))))))));rw[show gI Um a.2.2.1 b.2.2.1=_ from ZE _ _];refine congrArg (λx:Bool=>some (fW aw (x,()))) (z_.2 ?_);grind
def vW(a b:ff)(c:okD xn a):aB tbl 82 [.d xn a,.d xn b] [] aw (decide (a=b),()):=by refine cm ?_;refine ae (bh (λ_=>aj (m5 a.2.1 b.2.1 c.2.1.1) (aa rfl)) (aa (congrArg (λx:Bool=>some (fW aw (x,()))) (z_.2 ?_))));grind
def pS(a b:ff)(j:okD xn a):aB tbl 56 [.d xn a,.d xn b] [] aw (decide (a=b),()):=by
 refine cm ?_;obtain⟨l,d,⟨⟩⟩:=a;obtain⟨n,f,⟨⟩⟩:=b;refine ae (bq (λ_=>aa rfl) (au (λh=>aa ?_) λh=>?_));.rw[decide_eq_false];grind
 simp only[Bool.true_xor,aF_,Bool.not_eq_false',beq_iff_eq,bne_eq_false_iff_eq]at h;obtain⟨rfl,g⟩:=h;refine ae (rT (a:=d) (b:=f) (by omega) (λi c k=>?_) ?_ (λe=>aa (by rw[e,decide_eq_true rfl])) λe=>aa (by rw[decide_eq_false];grind));.exact aQ c (aA c (aA k (dn (by rw[show gI yA d[i] f[i]=_ from ZC _ _];simp) (by rw[ak c j.2.1.1]))))
 .exact aJ (aa rfl)
def II(a b:gQ)(s:okD ZY a):aB tbl 16 [.d ZY a,.d ZY b] [] aw (decide (a=b),()):=by
 refine cm ?_;obtain⟨f,g,j,v,⟨⟩⟩:=a;obtain⟨k,l,n,w,⟨⟩⟩:=b;obtain⟨p,u,r,_⟩:=s;refine ae (bq (λ_=>aa rfl) (ae (bq (λ_=>aa rfl) (ae (bq (λ_=>aa rfl) (au (λh=>aa ?_) λh=>?_))))));.rw[decide_eq_false];grind
 simp only[aF_,bne_eq_false_iff_eq]at h;obtain⟨⟨⟨rfl,h1⟩,h2⟩,x⟩:=h;refine ae (rT (a:=f) (b:=k) (by omega) (λi c d=>?_) ?_ (λe=>?_) λe=>aa (by rw[decide_eq_false];grind));.exact aQ c (aA c (aA d (aj (pT f[i] k[i] (p.2 _ (b_ c))) (dn (by simp) (by rw[ak c p.1])))))
 .exact aJ (aa rfl)
 subst e;refine ae (rT (a:=g) (b:=l) (by omega) (λi c d=>?_) ?_ (λe=>?_) λe=>aa (by rw[decide_eq_false];intro h;cases h;exact e rfl));.exact aQ c (aA c (aA d (dn (by rw[show gI rU g[i] l[i]=_ from HF _ _];simp) (by rw[ak c u.1]))))
 .exact aJ (aa rfl)
 subst e;refine ae (rT (a:=j) (b:=n) (by omega) (λi c d=>?_) ?_ (λe=>aa (by rw[e,decide_eq_true rfl])) λe=>aa (by rw[decide_eq_false];intro h;cases h;exact e rfl));.exact aQ c (aA c (aA d (aj (pS j[i] n[i] (r.2 _ (b_ c))) (dn (by simp) (by rw[ak c r.1])))))
 .exact aJ (aa rfl)
set_option maxRecDepth 100000
def Xz:XZ:=([],[],[],0,())
def ZN(t:fj):fj:=if t.1=1 then(t.1,0,(0,0,()),t.2.2.2.1,Xz,[],())else if t.1=2 then(t.1,0,(0,0,()),[],t.2.2.2.2.1,[],())
 else if t.1=3 then(t.1,0,(0,0,()),[],Xz,t.2.2.2.2.2.1,())else if t.1=7 then(t.1,0,t.2.2.1,[],Xz,[],())else(t.1,t.2.1,(0,0,()),[],Xz,[],())
noncomputable def NF(t:fj):Int:=
 if t.1<1\/8<t.1 then 15 else if ¬t=ZN t then 1 else if 64<t.2.2.2.1.length\/64<t.2.2.2.2.2.1.length then 4
 else if t.1=1 then b9 iW t.2.2.2.1 else if t.1=2 then bL t.2.2.2.2.1 else if t.1=3 then b9 ir t.2.2.2.2.2.1
 else if t.1=7 then(if ua t.2.2.1 then 0 else 1)else if t.2.1<VS t.1\/HQ t.1<t.2.1 then 5 else 0
set_option maxRecDepth 100000
def mn{y:Ty}:okD (.list y) []:=⟨(by show 0<=_;decide),λx a=>by cases a⟩
set_option maxRecDepth 100000
def eU(a:gQ)(n:Int):Bool:=decide (n<(a.2.1.length:Int))&&decide (-(a.2.2.1.length:Int)<=n)
def cz(a:gQ)(n:Int):cQ:=(a.2.1[n.toNat]?).getD (0,0,0,())
def Sj(a:gQ)(n k:Int):Bool:=decide (n<0)||decide (k<(cz a n).1)
def Yi(a:gQ)(b:cQ):Int:=if b.1<0\/(a.1.length:Int)<=b.1\/eU a b.2.1=false\/eU a b.2.2.1=false then 5 else if Sj a b.2.1 b.1=false\/Sj a b.2.2.1 b.1=false then 16 else 0
def acE(x:sB):Int:=if my x=0 then 0 else 1
def ED(l:ff):Int:=if l.1=false/\l.2.1≠[]then 1 else b9 acE l.2.1
def tN{a:gQ}{n:Int}(h:eU a n=true)(b:0<=n):∃k:Nat,n=k/\k<a.2.1.length:=by unfold eU at h;simp only[aB_,decide_eq_true_eq]at h;exact⟨n.toNat,by omega,by omega⟩
theorem sY{a:gQ}{k:Nat}(h:k<a.2.1.length):cz a k=a.2.1[k]:=by grind[cz]
def nb{b:Bool}:(!b)=true↔b=false:=by cases b<;>decide
set_option maxRecDepth 100000
structure Zp(a:gQ):Prop where
 l1:a.1.length<=2000
 l2:a.2.1.length<=4096
 l3:a.2.2.1.length<=4096
 ts:∀t∈a.1,NF t=0
 rt:eU a a.2.2.2.1=true
 br:∀b∈a.2.1,Yi a b=0
 lf:∀l∈a.2.2.1,ED l=0
def Yj{a:gQ}{b:cQ}(h:Yi a b=0):(0<=b.1/\b.1<(a.1.length:Int))/\(eU a b.2.1=true/\eU a b.2.2.1=true)/\Sj a b.2.1 b.1=true/\Sj a b.2.2.1 b.1=true:=by grind[Yi]
def fN(a:gQ)(m:Int):ff:=(a.2.2.1[(-1 - m).toNat]?).getD (false,[],())
def iP{a:gQ}{m:Int}(b:m<0)(h:eU a m=true):a.2.2.1[(-1 - m).toNat]? =some (fN a m):=by unfold eU at h;simp only[aB_,decide_eq_true_eq]at h;unfold fN;rw[a_ (by omega)];rfl
section
variable {a:gQ} {l:List Bool} {m:Int} {K:Nat}
end
abbrev xt:Type:=List (Int×Int)
abbrev xu:Type:=List cQ×(List ff×xt)
def lk(D:xt)(n:Int):Option Int:=dA tI tI D n
def Cv(k v:Int)(l:xt)(n:Int):lk ((k,v)::l) n=if n=k then some v else lk l n:=by
 show(bif gI tI n k then some v else lk l n)=_;have:gI tI n k=decide (n=k):=by rw[z_];simp[gI]
 rw[this,bj_]
def ru:∀{D:xt} {n k:Int},lk D n=some k->(n,k)∈D
 |[],_,_,h=>by cases h
 |(a,b)::l,n,k,h=>by
  rw[Cv]at h;split at h;.rename_i e;cases h;subst e;exact w_ ..
  .exact m_ _ (ru h)
def ry:∀{D:xt} {n:Int},lk D n=none->∀k,(n,k)∉D
 |[],_,_,_=>by simp
 |(a,b)::l,n,h,k=>by
  rw[Cv]at h;split at h;.cases h
  .rename_i e;have:=ry h k;simp only[aN_,Prod.mk.injEq,not_or];exact⟨λx=>e x.1,this⟩
def HZ:∀{D:xt} {n k:Int},(D.map (·.1)).Nodup->(n,k)∈D->lk D n=some k
 |[],_,_,_,h=>by cases h
 |(a,b)::l,n,k,hd,h=>by
  rw[Cv];rw[x_,aT_]at hd;rcases aN_.1 h with h1|h1;.cases h1;rw[if_pos rfl]
  .rw[if_neg,HZ hd.2 h1];intro e;subst e;exact hd.1 (l_.2 ⟨_,h1,rfl⟩)
def VH{D:xt}{n k a:Int}(hd:(D.map (·.1)).Nodup)(h:(n,k)∈D)(h':(n,a)∈D):k=a:=by have:=HZ hd h;rw[HZ hd h']at this;exact(aV_ this).symm
def nz{D:xt}{n k:Int}(hd:(D.map (·.1)).Nodup)(h:∀k,(n,k)∉D):((D++[(n,k)]).map (·.1)).Nodup:=by rw[j_,aa_];refine⟨hd,by simp,?_⟩;rintro x b y a rfl;simp only[x_,D_,q_]at a;subst a;obtain⟨⟨p,q⟩,hp,rfl⟩:=l_.1 b;exact h q hp
def dJ(L:List ff)(l:ff):Int×List ff:=match L.findIdx? (λx=>decide (x=l))with
 |some i=>(-1 - (i:Int),L)
 |none=>(-((L.length:Int)+1),L++[l])
def eC(B:List cQ)(b:cQ):Int×List cQ:=if b.2.1=b.2.2.1 then(b.2.1,B)else match B.findIdx? (λx=>decide (x=b))with
 |some i=>((i:Int),B)
 |none=>((B.length:Int),B++[b])
def rp(L:List ff)(l:ff):(dJ L l).1<0/\(dJ L l).2[(-1 - (dJ L l).1).toNat]? =some l/\(∃E,(dJ L l).2=L++E)/\(L.Nodup->(dJ L l).2.Nodup)/\(∀x∈(dJ L l).2,x∈L\/x=l)/\(dJ L l).2.length<=L.length+1:=by
 unfold dJ;cases e:L.findIdx? (λx=>decide (x=l))with
 |some i=>obtain⟨h1,h2,_⟩:=V_.1 e;refine⟨by simp only;omega,?_,⟨[],by simp⟩,id,λx a=>.inl a,by simp⟩;simp only;rw[show(-1 - (-1 - (i:Int))).toNat=i by omega,a_ h1];rw[of_decide_eq_true h2]
 |none=>
  have h:=ap_.1 e;refine⟨by simp only;omega,?_,⟨[l],rfl⟩,λhn=>?_,λx a=>?_,by simp⟩;.simp only;rw[show(-1 - -((L.length:Int)+1)).toNat=L.length by omega];simp
  .rw[aa_];refine⟨hn,by simp,?_⟩;rintro x a y b rfl;rw[q_.1 b]at a;simpa using h l a
  .rcases h_.1 a with h|h;.exact .inl h
   .exact .inr (q_.1 h)
def De(B:List cQ)(b:cQ):(b.2.1=b.2.2.1/\eC B b=(b.2.1,B))\/(b.2.1≠b.2.2.1/\0<=(eC B b).1/\(eC B b).2[(eC B b).1.toNat]? =some b/\((eC B b).2=B\/((eC B b).2=B++[b]/\b∉B))):=by
 unfold eC;by_cases a:b.2.1=b.2.2.1;.rw[if_pos a];exact .inl ⟨a,rfl⟩
 rw[if_neg a];right;cases e:B.findIdx? (λx=>decide (x=b))with
 |some i=>obtain⟨h1,h2,_⟩:=V_.1 e;refine⟨a,by simp only;omega,?_,.inl rfl⟩;simp only;rw[g_,a_ h1,of_decide_eq_true h2]
 |none=>have h:=ap_.1 e;refine⟨a,by simp only;omega,?_,.inr ⟨rfl,λc=>by simpa using h b c⟩⟩;simp only;rw[g_];simp
def ye{a:Type}{l E:List a}{i:Nat}{x:a}(h:l[i]? =some x):(l++E)[i]? =some x:=by have:=(f_.1 h).1;rw[L_ this,h]
def kO(g:gQ):Nat->Int->xu->Int×xu
 |0,_,s=>(0,s)
 |f+1,n,s=>match lk s.2.2 n with
  |some k=>(k,s)
  |none=>if n<0 then(-((s.2.1.length:Int)+1),s.1,s.2.1++[fN g n],s.2.2++[(n,-((s.2.1.length:Int)+1))])
   else
    let y:=kO g f (cz g n).2.1 (s.1++[((cz g n).1,0,0,())],s.2.1,s.2.2++[(n,(s.1.length:Int))])
    let o:=kO g f (cz g n).2.2.1 y.2
    ((s.1.length:Int),o.2.1.set s.1.length ((cz g n).1,y.1,o.1,()),o.2.2.1,o.2.2.2)
def Low(g:gQ):Prop:=∀(i:Nat) b,g.2.1[i]? =some b->∀c,(c=b.2.1\/c=b.2.2.1)->c<(i:Int)/\-(g.2.2.1.length:Int)<=c
theorem cF{g:gQ}{n:Int}:eU g n=true↔n<(g.2.1.length:Int)/\-(g.2.2.1.length:Int)<=n:=by unfold eU;simp
theorem Low.kids{g:gQ}(h:Low g){n:Int}(hn:eU g n=true)(E:0<=n):∀c,(c=(cz g n).2.1\/c=(cz g n).2.2.1)->eU g c=true/\c<n:=by obtain⟨i,rfl,C⟩:=tN hn E;intro c hc;rw[sY C]at hc;obtain⟨h1,h2⟩:=h i _ (a_ C) c hc;exact⟨cF.2 ⟨by omega,h2⟩,h1⟩
structure VI(g:gQ)(B:List cQ)(L:List ff)(D:xt):Prop where
 kn:(D.map (·.1)).Nodup
 kd:∀n k,(n,k)∈D->eU g n=true
 lf:∀n k,(n,k)∈D->n<0->k<0/\L[(-1 - k).toNat]? =some (fN g n)
 br:∀n k,(n,k)∈D->0<=n->0<=k/\k<(B.length:Int)
 ij:∀n n' k,(n,k)∈D->(n',k)∈D->n=n'
 sb:∀i:Nat,i<B.length->∃n,(n,(i:Int))∈D
 sl:∀i:Nat,i<L.length->∃n,(n,-1 - (i:Int))∈D
 cb:B.length<=(D.filter λp=>decide (0<=p.1)).length
 cl:L.length<=(D.filter λp=>decide (p.1<0)).length
def VI.nil(g:gQ):VI g [] [] []:=⟨aK_,by simp,by simp,by simp,by simp,by simp,by simp,by simp,by simp⟩
def VI.leaf{g:gQ}{B:List cQ}{L:List ff}{D:xt}(h:VI g B L D){n:Int}(h0:n<0)(hn:eU g n=true)(hk:∀k,(n,k)∉D):VI g B (L++[fN g n]) (D++[(n,-((L.length:Int)+1))]):=by
 have I:∀{x k},(x,k)∈D++[(n,-((L.length:Int)+1))]->(x,k)∈D\/(x=n/\k= -((L.length:Int)+1)):=λC=>by simpa using C
 have E:∀x,(x,-((L.length:Int)+1))∉D:=λx C=>by
  by_cases H:x<0;.have:=(f_.1 (h.lf _ _ C H).2).1;omega
  .have:=h.br _ _ C (by omega);omega
 refine⟨nz h.kn hk,λx k C=>?_,λx k C H=>?_,λx k C H=>?_,λx y k C hy=>?_,λi N=>?_,λi N=>?_,?_,?_⟩
 .rcases I C with C|⟨rfl,rfl⟩;.exact h.kd x k C
  .exact hn
 .rcases I C with C|⟨rfl,rfl⟩;.obtain⟨q1,q2⟩:=h.lf x k C H;exact⟨q1,ye q2⟩
  .refine⟨by omega,?_⟩;rw[show(-1 - -((L.length:Int)+1)).toNat=L.length by omega];simp
 .rcases I C with C|⟨rfl,rfl⟩;.exact h.br x k C H
  .omega
 .rcases I C with J|⟨U,Y⟩<;>rcases I hy with M|⟨e3,e4⟩;.exact h.ij x y k J M
  .rw[e4]at J;exact absurd J (E x)
  .rw[Y]at M;exact absurd M (E y)
  .rw[U,e3]
 .obtain⟨m,I⟩:=h.sb i N;exact⟨m,t_ _ I⟩
 .by_cases hj:i<L.length;.obtain⟨m,I⟩:=h.sl i hj;exact⟨m,t_ _ I⟩
  .simp only[d_,p_]at N;refine⟨n,ay_ _ ?_⟩;rw[show -1 - (i:Int)= -((L.length:Int)+1) by omega];exact q_.2 rfl
 .have:=h.cb;rw[N_,d_];omega
 .have:=h.cl;rw[N_,d_,aP_ (by simpa using h0)];simp only[d_,am_,ah_];omega
def VI.push{g:gQ}{B:List cQ}{L:List ff}{D:xt}(h:VI g B L D){n:Int}(h0:0<=n)(hn:eU g n=true)(hk:∀k,(n,k)∉D)(b:cQ):VI g (B++[b]) L (D++[(n,(B.length:Int))]):=by
 have I:∀{x k},(x,k)∈D++[(n,(B.length:Int))]->(x,k)∈D\/(x=n/\k=(B.length:Int)):=λC=>by simpa using C
 have E:∀x,(x,(B.length:Int))∉D:=λx C=>by
  by_cases H:x<0;.have:=(h.lf _ _ C H).1;omega
  .have:=h.br _ _ C (by omega);omega
 refine⟨nz h.kn hk,λx k C=>?_,λx k C H=>?_,λx k C H=>?_,λx y k C hy=>?_,λi N=>?_,λi N=>?_,?_,?_⟩
 .rcases I C with C|⟨rfl,rfl⟩;.exact h.kd x k C
  .exact hn
 .rcases I C with C|⟨rfl,rfl⟩;.exact h.lf x k C H
  .omega
 .simp only[d_,p_];rcases I C with C|⟨rfl,rfl⟩;.have:=h.br x k C H;omega
  .omega
 .rcases I C with J|⟨U,Y⟩<;>rcases I hy with M|⟨e3,e4⟩;.exact h.ij x y k J M
  .rw[e4]at J;exact absurd J (E x)
  .rw[Y]at M;exact absurd M (E y)
  .rw[U,e3]
 .by_cases hj:i<B.length;.obtain⟨m,I⟩:=h.sb i hj;exact⟨m,t_ _ I⟩
  .simp only[d_,p_]at N;refine⟨n,ay_ _ ?_⟩;rw[show i=B.length by omega];exact q_.2 rfl
 .obtain⟨m,I⟩:=h.sl i N;exact⟨m,t_ _ I⟩
 .have:=h.cb;rw[N_,d_,aP_ (by simpa using h0)];simp only[d_,am_,ah_];omega
 .have:=h.cl;rw[N_,d_];omega
def VI.set{g:gQ}{B:List cQ}{L:List ff}{D:xt}(h:VI g B L D)(i:Nat)(b:cQ):VI g (B.set i b) L D:=⟨h.kn,h.kd,h.lf,by rw[ar_];exact h.br,h.ij,by rw[ar_];exact h.sb,h.sl,by rw[ar_];exact h.cb,h.cl⟩
def Fin(g:gQ)(B:List cQ)(D:xt)(m:Int):Prop:=∃k b a,(m,k)∈D/\((cz g m).2.1,b)∈D/\((cz g m).2.2.1,a)∈D/\B[k.toNat]? =some ((cz g m).1,b,a,())
structure X2(g:gQ)(n:Int)(s:xu)(r:Int×xu):Prop where
 inv:VI g r.2.1 r.2.2.1 r.2.2.2
 mem:(n,r.1)∈r.2.2.2
 ext:∀p∈s.2.2,p∈r.2.2.2
 len:s.1.length<=r.2.1.length
 old:∀i:Nat,i<s.1.length->r.2.1[i]? =s.1[i]?
 lvs:∃E,r.2.2.1=s.2.1++E
 lfs:∀l∈r.2.2.1,l∈s.2.1\/l∈g.2.2.1
 new:∀m k,(m,k)∈r.2.2.2->(m,k)∈s.2.2\/m<0\/Fin g r.2.1 r.2.2.2 m
def FH{g:gQ}(hg:Low g):∀(f:Nat) (n:Int) (s:xu),eU g n=true->(n+1).toNat<f->VI g s.1 s.2.1 s.2.2->X2 g n s (kO g f n s):=by
 intro f;induction f with
 |zero=>intro n s _ J;omega|succ f F=>
  intro n s hn J hs;unfold kO;cases e:lk s.2.2 n with
  |some k=>exact⟨hs,ru e,λp hp=>hp,R_ _,λ_ _=>rfl,⟨[],by simp⟩,λl hl=>.inl hl,λm k h=>.inl h⟩|none=>
   have D:=ry e;by_cases b:n<0
   .simp only[if_pos b];refine⟨hs.leaf b hn D,by simp,λp hp=>t_ _ hp,R_ _,λ_ _=>rfl,⟨_,rfl⟩,λl hl=>?_,λm k h=>?_⟩
    .rcases h_.1 hl with hl|hl;.exact .inl hl
     .rw[q_.1 hl];exact .inr (Q_ (iP b hn))
    .rcases h_.1 h with h|h;.exact .inl h
     .cases q_.1 h;exact .inr (.inl b)
   .simp only[if_neg b];have b:0<=n:=by omega
    have N:=hg.kids hn b _ (.inl rfl);have P:=hg.kids hn b _ (.inr rfl);have y:=F (cz g n).2.1 (s.1++[((cz g n).1,0,0,())],s.2.1,s.2.2++[(n,(s.1.length:Int))]) N.1 (by omega) (hs.push b hn D _);generalize kO g f (cz g n).2.1 (s.1++[((cz g n).1,0,0,())],s.2.1,s.2.2++[(n,(s.1.length:Int))])=Y at y;have o:=F _ Y.2 P.1 (by omega) y.inv;generalize kO g f (cz g n).2.2.1 Y.2=O at o;have M:s.1.length<Y.2.1.length:=by have:=y.len;simp only[d_,p_]at this;omega
    have A:s.1.length<O.2.1.length:=by have:=o.len;omega
    have a:(n,(s.1.length:Int))∈O.2.2.2:=o.ext _ (y.ext _ (ay_ _ (q_.2 rfl)));refine⟨o.inv.set _ _,a,λp hp=>o.ext _ (y.ext _ (t_ _ hp)),by rw[ar_];omega,λi L=>?_,?_,λl hl=>?_,λm k h=>?_⟩;.rw[Z_ (by omega),o.old i (by omega),y.old i (by simp only[d_];omega),L_ L]
    .obtain⟨E,I⟩:=y.lvs;obtain⟨E',z⟩:=o.lvs;exact⟨E++E',by rw[z,I,u_]⟩
    .rcases o.lfs l hl with hl|hl;.exact y.lfs l hl
     .exact .inr hl
    .by_cases j:m<0;.exact .inr (.inl j)
     by_cases r:m=n;.subst r;refine .inr (.inr ⟨(s.1.length:Int),Y.1,O.1,a,o.ext _ y.mem,o.mem,?_⟩);rw[g_,ac_ A]
     have keep:∀{c:Int},(m,c)∈O.2.2.2->c.toNat≠s.1.length:=fun{c} d Q=>by
      have:=o.inv.br _ _ d (by omega);have H:c=(s.1.length:Int):=by omega
      rw[H]at d;exact r (o.inv.ij m n _ d a)
     rcases o.new m k h with h|h|⟨c,C,B,u,f2,w,v⟩
     .rcases y.new m k h with h|h|⟨c,C,B,u,f2,w,v⟩
      .rcases h_.1 h with h|h;.exact .inl h
       .exact absurd (congrArg Prod.fst (q_.1 h)) r
      .exact absurd h j
      .refine .inr (.inr ⟨c,C,B,o.ext _ u,o.ext _ f2,o.ext _ w,?_⟩);rw[Z_ (λx=>keep (o.ext _ u) x.symm),o.old _ (f_.1 v).1,v]
     .exact absurd h j
     .exact .inr (.inr ⟨c,C,B,u,f2,w,by rw[Z_ (λx=>keep u x.symm),v]⟩)
def eV(t:Int->Int)(D:xt):xt:=D.map λp=>(t p.1,p.2)
theorem uI{b β:Type}{f:b->β}:∀{l:List b},l.Nodup->(∀x∈l,∀y∈l,f x=f y->x=y)->(l.map f).Nodup
 |[],_,_=>aK_
 |a::l,h,c=>by rw[aT_]at h;rw[x_,aT_];refine⟨λg=>?_,uI h.2 λx d y e=>c x (m_ _ d) y (m_ _ e)⟩;grind
def Pe:∀(n:Nat) (H:List Int),H.Nodup->(∀x∈H,0<=x/\x<(n:Int))->H.length<=n:=by
 intro n H hd a;have h:H.map ak_⊆c_ n:=λx b=>by grind
 have hn:(H.map ak_).Nodup:=by grind[uI]
 have:=hn.length_le_of_subset h;grind
def Mk{D:xt}(h:(D.map (·.1)).Nodup)(p:Int×Int->Bool):((D.filter p).map (·.1)).Nodup:=by grind
def QA{D:xt}{g:gQ}(h:(D.map (·.1)).Nodup)(a:∀n k,(n,k)∈D->eU g n=true):(D.filter λp=>decide (0<=p.1)).length<=g.2.1.length:=by
 have:=Pe g.2.1.length _ (Mk h λp=>decide (0<=p.1)) λx b=>by grind[cF]
 grind
def Qz{D:xt}{g:gQ}(h:(D.map (·.1)).Nodup)(a:∀n k,(n,k)∈D->eU g n=true):(D.filter λp=>decide (p.1<0)).length<=g.2.2.1.length:=by
 have:=Pe g.2.2.1.length (((D.filter λp=>decide (p.1<0)).map (·.1)).map λx=> -1 - x) (uI (Mk h λp=>decide (p.1<0)) λx _ y _ e=>by omega) λx b=>by grind[cF]
 grind
def um{g:gQ}{k:Int}{b:cQ}(h:g.2.1[k.toNat]? =some b):cz g k=b:=by unfold cz;rw[h];rfl
structure Cj(nt:Nat)(B:List cQ)(L:List ff):Prop where
 bn:B.Nodup
 ln:L.Nodup
 bb:∀(i:Nat) b,B[i]? =some b->b.2.1≠b.2.2.1/\(0<=b.1/\b.1<(nt:Int))/\∀c,(c=b.2.1\/c=b.2.2.1)->c<(i:Int)/\-(L.length:Int)<=c/\(0<=c->∃b',B[c.toNat]? =some b'/\b.1<b'.1)
def Cj.low{g:gQ}{nt:Nat}(h:Cj nt g.2.1 g.2.2.1):Low g:=λi b C c hc=>by obtain⟨_,_,q⟩:=h.bb i b C;exact⟨(q c hc).1,(q c hc).2.1⟩
def vw(F:Nat)(g:gQ)(r:Int):Int×xu:=kO g F r ([],[],[])
def kL(F:Nat)(g:gQ)(r:Int):gQ:=(g.1,(vw F g r).2.1,(vw F g r).2.2.1,(vw F g r).1,())
structure BJ(F:Nat)(g:gQ)(r:Int):Prop where
 tab:Cj g.1.length g.2.1 g.2.2.1
 v:X2 g r ([],[],[]) (vw F g r)
def V7{F:Nat}{g:gQ}{r:Int}(ht:Cj g.1.length g.2.1 g.2.2.1)(hr:eU g r=true)(a:g.2.1.length<F):BJ F g r:=⟨ht,FH ht.low F r ([],[],[]) hr (by grind[cF]) (VI.nil _)⟩
def BJ.fin{F:Nat}{g:gQ}{r:Int}(h:BJ F g r){m k:Int}(H:(m,k)∈(vw F g r).2.2.2)(U:0<=m):∃E C,((cz g m).2.1,E)∈(vw F g r).2.2.2/\((cz g m).2.2.1,C)∈(vw F g r).2.2.2/\(kL F g r).2.1[k.toNat]? =some ((cz g m).1,E,C,()):=by
 rcases h.v.new m k H with N|N|⟨Y,E,C,I,f2,J,M⟩;.grind
 .omega
 .rw[VH h.v.inv.kn H I];exact⟨E,C,f2,J,M⟩
def BJ.gbr{F:Nat}{g:gQ}{r:Int}(h:BJ F g r){m:Int}(E:eU g m=true)(C:0<=m):g.2.1[m.toNat]? =some (cz g m):=by obtain⟨i,rfl,H⟩:=tN E C;grind[sY]
def BJ.sgn{F:Nat}{g:gQ}{r:Int}(h:BJ F g r){m k:Int}(C:(m,k)∈(vw F g r).2.2.2):(m<0↔k<0)/\eU (kL F g r) k=true:=by
 by_cases E:m<0;.obtain⟨I,H⟩:=h.v.inv.lf _ _ C E;have:=(f_.1 H).1;refine⟨by omega,cF.2 ⟨by omega,?_⟩⟩;show -((vw F g r).2.2.1.length:Int)<=k;omega
 .have:=h.v.inv.br _ _ C (by omega);refine⟨by omega,cF.2 ⟨this.2,by omega⟩⟩
def BJ.at{F:Nat}{g:gQ}{r:Int}(h:BJ F g r){i:Nat}{b:cQ}(J:(kL F g r).2.1[i]? =some b):∃m,(m,(i:Int))∈(vw F g r).2.2.2/\0<=m/\∃E C,((cz g m).2.1,E)∈(vw F g r).2.2.2/\((cz g m).2.2.1,C)∈(vw F g r).2.2.2/\b=((cz g m).1,E,C,()):=by
 obtain⟨m,H⟩:=h.v.inv.sb i (f_.1 J).1;have I:0<=m:=by have:=(h.sgn H).1;omega
 obtain⟨E,C,M,f2,N⟩:=h.fin H I;grind
def BJ.aut{F:Nat}{g:gQ}{r:Int}(h:BJ F g r)(l1:g.1.length<=2000)(l2:(kL F g r).2.1.length<=4096)(l3:(kL F g r).2.2.1.length<=4096)(ts:∀t∈g.1,NF t=0)(lf:∀l∈(kL F g r).2.2.1,ED l=0):Zp (kL F g r):=by
 refine⟨l1,l2,l3,ts,(h.sgn h.v.mem).2,λb I=>?_,lf⟩;obtain⟨i,J,rfl⟩:=e_.1 I;obtain⟨m,M,H,ky,ko,f1,f2,f3⟩:=h.at (a_ J);obtain⟨_,q2,N⟩:=h.tab.bb _ _ (h.gbr (h.v.inv.kd _ _ M) H);have gk:∀c E,(c=(cz g m).2.1\/c=(cz g m).2.2.1)->(c,E)∈(vw F g r).2.2.2->eU (kL F g r) E=true/\Sj (kL F g r) E (cz g m).1=true:=λc E hc hd=>by
  refine⟨(h.sgn hd).2,?_⟩;unfold Sj;by_cases hk:E<0;.grind
  .have C:0<=c:=by have:=(h.sgn hd).1;omega
   obtain⟨_,_,_,_,f⟩:=h.fin hd C;rw[um f];obtain⟨b',U,Y⟩:=(N c hc).2.2 C;rw[um U,decide_eq_true Y,Bool.or_true]
 unfold Yi;rw[if_neg];.grind
 .have:(g.1.length:Int)=((kL F g r).1.length:Int):=rfl;grind
def Ce(B:List cQ)(L:List ff)(n:Int):Prop:=n<(B.length:Int)/\-(L.length:Int)<=n
def Bo(B:List cQ)(n t:Int):Prop:=0<=n->∃b,B[n.toNat]? =some b/\t<b.1
def Bo.app{B E:List cQ}{n t:Int}(h:Bo B n t):Bo (B++E) n t:=λC=>let⟨b,h1,h2⟩:=h C;⟨b,ye h1,h2⟩
def Bo.le{B:List cQ}{n t C:Int}(h:Bo B n t)(hl:C<=t):Bo B n C:=λE=>let⟨b,h1,h2⟩:=h E;⟨b,h1,by omega⟩
def Ce.app{B E:List cQ}{L E':List ff}{n:Int}(h:Ce B L n):Ce (B++E) (L++E') n:=by obtain⟨h1,h2⟩:=h;unfold Ce;grind
def Cj.leaf{nt:Nat}{B:List cQ}{L:List ff}(h:Cj nt B L)(l:ff):Cj nt B (dJ L l).2:=by
 obtain⟨_,_,⟨E,J⟩,I,_,_⟩:=rp L l;have C:L.length<=(dJ L l).2.length:=by rw[J];simp
 refine⟨h.bn,I h.ln,λi b H=>?_⟩;obtain⟨M,N,U⟩:=h.bb i b H;refine⟨M,N,λc hc=>?_⟩;obtain⟨r1,r2,r3⟩:=U c hc;grind
def Q7(B:List cQ)(L:List ff)(l:ff):Ce B (dJ L l).2 (dJ L l).1/\(dJ L l).1<0:=by obtain⟨a,b,_⟩:=rp L l;have:=(f_.1 b).1;exact⟨⟨by omega,by omega⟩,a⟩
def Hu(B:List cQ)(b:cQ):(∃E,(eC B b).2=B++E)/\(eC B b).2.length<=B.length+1:=by
 rcases De B b with⟨_,h⟩|⟨_,_,_,h|⟨h,_⟩⟩;.rw[h];simp
 .rw[h];simp
 grind
def Cj.Yk{nt:Nat}{B:List cQ}{L:List ff}(h:Cj nt B L){t y o:Int}(I:0<=t)(h1:t<(nt:Int))(hy:Ce B L y)(ho:Ce B L o)(Y:Bo B y t)(go:Bo B o t): Cj nt (eC B (t,y,o,())).2 L/\Ce (eC B (t,y,o,())).2 L (eC B (t,y,o,())).1/\(∀H,H<t->Bo (eC B (t,y,o,())).2 (eC B (t,y,o,())).1 H)/\((eC B (t,y,o,())).1=y\/(eC B (t,y,o,())).2[(eC B (t,y,o,())).1.toNat]? =some (t,y,o,())):=by
 generalize hp:eC B (t,y,o,())=p;have hs:=De B (t,y,o,());rw[hp]at hs;have lt:∀{c:Int},Bo B c t->0<=c->∃b',B[c.toNat]? =some b'/\t<b'.1:=λh I=>h I;rcases hs with⟨_,h2⟩|⟨n1,n2,U,h2⟩;.rw[h2];exact⟨h,hy,λH ht=>Y.le (by omega),.inl rfl⟩
 have N:Ce p.2 L p.1:=⟨by grind,by omega⟩;refine⟨?_,N,λH ht _=>⟨_,U,ht⟩,.inr U⟩;rcases h2 with h2|⟨h2,h3⟩;.grind
 refine⟨?_,h.ln,λj b E=>?_⟩;.rw[h2,aa_];refine⟨h.bn,by simp,?_⟩;grind
 .by_cases hj:j<B.length;.rw[h2,L_ hj]at E;obtain⟨q1,q2,q3⟩:=h.bb j b E;grind
  .rw[h2,K_ (by omega)]at E;obtain⟨el,C⟩:=f_.1 E;have M:j - B.length=0:=by grind
   simp only[M,List.getElem_cons_zero]at C;subst C;refine⟨n1,⟨I,h1⟩,λc hc=>?_⟩;have key:∀c,Ce B L c->Bo B c t->c<(j:Int)/\-(L.length:Int)<=c/\(0<=c->∃b',p.2[c.toNat]? =some b'/\t<b'.1):=λc hn hg=>⟨by grind,hn.2,λJ=>let⟨b',s1,s2⟩:=hg J;⟨b',by grind,s2⟩⟩;grind
def N4(B:List cQ)(L:List ff)(R:List Int):Prop:=∀n∈R,Ce B L n/\(0<=n->∃b,B[n.toNat]? =some b/\b.2.1∈R/\b.2.2.1∈R)
def N4.app{B E:List cQ}{L E':List ff}{R:List Int}(h:N4 B L R):N4 (B++E) (L++E') R:=λn hn=>⟨(h n hn).1.app,λC=>let⟨b,h1,h2⟩:=(h n hn).2 C;⟨b,ye h1,h2⟩⟩
def nH(A:List sB)(l:ff):ff:=if l.1=true then(l.1,A++l.2.1,())else(l.1,l.2.1,())
def jZ(g:gQ)(A:List sB):Nat->Int->xu->Int×xu
 |0,_,s=>(0,s)
 |f+1,n,s=>match lk s.2.2 n with
  |some k=>(k,s)
  |none=>if n<0 then((dJ s.2.1 (nH A (fN g n))).1,s.1,(dJ s.2.1 (nH A (fN g n))).2,s.2.2++[(n,(dJ s.2.1 (nH A (fN g n))).1)])
   else
    let y:=jZ g A f (cz g n).2.1 s
    let o:=jZ g A f (cz g n).2.2.1 y.2
    let p:=eC o.2.1 ((cz g n).1,y.1,o.1,())
    (p.1,p.2,o.2.2.1,o.2.2.2++[(n,p.1)])
structure PI(g:gQ)(A:List sB)(R:List Int)(s:xu):Prop where
 tab:Cj g.1.length s.1 s.2.1
 eB:∃E,s.1=g.2.1++E
 eL:∃E,s.2.1=g.2.2.1++E
 kn:(s.2.2.map (·.1)).Nodup
 kR:∀n k,(n,k)∈s.2.2->n∈R
 nd:∀n k,(n,k)∈s.2.2->Ce s.1 s.2.1 k/\(n<0->k<0)/\(0<=n->∀t,t<(cz g n).1->Bo s.1 k t)
 cl:∀n k,(n,k)∈s.2.2->0<=k->∃b,s.1[k.toNat]? =some b/\(∃m,(m,b.2.1)∈s.2.2)/\∃m,(m,b.2.2.1)∈s.2.2
 cB:s.1.length<=g.2.1.length+s.2.2.length
 cL:s.2.1.length<=g.2.2.1.length+s.2.2.length
 lv:∀l∈s.2.1,l∈g.2.2.1\/∃l0∈g.2.2.1,l=nH A l0
structure zcj(g:gQ)(A:List sB)(R:List Int)(n:Int)(s:xu)(r:Int×xu):Prop where
 inv:PI g A R r.2
 mem:(n,r.1)∈r.2.2.2
 ext:∀p∈s.2.2,p∈r.2.2.2
 new:∀p∈r.2.2.2,p∈s.2.2\/p.1<=n
def PI.leaf{g:gQ}{A:List sB}{R:List Int}{s:xu}(h:PI g A R s)(hR:N4 g.2.1 g.2.2.1 R){n:Int}(hn:n∈R)(Y:n<0)(hk:∀k,(n,k)∉s.2.2): PI g A R (s.1,(dJ s.2.1 (nH A (fN g n))).2,s.2.2++[(n,(dJ s.2.1 (nH A (fN g n))).1)]):=by
 generalize hl:nH A (fN g n)=l;obtain⟨p1,p2,⟨E,pE⟩,p4,p5,p6⟩:=rp s.2.1 l;have I:∀{x k},(x,k)∈s.2.2++[(n,(dJ s.2.1 l).1)]->(x,k)∈s.2.2\/(x=n/\k=(dJ s.2.1 l).1):=λC=>by simpa using C
 have J:eU g n=true:=cF.2 (hR n hn).1;obtain⟨U,el⟩:=h.eL;refine⟨h.tab.leaf l,h.eB,⟨U++E,by grind⟩,nz h.kn hk,λx k C=>?_,λx k C=>?_,λx k C H=>?_,?_,?_,λx C=>?_⟩
 .rcases I C with C|⟨rfl,_⟩;.exact h.kR x k C
  omega
 .rcases I C with C|⟨rfl,rfl⟩;.obtain⟨M,N⟩:=h.nd x k C;refine⟨?_,N⟩;simp only;rw[pE];have:=M.app (E:=[]) (E':=E);grind
  .exact⟨(Q7 s.1 s.2.1 l).1,λ_=>p1,λh=>by omega⟩
 .rcases I C with C|⟨rfl,rfl⟩;.obtain⟨b,M,⟨m,N⟩,m',q3⟩:=h.cl x k C H;exact⟨b,M,⟨m,t_ _ N⟩,m',t_ _ q3⟩
  omega
 .have:=h.cB;simp only[d_,p_];omega
 .have:=h.cL;simp only[d_,p_];omega
 .rcases p5 x C with C|rfl;.exact h.lv x C
  .exact .inr ⟨_,Q_ (iP Y J),hl.symm⟩
def PI.Yk{g:gQ}{A:List sB}{R:List Int}{s:xu}(h:PI g A R s)(hR:N4 g.2.1 g.2.2.1 R)(ht:Cj g.1.length g.2.1 g.2.2.1){n N M:Int}(hn:n∈R)(h0:0<=n)(hk:∀k,(n,k)∉s.2.2) (hy:((cz g n).2.1,N)∈s.2.2) (hz:((cz g n).2.2.1,M)∈s.2.2):PI g A R ((eC s.1 ((cz g n).1,N,M,())).2,s.2.1,s.2.2++[(n,(eC s.1 ((cz g n).1,N,M,())).1)]):=by
 have el:eU g n=true:=cF.2 (hR n hn).1;obtain⟨i,rfl,hi⟩:=tN el h0;obtain⟨_,⟨b1,b2⟩,b3⟩:=ht.bb i _ (a_ hi);rw[<-sY hi]at b1 b2 b3;have H:∀{c U:Int},(c=(cz g i).2.1\/c=(cz g i).2.2.1)->(c,U)∈s.2.2->Ce s.1 s.2.1 U/\Bo s.1 U (cz g i).1:=fun{c U} hc hd=>by
  obtain⟨Y,q2,q3⟩:=h.nd _ _ hd;refine⟨Y,?_⟩;by_cases J:0<=c;.obtain⟨b',s1,s2⟩:=(b3 c hc).2.2 J;refine q3 J _ ?_;rw[um s1];omega
  .intro I;omega
 obtain⟨y1,y2⟩:=H (.inl rfl) hy;obtain⟨z1,z2⟩:=H (.inr rfl) hz;obtain⟨t1,t2,t3,t4⟩:=h.tab.Yk b1 b2 y1 z1 y2 z2;obtain⟨⟨E,hE⟩,gc⟩:=Hu s.1 ((cz g i).1,N,M,());generalize eC s.1 ((cz g i).1,N,M,())=p at*;have hm:∀{x k},(x,k)∈s.2.2++[((i:Int),p.1)]->(x,k)∈s.2.2\/(x=i/\k=p.1):=λC=>by grind
 obtain⟨E0,qr⟩:=h.eB;have ph:∀x k,(x,k)∈s.2.2->0<=k->∃b,p.2[k.toNat]? =some b/\(∃m,(m,b.2.1)∈s.2.2++[((i:Int),p.1)])/\∃m,(m,b.2.2.1)∈s.2.2++[((i:Int),p.1)]:=λx k C I=>by obtain⟨b,Y,⟨m,q2⟩,m',q3⟩:=h.cl x k C I;grind
 refine⟨t1,⟨E0++E,by grind⟩,h.eL,nz h.kn hk,λx k C=>?_,λx k C=>?_,λx k C I=>?_,?_,?_,h.lv⟩
 .rcases hm C with C|⟨rfl,_⟩;.exact h.kR x k C
  omega
 .rcases hm C with C|⟨rfl,rfl⟩;.obtain⟨Y,q2,q3⟩:=h.nd x k C;have e:=Y.app (E:=E) (E':=[]);rw[I_]at e;simp only;rw[hE];exact⟨e,q2,λh0 t ht=>(q3 h0 t ht).app⟩
  grind
 .rcases hm C with C|⟨rfl,rfl⟩;all_goals grind
 .have:=h.cB;grind
 .have:=h.cL;grind
def E7{g:gQ}(A:List sB){R:List Int}(d:N4 g.2.1 g.2.2.1 R)(ht:Cj g.1.length g.2.1 g.2.2.1):∀(f:Nat) (n:Int) (s:xu),n∈R->(n+1).toNat<f->PI g A R s->zcj g A R n s (jZ g A f n s):=by
 intro f;induction f with
 |zero=>simp|succ f r=>
  intro n s hn x hs;unfold jZ;cases e:lk s.2.2 n with
  |some k=>exact⟨hs,ru e,λp hp=>hp,λp hp=>.inl hp⟩|none=>
   have w:=ry e;by_cases c:n<0;.simp only[if_pos c];refine⟨hs.leaf d hn c w,by simp,λp hp=>t_ _ hp,λp hp=>?_⟩;grind
   .simp only[if_neg c];have c:0<=n:=by omega
    obtain⟨b,u,j,l⟩:=(d n hn).2 c;have kid:=ht.low.kids (cF.2 (d n hn).1) c;have v:=um u;rw[<-v]at j l;have z:=(kid _ (.inl rfl)).2;have B:=(kid _ (.inr rfl)).2;have y:=r _ s j (by omega) hs;generalize jZ g A f (cz g n).2.1 s=Y at y;have o:=r _ Y.2 l (by omega) y.inv;generalize jZ g A f (cz g n).2.2.1 Y.2=O at o;have h:∀k,(n,k)∉O.2.2.2:=λk a=>by
     rcases o.new _ a with a|a;.rcases y.new _ a with a|a;all_goals grind
     omega
    refine⟨o.inv.Yk d ht hn c h (o.ext _ y.mem) o.mem,by simp,λp hp=>t_ _ (o.ext _ (y.ext _ hp)),λp hp=>?_⟩;rcases h_.1 hp with hp|hp
    .rcases o.new _ hp with a|a;.rcases y.new _ a with a|a;all_goals grind
     omega
    grind
def PI.len{g:gQ}{A:List sB}{R:List Int}{s:xu}(h:PI g A R s):s.2.2.length<=R.length:=by
 have:=h.kn.length_le_of_subset (l₂:=R) λx C=>by obtain⟨⟨n,k⟩,hp,rfl⟩:=l_.1 C;exact h.kR n k hp
 grind
def PI.kT{g:gQ}{A:List sB}{R:List Int}{s:xu}(h:PI g A R s):N4 s.1 s.2.1 (s.2.2.map (·.2)):=λn hn=>by obtain⟨⟨m,k⟩,hp,rfl⟩:=l_.1 hn;refine⟨(h.nd m k hp).1,λC=>?_⟩;obtain⟨b,I,⟨E,J⟩,H,M⟩:=h.cl m k hp C;grind
def PI.nil{g:gQ}(A:List sB)(R:List Int)(ht:Cj g.1.length g.2.1 g.2.2.1):PI g A R (g.2.1,g.2.2.1,[]):=⟨ht,⟨[],by simp⟩,⟨[],by simp⟩,aK_,by simp,by simp,by simp,by simp,by simp,λl hl=>.inl hl⟩
abbrev qC:Type:=Int×(Bool×Unit)
abbrev wa:Type:=List (cQ×Int)
def XF(D:wa)(k:cQ):Option Int:=dA rU tI D k
def EH(k:cQ)(v:Int)(l:wa)(n:cQ):XF ((k,v)::l) n=if n=k then some v else XF l n:=by show(bif gI rU n k then some v else XF l n)=_;rw[HF,bj_]
def Q9:∀{D:wa} {n:cQ} {k:Int},XF D n=some k->(n,k)∈D
 |[],_,_,h=>by cases h
 |(a,b)::l,n,k,h=>by
  rw[EH]at h;split at h;.grind
  .exact m_ _ (Q9 h)
def Mq:∀{D:wa} {n:cQ},XF D n=none->∀k,(n,k)∉D
 |[],_,_=>by simp
 |(a,b)::l,n,h=>λk=>by
  rw[EH]at h;split at h;.grind
  .rename_i e;have:=Mq h k;grind
def gg(B:List cQ)(n t:Int)(r:Bool):Int:=if n<0\/((B[n.toNat]?).getD (0,0,0,())).1≠t then n else if r=true then((B[n.toNat]?).getD (0,0,0,())).2.1 else((B[n.toNat]?).getD (0,0,0,())).2.2.1
def jW(B:List cQ)(t n:Int):Int:=if 0<=n/\((B[n.toNat]?).getD (0,0,0,())).1<t then((B[n.toNat]?).getD (0,0,0,())).1 else t
def zS:Nat->List qC->Int->Int->List cQ×wa->Int×(List cQ×wa)
 |0,_,y,_,s=>(y,s)
 |_+1,[],y,_,s=>(y,s)
 |f+1,x::l,y,n,s=>if y=n then(y,s)else match XF s.2 (((l.length+1:Nat):Int),y,n,())with
  |some k=>(k,s)
  |none=>
   let t:=jW s.1 (jW s.1 x.1 y) n
   let one:=fun(r:Bool) (s:List cQ×wa)=>if x.1≠t then zS f (x::l) (gg s.1 y t r) (gg s.1 n t r) s else if x.2.1≠r then(gg s.1 n t r,s)else zS f l (gg s.1 y t r) (gg s.1 n t r) s
   let a:=one true s
   let b:=one false a.2
   let p:=eC b.2.1 (t,a.1,b.1,())
   (p.1,p.2,b.2.2++[((((l.length+1:Nat):Int),y,n,()),p.1)])
def Bd(lits:List qC)(B0:List cQ)(T:Int)(k:cQ):Prop:=Bo B0 k.2.1 T/\Bo B0 k.2.2.1 T/\∀x,(lits.drop (lits.length - k.1.toNat)).head?=some x->T<x.1
structure CI(nt:Nat)(lits:List qC)(B0:List cQ)(L:List ff)(RY RN:List Int)(s:List cQ×wa):Prop where
 tab:Cj nt s.1 L
 eB:∃E,s.1=B0++E
 kn:(s.2.map (·.1)).Nodup
 kd:∀k v,(k,v)∈s.2->(0<=k.1/\k.1<=(lits.length:Int))/\k.2.1∈RY/\k.2.2.1∈RN
 vd:∀k v,(k,v)∈s.2->Ce s.1 L v/\∀T,Bd lits B0 T k->Bo s.1 v T
 cB:s.1.length<=B0.length+s.2.length
structure zbk(nt:Nat)(lits:List qC)(B0:List cQ)(L:List ff)(RY RN:List Int)(T:Int)(k:cQ)(s:List cQ×wa)(r:Int×(List cQ×wa)):Prop where
 inv:CI nt lits B0 L RY RN r.2
 nd:Ce r.2.1 L r.1
 gt:∀T',Bd lits B0 T' k->Bo r.2.1 r.1 T'
 eB:∃E,r.2.1=s.1++E
 new:∀p∈r.2.2,p∈s.2\/Bd lits B0 T p.1
section
variable {nt:Nat} {lits:List qC} {B0:List cQ} {L:List ff} {RY RN:List Int}
theorem Kr{B:List cQ}(a:∃E,B=B0++E){n:Int}(hn:Ce B0 L n)(t:Int)(r:Bool):gg B n t r=gg B0 n t r:=by
 obtain⟨E,rfl⟩:=a;unfold gg;by_cases b:n<0;.omega
 .rw[L_ (by have:=hn.1;omega)]
theorem VT{B:List cQ}(a:∃E,B=B0++E){n:Int}(hn:Ce B0 L n)(t:Int):jW B t n=jW B0 t n:=by
 obtain⟨E,rfl⟩:=a;unfold jW;by_cases b:n<0;.omega
 .rw[L_ (by have:=hn.1;omega)]
theorem VV(B:List cQ)(t n:Int):jW B t n<=t:=by unfold jW;split<;>omega
theorem JS{B:List cQ}{t n T:Int}(ht:T<t)(hn:Bo B n T):T<jW B t n:=by
 unfold jW;split;.rename_i h;obtain⟨b,h1,h2⟩:=hn h.1;grind
 omega
theorem VU{B:List cQ}{t n a:Int}(hn:n<(B.length:Int))(hl:a<=jW B t n):0<=n->∃b,B[n.toNat]? =some b/\a<=b.1:=λd=>by
 have c:n.toNat<B.length:=by omega
 refine⟨_,a_ c,?_⟩;unfold jW at hl;grind
theorem Xn(ht:Cj nt B0 L){R:List Int}(f:N4 B0 L R){n t:Int}(hn:n∈R)(hg:0<=n->∃b,B0[n.toNat]? =some b/\t<=b.1)(r:Bool):gg B0 n t r∈R/\Bo B0 (gg B0 n t r) t:=by
 unfold gg;by_cases d:n<0;.rw[if_pos (.inl d)];exact⟨hn,λh=>by omega⟩
 obtain⟨b,h1,h2⟩:=hg (by omega);obtain⟨b',a,g,j⟩:=(f n hn).2 (by omega);rw[h1]at a;cases a;rw[h1];simp only[O_];by_cases e:b.1=t
 .rw[if_neg (by omega)];obtain⟨_,_,q⟩:=ht.bb _ _ h1;have key:∀c,(c=b.2.1\/c=b.2.2.1)->Bo B0 c t:=λc hc d=>by grind
  grind
 .rw[if_pos (.inr e)];exact⟨hn,λ_=>⟨b,h1,by omega⟩⟩
theorem UY{T a:Int}{k:cQ}(h:Bd lits B0 T k)(hl:a<=T):Bd lits B0 a k:=⟨h.1.le hl,h.2.1.le hl,λx b=>by have:=h.2.2 x b;omega⟩
theorem CI.put{s:List cQ×wa}(h:CI nt lits B0 L RY RN s){k:cQ}{p:Int×List cQ}(hk:∀v,(k,v)∉s.2)(U:(0<=k.1/\k.1<=(lits.length:Int))/\k.2.1∈RY/\k.2.2.1∈RN) (tab:Cj nt p.2 L) (eB:∃E,p.2=s.1++E) (hl:p.2.length<=s.1.length+1) (nd:Ce p.2 L p.1) (gt:∀T,Bd lits B0 T k->Bo p.2 p.1 T):CI nt lits B0 L RY RN (p.2,s.2++[(k,p.1)]):=by
 obtain⟨E,J⟩:=eB;obtain⟨I,M⟩:=h.eB;have H:∀{x v},(x,v)∈s.2++[(k,p.1)]->(x,v)∈s.2\/(x=k/\v=p.1):=λC=>by grind
 refine⟨tab,⟨I++E,by grind⟩,?_,λx v C=>?_,λx v C=>?_,?_⟩;.simp only[j_,x_,D_];rw[aa_];refine⟨h.kn,by simp,?_⟩;grind
 .rcases H C with C|⟨rfl,_⟩;.exact h.kd x v C
  omega
 .rcases H C with C|⟨rfl,rfl⟩;.obtain⟨Y,q2⟩:=h.vd x v C;have e:=Y.app (E:=E) (E':=[]);rw[I_]at e;simp only;rw[J];exact⟨e,λT N=>(q2 T N).app⟩
  grind
 .have:=h.cB;grind
theorem EE{a β:Type}{f:a->List β}{c:Nat}:∀{l:List a},(∀x,(f x).length=c)->(l.flatMap f).length=l.length*c
 |[],_=>by simp
 |x::l,h=>by rw[Y_,d_,h x,EE h,am_,Nat.add_mul,Nat.one_mul,Nat.add_comm]
theorem CI.len{s:List cQ×wa}(h:CI nt lits B0 L RY RN s):s.2.length<=(lits.length+1)*(RY.length*RN.length):=by
 have:=h.kn.length_le_of_subset (l₂:=(c_ (lits.length+1)).flatMap fun(i:Nat)=>RY.flatMap λy=>RN.map λn=>(((i:Int),y,n,()):cQ)) λx H=>by obtain⟨⟨k,v⟩,hp,rfl⟩:=l_.1 H;obtain⟨⟨N,U⟩,C,E⟩:=h.kd k v hp;obtain⟨I,J,M,⟨⟩⟩:=k;simp only at N U C E⊢;refine aQ_.2 ⟨I.toNat,n_.2 (by omega),aQ_.2 ⟨J,C,l_.2 ⟨M,E,?_⟩⟩⟩;grind
 rw[o_,EE (c:=RY.length*RN.length) λi=>EE λy=>by simp,bf_]at this;omega
theorem CI.nil(h:Cj nt B0 L):CI nt lits B0 L RY RN (B0,[]):=⟨h,⟨[],by simp⟩,aK_,by simp,by simp,by simp⟩
end
def BJ.kT{F:Nat}{g:gQ}{r:Int}(h:BJ F g r):N4 g.2.1 g.2.2.1 ((vw F g r).2.2.2.map (·.1)):=λn hn=>by obtain⟨⟨m,k⟩,hp,rfl⟩:=l_.1 hn;refine⟨cF.1 (h.v.inv.kd m k hp),λC=>?_⟩;obtain⟨H,E,h1,h2,_⟩:=h.fin hp C;exact⟨_,h.gbr (h.v.inv.kd m k hp) C,l_.2 ⟨_,h1,rfl⟩,l_.2 ⟨_,h2,rfl⟩⟩
def BJ.mem{F:Nat}{g:gQ}{r:Int}(h:BJ F g r):r∈(vw F g r).2.2.2.map (·.1):=l_.2 ⟨_,h.v.mem,rfl⟩
def BJ.len{F:Nat}{g:gQ}{r:Int}(h:BJ F g r):((vw F g r).2.2.2.map (·.1)).length<=(kL F g r).2.1.length+(kL F g r).2.2.1.length:=by
 have hn:(vw F g r).2.2.2.Nodup:=List.Pairwise.of_map (S:=(·≠·)) (·.1) (λ_ _ h e=>h (by rw[e])) h.v.inv.kn;have E:=uI (f:=λp:Int×Int=>p.2+((kL F g r).2.2.1.length:Int)) hn λx C y H e=>by
  obtain⟨m,k⟩:=x;obtain⟨m',I⟩:=y;have e:k=I:=by omega
  subst e;rw[h.v.inv.ij _ _ _ C H]
 have:=Pe ((kL F g r).2.1.length+(kL F g r).2.2.1.length) _ E λx C=>by obtain⟨⟨m,k⟩,hp,rfl⟩:=l_.1 C;have:=cF.1 (h.sgn hp).2;omega
 grind
def BJ.lvs{F:Nat}{g:gQ}{r:Int}(h:BJ F g r){l:ff}(hl:l∈(kL F g r).2.2.1):l∈g.2.2.1:=by
 rcases h.v.lfs l hl with hl|hl;.cases hl
 .exact hl
def BJ.lens{F:Nat}{g:gQ}{r:Int}(h:BJ F g r):(kL F g r).2.1.length<=g.2.1.length/\(kL F g r).2.2.1.length<=g.2.2.1.length:=⟨P_ h.v.inv.cb (QA h.v.inv.kn h.v.inv.kd),P_ h.v.inv.cl (Qz h.v.inv.kn h.v.inv.kd)⟩
def Ct{b:Bool}{A:List sB}(d:b=false->A=[])(h:∀a∈A,my a=0):ED (b,A,())=0:=by unfold ED;rw[if_neg (by grind),iK];intro a c;unfold acE;grind
def YM{l:ff}(h:ED l=0):(l.1=false->l.2.1=[])/\∀a∈l.2.1,my a=0:=by
 unfold ED at h;split at h;.omega
 rename_i h1;refine⟨λe=>E_ λh2=>h1 ⟨e,h2⟩,λa b=>?_⟩;have:=iK.1 h a b;unfold acE at this;omega
def VM{A:List sB}{l:ff}(c:∀a∈A,my a=0)(h:ED l=0):ED (nH A l)=0:=by
 obtain⟨h1,h2⟩:=YM h;unfold nH;split;.rename_i e;refine Ct (λb=>by grind) λa d=>?_;grind
 omega
def LvS(k:Nat)(L:List ff):Prop:=∀l∈L,okD xn l/\l.2.1.length<=k
def JZ{A:List sB}{l:ff}{k:Nat}(c:∀a∈A,okD yA a)(hl:okD xn l/\l.2.1.length<=k)(d:A.length+k<=1000000):okD xn (nH A l)/\(nH A l).2.1.length<=A.length+k:=by
 unfold nH;split
 .refine⟨⟨trivial,⟨?_,λa b=>?_⟩,trivial⟩,?_⟩;.show(A++l.2.1).length<=maxLen;rw[d_];simp only[maxLen];omega
  .rcases h_.1 b with b|b;.grind
   .exact hl.1.2.1.2 a b
  grind
 grind
abbrev XD(l:List qC):Prop:=l.Pairwise λa b=>a.1<b.1
structure LI(i:Nat)(ts:List fj)(B:List cQ)(L:List ff):Prop where
 tab:Cj ts.length B L
 cB:B.length<=i*4500000000
 cL:L.length<=i*10000+1
 lv:LvS (64*i) L
 le:∀l∈L,ED l=0
abbrev tA(ts:List fj)(B:List cQ)(L:List ff):gQ:=(ts,B,L,0,())
structure Fit(F:Nat)(g:gQ)(r:Int):Prop where
 num:BJ F g r
 l2:(kL F g r).2.1.length<=4096
 l3:(kL F g r).2.2.1.length<=4096
structure YS(i:Nat)(ts:List fj)(B:List cQ)(L:List ff)(B1:List cQ)(L1:List ff)(y:Int)(R:List Int):Prop where
 tab:Cj ts.length B1 L1
 kT:N4 B1 L1 R
 mem:y∈R
 len:R.length<=8192
 eB:∃E,B1=B++E
 eL:∃E,L1=L++E
 cB:B1.length<=B.length+8192
 cL:L1.length<=L.length+8192
 lv:LvS (64*(i+1)) L1
 le:∀l∈L1,ED l=0
def LI.leaf{i:Nat}{ts:List fj}{B:List cQ}{L:List ff}(h:LI i ts B L){l:ff}(J:okD xn l)(hl:l.2.1.length<=64)(I:ED l=0):YS i ts B L B (dJ L l).2 (dJ L l).1 [(dJ L l).1]:=by
 obtain⟨U,Y,H,p4,E,p6⟩:=rp L l;obtain⟨M,N⟩:=Q7 B L l;refine⟨h.tab.leaf l,λn hn=>?_,List.mem_singleton_self _,by simp,⟨[],by simp⟩,H,by simp,by omega,λx C=>?_,λx C=>?_⟩;.rw[q_.1 hn];grind
 .rcases E x C with C|rfl;.exact⟨(h.lv x C).1,by have:=(h.lv x C).2;omega⟩
  grind
 .rcases E x C with C|rfl;.exact h.le x C
  omega
def LI.pre{F i:Nat}{ts:List fj}{B:List cQ}{L:List ff}(h:LI i ts B L)(Y:i<=64){r:Int}(E:Fit F (tA ts B L) r){A:List sB}(N:∀a∈A,okD yA a)(U:A.length<=64)(M:∀a∈A,my a=0){f:Nat}(J:(r+1).toNat<f): YS i ts B L (jZ (tA ts B L) A f r (B,L,[])).2.1 (jZ (tA ts B L) A f r (B,L,[])).2.2.1 (jZ (tA ts B L) A f r (B,L,[])).1 ((jZ (tA ts B L) A f r (B,L,[])).2.2.2.map (·.2)):=by
 have hc:=E.num.kT;have hn:=E.num.len;have p:=E7 (g:=tA ts B L) A hc h.tab f r (B,L,[]) E.num.mem J (PI.nil A _ h.tab);generalize jZ (tA ts B L) A f r (B,L,[])=P at p;have hl:=p.inv.len;have h1:=E.l2;have h2:=E.l3;have hd:P.2.2.2.length<=8192:=by omega
 refine⟨p.inv.tab,p.inv.kT,l_.2 ⟨_,p.mem,rfl⟩,by grind,p.inv.eB,p.inv.eL,?_,?_,λx C=>?_,λx C=>?_⟩;.have:=p.inv.cB;grind
 .have:=p.inv.cL;grind
 .rcases p.inv.lv x C with C|⟨I,H,rfl⟩;.exact⟨(h.lv x C).1,by have:=(h.lv x C).2;omega⟩
  .have:=JZ N (h.lv I H) (by omega);grind
 .rcases p.inv.lv x C with C|⟨I,H,rfl⟩;.exact h.le x C
  .exact VM M (h.le I H)
def zax{l:List qC}(h:XD l)(i j:Nat)(a b:qC)(d:l[i]? =some a)(e:l[j]? =some b)(c:i<j):a.1<b.1:=by obtain⟨h1,rfl⟩:=f_.1 d;obtain⟨h2,rfl⟩:=f_.1 e;exact G_.1 h i j h1 h2 c
def VA{nt:Nat}{B:List cQ}{L:List ff}(h:Cj nt B L){n:Int}(hn:Ce B L n):Bo B n (-1):=λb=>by
 have a:n.toNat<B.length:=by have:=hn.1;omega
 have:=(h.bb _ _ (a_ a)).2.1;grind
def HT{a b:Ty}(k:a.den)(v:b.den):∀D:List (a.den×b.den),(fh a b D k v).length<=D.length+1
 |[]=>by simp[fh]
 |(x,y)::l=>by unfold fh;cases gI a k x with|true=>simp|false=>have:=HT k v l;grind
def Kv{s:PS}{m:ue}(a:jX s m=0){R:List Qj}{D:XZ}{C:List Qb}(h1:if m.1=1 then R.length<=64/\b9 iW R=0 else R=[])(h2:if m.1=2 then bL D=0 else D=Xz) (c:if m.1=3 then C.length<=64/\b9 ir C=0 else C=[]):NF (m.1,m.2.2.1,m.2.2.2.1,R,D,C,())=0:=by
 obtain⟨k,nm,N,⟨e,pl,⟨⟩⟩,nt,⟨⟩⟩:=m;unfold jX at a;simp only at h1 h2 c a⊢;split at a;.omega
 split at a;.omega
 rename_i b d;unfold NF ZN;have b:k=1\/k=2\/k=3\/k=4\/k=5\/k=6\/k=7\/k=8:=by omega
 rcases b with rfl|rfl|rfl|rfl|rfl|rfl|rfl|rfl<;>simp_all<;>omega
def zaz{s:PS}{m:ue}(a:jX s m=0)(h:m.1=2):∃l∈s.2.1,l.1=m.2.1:=by
 obtain⟨k,nm,N,⟨b,pl,⟨⟩⟩,nt,⟨⟩⟩:=m;simp only at h;subst h;rw[nE (.inr (.inl rfl))]at a;split at a;.omega
 split at a;.rename_i h;obtain⟨l,h1,h2⟩:=al_.1 (show s.2.1.any (·.1==nm)=true from h);grind
 omega
set_option maxRecDepth 100000
def Wm{d:DF}(h:Good d):okD yF d:=by
 have hl:=dz h;have hs:=h.cu;have n:∀x:Int,0<=x->x<=4294967295->okD tI x:=λx h1 h2=>by show -9223372036854775808<=x/\x<=9223372036854775807;omega
 refine⟨⟨by show _<=9223372036854775807;omega,λx a=>n x ?_ (hs.2.2.2 x a)⟩,⟨by show _<=9223372036854775807;omega,λr hr=>⟨by rw[h.rows r hr];show _<=9223372036854775807;omega,λt ht=>n t (h.to r hr t ht).1 (by have:=h.to r hr t ht;omega)⟩⟩,⟨by show _<=9223372036854775807;omega,λ_ _=>trivial⟩,n _ h.start.1 (by have:=h.start;omega),trivial⟩;obtain⟨i,b,rfl⟩:=e_.1 a;have c:=hs.2.1 hs.1;rcases y_ i with rfl|hp;.omega
 .have:=gT hs i 0 b hp;omega
def zaA{l:List (List UInt8)}(h:∀i,i<l.length->mc l i=0):∀(j i:Nat) (b:j<l.length) (a:i<j),l[i]<l[j]:=by
 intro j;induction j with
 |zero=>simp|succ k d=>
  intro i b a;have h1:=h (k+1) b;unfold mc at h1;rw[a_ b]at h1;simp only at h1;split at h1;.omega
  split at h1;.omega
  have c:tP l[k+1] l[k]=false:=by grind
  unfold tP at c;rw[Go.Proofs.bytesLess_eq]at c;grind
def H0{c:Type}{nm:c->List UInt8}{sz:c->Nat}{ck:c->Int}{l:List c}(h:fg nm sz ck l=0):l.Pairwise λa b=>nm a≠nm b:=by
 unfold fg at h;split at h;.omega
 have h1:∀i,i<(l.map nm).length->mc (l.map nm) i=0:=λi e=>by have:=uy.1 h i (by grind);unfold FN at this;omega
 refine G_.2 λi j e f d=>?_;have:=zaA h1 j i (by grind) d;grind
def Je{s:PS}(h:wZ gM s=0):(s.1.Pairwise λa b=>a.1≠b.1)/\s.2.2.1.Pairwise λa b=>a.1≠b.1:=by
 unfold wZ at h;split at h;.omega
 rename_i h1;split at h;.omega
 split at h;.omega
 rename_i c;exact⟨H0 (E_ h1),H0 (E_ c)⟩
def HI{d:Type}{nm:d->List UInt8}{l:List d}(h:l.Pairwise λa b=>nm a≠nm b)(n:List UInt8){i:Nat}(c:i<l.length):(l.take (i+1)).find? (nm ·==n)=if nm l[i]=n then some l[i]else(l.take i).find? (nm ·==n):=by
 rw[<-List.take_append_getElem c];by_cases e:nm l[i]=n
 .have:(l.take i).find? (nm ·==n)=none:=List.find?_eq_none.2 λx g=>by obtain⟨j,f,rfl⟩:=e_.1 g;rw[an_]at f;have:=G_.1 h j i (by omega) c (by omega);grind
  grind
 grind
structure ou(s:PS):Prop where
 po:UK gM s
 sm:C4 s
 d1:s.1.Pairwise λa b=>a.1≠b.1
 d3:s.2.2.1.Pairwise λa b=>a.1≠b.1
theorem ou.pat{s:PS}(h:ou s){l:Z9}(hl:l∈s.2.1):∀r∈l.2.1,K1 r.2.1:=λr hr=>⟨h.sm.pt l hl r hr,by have:=(h.po.r2 l hl).2 r hr;unfold gM at this;grind⟩
noncomputable def d7(s:PS)(m:ue):fj×Int×Unit:=
 if m.1=1 then((m.1,m.2.2.1,m.2.2.2.1,((dH s m.2.1).getD ([],[],())).2.1,Xz,[],()),0,())
 else if m.1=2 then((m.1,m.2.2.1,m.2.2.2.1,[],(bO ((km s m.2.1).getD ([],[],())).2.1).1,[],()),(bO ((km s m.2.1).getD ([],[],())).2.1).2.1,())
 else if m.1=3 then((m.1,m.2.2.1,m.2.2.2.1,[],Xz,((cp s m.2.1).getD ([],[],())).2.1,()),0,())
 else((m.1,m.2.2.1,m.2.2.2.1,[],Xz,[],()),0,())
def OQ{s:PS}{m:ue}(a:jX s m=0)(h:m.1=2):∃l∈s.2.1,km s m.2.1=some l:=by obtain⟨l,hl,e⟩:=zaz a h;unfold km;cases b:s.2.1.find? (·.1==m.2.1)with|some l=>grind|none=>grind
def P2{s:PS}(hs:ou s){m:ue}(d:jX s m=0)(b:okD yM m)(c:(d7 s m).2.1=0):NF (d7 s m).1=0/\okD NT (d7 s m).1:=by
 have a:∀{R:List Qj} {D:XZ} {C:List Qb},okD (.list yR) R->okD yF D->okD (.list yC) C->okD NT (m.1,m.2.2.1,m.2.2.2.1,R,D,C,()):=λh1 h2 f=>⟨b.1,b.2.2.1,b.2.2.2.1,h1,h2,f,trivial⟩;have zF:okD yF Xz:=⟨mn,mn,mn,(by show IntKind.min .i64<=(0:Int)/\(0:Int)<=IntKind.max .i64;decide),trivial⟩;have h:=hs.po;unfold d7 at c⊢;by_cases h1:m.1=1
 .rw[if_pos h1];have:(((dH s m.2.1).getD ([],[],())).2.1.length<=64/\b9 iW ((dH s m.2.1).getD ([],[],())).2.1=0)/\okD (.list yR) ((dH s m.2.1).getD ([],[],())).2.1:=by cases e:dH s m.2.1 with|none=>exact⟨⟨by simp,rfl⟩,mn⟩|some l=>have hl:=W_ (show s.1.find? (·.1==m.2.1)=some l from e);exact⟨⟨(h.r1 l hl).1,iK.2 (h.r1 l hl).2⟩,(hs.sm.ok.1.2 l hl).2.1⟩
  exact⟨Kv d (by grind) (by grind) (by grind),a this.2 zF mn⟩
 rw[if_neg h1]at c⊢;by_cases h2:m.1=2;.rw[if_pos h2]at c⊢;obtain⟨l,hl,e⟩:=OQ d h2;rw[e]at c⊢;have g:=(MV l.2.1 (hs.pat hl)).1 c;exact⟨Kv d (by grind) (by rw[if_pos h2];exact dQ.2 g) (by grind),a mn (Wm g) mn⟩
 rw[if_neg h2];by_cases f:m.1=3
 .rw[if_pos f];have:(((cp s m.2.1).getD ([],[],())).2.1.length<=64/\b9 ir ((cp s m.2.1).getD ([],[],())).2.1=0)/\okD (.list yC) ((cp s m.2.1).getD ([],[],())).2.1:=by cases e:cp s m.2.1 with|none=>exact⟨⟨by simp,rfl⟩,mn⟩|some l=>have hl:=W_ (show s.2.2.1.find? (·.1==m.2.1)=some l from e);exact⟨⟨(h.r3 l hl).1,iK.2 (h.r3 l hl).2⟩,(hs.sm.ok.2.2.1.2 l hl).2.1⟩
  exact⟨Kv d (by grind) (by grind) (by grind),a mn zF this.2⟩
 rw[if_neg f];exact⟨Kv d (by grind) (by grind) (by grind),a mn zF mn⟩
def sC{s:PS}(hs:ou s){m:ue}(k:jX s m=0):aB tbl 107 [.d yS s,.d yM m] [] ix (d7 s m):=by
 refine cm ?_;have c:=hs.po;unfold d7;by_cases h1:m.1=1
 .have f:=c.l1;rw[if_pos h1];refine ae (aD (by grind) (ae (aK (N:=s.1.length) (I:=λi x=>x=((i:Int),0,0,0,0,0,m.1,m.2.2.1,m.2.2.2.1.1,m.2.2.2.1.2.1,0,(((s.1.take i).find? (·.1==m.2.1)).getD ([],[],())).2.1,())) rfl (λi x a b=>?_) λx b=>?_)))
  .subst b;have hl:=c.r1 _ (b_ a);rw[HI (nm:=(·.1)) hs.d1 m.2.1 a];refine aQ a (ae (aA a (au (λh=>ao (decide_eq_true (by grind)) (aa (aa ?_))) λh=>aa (aa ?_))));.rw[ak a,if_pos (by grind)];rfl
   .rw[ak a,if_neg (by grind)]
  .subst b;rw[k_];exact aJ (aa (aa (aa rfl)))
 rw[if_neg h1];by_cases h2:m.1=2
 .have g:=c.l2;rw[if_pos h2];obtain⟨l,hl,e⟩:=OQ k h2;rw[e];refine ae (ap (by grind) (aD (by grind) (ae (aK (N:=s.2.1.length) (I:=λi x=>x=((i:Int),0,0,0,0,0,m.1,m.2.2.1,m.2.2.2.1.1,m.2.2.2.1.2.1,0,())/\(s.2.1.drop i).find? (·.1==m.2.1)=some l) ⟨rfl,by rw[List.drop_zero];exact e⟩ (λi x a b=>?_) λx b=>?_))))
  .obtain⟨rfl,b⟩:=b;rw[F_ a,List.find?_cons]at b;refine aQ a (aA a (au (λh=>?_) λh=>aa ?_));.rw[h]at b;obtain rfl:=aV_ b;exact aj (vV _ (c.r2 _ hl).1 (hs.pat hl)) (aa (aa (aa rfl)))
   .rw[h]at b;rw[ak a];grind
  grind
 rw[if_neg h2];by_cases d:m.1=3
 .have j:=c.l3;rw[if_pos d];refine ae (ap (by grind) (ap (by grind) (aD (by grind) (ae (aK (N:=s.2.2.1.length) (I:=λi x=>x=((i:Int),0,0,0,0,0,m.1,m.2.2.1,m.2.2.2.1.1,m.2.2.2.1.2.1,0,(((s.2.2.1.take i).find? (·.1==m.2.1)).getD ([],[],())).2.1,())) rfl (λi x a b=>?_) λx b=>?_)))))
  .subst b;have hl:=c.r3 _ (b_ a);rw[HI (nm:=(·.1)) hs.d3 m.2.1 a];refine aQ a (ae (aA a (au (λh=>ao (decide_eq_true (by grind)) (aa (aa ?_))) λh=>aa (aa ?_))));.rw[ak a,if_pos (by grind)];rfl
   .rw[ak a,if_neg (by grind)]
  .subst b;rw[k_];exact aJ (aa (aa (aa rfl)))
 rw[if_neg d];exact ae (ap (by grind) (ap (by grind) (ap (by grind) (aa (aa rfl)))))
noncomputable def Ku(s:PS)(m:ue):fj×Int×Unit:=(if(d7 s m).2.1=0 then(d7 s m).1 else(0,0,(0,0,()),[],Xz,[],()),(d7 s m).2.1,())
def C0{s:PS}(hs:ou s){m:ue}(h:jX s m=0):aB tbl 116 [.d yS s,.d yM m] [] ix (Ku s m):=by
 refine cm ?_;have a:=hs.po;have d:=a.l1;have f:=a.l2;have g:=a.l3;by_cases h1:m.1=1
 .have:((dH s m.2.1).getD ([],[],())).2.1.length<=64:=by cases e:dH s m.2.1 with|none=>simp|some l=>exact(a.r1 l (W_ (show s.1.find? (·.1==m.2.1)=some l from e))).1
  refine ae (aD (by grind) (aj (pQ s _ (by omega)) (ao (decide_eq_true ?_) (aa (aa ?_)))));.grind
  .unfold Ku d7;rw[if_pos h1];rfl
 by_cases h2:m.1=2
 .obtain⟨l,hl,e⟩:=OQ h h2;have c:=vE s m.2.1 (by omega);rw[e]at c;have ht:d7 s m=((m.1,m.2.2.1,m.2.2.2.1,[],(bO l.2.1).1,[],()),(bO l.2.1).2.1,()):=by unfold d7;grind
  by_cases j:(bO l.2.1).2.1=0
  .have hr:Ku s m=((m.1,m.2.2.1,m.2.2.2.1,[],(bO l.2.1).1,[],()),0,()):=by unfold Ku;grind
   rw[hr];exact ae (ap (by grind) (aD (by grind) (aj c (aj (vF l.2.1 (a.r2 _ hl).1 (hs.pat hl)) (ap (by grind) (aa (aa rfl)))))))
  .have hr:Ku s m=((0,0,(0,0,()),[],Xz,[],()),(bO l.2.1).2.1,()):=by unfold Ku;grind
   rw[hr];exact ae (ap (by grind) (aD (by grind) (aj c (aj (vF l.2.1 (a.r2 _ hl).1 (hs.pat hl)) (aD (by grind) (aa (aa rfl)))))))
 by_cases b:m.1=3
 .have:((cp s m.2.1).getD ([],[],())).2.1.length<=64:=by cases e:cp s m.2.1 with|none=>simp|some l=>exact(a.r3 l (W_ (show s.2.2.1.find? (·.1==m.2.1)=some l from e))).1
  refine ae (ap (by grind) (ap (by grind) (aD (by grind) (aj (mf s _ (by omega)) (ao (decide_eq_true ?_) (aa (aa ?_)))))));.grind
  .unfold Ku d7;rw[if_neg h1,if_neg h2,if_pos b];rfl
 unfold Ku d7;rw[if_neg h1,if_neg h2,if_neg b];exact ae (ap (by grind) (ap (by grind) (ap (by grind) (aa (aa rfl)))))
set_option maxRecDepth 100000
def Kw{c ρ β a:Type}{xs:List c}{p:c->Bool}{enc:Nat->ρ}{oB:Nat->β}{oE:a}{body:Nat->ρ->Option (ρ⊕β⊕a)}{Q:β⊕a->Prop} (h:∀i (b:i<xs.length),Wp (λn=>body n (enc i)) λr=>r=if p xs[i]=true then .inr (.inl (oB i))else .inl (enc (i+1))) (d:Wp (λn=>body n (enc xs.length)) λr=>r= .inr (.inr oE)) (k:Q (match xs.findIdx? p with|some i=>.inl (oB i)|none=>.inr oE)):Wp (λn=>gr n (body n) (enc 0)) Q:=by
 refine aK (N:=xs.length) (I:=λi s=>s=enc i/\∀j (f:j<xs.length),j<i->¬p xs[j]=true) ⟨rfl,λj _ h=>by omega⟩ (λi s b hs=>?_) λs hs=>?_
 .obtain⟨rfl,hd⟩:=hs;refine Go.Ev.wp_mono (h i b) λr hr=>?_;by_cases hp:p xs[i]=true;.grind[V_]
  grind
 .obtain⟨rfl,hd⟩:=hs;refine Go.Ev.wp_mono d λr hr=>?_;have e:xs.findIdx? p=none:=ap_.2 λx g=>by obtain⟨j,f,rfl⟩:=e_.1 g;grind
  grind
def du{a β:Type}{xs:List a}{i:Int}{x:a}{f:Nat->a->Option β}{Q:β->Prop}(c:0<=i)(b:xs[i.toNat]? =some x)(d:Wp (λn=>f n x) Q):Wp (λn=>aZ_ (nv xs i) λ_=>aZ_ xs[ak_ i]? (f n)) Q:=bH c b (aZ b d)
def Cf:Nat->List cQ->List (cQ×Int)
 |_,[]=>[]
 |k,b::l=>(b,(k:Int))::Cf (k+1) l
abbrev kA(B:List cQ):List (cQ×Int):=Cf 0 B
def MK:∀(k:Nat) (B:List cQ),(Cf k B).length=B.length
 |_,[]=>rfl
 |k,b::l=>by rw[Cf,am_,MK];rfl
def MJ(b:cQ):∀(k:Nat) (B:List cQ),dA rU tI (Cf k B) b=(B.findIdx? λx=>decide (x=b)).map λi=>((i+k:Nat):Int)
 |_,[]=>rfl
 |k,c::l=>by
  show(bif gI rU b c then some (k:Int)else dA rU tI (Cf (k+1) l) b)=_;rw[HF,List.findIdx?_cons,MJ b (k+1) l];by_cases e:b=c;.grind
  .rw[decide_eq_false e,decide_eq_false λx=>e x.symm];simp only[cond_false,Bool.false_eq_true,if_false,Option.map_map];congr 1;grind
theorem ML(b:cQ)(v:Int):∀(k:Nat) (B:List cQ),b∉B->fh rU tI (Cf k B) b v=Cf k B++[(b,v)]
 |_,[],_=>rfl
 |k,c::l,h=>by rw[aN_,not_or]at h;show(bif gI rU b c then _ else _)=_;rw[HF,decide_eq_false h.1,cond_false,ML b v (k+1) l h.2];rfl
def MH(b:cQ):∀(k:Nat) (B:List cQ),Cf k (B++[b])=Cf k B++[(b,((k+B.length:Nat):Int))]
 |k,[]=>rfl
 |k,c::l=>by show(c,(k:Int))::Cf (k+1) (l++[b])=(c,(k:Int))::(Cf (k+1) l++[(b,_)]);rw[MH b (k+1) l,am_];grind
def kvS(n k:Int):∀(D:xt),(∀k,(n,k)∉D)->fh tI tI D n k=D++[(n,k)]
 |[],_=>rfl
 |(a,b)::l,h=>by
  have h1:n≠a:=λe=>h b (by grind);show(bif gI tI n a then _ else _)=_;have:gI tI n a=decide (n=a):=by rw[z_];simp[gI]
  rw[this,decide_eq_false h1,cond_false,kvS n k l λk c=>h k (m_ _ c)];rfl
abbrev bxT(B:List cQ)(L:List ff):List Ob:=[.box 190 [.sl 1,.mp 2,.sl 3],.vec 90 rU B,.map 90 3 rU tI (kA B),.vec 70 xn L]
def mu(B:List cQ)(L:List ff)(l:ff)(b:∀x∈L,okD xn x)(hl:L.length<=1000000000000):aB tbl 40 [.ptr 0 0,.d xn l] (bxT B L) dm ((dJ L l).1,B,kA B,(dJ L l).2,()):=by
 refine cm (ae (Kw (xs:=L) (p:=λx=>decide (x=l)) (enc:=λi=>((i:Int),B,kA B,L,())) (oB:=λi=>(-1 - (i:Int),B,kA B,L,())) (oE:=(B,kA B,L,())) (λi a=>?_) ?_ ?_))
 .refine aQ a (du (by simp) (by simp) (aj (vW _ l (b _ (b_ a))) (au (λh=>aa ?_) λh=>aa ?_)));.rw[if_pos (show decide (L[i]=l)=true from h),wrap_i64]
  .rw[if_neg (Bool.eq_false_iff.1 (show decide (L[i]=l)=false from h)),ak a]
 .exact aJ (aa rfl)
 .unfold dJ;cases L.findIdx? (λx=>decide (x=l))with|some i=>exact aa rfl|none=>refine ao (decide_eq_true (by grind)) (aa ?_);grind[wrap_i64]
def sO(B:List cQ)(L:List ff)(t y o:Int)(hl:B.length<=1000000000000):aB tbl 76 [.ptr 0 0,.d tI t,.d tI y,.d tI o] (bxT B L) dm ((eC B (t,y,o,())).1,(eC B (t,y,o,())).2,kA (eC B (t,y,o,())).2,L,()):=by
 refine cm ?_;unfold eC;refine au (λh=>aa ?_) λh=>?_;.grind
 rw[if_neg (by grind),MJ];cases e:B.findIdx? (λx=>decide (x=(t,y,o,())))with
 |some i=>exact ae (ap rfl (aa (aa rfl)))|none=>
  refine ae (aD rfl (ao (decide_eq_true ?_) (ao (decide_eq_true (by grind)) (aa (aa ?_)))));.rw[MK];show B.length<9223372036854775807;omega
  .have a:kA (B++[(t,y,o,())])=kA B++[((t,y,o,()),(B.length:Int))]:=by simp[MH]
   grind[ML]
theorem HX:∀D:xt,D.length=(D.filter λp=>decide (0<=p.1)).length+(D.filter λp=>decide (p.1<0)).length
 |[]=>rfl
 |(n,k)::l=>by have:=HX l;grind
structure UG(g:gQ):Prop where
 low:Low g
 l2:g.2.1.length<=1000000000000
 l3:g.2.2.1.length<=1000000000000
 ac:∀l∈g.2.2.1,l.2.1.length<=1048576
def VI.small{g:gQ}(hg:UG g){B:List cQ}{L:List ff}{D:xt}(h:VI g B L D):B.length<=1000000000000/\L.length<=1000000000000/\D.length<=2000000000000:=by have h1:=QA h.kn h.kd;have h2:=Qz h.kn h.kd;have C:=hg.l2;have E:=hg.l3;have H:=h.cb;have I:=h.cl;grind[HX]
def Mo{g:gQ}{n:Int}(hg:UG g)(hn:eU g n=true)(a:n<0):H_ .i64 ((-1:Int) - n)= -1 - n/\0<=-1 - n/\(fN g n).2.1.length<=1048576:=by have:=cF.1 hn;have:=hg.l3;exact⟨wrap_i64,by omega,hg.ac _ (Q_ (iP a hn))⟩
def NG{g:gQ}{b:cQ}{s:xu}{p:Int×xu}{m m':Int}{D:xt}{Y O:Int×xu}(y:X2 g m (s.1++[b],s.2.1,D) Y)(o:X2 g m' Y.2 O):s.1.length<O.2.1.length/\O.2.1[s.1.length]? =some b:=by have h1:=y.len;have h2:=o.len;simp only[d_,p_]at h1;refine⟨by omega,?_⟩;rw[o.old _ (by omega),y.old _ (by simp)];simp
abbrev bxV(g:gQ)(N:List (cQ×Int))(v:Int)(T:List fj)(s:xu):List Ob:=[.box 193 [.ptr 1 0,.mp 2,.sl 3,.sl 4,.sl 5,.d tI v],.box 190 [.sl 6,.mp 7,.sl 8],.map 3 3 tI tI s.2.2,.vec 54 NT T,.vec 90 rU s.1,.vec 70 xn s.2.1,.vec 90 rU g.2.1,.map 90 3 rU tI N,.vec 70 xn g.2.2.1]
def XY{g:gQ}(hg:UG g)(N:List (cQ×Int))(v:Int)(T:List fj):∀(f:Nat) (n:Int) (s:xu),eU g n=true->(n+1).toNat<f->VI g s.1 s.2.1 s.2.2->aB tbl 108 [.ptr 0 0,.d tI n] (bxV g N v T s) fX ((kO g f n s).1,v,(kO g f n s).2.2.2,T,(kO g f n s).2.1,(kO g f n s).2.2.1,g.2.1,N,g.2.2.1,()):=by
 intro f;induction f with
 |zero=>simp|succ f h=>
  intro n s hn w hs;refine cm ?_;unfold kO;obtain⟨A,B,C⟩:=hs.small hg;have eL:dA tI tI s.2.2 n=lk s.2.2 n:=rfl;rw[eL];cases e:lk s.2.2 n with
  |some k=>exact aD rfl (aa rfl)|none=>
   have b:=ry e;refine ap rfl ?_;by_cases a:n<0
   .simp only[if_pos a];obtain⟨w1,w2,z⟩:=Mo hg hn a;rw[w1];refine aD (decide_eq_true a) (du w2 (iP a hn) (ao (decide_eq_true (by grind)) (ao (decide_eq_true (by grind)) (ao (decide_eq_true ?_) (aa ?_)))));.show s.2.2.length<9223372036854775807;omega
    .simp only[as_,d_,p_];have r:H_ .i64 (0 - ((s.2.1.length+1:Nat):Int))= -((s.2.1.length:Int)+1):=by rw[wrap_i64];simp
     rw[r,kvS n _ _ b];have:=HZ (nz hs.kn b) (show(n,-((s.2.1.length:Int)+1))∈s.2.2++[(n,-((s.2.1.length:Int)+1))] by simp);rw[show dA tI tI (s.2.2++[(n,-((s.2.1.length:Int)+1))]) n=some _ from this];rfl
   .simp only[if_neg a];have a:0<=n:=by omega
    have j:=hg.low.kids hn a _ (.inl rfl);have l:=hg.low.kids hn a _ (.inr rfl);obtain⟨i,rfl,u⟩:=tN hn a;have hp:=hs.push a hn b ((cz g i).1,0,0,());have y:=FH hg.low f _ (s.1++[((cz g i).1,0,0,())],s.2.1,s.2.2++[((i:Int),(s.1.length:Int))]) j.1 (by omega) hp;have d:=h _ (s.1++[((cz g i).1,0,0,())],s.2.1,s.2.2++[((i:Int),(s.1.length:Int))]) j.1 (by omega) hp;generalize kO g f (cz g i).2.1 (s.1++[((cz g i).1,0,0,())],s.2.1,s.2.2++[((i:Int),(s.1.length:Int))])=Y at y d;have o:=FH hg.low f _ Y.2 l.1 (by omega) y.inv;have c:=h _ Y.2 l.1 (by omega) y.inv;generalize kO g f (cz g i).2.2.1 Y.2=O at o c;obtain⟨l1,l2⟩:=NG (p:=O) y o;refine ap (decide_eq_false (by simp)) (ao (decide_eq_true ?_) (du (x:=cz g i) (by simp) ?_ (ao (decide_eq_true (by grind)) ?_)));.show s.2.2.length<9223372036854775807;omega
    .rw[g_,sY u];simp
    rw[kvS (i:Int) _ _ b];refine aj d (aj c (du (x:=((cz g i).1,0,0,())) (by simp) (by rw[g_];omega) ?_));refine du (x:=((cz g i).1,Y.1,0,())) (by simp) (by rw[g_,ac_ l1]) (aa ?_);simp
def CS{g:gQ}(hg:UG g)(r:Int)(hr:eU g r=true){F:Nat}(a:g.2.1.length<F)(N:List (cQ×Int)): aB tbl 41 [.ptr 0 0,.d tI r] [.box 190 [.sl 1,.mp 2,.sl 3],.vec 90 rU g.2.1,.map 90 3 rU tI N,.vec 70 xn g.2.2.1] g8 (([],(kO g F r ([],[],[])).2.1,(kO g F r ([],[],[])).2.2.1,(kO g F r ([],[],[])).1,()),g.2.1,N,g.2.2.1,()):=by refine cm ?_;have:=(cF.1 hr).1;exact aj (XY hg N 0 [] F r ([],[],[]) hr (by omega) (VI.nil g)) (aa rfl)
def NZ:aB tbl 39 [] [] jy ([],()):=crZ
end Go.Proofs.YtdgiglmmpbndmaaGreatDoor
