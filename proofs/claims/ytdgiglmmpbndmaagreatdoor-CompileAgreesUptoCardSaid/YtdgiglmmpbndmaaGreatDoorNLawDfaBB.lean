import Derived.Test.YtdgiglmmpbndmaaGreatDoorNLawDfaUse
import Derived.Sort.Walk0
set_option linter.all false
set_option maxRecDepth 100000
set_option maxHeartbeats 1000000
open Bool renaming true_and->Y_,or_eq_false_iff->ac_,false_eq_true->aA_,eq_iff_iff->bc_,or_eq_true->bd_,false_and->bl_,or_false->bn_
open Classical renaming byContradiction->l_,choose->I_,choose_spec->Z_
open Int renaming toNat_natCast->e_,toNat->K_,eq_ofNat_of_zero_le->aG_,le_refl->bb_,fdiv->bm_
open Go.IntKind renaming wrap->f_,bits->ae_
open List renaming getElem?_eq_getElem->a_,getElem_mem->b_,replicate->c_,range->d_,take_length->g_,mem_append->h_,take_add_one->i_,length_append->j_,map_append->k_,mem_cons_of_mem->m_,mem_iff_getElem->n_,mem_map->p_,getElem?_eq_some_iff->q_,length_map->r_,append_assoc->s_,getD_eq_getElem?_getD->t_,mem_cons_self->u_,mem_singleton->v_,append_nil->w_,mem_range->x_,take_succ_eq_append_getElem->y_,drop_eq_getElem_cons->z_,take_of_length_le->A_,mem_of_mem_take->C_,ext_getElem->F_,mem_of_find?_eq_some->G_,nodup_iff_pairwise_ne->J_,range_succ->L_,pairwise_iff_getElem->M_,length_singleton->N_,flatMap_cons->O_,map_nil->P_,map_cons->Q_,flatMap_append->R_,cons_append->S_,length_take->T_,pairwise_cons->V_,foldl_cons->W_,nil_append->X_,length_replicate->aa_,getElem?_map->ab_,mem_of_getElem?->ad_,getElem_set->af_,length_nil->ah_,drop_zero->aj_,foldl_append->ak_,getElem?_set_self->al_,length_pos_of_mem->am_,take_append_drop->an_,drop_length->ao_,length_cons->ap_,eq_nil_of_length_eq_zero->ar_,filter_sublist->av_,map_congr_left->aw_,replicate_zero->ax_,filter_append->aB_,prefix_append->aC_,take_append_getElem->aE_,any_eq_true->aH_,flatMap_nil->aI_,set_append_right->aK_,getElem?_set_ne->aL_,replicate_succ'->aM_,getElem?_range->aQ_,length_flatMap->aR_,set_cons_zero->aS_,any_eq_false->aU_,nodup_append->aV_,pairwise_map->aW_,all_eq_true->aX_,mem_flatMap->aY_,nodup_range->aZ_,prefix_refl->ba_,all_append->be_,any_append->bf_,find?_cons->bg_,length_set->bh_,map_const'->bi_,mem_filter->bj_,range_zero->bk_,mem_cons->bo_,map_map->bp_
open Nat renaming le_trans->B_,zero_le->D_,eq_zero_or_pos->H_,zero_add->ag_,lt_of_le_of_lt->ai_,mod_eq_of_lt->aq_,le_refl->as_,beq_refl->ay_,sub_self->az_,lt_or_eq_of_le->aD_,add_assoc->aF_,and_le_left->aJ_,mul_le_mul->aN_,pow_le_pow_right->aO_,pow_lt_pow_right->aP_,lt_of_lt_of_le->aT_,lt_or_ge->bq_
open Option renaming bind->o_,toList_some->E_,getD_some->U_,map_some->au_
open Option.some renaming inj->bs_
open Prod renaming ext->bt_
open Sum renaming inl->br_
namespace Go.Proofs.YtdgiglmmpbndmaaGreatDoor
open Z
open Go Go.Av Go.Ev
open Go Go.Av Go.Ev Go.Pl
def Gi{xs:List Int}(h:eH xs):Asc xs:=M_.2 λi j _ b a=>lI h j i b a
def sR(a b:List Int)(C:Asc a)(D:Asc b)(F:a.length<=1000000000)(H:b.length<=1000000000):aA tbl 269 [.d (.list tI) a,.d (.list tI) b] [] iG (sw (a++b),()):=by
 refine bN ?_;refine ae (Go.Ev.wp_loop (σ:=List Int×List Int×List Int×Unit) (λs=>Asc s.1/\Asc s.2.1/\Asc s.2.2.1/\(∀x∈s.2.2.1,(∀y∈s.1,x<y)/\∀y∈s.2.1,x<y)/\(∀x,(x∈s.2.2.1\/x∈s.1\/x∈s.2.1)↔x∈a++b)/\s.2.2.1.length+s.1.length+s.2.1.length<=2000000000) (λs=>s.1.length+s.2.1.length) ⟨C,D,by simp[Asc],by simp,by simp,by grind⟩ ?_);rintro⟨xs,ys,j,_⟩ ⟨h1,h2,k,e,f,B⟩;simp only at h1 h2 k e f B;have c:∀v:Int,(∀x∈j,x<v)->Asc (j++[v]):=λv M=>wd k (by simp[Asc]) λx g y A=>by grind
 refine ae (bf (λ_=>aa rfl) (au (λI=>?_) λL=>?_))
 .match xs,ys with
  |[],[]=>grind|[],y::ys=>
   have A:(∀z∈ys,y<z)/\Asc ys:=V_.1 h2;refine ae (bf (b:=false) (λ_=>ae (bc (b:=false) (λh=>absurd h (by simp)) (aa rfl))) (au (λh=>(by grind)) λ_=>?_));refine ae (bf (b:=true) (λh=>absurd h (by simp)) (au (λ_=>?_) λh=>absurd h (by simp)));refine bX (x:=y) (by simp) rfl (ar (decide_eq_true (by grind)) (ar rfl (ar (by simp) (aa ?_))));refine⟨⟨h1,(by grind),c y λx g=>(e x g).2 y (by simp),λx g=>⟨by simp,λz d=>?_⟩,λx=>?_,by grind⟩,by simp⟩;.grind
   .rw[<-f x];simp;grind
  |x::xs,[]=>
   have g:(∀z∈xs,x<z)/\Asc xs:=V_.1 h1;refine ae (bf (b:=true) (λh=>absurd h (by simp)) (au (λ_=>?_) λh=>absurd h (by simp)));refine bX (x:=x) (by simp) rfl (ar (decide_eq_true (by grind)) (ar rfl (ar (by simp) (aa ?_))));refine⟨⟨(by grind),h2,c x λz d=>(e z d).1 x (by simp),λw r=>⟨λz d=>?_,by simp⟩,λw=>?_,by grind⟩,by simp⟩;.grind
   .rw[<-f w];simp;grind
  |x::xs,y::ys=>
   have g:(∀z∈xs,x<z)/\Asc xs:=V_.1 h1;have A:(∀z∈ys,y<z)/\Asc ys:=V_.1 h2;refine ae (bf (b:=decide (x<y)) (λ_=>ae (bc (b:=decide (x<y)) (λ_=>bX (x:=x) (by simp) rfl (bX (x:=y) (by simp) rfl (aa rfl))) (aa (by simp)))) (au (λh=>?_) λh=>?_))
   .have p:x<y:=by grind
    refine bX (x:=x) (by simp) rfl (ar (decide_eq_true (by grind)) (ar rfl (ar (by simp) (aa ?_))));refine⟨⟨(by grind),h2,c x λz d=>(e z d).1 x (by simp),λw r=>⟨λz d=>?_,λz d=>?_⟩,λw=>?_,by grind⟩,by simp⟩;.grind
    .grind
    .rw[<-f w];simp;grind
   .have E:¬x<y:=by grind
    refine ae (bf (b:=decide (y<x)) (λ_=>bX (x:=y) (by simp) rfl (bX (x:=x) (by simp) rfl (aa rfl))) (au (λh=>?_) λh=>?_))
    .have p:y<x:=by grind
     refine bX (x:=y) (by simp) rfl (ar (decide_eq_true (by grind)) (ar rfl (ar (by simp) (aa ?_))));refine⟨⟨h1,(by grind),c y λz d=>(e z d).2 y (by simp),λw r=>⟨λz d=>?_,λz d=>?_⟩,λw=>?_,by grind⟩,by simp⟩;.grind
     .grind
     .rw[<-f w];simp;grind
    .have J:¬y<x:=by grind
     have u:x=y:=by omega
     subst u;refine bX (x:=x) (by simp) rfl (ar (decide_eq_true (by grind)) (ar rfl (ar (by simp) (ar rfl (ar (by simp) (aa ?_))))));refine⟨⟨(by grind),(by grind),c x λz d=>(e z d).1 x (by simp),λw r=>⟨λz d=>?_,λz d=>?_⟩,λw=>?_,by grind⟩,by grind⟩;.grind
     .grind
     .rw[<-f w];simp;grind
 .have l:xs=[]:=by cases xs with|nil=>rfl|cons _ _=>grind
  have n:ys=[]:=by cases ys with|nil=>rfl|cons _ _=>grind
  subst l n;refine aa (aa ?_);rw[pd k λx=>by grind]
def Ky{σ a β:Type}(f:σ->a->σ⊕β):∀(l:List a) (s:σ),kV f s l=kW f s l
 |[],_=>rfl
 |x::l,s=>by simp only[kV,kW];cases f s x with|inl s'=>exact Ky f l s'|inr b=>rfl
def Ft{k:Nat}(h:k<=1000000000):(decide (0<=(k:Int))&&decide ((k:Int)<=(k:Int))&&decide ((k:Int)<=9223372036854775807)&&decide (8*(k:Int)<=281474976710656))=true:=by grind
abbrev PR:Type:=Int×(Int×Unit)
noncomputable def d6(a b:DF)(x:PR)(v:Int):PR:=(eN a x.1 v,eN b x.2.1 v,())
def gM(a b:DF):PR:=(a.2.2.2.1,b.2.2.2.1,())
noncomputable def dh(a b:DF):List Int:=sw (a.1++b.1)
def PIn(a b:DF)(x:PR):Prop:=(0<=x.1/\x.1<(a.2.1.length:Int))/\0<=x.2.1/\x.2.1<(b.2.1.length:Int)
def cz(d:DF)(s:Int):Bool:=d.2.2.1.getD s.toNat false
def kw:Nat->List PR->List (PR×Int)
 |_,[]=>[]
 |k,x::l=>(x,(k:Int))::kw (k+1) l
def tL(T:List (Nat×Int)):List Int:=(-1)::T.map λt=>(t.1:Int)
def Wt(T:List (Nat×Int)):List Int:=0::T.map (·.2)
def gX(R:List (List Nat)):List (List Int):=R.map λr=>r.map fun(k:Nat)=>(k:Int)
def WL(x y:PR):hZ Un x y=decide (x=y):=by obtain⟨a,b,_⟩:=x;obtain⟨c,d,_⟩:=y;show((a==c)&&((b==d)&&true))=_;grind
def E6(y:PR):∀(L:List PR) (k:Nat),di Un tI (kw k L) y=if y∈L then some (((k+pos L y:Nat):Int))else none
 |[],k=>by simp[kw,di]
 |x::L,k=>by have a:=E6 y L (k+1);simp only[kw,di];rw[WL y x,a];grind
def E7(y:PR):∀(L:List PR) (k:Nat),y∉L->fe Un tI (kw k L) y (((k+L.length:Nat):Int))=kw k (L++[y])
 |[],k,_=>by simp[kw,fe]
 |x::L,k,h=>by have h1:y≠x:=λe=>h (by grind);have h2:y∉L:=λe=>h (by grind);have a:=E7 y L (k+1) h2;simp only[S_,kw,fe];rw[WL y x,decide_eq_false h1];grind
def E5:∀(L:List PR) (k:Nat),(kw k L).length=L.length
 |[],_=>rfl
 |_::L,k=>by simp[kw,E5 L (k+1)]
def ly{a b:DF}(l:Good a)(n:Good b):∀v∈dh a b,0<=v/\v<=4294967295:=by
 intro v e;have g:∀{d:DF},Good d->∀v∈d.1,0<=v/\v<=4294967295:=fun{d} hd v e=>by
  refine⟨?_,hd.dt.2.2.2 v e⟩;obtain⟨i,h,rfl⟩:=n_.1 e;have k:=hd.dt.2.1 hd.dt.1;rcases H_ i with rfl|hp;.omega
  .have:=lI hd.dt i 0 h hp;omega
 have f:∃c,Asc c/\∀x,x∈c↔x∈a.1++b.1:=by unfold dh sw at e;grind
 obtain⟨c,hc,j⟩:=f;unfold dh at e;rw[pd hc j]at e;grind
def E9{a b:DF}(g:Good a)(j:Good b):(dh a b).length<=4000:=by
 have k:=fz g;have l:=fz j;by_cases d:∃c,Asc c/\∀x,x∈c↔x∈a.1++b.1;.obtain⟨c,hc,f⟩:=d;unfold dh;rw[pd hc f];have:=f5 c (a.1++b.1) (hc.imp λh e=>by omega) λx n=>(f x).1 n;grind
 .unfold dh sw;grind
def Gk{a b:DF}(e:Good a)(f:Good b){x:PR}{v:Int}(d:0<=v)(c:PIn a b x):PIn a b (d6 a b x v):=by obtain⟨_,_,_,h1⟩:=qL e c.1.1 c.1.2 d;obtain⟨_,_,_,h2⟩:=qL f c.2.1 c.2.2 d;exact⟨h1,h2⟩
def OQ{a b:DF}(c:Good a)(d:Good b):PIn a b (gM a b):=⟨c.start,d.start⟩
def zax(n m:Nat):List PR:=(d_ n).flatMap fun(i:Nat)=>(d_ m).map fun(j:Nat)=>((i:Int),(j:Int),())
def W2(n m:Nat):(zax n m).length=n*m:=by unfold zax;rw[aR_];induction n with|zero=>simp|succ n a=>rw[L_,k_,List.sum_append,a,Nat.succ_mul];simp
def EQ{n m:Nat}{x:PR}:x∈zax n m↔(0<=x.1/\x.1<(n:Int))/\0<=x.2.1/\x.2.1<(m:Int):=by
 obtain⟨a,b,_⟩:=x;unfold zax;simp;constructor;.omega
 .rintro⟨h1,h2⟩;exact⟨a.toNat,by omega,b.toNat,by omega,by omega,by omega⟩
abbrev OkP(a b:DF):List PR->List (Nat×Int)->Prop:=Ok (d6 a b) (gM a b) (dh a b)
def XV{a b:DF}(d:Good a)(e:Good b){L:List PR}{T:List (Nat×Int)}(h:OkP a b L T){k:Nat}{x:PR}(f:L[k]? =some x):PIn a b x:=h.inv (OQ d e) (λ_ c hc f=>Gk d e (ly d e c hc).1 f) k x f
def De{a b:DF}(d:Good a)(e:Good b){L:List PR}{T:List (Nat×Int)}(h:OkP a b L T):L.length<=a.2.1.length*b.2.1.length:=by rw[<-W2];exact h.bound (EQ.2 (OQ d e)) λx c hc f=>EQ.2 (Gk d e (ly d e c hc).1 (EQ.1 f))
def SU{a b:DF}(c:Good a)(d:Good b):a.2.1.length*b.2.1.length<=16777216:=B_ (aN_ (fz c).1 (fz d).1) (by simp)
def V9{d:DF}(h:Good d){s:Int}(a:0<=s)(hs:s<(d.2.1.length:Int)):∃h1:s.toNat<d.2.2.1.length,d.2.2.1[s.toNat]=cz d s:=by
 have h1:s.toNat<d.2.2.1.length:=by have:=h.len;omega
 exact⟨h1,by unfold cz;grind⟩
abbrev SR:Type:=List PR×List (Nat×Int)×List (List Nat)
noncomputable def zah(a b:DF)(i:Nat)(S:SR):Int×List Int×List PR×List Int×List Int×List (List Int)×List (PR×Int)×Unit:=
 ((i:Int),dh a b,S.1,tL S.2.1,Wt S.2.1,gX S.2.2,kw 0 S.1,())
def kT(k:Nat)(r:List Nat):List Int:=(r.map fun(k:Nat)=>(k:Int))++c_ (k - r.length) 0
def t7{k:Nat}{r:List Nat}{n:Nat}(h:r.length<k):(kT k r).set r.length (n:Int)=kT k (r++[n]):=by unfold kT;obtain⟨m,a⟩:∃m,k - r.length=m+1:=⟨k - r.length - 1,by omega⟩;grind
structure WF(d:DF):Prop where
 dt:eH d.1
 len:0<d.2.1.length/\d.2.2.1.length=d.2.1.length
 rows:∀r∈d.2.1,r.length=d.1.length
 start:0<=d.2.2.2.1/\d.2.2.2.1<(d.2.1.length:Int)
 to:∀r∈d.2.1,∀t∈r,0<=t/\t<(d.2.1.length:Int)
theorem Good.wf{d:DF}(h:Good d):WF d:=⟨h.dt,h.len,h.rows,h.start,h.to⟩
def jf{xs:List Int}{v:Int}(hs:eH xs)(e:0<=v):lP xs v (dy xs v):=by
 have key:∀n,0<n->∃c,∃h:c<xs.length,xs[c]<=v/\∀j (_:j<xs.length),c<j->j<n->v<xs[j]:=by
  intro n;induction n with
  |zero=>simp|succ n f=>
   intro _;rcases H_ n with rfl|hn;.exact⟨0,hs.1,by rw[hs.2.1 hs.1];omega,λj _ h1 h2=>by omega⟩
   grind
 obtain⟨c,h1,h2,b⟩:=key xs.length hs.1;have hc:lP xs v c:=⟨h1,h2,λj a d=>b j a d a⟩;rw[tn hc];omega
def In(d:DF)(s:Int):Prop:=0<=s/\s<(d.2.1.length:Int)
def cJ(d:DF)(s:Int)(c:Nat):Int:=(d.2.1.getD s.toNat []).getD c 0
def uc(d:DF)(s v:Int):eN d s v=cJ d s (dy d.1 v):=rfl
def zcb{d:DF}(h:WF d){s:Int}(hs:In d s){c:Nat}(hc:c<d.1.length):∃h1:s.toNat<d.2.1.length,∃h2:c<d.2.1[s.toNat].length,d.2.1[s.toNat][c]=cJ d s c/\In d (cJ d s c):=by
 have h1:s.toNat<d.2.1.length:=by have:=hs.1;have:=hs.2;omega
 have h2:c<d.2.1[s.toNat].length:=by rw[h.rows _ (b_ h1)];omega
 have e:d.2.1[s.toNat][c]=cJ d s c:=by unfold cJ;grind
 exact⟨h1,h2,e,e▸h.to _ (b_ h1) _ (b_ h2)⟩
def Tp{d:DF}(h:WF d){s v:Int}(hs:In d s)(a:0<=v):In d (eN d s v):=(zcb h hs (jf h.dt a).1).2.2.2
def fo(w:List Int):Prop:=∀v∈w,0<=v/\v<=4294967295
def fo.app{w u:List Int}(h:fo w)(h':fo u):fo (w++u):=λv E=>(h_.1 E).elim (h v) (h' v)
noncomputable def kU(d:DF)(w:List Int):Int:=w.foldl (eN d) d.2.2.2.1
def Sf{d:DF}(h:WF d):∀(w:List Int) (s:Int),In d s->fo w->In d (w.foldl (eN d) s)
 |[],_,hs,_=>hs
 |v::w,s,hs,a=>Sf h w _ (Tp h hs (a v (u_ ..)).1) λu b=>a u (m_ _ b)
def YE{d:DF}(h:WF d){w:List Int}(a:fo w):In d (kU d w):=Sf h w _ h.start a
def Bb(n:Nat):List Int:=(d_ n).map fun(k:Nat)=>(k:Int)
def FQ{n:Nat}{s:Int}:s∈Bb n↔0<=s/\s<(n:Int):=by
 unfold Bb;rw[p_];constructor;.grind
 .rintro⟨h1,h2⟩;exact⟨s.toNat,x_.2 (by omega),by omega⟩
def FP(n:Nat):(Bb n).length=n:=by simp[Bb]
structure RW(d:DF):Prop where
 len:0<d.2.1.length/\d.2.2.1.length=d.2.1.length
 rows:∀r∈d.2.1,r.length=d.1.length
 start:In d d.2.2.2.1
 to:∀r∈d.2.1,∀t∈r,In d t
def WF.rw{d:DF}(h:WF d):RW d:=⟨h.len,h.rows,h.start,h.to⟩
def F7{d:DF}(h:RW d){s:Int}(hs:In d s):∃h1:s.toNat<d.2.1.length,d.2.1[s.toNat]=(d_ d.1.length).map (cJ d s):=by
 have h1:s.toNat<d.2.1.length:=by have:=hs.1;have:=hs.2;omega
 refine⟨h1,?_⟩;have hr:=h.rows _ (b_ h1);refine F_ (by grind) λc a b=>?_;unfold cJ;grind
def WA{d:DF}(h:RW d){s:Int}(hs:In d s){c:Nat}(hc:c<d.1.length):In d (cJ d s c):=by obtain⟨h1,e⟩:=F7 h hs;refine h.to _ (b_ h1) _ ?_;grind
abbrev kO(d:DF)(i:Nat):List Int×List (Nat×Nat)×List (List Nat):=cp (cJ d) d.2.2.2.1 (d_ d.1.length) i
def aP(d:DF):List Int:=(kO d d.2.1.length).1
def uC{d:DF}(h:RW d)(i:Nat):∀x∈(kO d i).1,In d x:=λx a=>by obtain⟨k,b,rfl⟩:=n_.1 a;exact(eX i).inv h.start (λ_ c hc a=>WA h a (x_.1 hc)) k _ (a_ b)
def W7{d:DF}{L:List Int}(hn:L.Nodup)(a:∀x∈L,In d x):L.length<=d.2.1.length:=by have:=f5 L (Bb d.2.1.length) hn λx b=>FQ.2 (a x b);rwa [FP]at this
def nG{d:DF}(h:RW d)(i:Nat):(kO d i).1.length<=d.2.1.length:=W7 (eX i).nodup (uC h i)
def QI{d:DF}(h:RW d){i:Nat}(a:(kO d i).1.length<=i):aP d=(kO d i).1:=by have b:kO d (max i d.2.1.length)=kO d i:=En (by omega) a;have c:kO d (max i d.2.1.length)=kO d d.2.1.length:=En (by omega) (nG h d.2.1.length);unfold aP;grind
def dT{d:DF}(h:RW d):∀x∈aP d,∀c,c<d.1.length->cJ d x c∈aP d:=λx a c hc=>by exact lX _ x (by rw[A_ (nG h d.2.1.length)];exact a) c (x_.2 hc)
def kG{d:DF}:d.2.2.2.1∈aP d:=ad_ (eX _).head
def marks(n:Nat)(L:List Int):List Bool:=(d_ n).map fun(k:Nat)=>decide ((k:Int)∈L)
def Xu{n:Nat}{L:List Int}{v:Int}(a:0<=v)(b:v<(n:Int)):∃h1:v.toNat<(marks n L).length,(marks n L)[v.toNat]=decide (v∈L):=by simp only[marks];grind
def IP{n:Nat}{L:List Int}{v:Int}(c:0<=v):(marks n L).set v.toNat true=marks n (L++[v]):=by refine F_ (by simp[marks]) λk a b=>?_;simp only[marks];grind
def UM{n:Nat}{v:Int}(a:0<=v):(c_ n false).set v.toNat true=marks n [v]:=by
 have:c_ n false=marks n []:=by refine F_ (by simp[marks]) λk b c=>?_;simp[marks]
 rw[this,IP a];rfl
def Ru{N:Nat}(ht:tbl N=some (.code si)){d:DF}(h:RW d)(hn:d.2.1.length<=16777216)(A:d.1.length<=16777216):aA tbl N [.d Ud d] [] iG (aP d,()):=by
 refine bN (hd:=fdZ (ht:=ht)) ?_;have hs:=h.start;have u:d.2.2.2.1.toNat<(c_ d.2.1.length false).length:=by have:=hs.1;have:=hs.2;grind
 refine ar (by grind) (bM hs.1 u (bi (x:=false) (show(c_ d.2.1.length false)[d.2.2.2.1.toNat]? =some false from by grind) ?_));refine ae (Go.Ev.wp_loop (σ:=Int×List Bool×List Int×Unit) (λs=>∃i:Nat,s=((i:Int),marks d.2.1.length (kO d i).1,(kO d i).1,())/\i<=(kO d i).1.length) (λs=>d.2.1.length - s.1.toNat) ⟨0,?_,D_ _⟩ ?_);.rw[show(kO d 0).1=[d.2.2.2.1]from rfl,<-UM hs.1];rfl
 rintro s ⟨i,rfl,w⟩;have l:=nG h i;refine au (λc=>?_) λc=>aa (aa ?_)
 .have g:i<(kO d i).1.length:=by grind
  have b:=a_ g;have k:=uC h i _ (b_ g);obtain⟨h1,e⟩:=F7 h k;have hr:=h.to _ (b_ h1);have p:d.2.1[(kO d i).1[i].toNat].length<=16777216:=by grind
  refine aB g (bi (x:=(kO d i).1[i]) b (bM k.1 h1 ?_));refine ae (Wp.imp (Q:=λt=>t=(marks d.2.1.length (dU (kO d i).1 d.2.1[(kO d i).1[i].toNat]),dU (kO d i).1 d.2.1[(kO d i).1[i].toNat],())) ?_ λr hr=>aa ?_)
  .have n:=(eX (f:=cJ d) (s0:=d.2.2.2.1) (ls:=d_ d.1.length) i).nodup;have j:=uC h i;generalize d.2.1[(kO d i).1[i].toNat]=r at hr p;change (kO d i).1.Nodup at n;generalize(kO d i).1=L at n j;refine aI (N:=r.length) (I:=λi s=>s=((i:Int),marks d.2.1.length (dU L (r.take i)),dU L (r.take i),())/\(dU L (r.take i)).Nodup/\∀x∈dU L (r.take i),In d x) ⟨rfl,n,j⟩ ?_ ?_
   .rintro i s a ⟨rfl,h1,h2⟩;have b:=hr _ (b_ a);have l:=W7 h1 h2;obtain⟨v,z⟩:=Xu b.1 b.2;have hs:dU L (r.take (i+1))=dU (dU L (r.take i)) [r[i]]:=by rw[i_,a_ a,GZ];rfl
    refine aO a (ae (aB a (bM b.1 v (bi (x:=decide (r[i]∈dU L (r.take i))) (by grind) (au (λc=>?_) λc=>aa (aa ?_))))))
    .have c:r[i]∉dU L (r.take i):=by grind
     refine bM b.1 v (bi (x:=decide (r[i]∈dU L (r.take i))) (by grind) (ar (decide_eq_true (by grind)) (aa (aa ?_))));have e:dU (dU L (r.take i)) [r[i]]=dU L (r.take i)++[r[i]]:=Py c;rw[ao a,IP b.1];grind
    .have c:r[i]∈dU L (r.take i):=by grind
     rw[hs,TK c,ao a];grind
   .rintro s ⟨rfl,h1,h2⟩;refine aH (aa ?_);simp
  subst hr;have y:(kO d (i+1)).1=dU (kO d i).1 d.2.1[(kO d i).1[i].toNat]:=by unfold kO;rw[dV b,e];simp only;rw[F6]
  rw[ao g];have:=(nH (f:=cJ d) (s0:=d.2.2.2.1) (ls:=d_ d.1.length) i).1.length_le;grind
 .have g:(kO d i).1.length<=i:=by grind
  rw[QI h g]
abbrev zdl(d:DF)(s t:Int):Prop:=Pe (cJ d) (cz d) (d_ d.1.length) s t
def bv(B:List Int)(s:Int):Int:=B.getD s.toNat 0
def DW{B:List Int}{s:Int}(h:s.toNat<B.length):B[s.toNat]=bv B s:=by unfold bv;grind
def Ab{B:List Int}{s t x:Int}(hs:0<=s)(ht:0<=t)(hl:s.toNat<B.length):bv (B.set s.toNat x) t=if t=s then x else bv B t:=by unfold bv;grind
def Ref(d:DF)(B:List Int)(s t:Int):Prop:=bv B s=bv B t/\∀c,c<d.1.length->bv B (cJ d s c)=bv B (cJ d t c)
section
variable {d:DF} {P:Int->Prop} {B B':List Int} {m m':Nat}
structure Rng(P:Int->Prop)(B:List Int)(m:Nat):Prop where
 za:∀s,P s->0<=bv B s/\bv B s<(m:Int)
 K2:∀i:Nat,i<m->∃s,P s/\bv B s=(i:Int)
structure gN(d:DF)(P:Int->Prop)(B:List Int):Prop where
 coarse:∀s t,P s->P t->zdl d s t->bv B s=bv B t
 acc:∀s t,P s->P t->bv B s=bv B t->cz d s=cz d t
structure L9(d:DF)(P:Int->Prop)(B B':List Int)(m':Nat):Prop where
 za:Rng P B' m'
 ref:∀s t,P s->P t->(bv B' s=bv B' t↔Ref d B s t)
structure VJ(d:DF)(P:Int->Prop)(B:List Int)(m:Nat):Prop where
 za:Rng P B m
 eqv:∀s t,P s->P t->(bv B s=bv B t↔zdl d s t)
theorem Lb{l:List Int}(hg:Rng (·∈l) B m):m<=l.length:=by
 obtain⟨a,c⟩:∃a:Nat->Int,∀i,i<m->a i∈l/\bv B (a i)=(i:Int):=⟨λi=>if h:i<m then I_ (hg.K2 i h)else 0,λi d=>by grind⟩;have b:((d_ m).map a).Nodup:=by rw[J_,aW_];refine List.Pairwise.imp_of_mem ?_ (J_.1 aZ_);grind
 have:=f5 _ l b λx e=>by grind
 grind
theorem Z7(n:Nat)(s:Int):bv (c_ n 0) s=0:=by unfold bv;grind
theorem FT(e:∀s c,c<d.1.length->P s->P (cJ d s c))(b:gN d P B)(hr:L9 d P B B' m'):gN d P B':=⟨λs t hs ht a=>(hr.ref s t hs ht).2 ⟨b.coarse s t hs ht a,λc hc=>b.coarse _ _ (e s c hc hs) (e t c hc ht) (a.step (x_.2 hc))⟩,λs t hs ht a=>b.acc s t hs ht ((hr.ref s t hs ht).1 a).1⟩
theorem Ys(hg:Rng P B m)(hr:L9 d P B B' m'):m<=m':=by
 rcases H_ m with rfl|n;.simp
 obtain⟨b,a⟩:∃b:Nat->Int,∀i,i<m->P (b i)/\bv B (b i)=(i:Int):=⟨λi=>if h:i<m then I_ (hg.K2 i h)else 0,λi c=>by grind⟩;have e:((d_ m).map λi=>bv B' (b i)).Nodup:=by rw[J_,aW_];refine List.Pairwise.imp_of_mem ?_ (J_.1 aZ_);intro i j c k g f;have c:=x_.1 c;have:=((hr.ref _ _ (a i c).1 (a j (x_.1 k)).1).1 f).1;grind
 have:=f5 _ (Bb m') e λx l=>by obtain⟨i,c,rfl⟩:=p_.1 l;exact FQ.2 (hr.za.za _ (a i (x_.1 c)).1)
 simpa[FP]using this
theorem Yt(e:∀s c,c<d.1.length->P s->P (cJ d s c))(f:gN d P B)(hg:Rng P B m)(hr:L9 d P B B' m):VJ d P B' m:=by have b:∀s t,P s->P t->bv B s=bv B t->bv B' s=bv B' t:=λs t hs ht a=>Le (b':=bv B') hg.K2 hr.za.za (λs t hs ht a=>((hr.ref s t hs ht).1 a).1) hs ht a;refine⟨hr.za,λs t hs ht=>⟨λa=>(Rf (λs c hc=>e s c (x_.1 hc)) (FT e f hr).acc (λs t c hc hs ht a=>?_) hs ht a),λa=>(FT e f hr).coarse s t hs ht a⟩⟩;have hc:=x_.1 hc;exact b _ _ (e s c hc hs) (e t c hc ht) (((hr.ref s t hs ht).1 a).2 c hc)
end
section
variable {κ:Type} [DecidableEq κ]
structure Keyed(key:Int->κ)(l:List Int)(K:List κ)(B:List Int):Prop where
 nodup:K.Nodup
 num:∀s∈l,bv B s=(pos K (key s):Int)/\key s∈K
 K2:∀x∈K,∃s∈l,key s=x
theorem za2{K:List κ}{x y:κ}(a:x∈K)(h:pos K x=pos K y):x=y:=by
 have h1:=K7.1 a;have b:K[pos K x]? =some x:=by rw[a_ h1,List.getElem_idxOf]
 grind
theorem Keyed.zed{key:Int->κ}{l:List Int}{K:List κ}{d:DF}{B B':List Int}(h:Keyed key l K B')(I:∀s∈l,∀t∈l,key s=key t↔Ref d B s t):L9 d (·∈l) B B' K.length:=by
 refine⟨⟨λs hs=>?_,λi H=>?_⟩,λs t hs ht=>?_⟩;.obtain⟨h1,h2⟩:=h.num s hs;grind
 .obtain⟨s,hs,e⟩:=h.K2 _ (b_ H);refine⟨s,hs,?_⟩;rw[(h.num s hs).1,e];unfold pos;rw[List.Nodup.idxOf_getElem h.nodup]
 .obtain⟨h1,h2⟩:=h.num s hs;obtain⟨E,J⟩:=h.num t ht;rw[<-I s hs t ht,h1,E];exact⟨λe=>za2 h2 (by omega),λe=>by rw[e]⟩
theorem Keyed.old{key:Int->κ}{l:List Int}{K:List κ}{B:List Int}(h:Keyed key l K B)(hl:∀s∈l,0<=s){v:Int}(E:0<=v)(H:v.toNat<B.length)(J:key v∈K):Keyed key (l++[v]) K (B.set v.toNat (pos K (key v):Int)):=by
 refine⟨h.nodup,λs hs=>?_,λx I=>?_⟩
 .rcases h_.1 hs with hs|hs
  .rw[Ab E (hl s hs) H];split;.grind
   .exact h.num s hs
  .simp at hs;subst hs;rw[Ab E E H];grind
 .obtain⟨s,hs,e⟩:=h.K2 x I;grind
theorem Keyed.new{key:Int->κ}{l:List Int}{K:List κ}{B:List Int}(h:Keyed key l K B)(hl:∀s∈l,0<=s){v:Int}(J:0<=v)(I:v.toNat<B.length)(U:key v∉K):Keyed key (l++[v]) (K++[key v]) (B.set v.toNat (K.length:Int)):=by
 have hp:pos (K++[key v]) (key v)=K.length:=by grind
 have hold:∀s∈l,pos (K++[key v]) (key s)=pos K (key s):=λs hs=>AG (aC_ _ _) (h.num s hs).2;refine⟨?_,λs hs=>?_,λx H=>?_⟩;.rw[aV_];exact⟨h.nodup,by simp,λa N b I=>by grind⟩
 .rcases h_.1 hs with E|hs
  .rw[Ab J (hl s E) I];split;.grind
   .rw[hold s E];exact⟨(h.num s E).1,List.mem_append_left _ (h.num s E).2⟩
  .simp at hs;subst hs;rw[Ab J J I,hp];simp
 .rcases h_.1 H with H|H;.obtain⟨s,hs,e⟩:=h.K2 x H;grind
  grind
theorem Keyed.len{key:Int->κ}{l:List Int}{K:List κ}{B:List Int}(h:Keyed key l K B):K.length<=l.length:=by
 have:=f5 K (l.map key) h.nodup λx E=>by obtain⟨s,hs,e⟩:=h.K2 x E;grind
 grind
end
def Zp(v:Int):List Int:=[f_ .u8 (bm_ v (2^(min (K_ (8:Int)) (ae_ .i64)))),f_ .u8 v]
def tob(n:Int):UInt8:=UInt8.ofNat n.toNat
def Xb(d:DF)(B:List Int)(s:Int):List Int:=bv B s::(d_ d.1.length).map λc=>bv B (cJ d s c)
def Lf(d:DF)(B:List Int)(s:Int):List UInt8:=((Xb d B s).flatMap Zp).map tob
def Ts{x y:Int}(a:0<=x/\x<256)(b:0<=y/\y<256)(h:tob x=tob y):x=y:=by have:=congrArg UInt8.toNat h;unfold tob at this;rw[UInt8.toNat_ofNat',UInt8.toNat_ofNat']at this;omega
def JS{v:Int}(h:0<=v/\v<65536):Zp v=[v/256,v%256]:=by unfold Zp;rw[wrap_u8,wrap_u8,show(2:Int)^(min (K_ (8:Int)) (ae_ .i64))=256 from rfl];grind
def Tk:∀(l l':List Int),(∀v∈l,0<=v/\v<65536)->(∀v∈l',0<=v/\v<65536)->(l.flatMap Zp).map tob=(l'.flatMap Zp).map tob->l=l'
 |[],[],_,_,_=>rfl
 |[],v::l',_,h',h=>by rw[O_,JS (h' v (by simp))]at h;grind
 |v::l,[],h',_,h=>by rw[O_,JS (h' v (by simp))]at h;grind
 |v::l,u::l',hl,a,h=>by have d:=hl v (by simp);have c:=a u (by simp);rw[O_,O_,JS d,JS c]at h;simp only[S_,X_,Q_,List.cons.injEq]at h;have h1:=Ts (by omega) (by omega) h.1;have h2:=Ts (by omega) (by omega) h.2.1;rw[Tk l l' (λx b=>hl x (m_ _ b)) (λx b=>a x (m_ _ b)) h.2.2,show v=u by omega]
def zaF{d:DF}{B:List Int}{s t:Int}:Xb d B s=Xb d B t↔Ref d B s t:=by unfold Xb Ref;simp
def B8{d:DF}(h:RW d)(u:d.1.length<=16777216){B:List Int}(r:B.length=d.2.1.length){s:Int}(hs:In d s):aA tbl 292 [.d Ud d,.d (.list tI) B,.d tI s] [] aV (Lf d B s,()):=by
 refine bN ?_;rw[wrap_i64 (n:=(2:Int)*(d.1.length:Int)) (by omega) (by omega),wrap_i64];have g:s.toNat<B.length:=by have:=hs.1;have:=hs.2;omega
 obtain⟨h1,e⟩:=F7 h hs;refine ar (by grind) (bM hs.1 g (ar rfl (bM hs.1 g (ar rfl (bM hs.1 h1 ?_)))));rw[DW g,e];have k:∀i (j:i<((d_ d.1.length).map (cJ d s)).length),((d_ d.1.length).map (cJ d s))[i]=cJ d s i:=λi j=>by simp
 refine ae (aI (N:=((d_ d.1.length).map (cJ d s)).length) (I:=λi t=>t=((i:Int),(bv B s::(d_ i).map λc=>bv B (cJ d s c)).flatMap Zp,())) (by simp[Zp]) ?_ ?_)
 .rintro i t j rfl;have l:i<d.1.length:=by grind
  have b:=WA h hs l;have f:(cJ d s i).toNat<B.length:=by have:=b.1;have:=b.2;omega
  refine aO j (aB j ?_);rw[k i j];refine bM b.1 f (ar rfl (bM b.1 f (ar (decide_eq_true ?_) (aa ?_))))
  .have p:((bv B s::(d_ i).map λc=>bv B (cJ d s c)).flatMap Zp).length=2*(i+1):=by rw[aR_,show(λa=>(Zp a).length)=λ_=>2 from rfl,bi_,List.sum_replicate_nat];grind
   grind
  .rw[DW f,ao j (by grind),L_,k_,<-S_,R_];simp[Zp]
 .rintro t rfl;refine aH (aa (aa ?_));simp only[r_,List.length_range];rfl
def CN:Nat->List (List UInt8)->List (List UInt8×Int)
 |_,[]=>[]
 |k,x::l=>(x,(k:Int))::CN (k+1) l
def R8(x y:List UInt8):hZ tS x y=decide (x=y):=by show(x==y)=_;by_cases h:x=y<;>simp[h]
def Xd(y:List UInt8):∀(L:List (List UInt8)) (k:Nat),di tS tI (CN k L) y=if y∈L then some (((k+pos L y:Nat):Int))else none
 |[],k=>by simp[CN,di]
 |x::L,k=>by have a:=Xd y L (k+1);simp only[CN,di];rw[R8 y x,a];grind
def Xe(y:List UInt8):∀(L:List (List UInt8)) (k:Nat),y∉L->fe tS tI (CN k L) y (((k+L.length:Nat):Int))=CN k (L++[y])
 |[],k,_=>by simp[CN,fe]
 |x::L,k,h=>by have h1:y≠x:=λe=>h (by grind);have h2:y∉L:=λe=>h (by grind);have a:=Xe y L (k+1) h2;simp only[S_,CN,fe];rw[R8 y x,decide_eq_false h1];grind
def uI:∀(L:List (List UInt8)) (k:Nat),(CN k L).length=L.length
 |[],_=>rfl
 |_::L,k=>by simp[CN,uI L (k+1)]
def Jt{d:DF}(h:RW d)(hk:d.1.length<=16777216)(hn:d.2.1.length<=65536):∃c:List Int×Int×Unit,(∃m:Nat,c.2.1=(m:Int)/\m<=d.2.1.length/\VJ d (·∈aP d) c.1 m/\c.1.length=d.2.1.length)/\aA tbl 271 [.d Ud d,.d (.list tI) (aP d)] [] iT c:=by
 refine PY (sh:=iT) ?_;have hl:∀s∈aP d,In d s:=uC h _;have u:(aP d).length<=d.2.1.length:=nG h _;have F:(aP d)[0]? =some d.2.2.2.1:=(eX _).head;have ph:0<(aP d).length:=(q_.1 F).1;have R:∀s c,c<d.1.length->s∈aP d->cJ d s c∈aP d:=λs c hc hs=>dT h s hs c hc;have y:∀s,In d s->∃h1:s.toNat<d.2.2.1.length,d.2.2.1[s.toNat]=cz d s:=λs hs=>by
  have h1:s.toNat<d.2.2.1.length:=by have:=h.len.2;have:=hs.1;have:=hs.2;omega
  exact⟨h1,by unfold cz;grind⟩
 refine ar (by grind) ?_;refine ae (aI (N:=(aP d).length) (I:=λi s=>∃(B:List Int) (cnt:Int),s=(cnt,(i:Int),B,())/\B.length=d.2.1.length/\(∀s,0<=s->bv B s=if s∈(aP d).take i/\cz d s≠cz d d.2.2.2.1 then 1 else 0)/\((cnt=1/\∀s∈(aP d).take i,cz d s=cz d d.2.2.2.1)\/(cnt=2/\∃s∈(aP d).take i,cz d s≠cz d d.2.2.2.1))) ⟨c_ d.2.1.length 0,1,rfl,by simp,λs _=>by rw[Z7];simp,.inl ⟨rfl,by simp⟩⟩ ?_ ?_)
 .rintro i s k ⟨B,cnt,rfl,C,b,p⟩;have a:=hl _ (b_ k);obtain⟨T,U⟩:=y _ a;obtain⟨Y,b2⟩:=y _ h.start;have f:(aP d).take (i+1)=(aP d).take i++[(aP d)[i]]:=by simp
  have g:((aP d)[i]).toNat<B.length:=by have:=a.1;have:=a.2;omega
  refine aO k (ae (aB k (bM a.1 T (bX (x:=d.2.2.2.1) (by simp) F (bM h.start.1 Y ?_)))));rw[U,b2];refine au (λhc=>?_) λhc=>aa (aa ?_)
  .have hc:cz d (aP d)[i]≠cz d d.2.2.2.1:=by grind
   refine bM a.1 g (bi (x:=B[((aP d)[i]).toNat]) (a_ g) (aa (aa ?_)));rw[ao k];refine⟨_,2,rfl,by grind,λs hs=>?_,.inr ⟨rfl,(aP d)[i],(by grind),hc⟩⟩;rw[Ab a.1 hs g,b s hs,f];by_cases e:s=(aP d)[i];all_goals grind
  .have hc:cz d (aP d)[i]=cz d d.2.2.2.1:=by grind
   rw[ao k];refine⟨B,cnt,rfl,C,λs hs=>?_,?_⟩;.rw[b s hs,f];by_cases e:s=(aP d)[i];all_goals grind
   grind
 .rintro s ⟨B,cnt,rfl,C,b,p⟩;rw[g_]at b p;refine aH (aa ?_);have J:=kG (d:=d);have M:gN d (·∈aP d) B:=by
   refine⟨λs t hs ht D=>?_,λs t hs ht D=>?_⟩;.rw[b s (hl s hs).1,b t (hl t ht).1,D.nil];grind
   .rw[b s (hl s hs).1,b t (hl t ht).1]at D;simp only[hs,ht,true_and]at D;generalize cz d d.2.2.2.1=z at D;cases h1:cz d s<;>cases h2:cz d t<;>cases z<;>simp_all
  have hg:∃m:Nat,cnt=(m:Int)/\Rng (·∈aP d) B m:=by
   rcases p with⟨rfl,h2⟩|⟨rfl,s1,h2,h3⟩
   .refine⟨1,rfl,λs hs=>?_,λi k=>⟨_,J,?_⟩⟩;.rw[b s (hl s hs).1];grind
    .rw[b _ h.start.1];grind
   .refine⟨2,rfl,λs hs=>?_,λi k=>?_⟩;.rw[b s (hl s hs).1];omega
    .rcases H_ i with rfl|hp;.exact⟨_,J,by rw[b _ h.start.1];simp⟩
     .exact⟨s1,h2,by rw[b _ (hl _ h2).1,if_pos ⟨h2,h3⟩];omega⟩
  obtain⟨m,rfl,hg⟩:=hg;refine ae (Go.Ev.wp_loop (σ:=Int×List Int×Unit) (λs=>∃(m:Nat) (B:List Int),s=((m:Int),B,())/\B.length=d.2.1.length/\gN d (·∈aP d) B/\Rng (·∈aP d) B m) (λs=>d.2.1.length+1 - s.1.toNat) ⟨m,B,rfl,C,M,hg⟩ ?_);rintro s ⟨m,B,rfl,C,M,hg⟩;have qr:m<=d.2.1.length:=B_ (Lb hg) u;refine ar (by grind) (ae (Wp.imp (Q:=λr=>∃K B',r=(CN 0 K,B',())/\Keyed (Lf d B) (aP d) K B'/\B'.length=d.2.1.length) ?_ λr hr=>?_))
  .have u:(aP d).length<=16777216:=by omega
   generalize aP d=l at hl u⊢;refine aI (N:=l.length) (I:=λi s=>∃K B',s=((i:Int),B,CN 0 K,B',())/\Keyed (Lf d B) (l.take i) K B'/\B'.length=d.2.1.length) ⟨[],c_ d.2.1.length 0,rfl,⟨by simp,by simp,by simp⟩,by simp⟩ ?_ ?_
   .rintro i s k ⟨K,B',rfl,w,n⟩;have a:=hl _ (b_ k);have g:(l[i]).toNat<B'.length:=by have:=a.1;have:=a.2;omega
    have f:l.take (i+1)=l.take i++[l[i]]:=by simp
    have H:∀s∈l.take i,0<=s:=λs hs=>(hl s (C_ hs)).1;have gc:=w.len;have ur:(l.take i).length<=l.length:=by grind
    refine aO k (aB k (aj (B8 h hk C a) ?_));have E:=Xd (Lf d B l[i]) K 0;by_cases L:Lf d B l[i]∈K;.rw[if_pos L]at E;refine ae (au (λhc=>by grind) λ_=>aa (bM a.1 g (bi (a_ g) (aa ?_))));rw[E,ao k,f];refine⟨K,B'.set (l[i]).toNat (pos K (Lf d B l[i]):Int),by simp,w.old H a.1 g L,by grind⟩
    .have A:=Xe (Lf d B l[i]) K 0 L;simp only[ag_]at A;refine ae (au (λ_=>ar (decide_eq_true (by rw[uI];simp only[maxLen];omega)) (aa (bM a.1 g (bi (a_ g) (aa ?_))))) λhc=>by grind);rw[ao k,f];refine⟨K++[Lf d B l[i]],B'.set (l[i]).toNat (K.length:Int),?_,w.new H a.1 g L,by grind⟩;rw[<-A,uI]
   .rintro s ⟨K,B',rfl,w,n⟩;rw[g_]at w;exact aH (aa ⟨K,B',rfl,w,n⟩)
  obtain⟨K,B',rfl,w,n⟩:=hr;have hr:L9 d (·∈aP d) B B' K.length:=w.zed λs hs t ht=>by
   rw[<-zaF];have j:∀s∈aP d,∀v∈Xb d B s,0<=v/\v<65536:=λs hs v P=>by
    have hb:∀s∈aP d,0<=bv B s/\bv B s<65536:=λs hs=>by have:=hg.za s hs;omega
    rcases bo_.1 P with rfl|P;.grind
    .obtain⟨c,hc,rfl⟩:=p_.1 P;grind
   exact⟨λe=>Tk _ _ (j s hs) (j t ht) e,λe=>by unfold Lf;rw[e]⟩
  have O:=Ys hg hr;refine au (λhc=>aa (aa ⟨_,rfl,K.length,?_,B_ (Lb hr.za) u,?_,n⟩)) λhc=>aa ?_;.rw[uI]at hc;grind
  .rw[uI]at hc;have hc:(K.length:Int)=(m:Int):=by grind
   have hc:K.length=m:=by omega
   rw[hc]at hr⊢;exact Yt R M hg hr
  .rw[uI]at hc⊢;have hc:(K.length:Int)≠(m:Int):=by grind
   have el:=Lb hr.za;refine⟨⟨K.length,B',rfl,n,FT R M hr,hr.za⟩,?_⟩;omega
structure aT(q:DF)(kp:Nat->Bool):Prop where
 zero:kp 0=true
 drop:∀s∈aP q,∀c,c<q.1.length->kp c=false->0<c/\cJ q s c=cJ q s (c - 1)
 keep:∀c,c+1<q.1.length->kp (c+1)=true->∃s∈aP q,cJ q s (c+1)≠cJ q s c
section
variable {q:DF} {kp:Nat->Bool}
abbrev Ch(q:DF)(kp:Nat->Bool):List Nat:=(d_ q.1.length).filter kp
theorem xN{c:Nat}:c∈Ch q kp↔c<q.1.length/\kp c=true:=by rw[bj_,x_]
theorem zad:(Ch q kp).Pairwise (·<·):=List.Pairwise.sublist (av_ ..) List.pairwise_lt_range
theorem JZ{i j:Nat}(a:i<j)(b:j<(Ch q kp).length):(Ch q kp)[i]<(Ch q kp)[j]:=M_.1 zad i j (by omega) b a
theorem T0{i:Nat}(a:i<(Ch q kp).length):(Ch q kp)[i]<q.1.length:=(xN.1 (b_ a)).1
theorem getD_at{a:Type}{xs:List a}{i:Nat}{z:a}(h:i<xs.length):xs.getD i z=xs[i]:=by grind
end
def Vg{k i:Nat}{r:List Nat}{n:Nat}(hr:r.length=i)(h:i<k):(kT k r).set i (n:Int)=kT k (r++[n]):=by subst hr;exact t7 h
def YB{k:Nat}{r:List Nat}(h:r.length<=k):(kT k r).length=k:=by unfold kT;simp;omega
def Vf{k:Nat}{r:List Nat}(h:r.length=k):kT k r=r.map fun(n:Nat)=>(n:Int):=by unfold kT;rw[h];simp
def gg(d:DF):DF:=(d.1,(aP d).map λb=>(d_ d.1.length).map λc=>(pos (aP d) (cJ d b c):Int),(aP d).map (cz d),0,())
def Wa{d:DF}(h:RW d){s:Int}(hs:In d s):∃h1:s.toNat<d.2.2.1.length,d.2.2.1[s.toNat]=cz d s:=by
 have h1:s.toNat<d.2.2.1.length:=by have:=h.len.2;have:=hs.1;have:=hs.2;omega
 exact⟨h1,by unfold cz;grind⟩
def K8{d:DF}:(aP d).Nodup:=(eX (f:=cJ d) (s0:=d.2.2.2.1) (ls:=d_ d.1.length) _).nodup
def zcD{L:List Int}(hn:L.Nodup){i:Nat}(a:i<L.length):pos L L[i]=i:=by unfold pos;exact List.Nodup.idxOf_getElem hn i a
def Ds{d:DF}(h:RW d)(B:d.1.length<=16777216)(hn:d.2.1.length<=16777216):aA tbl 272 [.d Ud d] [] cd (gg d,()):=by
 refine bN ?_;have hl:∀s∈aP d,In d s:=uC h _;have C:(aP d).length<=d.2.1.length:=nG h _;refine aj (Ru rfl h hn B) (ar (by grind) ?_);refine ae (aI (N:=(aP d).length) (I:=λi s=>∃A:List Int,s=((i:Int),(0:Int),A,())/\A.length=d.2.1.length/\∀x∈(aP d).take i,bv A x=(pos (aP d) x:Int)) ⟨c_ d.2.1.length 0,rfl,by simp,by simp⟩ ?_ ?_)
 .rintro i s f ⟨A,rfl,z,u⟩;have a:=hl _ (b_ f);have j:((aP d)[i]).toNat<A.length:=by have:=a.1;have:=a.2;omega
  refine aO f (aB f (bM a.1 j (bi (x:=A[((aP d)[i]).toNat]) (a_ j) (aa ?_))));rw[ao f];refine⟨_,rfl,by grind,λx w=>?_⟩;rw[i_,a_ f]at w;have v:0<=x:=by
   rcases h_.1 w with h1|h1;.exact(hl x (C_ h1)).1
   .simp at h1;subst h1;exact a.1
  rw[Ab a.1 v j];split;.rename_i e;rw[e,zcD K8 f]
  grind
 .rintro s ⟨A,rfl,z,u⟩;rw[g_]at u;refine aH (aa ?_);refine ae (aI (N:=(aP d).length) (I:=λi s=>s=((i:Int),(0:Int),A,d.1,(0:Int),((aP d).take i).map (λb=>(d_ d.1.length).map λc=>(pos (aP d) (cJ d b c):Int)),((aP d).take i).map (cz d),())) rfl ?_ ?_)
  .rintro i s f rfl;have a:=hl _ (b_ f);obtain⟨h1,e⟩:=F7 h a;obtain⟨h2,y⟩:=Wa h a;refine aO f (aB f (ar (Ft (by omega)) (bM a.1 h1 ?_)));rw[e];generalize r:((aP d).take i).map (λb=>(d_ d.1.length).map λc=>(pos (aP d) (cJ d b c):Int))=NX;generalize p:((aP d).take i).map (cz d)=AC;refine ae (aI (N:=d.1.length) (I:=λc s=>s=((c:Int),(0:Int),A,d.1,(0:Int),NX,AC,kT d.1.length ((d_ c).map λc=>pos (aP d) (cJ d (aP d)[i] c)),())) (by rw[bk_,P_,show kT d.1.length []=c_ d.1.length 0 from by simp[kT]];rfl) ?_ ?_)
   .rintro c s hc rfl;have g:=dT h _ (b_ f) c hc;have k:=hl _ g;have l:(cJ d (aP d)[i] c).toNat<A.length:=by have:=k.1;have:=k.2;omega
    have D:(kT d.1.length ((d_ c).map λc=>pos (aP d) (cJ d (aP d)[i] c))).length=d.1.length:=YB (by grind);have n:((d_ d.1.length).map (cJ d (aP d)[i])).length=d.1.length:=by simp
    rw[n];refine aO hc (m8 (x:=cJ d (aP d)[i] c) (by grind) (bM k.1 l (bi (x:=A[(cJ d (aP d)[i] c).toNat]) (a_ l) ?_)));refine aB (by grind) (bi (x:=(kT d.1.length ((d_ c).map λc=>pos (aP d) (cJ d (aP d)[i] c)))[c]'(by omega)) (a_ _) (aa ?_));rw[ao hc,DW l,u _ g];simp only[e_];rw[Vg (by simp) hc,L_,k_];rfl
   .rintro s rfl;have n:((d_ d.1.length).map (cJ d (aP d)[i])).length=d.1.length:=by simp
    rw[n];refine aH (aa ?_);refine ar (decide_eq_true (by grind)) (bM a.1 h2 (ar (decide_eq_true (by grind)) (aa ?_)));rw[ao f,y,Vf (by simp),<-r,<-p];simp only[i_,a_ f,k_,E_,Q_,P_,bp_];rfl
  .rintro s rfl;refine aH (aa (aa ?_));simp only[g_];rfl
def jJ(q:DF)(kp:Nat->Bool):DF:=((Ch q kp).map λc=>q.1.getD c 0,q.2.1.map λr=>(Ch q kp).map λc=>r.getD c 0,q.2.2.1,q.2.2.2.1,())
def zbg{q:DF}(kp:Nat->Bool){s:Int}(hs:In q s){j:Nat}(a:j<(Ch q kp).length):cJ (jJ q kp) s j=cJ q s (Ch q kp)[j]:=by
 have h1:s.toNat<q.2.1.length:=by have:=hs.1;have:=hs.2;omega
 unfold cJ;simp only[jJ,t_,ab_,a_ h1,au_,U_,a_ a]
def YM{q:DF}(kp:Nat->Bool)(b:RW q):RW (jJ q kp):=by
 refine⟨⟨by simpa[jJ]using b.len.1,by simpa[jJ]using b.len.2⟩,λr hr=>?_,?_,λr hr t ht=>?_⟩;.simp only[jJ,p_]at hr;obtain⟨r,_,rfl⟩:=hr;simp[jJ]
 .have:=b.start;exact⟨this.1,by simpa[jJ]using this.2⟩
 .simp only[jJ,p_]at hr;obtain⟨r,hr,rfl⟩:=hr;obtain⟨c,hc,rfl⟩:=p_.1 ht;have a:c<r.length:=by rw[b.rows r hr];grind
  rw[getD_at a];have:=b.to r hr _ (b_ a);exact⟨this.1,by simpa[jJ]using this.2⟩
def bH(NX:List (List Int))(c:Nat):Bool:=decide (c=0)||NX.any λr=>r.getD c 0 != r.getD (c - 1) 0
def CS(k:Nat)(r:List Int):List Int:=r++c_ (k - r.length) 0
def YA{k i:Nat}{r:List Int}{x:Int}(hr:r.length=i)(h:i<k):(CS k r).set i x=CS k (r++[x]):=by subst hr;unfold CS;obtain⟨m,a⟩:∃m,k - r.length=m+1:=⟨k - r.length - 1,by omega⟩;grind
def Yz{k:Nat}{r:List Int}(h:r.length<=k):(CS k r).length=k:=by unfold CS;simp;omega
def Ve{k:Nat}{r:List Int}(h:r.length=k):CS k r=r:=by unfold CS;rw[h];simp
def zaU{a β:Type}{g g':a->β}{xs:List a}{j:Nat}(b:j<xs.length):((xs.take j).map g'++(xs.drop j).map g)[j]? =some (g xs[j]):=by grind
def zaV{b β:Type}{g g':b->β}{xs:List b}{j:Nat}(a:j<xs.length):((xs.take j).map g'++(xs.drop j).map g).set j (g' xs[j])=(xs.take (j+1)).map g'++(xs.drop (j+1)).map g:=by rw[aK_ _ _ (by grind),z_ a,i_,a_ a];simp only[r_,T_,Nat.min_eq_left (Nat.le_of_lt a),az_,Q_,aS_,k_,E_,P_,s_,S_,X_]
structure Zn(d:DF)(B:List Int)(m:Nat)(NX:List (List Int))(AC:List Bool):Prop where
 ek:VJ d (·∈aP d) B m
 le:m<=d.2.1.length
 len:NX.length=m/\AC.length=m
 at_:∀s∈aP d,NX[(bv B s).toNat]? =some ((d_ d.1.length).map λc=>bv B (cJ d s c))/\AC[(bv B s).toNat]? =some (cz d s)
def Zn.rw{d:DF}(hd:RW d){B:List Int}{m:Nat}{NX:List (List Int)}{AC:List Bool}(h:Zn d B m NX AC):RW (d.1,NX,AC,bv B d.2.2.2.1,()):=by
 have H:=h.ek.za.za _ (kG);have E:∀r∈NX,∃s∈aP d,r=(d_ d.1.length).map λc=>bv B (cJ d s c):=λr hr=>by obtain⟨b,I,rfl⟩:=n_.1 hr;obtain⟨s,hs,e⟩:=h.ek.za.K2 b (by rw[<-h.len.1];omega);have:=(h.at_ s hs).1;grind
 refine⟨⟨?_,?_⟩,λr hr=>?_,⟨H.1,?_⟩,λr hr t ht=>?_⟩;.rw[h.len.1];omega
 .rw[h.len.1,h.len.2]
 .grind
 .show bv B d.2.2.2.1<(NX.length:Int);rw[h.len.1];omega
 .obtain⟨s,hs,rfl⟩:=E r hr;obtain⟨c,hc,rfl⟩:=p_.1 ht;have:=h.ek.za.za _ (dT hd s hs c (x_.1 hc));refine⟨this.1,?_⟩;rw[h.len.1];omega
def Zn.col{d:DF}{B:List Int}{m:Nat}{NX:List (List Int)}{AC:List Bool}(h:Zn d B m NX AC){s:Int}(hs:s∈aP d){c:Nat}(hc:c<d.1.length):cJ (d.1,NX,AC,bv B d.2.2.2.1,()) (bv B s) c=bv B (cJ d s c):=by show(NX.getD (bv B s).toNat []).getD c 0=_;simp only[t_,(h.at_ s hs).1,U_,ab_,aQ_ hc,au_]
def Zn.acc{d:DF}{B:List Int}{m:Nat}{NX:List (List Int)}{AC:List Bool}(h:Zn d B m NX AC){s:Int}(hs:s∈aP d):cz (d.1,NX,AC,bv B d.2.2.2.1,()) (bv B s)=cz d s:=by show AC.getD (bv B s).toNat false=_;rw[t_,(h.at_ s hs).2];rfl
def Qr{NX:List (List Int)}{c j:Nat}(a:j<NX.length):(decide (c=0)||(NX.take (j+1)).any λr=>r.getD c 0 != r.getD (c - 1) 0)=((decide (c=0)||(NX.take j).any λr=>r.getD c 0 != r.getD (c - 1) 0)||(NX[j].getD c 0 != NX[j].getD (c - 1) 0)):=by rw[i_];grind
def AO{m:Nat}{b:Int}(a:b<=24)(d:m<=65536)(c:0<=b):(decide (0<=(m:Int))&&decide ((m:Int)<=(m:Int))&&decide ((m:Int)<=9223372036854775807)&&decide (b*(m:Int)<=281474976710656))=true:=by have:b*(m:Int)<=24*65536:=Int.mul_le_mul a (by omega) (by simp) (by simp);grind
def Pk{d:DF}(hd:WF d)(v:d.1.length<=16777216)(hn:d.2.1.length<=65536):∃c:DF×Unit,((∃B m NX AC,Zn d B m NX AC/\c.1=gg (jJ (d.1,NX,AC,bv B d.2.2.2.1,()) (bH NX)))/\c.1.1.length<=d.1.length/\c.1.2.1.length<=d.2.1.length)/\aA tbl 240 [.d Ud d] [] cd c:=by
 refine PY (sh:=cd) ?_;have h:=hd.rw;have hl:∀s∈aP d,In d s:=uC h _;have CT:(aP d).length<=d.2.1.length:=nG h _;obtain⟨⟨B,mi,_⟩,⟨m,U,hm,H,ph⟩,hc⟩:=Jt h v hn;simp only at U H ph;subst U;have gc:d.2.2.2.1.toNat<B.length:=by have:=h.start.1;have:=h.start.2;omega
 refine aj (Ru rfl h (by omega) v) (aj hc ?_);refine ar (AO (m:=m) (by simp) (by omega) (by simp)) (ar (AO (m:=m) (by simp) (by omega) (by simp)) (bM h.start.1 gc ?_));rw[DW gc];refine ae (aI (N:=(aP d).length) (I:=λi s=>∃NX AC,s=((i:Int),(0:Int),bv B d.2.2.2.1,NX,AC,())/\NX.length=m/\AC.length=m/\∀s∈(aP d).take i,NX[(bv B s).toNat]? =some ((d_ d.1.length).map λc=>bv B (cJ d s c))/\AC[(bv B s).toNat]? =some (cz d s)) ⟨c_ m [],c_ m false,rfl,by simp,by simp,by simp⟩ ?_ ?_)
 .rintro i s T ⟨NX,AC,rfl,z,J,C⟩;have a:=b_ T;have n:=hl _ a;obtain⟨h1,e⟩:=F7 h n;obtain⟨h2,e2⟩:=Wa h n;have p:((aP d)[i]).toNat<B.length:=by omega
  have M:=H.za.za _ a;refine aO T (aB T (ar (by grind) (bM n.1 h1 ?_)));rw[e];refine ae (aI (N:=d.1.length) (I:=λc s=>s=((c:Int),(0:Int),bv B d.2.2.2.1,NX,AC,CS d.1.length ((d_ c).map λc=>bv B (cJ d (aP d)[i] c)),())) (by rw[bk_,P_,show CS d.1.length []=c_ d.1.length 0 from by simp[CS]];rfl) ?_ ?_)
  .rintro c s hc rfl;have P:=dT h _ a c hc;have D:=hl _ P;have R:(cJ d (aP d)[i] c).toNat<B.length:=by have:=D.1;have:=D.2;omega
   have Dg:(CS d.1.length ((d_ c).map λc=>bv B (cJ d (aP d)[i] c))).length=d.1.length:=Yz (by grind);have u:((d_ d.1.length).map (cJ d (aP d)[i])).length=d.1.length:=by simp
   rw[u];refine aO hc (m8 (x:=cJ d (aP d)[i] c) (by grind) (bM D.1 R ?_));refine aB (by grind) (bi (x:=(CS d.1.length ((d_ c).map λc=>bv B (cJ d (aP d)[i] c)))[c]'(by omega)) (a_ _) (aa ?_));rw[ao hc,DW R];simp only[e_];rw[YA (by simp) hc,L_,k_];rfl
  .rintro s rfl;have u:((d_ d.1.length).map (cJ d (aP d)[i])).length=d.1.length:=by simp
   rw[u];have A:(bv B (aP d)[i]).toNat<NX.length:=by omega
   have y:(bv B (aP d)[i]).toNat<AC.length:=by omega
   refine aH (aa (bM n.1 p ?_));rw[DW p];refine bM M.1 A (bi (x:=NX[(bv B (aP d)[i]).toNat]) (a_ A) (bM n.1 p ?_));rw[DW p];refine bM n.1 h2 (bM M.1 y (bi (x:=AC[(bv B (aP d)[i]).toNat]) (a_ y) (aa ?_)));rw[ao T,e2,Ve (by simp)];refine⟨_,_,rfl,by grind,by grind,λs hs=>?_⟩;rw[i_,a_ T]at hs;have F:s∈aP d:=by grind
   have DA:=H.za.za s F;by_cases k:bv B s=bv B (aP d)[i];.have he:=(H.eqv s _ F a).1 k;rw[k,al_ A,al_ y];refine⟨?_,by rw[he.nil]⟩;congr 1;refine aw_ λc hc=>?_;have O:=x_.1 hc;exact((H.eqv _ _ (dT h s F c O) (dT h _ a c O)).2 (he.step hc)).symm
   .have Y:(bv B (aP d)[i]).toNat≠(bv B s).toNat:=λe=>k (by omega);rw[aL_ Y,aL_ Y];grind
 .rintro s ⟨NX,AC,rfl,z,J,C⟩;rw[g_]at C;refine aH (aa ?_);have hQ:Zn d B m NX AC:=⟨H,hm,⟨z,J⟩,C⟩;have L:=hQ.rw h;refine ar (AO (m:=m) (by simp) (by omega) (by simp)) ?_;subst z;refine ae (Wp.imp (Q:=λr=>r=((0:Int),bv B d.2.2.2.1,((d_ d.1.length).filter (bH NX)).map (λc=>d.1.getD c 0),NX,AC,NX.map (λr=>((d_ d.1.length).filter (bH NX)).map λc=>r.getD c 0),())) ?_ λr hr=>?_)
  .have hr:∀r∈NX,r.length=d.1.length:=λr hr=>L.rows r hr;have hn:NX.length<=16777216:=by omega
   generalize bv B d.2.2.2.1=st;refine aI (N:=d.1.length) (I:=λc s=>s=((c:Int),(0:Int),st,((d_ c).filter (bH NX)).map (λc=>d.1.getD c 0),NX,AC,NX.map (λr=>((d_ c).filter (bH NX)).map λc=>r.getD c 0),())) ?_ ?_ ?_;.show _=((0:Int),(0:Int),st,[],NX,AC,NX.map (λ_=>[]),());rw[bi_];rfl
   .rintro c s hc rfl;generalize hS:((d_ c).filter (bH NX)).map (λc=>d.1.getD c 0)=S1;have BT:S1.length<=c:=by grind
    generalize hg:(λr:List Int=>((d_ c).filter (bH NX)).map λc=>r.getD c 0)=g;have wr:∀r,(g r).length<=c:=λr=>by grind
    refine aO hc (ae (aB hc ?_));refine ae (aI (N:=NX.length) (I:=λj s=>s=((decide (c=0)||(NX.take j).any λr=>r.getD c 0 != r.getD (c - 1) 0),(j:Int),(0:Int),st,S1,NX,AC,NX.map g,())) ?_ ?_ ?_);.rw[List.take_zero,List.any_nil,bn_,show(((c:Int)==(0:Int)))=decide (c=0)from ?_];all_goals grind
    .rintro j s l rfl;have At:=hr _ (b_ l);refine aO l (aB l (bi (x:=NX[j]) (a_ l) ?_));refine ae (bf (b:=NX[j].getD c 0 != NX[j].getD (c - 1) 0) (λhf=>?_) (aa ?_))
     .have h0:0<c:=by grind
      rw[Jn h0 (by omega)];refine aB (by omega) (aB (by omega) (aa ?_));grind
     .rw[ao l,Qr l]
    .rintro s rfl;refine aH (aa ?_);rw[g_];have Bk:(decide (c=0)||NX.any λr=>r.getD c 0 != r.getD (c - 1) 0)=bH NX c:=rfl;rw[Bk];have Bx:(d_ (c+1)).filter (bH NX)=(d_ c).filter (bH NX)++(if bH NX c=true then [c]else []):=by rw[L_,aB_];grind
     refine au (λv=>?_) λv=>aa (aa ?_)
     .have v:bH NX c=true:=v;have ur:(λr:List Int=>((d_ (c+1)).filter (bH NX)).map λc=>r.getD c 0)=λr=>g r++[r.getD c 0]:=by grind
      have qr:((d_ (c+1)).filter (bH NX)).map (λc=>d.1.getD c 0)=S1++[d.1[c]]:=by grind
      refine ar (decide_eq_true (by grind)) ?_;refine ae (aI (N:=NX.length) (I:=λj s=>s=((j:Int),(0:Int),st,S1++[d.1[c]],NX,AC,(NX.take j).map (λr=>g r++[r.getD c 0])++(NX.drop j).map g,())) rfl ?_ ?_);.rintro j s l rfl;have At:=hr _ (b_ l);have CD:=wr NX[j];have f:=zaU (g:=g) (g':=λr=>g r++[r.getD c 0]) l;have u:j<((NX.take j).map (λr=>g r++[r.getD c 0])++(NX.drop j).map g).length:=(q_.1 f).1;refine aO l (aB l (bi (x:=NX[j]) (a_ l) (ar (decide_eq_true (by simp)) ?_)));refine bi (x:=g NX[j]) f (m8 f (bi (x:=g NX[j]) f (ar (by simp) (aB (by omega) (ar (decide_eq_true (by grind)) ?_)))));refine m8 f (bi (x:=g NX[j]) f (ar (by simp) (bi (x:=g NX[j]) f (aa ?_))));have el:=zaV (g:=g) (g':=λr=>g r++[r.getD c 0]) l;simp only[getD_at (show c<NX[j].length by omega)]at el;rw[ao l];simp only[e_];grind
      .rintro s rfl;refine aH (aa (aa (aa ?_)));rw[ao hc,qr,ur,g_,ao_,P_,w_]
     .have v:bH NX c=false:=v;have E:(d_ (c+1)).filter (bH NX)=(d_ c).filter (bH NX):=by grind
      rw[ao hc,E,hS,hg]
   .rintro s rfl;exact aH (aa rfl)
  subst hr;have w:=YM (bH NX) L;refine aj (Ds (d:=jJ (d.1,NX,AC,bv B d.2.2.2.1,()) (bH NX)) w ?_ ?_) (aa ⟨_,rfl,⟨B,NX.length,NX,AC,hQ,rfl⟩,?_,?_⟩);.simp only[jJ,r_];grind
  .simp only[jJ,r_];omega
  .simp only[gg,jJ,r_];grind
  .simp only[gg,r_];refine B_ (nG w _) ?_;simp only[jJ,r_];omega
section
variable {d:DF} {B:List Int} {m:Nat} {NX:List (List Int)} {AC:List Bool}
end
noncomputable abbrev jC(a b:DF)(i:Nat):SR:=cp (d6 a b) (gM a b) (dh a b) i
noncomputable abbrev vK(a b:DF)(sp:List PR->PR->Bool)(i:Nat):SR⊕SR:=ji (d6 a b) (gM a b) (dh a b) sp i
noncomputable abbrev fP(a b:DF):SR:=jC a b (a.2.1.length*b.2.1.length)
def Mg{a b:DF}(c:Good a)(d:Good b):(fP a b).1.length<=a.2.1.length*b.2.1.length:=De c d (eX _)
noncomputable def Be(a b:DF)(f:Bool)(S:SR):Bool×List Int×List PR×List Int×List Int×List (List Int)×Unit:=(f,dh a b,S.1,tL S.2.1,Wt S.2.1,gX S.2.2,())
def YD{a b:DF}(i:Nat):(jC a b i).2.2.length<=i:=by rw[ng i i (as_ _),r_,T_];omega
def BH{a b:DF}:∀(l:List Int) (x:PR),l.foldl (d6 a b) x=(l.foldl (eN a) x.1,l.foldl (eN b) x.2.1,())
 |[],_=>rfl
 |v::l,x=>by rw[W_,BH l];rfl
def q8:∀l:List Int,∃c,Asc c/\∀x,x∈c↔x∈l
 |[]=>⟨[],by simp[Asc],by simp⟩
 |v::l=>by
  obtain⟨c,hc,d⟩:=q8 l;refine⟨c.filter (λy=>decide (y<v))++([v]++c.filter λy=>decide (v<y)),?_,λx=>?_⟩;.refine wd (List.Pairwise.sublist (av_ ..) hc) (wd (by simp[Asc]) (List.Pairwise.sublist (av_ ..) hc) λx a y b=>?_) λx a y b=>?_;all_goals grind
  grind
def Fa(a b:DF):Asc (dh a b)/\∀x,x∈dh a b↔x∈a.1\/x∈b.1:=by obtain⟨c,hc,d⟩:=q8 (a.1++b.1);unfold dh;rw[pd hc d];grind
def ra{xs:List Int}(hs:eH xs){v c:Int}(b:0<=c)(d:c<=v)(a:∀x∈xs,x<=v->x<=c):dy xs v=dy xs c:=by obtain⟨h1,h2,f⟩:=jf hs (show 0<=v by omega);symm;exact tn ⟨h1,a _ (b_ h1) h2,λj g e=>by grind⟩
def Xf{a b:DF}(h:Good a)(p:Good b){v:Int}(r:0<=v):∃c∈dh a b,dy a.1 v=dy a.1 c/\dy b.1 v=dy b.1 c:=by
 obtain⟨n,j⟩:=Fa a b;have key:∀l:List Int,(∃x∈l,x<=v)->∃c∈l,c<=v/\∀x∈l,x<=v->x<=c:=by intro l;induction l with|nil=>simp|cons y l s=>by_cases hl:∃x∈l,x<=v;all_goals grind
 obtain⟨c,hc,g,f⟩:=key _ ⟨0,((j 0).2 (.inl (by have:=h.dt.2.1 h.dt.1;grind))),r⟩;have e:=(ly h p c hc).1;exact⟨c,hc,ra h.dt e g λx k d=>f x ((j x).2 (.inl k)) d,ra p.dt e g λx k d=>f x ((j x).2 (.inr k)) d⟩
abbrev Lo(a:Nat):List PR->PR->Bool:=λL _=>decide (a<=L.length)
section
variable {κ:Type} [DecidableEq κ]
theorem Od{L:List κ}{x:κ}(h:x∈L):L[pos L x]? =some x:=by grind
variable (f:κ->Int->κ) (s0:κ) (ls:List Int) (acc:κ->Bool) (L:List κ)
def VC:DF:=(ls,L.map λx=>ls.map λc=>(pos L (f x c):Int),L.map acc,0,())
structure VZ:Prop where
 st:eH ls
 cl:∀x∈L,∀c∈ls,f x c∈L
 hd:L[0]? =some s0
 same:∀x v (h:dy ls v<ls.length),0<=v->v<=4294967295->f x v=f x ls[dy ls v]
variable {f s0 ls acc L}
theorem zdK(h:VZ f s0 ls L):WF (VC f ls acc L):=by
 have b:=(q_.1 h.hd).1;have hn:(VC f ls acc L).2.1.length=L.length:=by simp[VC]
 refine⟨h.st,⟨by omega,by simp[VC]⟩,λr hr=>?_,⟨bb_ _,by rw[hn];show(0:Int)<_;omega⟩,λr hr t ht=>?_⟩;.obtain⟨x,_,rfl⟩:=p_.1 hr;simp[VC]
 .obtain⟨x,a,rfl⟩:=p_.1 hr;obtain⟨c,hc,rfl⟩:=p_.1 ht;have:=K7.1 (h.cl x a c hc);omega
theorem zao(h:VZ f s0 ls L){x:κ}(b:x∈L){v:Int}(a:0<=v/\v<=4294967295):eN (VC f ls acc L) (pos L x:Int) v=(pos L (f x v):Int)/\f x v∈L:=by obtain⟨h1,h2,d⟩:=jf h.st a.1;have e:=h.same x v h1 a.1 a.2;refine⟨?_,by rw[e];exact h.cl x b _ (b_ h1)⟩;rw[uc];have c:L[pos L x]? =some x:=Od b;unfold cJ VC;grind
theorem WV(h:VZ f s0 ls L):∀(w:List Int) (x:κ),x∈L->fo w->w.foldl (eN (VC f ls acc L)) (pos L x:Int)=(pos L (w.foldl f x):Int)/\w.foldl f x∈L
 |[],x,a,_=>⟨rfl,a⟩
 |v::w,x,a,b=>by obtain⟨h1,h2⟩:=zao (acc:=acc) h a (b v (u_ ..));rw[W_,W_,h1];exact WV h w _ h2 λu c=>b u (m_ _ c)
theorem zan(h:VZ f s0 ls L){w:List Int}(b:fo w):cz (VC f ls acc L) (kU (VC f ls acc L) w)=acc (w.foldl f s0):=by have a:pos L s0=0:=(QG (D_ _) (λj z d=>by omega) (λz c=>by rw[h.hd]at c;grind)).symm;obtain⟨h1,h2⟩:=WV h w _ (ad_ h.hd) b;rw[a]at h1;have e0:kU (VC f ls acc L) w=(pos L (w.foldl f s0):Int):=h1;have e:L[pos L (w.foldl f s0)]? =some (w.foldl f s0):=Od h2;show(L.map acc).getD _ false=_;grind
end
def RD:∀{c l:List Int},Asc c->(∀x,x∈c->x∈l)->c.length<=l.length:=fun{c l} hc a=>f5 c l (J_.2 (List.Pairwise.imp (λh=>by omega) hc)) a
structure xy(g:G):Prop where
 lie:GY 0 g
 jy:∀q∈g.sp,0<=q.1/\q.2<=4294967295
 le:∀q∈g.sp,q.1<=q.2
 n64:g.sp.length<=64
def Sj{r:Rx}(a:cN r=true)(hs:sz r<=64):xy (bO r 0):=⟨eY r 0,zbR r a 0,zej r a 0,by rw[(dF r a 0).1];exact B_ (D3 r) hs⟩
noncomputable def eT(g:G):List Int:=sw (q9 g.sp)
def yu(g:G):Asc (eT g)/\∀x,x∈eT g↔x∈q9 g.sp:=by obtain⟨c,hc,a⟩:=q8 (q9 g.sp);unfold eT;rw[pd hc a];grind
def E8{g:G}(h:xy g):(eT g).length<=129:=by obtain⟨h1,h2⟩:=yu g;have:=RD h1 λx a=>(h2 x).1 a;have:=My g.sp;have:=h.n64;omega
def Sv{g:G}(h:xy g):∀v∈eT g,0<=v/\v<=4294967295:=λv a=>Z5 h.jy h.le v ((yu g).2 v |>.1 a)
def BM{g:G}(h:xy g):eH (eT g):=by
 obtain⟨a,f⟩:=yu g;have c:(0:Int)∈eT g:=(f 0).2 (u_ ..);refine⟨(am_ c),λh'=>?_,λi h'=>z6 a (by simp) h',λv j=>(Sv h v j).2⟩;obtain⟨i,d,e⟩:=n_.1 c;have h1:=(Sv h _ (b_ h')).1;rcases H_ i with rfl|b;.omega
 .have:=z6 a b d;omega
def UD{g:G}(h:xy g)(x:Option Nat)(v:Int)(hc:dy (eT g) v<(eT g).length)(c:0<=v)(e:v<=4294967295):eW g x v=eW g x (eT g)[dy (eT g) v]:=by
 obtain⟨a,d⟩:=yu g;obtain⟨h1,h2,l⟩:=jf (BM h) c;refine Vs h.jy h2 e (λy f k=>?_) x;obtain⟨j,p,rfl⟩:=n_.1 ((d y).2 f);rcases bq_ (dy (eT g) v) j with hl|b;.grind
 .rcases aD_ b with hl|n;.have:=z6 a hl h1;omega
  grind
abbrev VG(a:Nat):List (Option Nat)->Option Nat->Bool:=λL _=>decide (a<=L.length)
noncomputable abbrev dS(g:G)(i:Nat):=cp (eW g) none (eT g) i
noncomputable abbrev xX(g:G)(i:Nat):=ji (eW g) none (eT g) (VG 4096) i
def U9{m:Nat}{L:List (Option Nat)}(h:Quiet (VG (m+1)) L):L.length<=m+1:=by apply l_;intro hn;have h1:=h m _ (a_ (by omega));grind
def I2{L:List (Option Nat)}(h:Quiet (VG 4096) L):L.length<=4096:=U9 (m:=4095) h
def zbD:∃n:Nat,n=4097:=⟨_,rfl⟩
noncomputable def NL:Nat:=I_ zbD
def V1:NL=4097:=Z_ zbD
noncomputable def xB(g:G):List (Option Nat):=(dS g NL).1
noncomputable def dN(g:G):DF:=VC (eW g) (eT g) (qh g) (xB g)
def Wh{g:G}{S}(h:xX g NL= .inl S):S=dS g NL/\(xB g).length<=4096:=by obtain⟨h1,h2⟩:=(iB NL).1 S h;exact⟨h1,by have:=I2 h2;rw[h1]at this;exact this⟩
def Rz{g:G}(hg:xy g)(h:(xB g).length<=4096):VZ (eW g) none (eT g) (xB g):=⟨BM hg,λx b c hc=>lX NL x (by rw[A_ (by show(xB g).length<=NL;rw[V1];omega)];exact b) c hc,(eX NL).head,λx v hc a h1=>UD hg x v hc a h1⟩
def zdB{g:G}(hg:xy g)(h:(xB g).length<=4096):WF (dN g):=zdK (Rz hg h)
def zae{g:G}(hg:xy g)(h:(xB g).length<=4096){w:List Int}(a:fo w):cz (dN g) (kU (dN g) w)=fZ g w:=by rw[<-V8 hg.lie w];exact zan (Rz hg h) a
def zag{g:G}(h:(xB g).length<=4096):(dN g).2.1=gX (dS g NL).2.2:=by rw[ng NL NL (as_ _),A_ (by show(xB g).length<=NL;rw[V1];omega)];unfold gX;rw[bp_];refine aw_ λx _=>?_;show _=((eT g).map λc=>pos (xB g) (eW g x c)).map (fun(k:Nat)=>(k:Int));simp
abbrev NK:Type:=Bool×(Int×Unit)
def dz:Option Nat->NK
 |none=>(true,0,())
 |some b=>(false,(b:Int),())
def WI{x y:Option Nat}:dz x=dz y↔x=y:=by
 constructor
 .intro h;cases x<;>cases y;.rfl
  .cases h
  .cases h
  .rename_i a b;have e:(a:Int)=(b:Int):=by simpa[dz]using h
   grind
 grind
def R7(x y:Option Nat):hZ Ux (dz x) (dz y)=decide (x=y):=by
 have h:∀a b:NK,hZ Ux a b=decide (a=b):=by rintro⟨c,d,_⟩ ⟨e,f,_⟩;show((c==e)&&((d==f)&&true))=_;grind
 rw[h];exact decide_eq_decide.2 WI
def ND:Nat->List (Option Nat)->List (NK×Int)
 |_,[]=>[]
 |k,x::l=>(dz x,(k:Int))::ND (k+1) l
def Sr(y:Option Nat):∀(L:List (Option Nat)) (k:Nat),di Ux tI (ND k L) (dz y)=if y∈L then some (((k+pos L y:Nat):Int))else none
 |[],k=>by simp[ND,di]
 |x::L,k=>by have a:=Sr y L (k+1);simp only[ND,di];rw[R7 y x,a];grind
def Su(y:Option Nat):∀(L:List (Option Nat)) (k:Nat),y∉L->fe Ux tI (ND k L) (dz y) (((k+L.length:Nat):Int))=ND k (L++[y])
 |[],k,_=>by simp[ND,fe]
 |x::L,k,h=>by have h1:y≠x:=λe=>h (by grind);have h2:y∉L:=λe=>h (by grind);have a:=Su y L (k+1) h2;simp only[S_,ND,fe];rw[R7 y x,decide_eq_false h1];grind
def Ss:∀(L:List (Option Nat)) (k:Nat),(ND k L).length=L.length
 |[],_=>rfl
 |_::L,k=>by simp[ND,Ss L (k+1)]
def cL(l:List Nat):List Int:=l.map fun(k:Nat)=>(k:Int)
def JU(a b:List Nat):cL (a++b)=cL a++cL b:=k_
def bW(l:List Nat):(cL l).length=l.length:=r_ _
def Ac{l:List Nat}{i:Nat}(h:i<l.length):(cL l)[i]'(by rw[bW];exact h)=(l[i]:Int):=by simp[cL]
def FL{a:List Nat}{i:Nat}(h:i<a.length)(b:List Nat):ca (a.take (i+1)) b=ca (a.take i) b++ca [a[i]] b:=by unfold ca;rw[i_,a_ h,R_];rfl
structure lU(n:Nat)(F:List (List Int))(P:List (Nat×Nat)):Prop where
 len:F.length=n
 nd:∀l∈F,l.Nodup
 bd:∀l∈F,∀x∈l,0<=x/\x<(n:Int)
 mem:∀p (h:p<F.length) (q:Nat),(q:Int)∈F[p]↔(p,q)∈P
def lU.congr{n:Nat}{F:List (List Int)}{P E:List (Nat×Nat)}(h:lU n F P)(e:∀x,x∈P↔x∈E):lU n F E:=⟨h.len,h.nd,h.bd,λp hp q=>(h.mem p hp q).trans (e _)⟩
def lU.zaJ{n:Nat}{F:List (List Int)}{P:List (Nat×Nat)}(h:lU n F P){p:Nat}(hp:p<F.length):F[p].length<=n:=by
 have h1:=f5 F[p] ((d_ n).map fun(k:Nat)=>(k:Int)) (h.nd _ (b_ hp)) λx E=>by have:=h.bd _ (b_ hp) x E;exact p_.2 ⟨x.toNat,x_.2 (by omega),by omega⟩
 grind
def lU.add{n:Nat}{F:List (List Int)}{P:List (Nat×Nat)}(h:lU n F P){p q:Nat}(hp:p<F.length)(hq:q<n)(hn:(q:Int)∉F[p]):lU n (F.set p (F[p]++[(q:Int)])) (P++[(p,q)]):=by
 have E:∀l∈F.set p (F[p]++[(q:Int)]),l∈F\/l=F[p]++[(q:Int)]:=λl hl=>by grind
 refine⟨by rw[bh_,h.len],λl hl=>?_,λl hl x I=>?_,λJ N q'=>?_⟩
 .rcases E l hl with h1|rfl;.exact h.nd l h1
  .exact aV_.2 ⟨h.nd _ (b_ hp),by simp,λa U b Y=>by grind⟩
 .rcases E l hl with h1|rfl;.exact h.bd l h1 x I
  .rcases h_.1 I with h2|h2;.exact h.bd _ (b_ hp) x h2
   grind
 .have H:J<F.length:=by grind
  rw[af_];split;.simp only[h_,h.mem p hp];grind
  .simp only[h.mem J H];grind
def xt{n:Nat}{F:List (List Int)}{P:List (Nat×Nat)}(J:lU n F P)(sp:List (Int×(Int×Unit))){la fi:List Nat}(C:∀p∈la,p<n)(B:∀q∈fi,q<n)(h1:la.length<=1000000)(h2:fi.length<=1000000)(hn:n<=1000000): ∃f,lU n f (P++ca la fi)/\aA tbl 253 [.ptr 0 0,.d (.list tI) (cL la),.d (.list tI) (cL fi)] [.box 292 [.sl 1,.sl 2],.vec 296 Un sp,.tree 47 (.s 3 1 .e .e) (.list tI) F none] cC (sp,f,()):=by
 suffices h:∃c:List (Int×(Int×Unit))×List (List Int)×Unit,(∃f,c=(sp,f,())/\lU n f (P++ca la fi))/\aA tbl 253 [.ptr 0 0,.d (.list tI) (cL la),.d (.list tI) (cL fi)] [.box 292 [.sl 1,.sl 2],.vec 296 Un sp,.tree 47 (.s 3 1 .e .e) (.list tI) F none] cC c by grind
 refine PY (sh:=cC) ?_;refine ae (aI (N:=(cL la).length) (I:=λi s=>∃f,s=((i:Int),sp,f,())/\lU n f (P++ca (la.take i) fi)) ⟨F,rfl,J.congr λx=>by simp[ca]⟩ ?_ ?_)
 .rintro i s y ⟨z,rfl,k⟩;have l:i<la.length:=by rw[bW]at y;omega
  refine aO y (aB y ?_);rw[Ac l];have L:la[i]<n:=(C _ (b_ l));refine ae (aI (N:=(cL fi).length) (I:=λj s=>∃f,s=((j:Int),sp,f,())/\lU n f (P++ca (la.take i) fi++ca [la[i]] (fi.take j))) ⟨z,rfl,k.congr λx=>by simp[ca]⟩ ?_ ?_)
  .rintro j s v ⟨F2,rfl,d⟩;have r:j<fi.length:=by rw[bW]at v;omega
   have a:la[i]<F2.length:=by rw[d.len];omega
   refine aO v (ae (aB v ?_));rw[Ac r];refine aB a (ar (decide_eq_true (by simp)) ?_);refine bi (x:=F2[la[i]]) (by simp) (bi (x:=F2[la[i]]) (by simp) (ar (ay_ _) ?_));refine ae (aI (N:=F2[la[i]].length) (I:=λm s=>s=((F2[la[i]].take m).any (·==((fi[j]:Nat):Int)),(m:Int),sp,(F2,((la[i]:Nat):Int)),F2[la[i]],())) (by simp) ?_ ?_);.rintro m s u rfl;have hl:=d.zaJ a;refine aO u (aB u (bi (x:=F2[la[i]][m]) (by simp) ?_));refine ae (bf (b:=(F2[la[i]][m]==((fi[j]:Nat):Int))) (λ_=>aa rfl) (aa ?_));rw[ao u,i_,a_ u,bf_];simp
   .rintro s rfl;refine aH (aa ?_);rw[g_];have w:F2.set la[i] F2[la[i]]=F2:=List.set_getElem_self a;have e:F2[la[i]]? =some F2[la[i]]:=a_ a;have E:(K_ ((la[i]:Nat):Int))=la[i]:=by simp
    simp only[E,e_,w];refine bi (x:=F2[la[i]]) e ?_;have hl:=d.zaJ a;have g:∀A,lU n A (P++ca (la.take i) fi++ca [la[i]] (fi.take j)++[(la[i],fi[j])])->lU n A (P++ca (la.take i) fi++ca [la[i]] (fi.take (j+1))):=λA H=>H.congr λx=>by rw[i_,a_ r];simp only[ca,O_,aI_,w_,k_,E_,Q_,P_,s_]
    refine au (λh=>?_) λh=>aa (aa ⟨F2,?_,g F2 ?_⟩)
    .have D:((fi[j]:Nat):Int)∉F2[la[i]]:=λu=>by grind
     refine ar (decide_eq_true (by simp)) (bi (x:=F2[la[i]]) e (aB a (bi (x:=F2[la[i]]) e (ar (ay_ _) ?_))));refine ar (decide_eq_true (by grind)) (aB a (bi (x:=F2[la[i]]) e (ar (ay_ _) (bi (x:=F2[la[i]]) e (aa (aa ⟨_,?_,g _ (d.add a (B _ (b_ r)) D)⟩))))));rw[ao v (by rw[bW];omega)]
    .rw[ao v (by rw[bW];omega)]
    .refine d.congr λx=>?_;have u:((fi[j]:Nat):Int)∈F2[la[i]]:=by grind
     have:=(d.mem _ a fi[j]).1 u;grind
  .rintro s ⟨F2,rfl,d⟩;refine aH (aa (aa ⟨F2,?_,d.congr λx=>?_⟩));.rw[ao y (by rw[bW];omega)]
   .rw[bW,g_,FL l,s_]
 .rintro s ⟨z,rfl,k⟩;refine aH (aa (aa ⟨_,rfl,z,rfl,k.congr λx=>?_⟩));rw[bW,g_]
def xm(l:List (Int×Int)):List (Int×(Int×Unit)):=l.map λp=>(p.1,p.2,())
def Tn(a b:List (Int×Int)):xm (a++b)=xm a++xm b:=k_
def zo(l:List (Int×Int)):(xm l).length=l.length:=r_ _
def lU.one{n:Nat}{F:List (List Int)}{P:List (Nat×Nat)}(h:lU n F P)(H:∀p q,(p,q)∈P->p<n):lU (n+1) (F++[[]]) P:=by
 refine⟨by simp[h.len],λl hl=>?_,λl hl x J=>?_,λp hp q=>?_⟩
 .rcases h_.1 hl with h1|h1;.exact h.nd l h1
  grind
 .rcases h_.1 hl with h1|h1;.have:=h.bd l h1 x J;omega
  grind
 .by_cases E:p<F.length;.rw[List.getElem_append_left E];exact h.mem p E q
  .have:p=F.length:=by grind
   subst this;simp;intro I;have:=H _ _ I;have:=h.len;omega
def Jw:∀(r:Rx),cN r=true->sz r<=1000000->∀(sp:List (Int×(Int×Unit))) (F:List (List Int)) (P:List (Nat×Nat)),lU sp.length F P->(∀p q,(p,q)∈P->p<sp.length)->sp.length+cnt r<=1000000->∃f,lU (sp.length+(bO r sp.length).sp.length) f (P++(bO r sp.length).pr)/\aA tbl 217 [.ptr 0 0,.d .rx r] [.box 292 [.sl 1,.sl 2],.vec 296 Un sp,.tree 47 (.s 3 1 .e .e) (.list tI) F none] cM (cL (bO r sp.length).fi,cL (bO r sp.length).la,sp++xm (bO r sp.length).sp,f,()):=by
 refine fg λk lo up ks ih hw hs sp F P hF hP hM=>?_;obtain⟨CT,Q⟩:=rX hs;obtain⟨hn,B⟩:=eF.1 hw;have DB:=dF _ hw sp.length;have DA:=eY (.mk k lo up ks) sp.length;have hcs:cj ks<=cnt (.mk k lo up ks):=by simp only[cnt];simp
 suffices h:∃c:List Int×List Int×List (Int×(Int×Unit))×List (List Int)×Unit,(∃f,c=(cL (bO (.mk k lo up ks) sp.length).fi,cL (bO (.mk k lo up ks) sp.length).la,sp++xm (bO (.mk k lo up ks) sp.length).sp,f,())/\lU (sp.length+(bO (.mk k lo up ks) sp.length).sp.length) f (P++(bO (.mk k lo up ks) sp.length).pr))/\aA tbl 217 [.ptr 0 0,.d .rx (.mk k lo up ks)] [.box 292 [.sl 1,.sl 2],.vec 296 Un sp,.tree 47 (.s 3 1 .e .e) (.list tI) F none] cM c by
  obtain⟨c,⟨f,rfl,M⟩,hc⟩:=h
  grind
 refine PY (sh:=cM) ?_;by_cases Y:k=1\/k=2
 .have H:∀D E,bO (.mk k lo up ks) sp.length=IB sp.length D E->Wp (λ_=>(bU (decide ((sp.length+(([(D,E,())]:List (Int×(Int×Unit)))).length)*16<=140737488355328)) (bU (decide ((F.length+(([([]:List Int)]:List (List Int))).length)*24<=140737488355328)) (some ((.inr ((([f_ .i64 (((sp++(([(D,E,())]:List (Int×(Int×Unit))))).length:Int) - (1:Int))]:List Int),([f_ .i64 (((sp++(([(D,E,())]:List (Int×(Int×Unit))))).length:Int) - (1:Int))]:List Int),sp++(([(D,E,())]:List (Int×(Int×Unit)))),F++(([([]:List Int)]:List (List Int))),()))):(List (Int×(Int×Unit))×List (List Int)×List Int×List Int×Unit)⊕(List Int×List Int×List (Int×(Int×Unit))×List (List Int)×Unit)))))) λr=>∃f,r= .inr (cL (bO (.mk k lo up ks) sp.length).fi,cL (bO (.mk k lo up ks) sp.length).la,sp++xm (bO (.mk k lo up ks) sp.length).sp,f,())/\lU (sp.length+(bO (.mk k lo up ks) sp.length).sp.length) f (P++(bO (.mk k lo up ks) sp.length).pr):=λD E he=>by
   have Dg:=hF.len
   refine ar (decide_eq_true (by grind)) (ar (decide_eq_true (by grind)) (aa ⟨F++[[]],?_,?_⟩))
   .rw[he];simp only[j_,N_];rw[wrap_i64 (by simp) (by omega),show((sp.length+1:Nat):Int) - 1=(sp.length:Int) by simp];rfl
   .rw[he];simp only[IB,N_,w_];exact hF.one hP
  rcases Y with rfl|rfl;.refine ae (Wp.imp (H lo up (by simp[bO])) λr hr=>?_);obtain⟨f,rfl,M⟩:=hr;exact aa ⟨_,rfl,f,rfl,M⟩
  .have hz:=hn.zero (by simp);refine ae (Wp.imp (H lo 4294967295 (by rw[hz.1];simp[bO])) λr hr=>?_);obtain⟨f,rfl,M⟩:=hr;exact aa ⟨_,rfl,f,rfl,M⟩
 have h1:k≠1:=λe=>Y (.inl e);have h2:k≠2:=λe=>Y (.inr e);have e1:(k==(1:Int))=false:=by grind
 have e2:(k==(2:Int))=false:=by grind
 have key:∀(g:G),g.sp.length<=cnt (.mk k lo up ks)->GY sp.length g->g.fi.length<=1000000/\g.la.length<=1000000:=λg h hl=>by have:=hl.fl;have:=hl.ll;omega
 have ur:∀(g:G),GY sp.length g->∀p q,(p,q)∈P++g.pr->p<sp.length+g.sp.length:=λg hl p q h=>by
  rcases h_.1 h with h|h;.have:=hP p q h;omega
  .have:=hl.pr p q h;omega
 have ph:∀i,cj (ks.take i)<=cj ks:=λi=>by
  have:cj ks=cj (ks.take i)+cj (ks.drop i):=by rw[<-nC,an_]
  omega
 have R:∀i (h:i<ks.length),cj (ks.take i)+cnt ks[i]<=cj ks:=λi h=>by
  have e:cj (ks.take (i+1))=cj (ks.take i)+cnt ks[i]:=by rw[i_,a_ h,nC];simp[cj]
  have:=ph (i+1);omega
 have zaM:∀i,GY sp.length (cY (ks.take i) sp.length (Pl.g0 true))/\(cY (ks.take i) sp.length (Pl.g0 true)).sp.length=cj (ks.take i)/\(cY (ks.take i) sp.length (Pl.g0 true)).em=qF (ks.take i):=λi=>by
  have hl:=eY (.mk 3 0 0 (ks.take i)) sp.length;have e:bO (.mk 3 0 0 (ks.take i)) sp.length=cY (ks.take i) sp.length (Pl.g0 true):=by simp[bO]
  rw[e]at hl;refine⟨hl,?_⟩;have:∀(l:List Rx) (a:G),(∀r∈l,r∈ks)->(cY l sp.length a).sp.length=a.sp.length+cj l/\(cY l sp.length a).em=(a.em&&qF l):=by intro l;induction l with|nil=>intro a _;simp[cY,cj,qF]|cons r l qr=>intro a hl;have hr:=hl r (u_ ..);obtain⟨g1,g2⟩:=dF r (B r hr) (sp.length+a.sp.length);obtain⟨g3,g4⟩:=qr (gY a (bO r (sp.length+a.sp.length))) λx hx=>hl x (m_ _ hx);simp only[cY,g3,g4,cj,qF];simp only[gY,j_,g1,g2,Bool.and_assoc];exact⟨by omega,trivial⟩
  have:=this (ks.take i) (Pl.g0 true) λr hr=>C_ hr;simpa[Pl.g0]using this
 have Xk:∀i,GY sp.length (bZ (ks.take i) sp.length (Pl.g0 false))/\(bZ (ks.take i) sp.length (Pl.g0 false)).sp.length=cj (ks.take i):=λi=>by
  have hl:=eY (.mk 4 0 0 (ks.take i)) sp.length;have e:bO (.mk 4 0 0 (ks.take i)) sp.length=bZ (ks.take i) sp.length (Pl.g0 false):=by simp[bO]
  rw[e]at hl;refine⟨hl,?_⟩;have:∀(l:List Rx) (a:G),(∀r∈l,r∈ks)->(bZ l sp.length a).sp.length=a.sp.length+cj l:=by intro l;induction l with|nil=>intro a _;simp[bZ,cj]|cons r l qr=>intro a hl;have hr:=hl r (u_ ..);obtain⟨g1,g2⟩:=dF r (B r hr) (sp.length+a.sp.length);have g3:=qr (q6 a (bO r (sp.length+a.sp.length))) λx hx=>hl x (m_ _ hx);simp only[bZ,g3,cj];simp only[q6,j_,g1];omega
  have:=this (ks.take i) (Pl.g0 false) λr hr=>C_ hr;simpa[Pl.g0]using this
 refine ae (ae (cD (a:=(false,sp,F,())) (λ_=>?_) ?_));.show(bif (k==(1:Int))then some ((k==(1:Int)),sp,F,())else some ((k==(2:Int)),sp,F,()))=_;rw[e1,e2];rfl
 show Wp (λn=>bif (k==(3:Int))then _ else _) _;by_cases h3:k=3
 .subst h3;have eg:bO (.mk 3 lo up ks) sp.length=cY ks sp.length (Pl.g0 true):=by simp[bO]
  refine ae (aI (N:=ks.length) (I:=λi s=>∃f,s=((cY (ks.take i) sp.length (Pl.g0 true)).em,(i:Int),sp++xm (cY (ks.take i) sp.length (Pl.g0 true)).sp,f,cL (cY (ks.take i) sp.length (Pl.g0 true)).fi,cL (cY (ks.take i) sp.length (Pl.g0 true)).la,())/\lU (sp.length+(cY (ks.take i) sp.length (Pl.g0 true)).sp.length) f (P++(cY (ks.take i) sp.length (Pl.g0 true)).pr)) ⟨F,by simp[cY,Pl.g0,xm,cL],by simpa[cY,Pl.g0]using hF⟩ ?_ ?_)
  .rintro i s j ⟨T,rfl,z⟩;obtain⟨l1,l2,l3⟩:=zaM i;rw[AD j];have d:(sp++xm (cY (ks.take i) sp.length (Pl.g0 true)).sp).length=sp.length+(cY (ks.take i) sp.length (Pl.g0 true)).sp.length:=by rw[j_,zo]
   have O:=key _ (by rw[l2];have:=ph i;omega) l1;generalize cY (ks.take i) sp.length (Pl.g0 true)=a at*;have hr:=b_ j;obtain⟨w1,w2⟩:=dF ks[i] (B _ hr) (sp.length+a.sp.length);have C:=eY ks[i] (sp.length+a.sp.length);refine aO j (aB j ?_);rw[b8];have hsz:=Q _ hr;have BT:=R i j;obtain⟨F2,A,hc⟩:=ih ks[i] hr (B _ hr) (by omega) (sp++xm a.sp) T (P++a.pr) (by rw[d];omega) (by rw[d];exact ur a l1) (by omega);rw[d]at A hc;generalize bO ks[i] (sp.length+a.sp.length)=x at*;refine aj hc (aj (qf ks[i] (by omega)) ?_);have CD:=C.fl;have wr:=C.ll;obtain⟨U,At,Bx⟩:=xt A (sp++xm a.sp++xm x.sp) (la:=a.la) (fi:=x.fi) (λp hp=>by have:=l1.la p hp;omega) (λq hq=>by have:=C.fi q hq;omega) (by omega) (by omega) (by omega);refine aj Bx ?_;have v:lU (sp.length+(gY a x).sp.length) U (P++(gY a x).pr):=by simp only[gY,j_];rw[<-aF_];exact At.congr λy=>by simp
   have w:∀b:Bool,a.em=b->∀b2:Bool,x.em=b2->((b&&b2,((i+1:Nat):Int),sp++xm a.sp++xm x.sp,U,(bif b then cL a.fi++cL x.fi else cL a.fi),(bif b2 then cL a.la else [])++cL x.la,()):Bool×Int×List (Int×(Int×Unit))×List (List Int)×List Int×List Int×Unit)=((gY a x).em,((i+1:Nat):Int),sp++xm (gY a x).sp,U,cL (gY a x).fi,cL (gY a x).la,()):=λb J b2 u=>by simp only[gY,J,u,Tn,s_];cases b<;>cases b2<;>simp[JU,cL]
   rw[<-w2];show Wp (λn=>o_ (bif a.em then _ else _) _) _;cases J:a.em
   .refine ae (aa (ae (aa ?_)));cases u:x.em;.refine ae (aa (ar (decide_eq_true (by simp only[bW,ah_];omega)) (aa ⟨U,?_,v⟩)));rw[ao j];exact w false J false u
    .refine ae (aa (ar (decide_eq_true (by simp only[bW];omega)) (aa ⟨U,?_,v⟩)));rw[ao j];exact w false J true u
   .refine ae (ar (decide_eq_true (by simp only[bW];omega)) (aa (ae (aa ?_))));cases u:x.em;.refine ae (aa (ar (decide_eq_true (by simp only[bW,ah_];omega)) (aa ⟨U,?_,v⟩)));rw[ao j];exact w true J false u
    .refine ae (aa (ar (decide_eq_true (by simp only[bW];omega)) (aa ⟨U,?_,v⟩)));rw[ao j];exact w true J true u
  .rintro s ⟨T,rfl,z⟩;rw[g_]at z⊢;refine aH (aa (aa (aa ⟨_,rfl,T,?_,by rw[eg];omega⟩)));rw[eg]
 .have e3:(k==(3:Int))=false:=by simpa using h3
  rw[e3];refine ae (aI (N:=ks.length) (I:=λi s=>∃f,s=((i:Int),sp++xm (bZ (ks.take i) sp.length (Pl.g0 false)).sp,f,cL (bZ (ks.take i) sp.length (Pl.g0 false)).fi,cL (bZ (ks.take i) sp.length (Pl.g0 false)).la,())/\lU (sp.length+(bZ (ks.take i) sp.length (Pl.g0 false)).sp.length) f (P++(bZ (ks.take i) sp.length (Pl.g0 false)).pr)) ⟨F,by simp[bZ,Pl.g0,xm,cL],by simpa[bZ,Pl.g0]using hF⟩ ?_ ?_)
  .rintro i s j ⟨T,rfl,z⟩;obtain⟨l1,l2⟩:=Xk i;rw[AB j];have d:(sp++xm (bZ (ks.take i) sp.length (Pl.g0 false)).sp).length=sp.length+(bZ (ks.take i) sp.length (Pl.g0 false)).sp.length:=by rw[j_,zo]
   have O:=key _ (by rw[l2];have:=ph i;omega) l1;generalize bZ (ks.take i) sp.length (Pl.g0 false)=a at*;have hr:=b_ j;obtain⟨w1,w2⟩:=dF ks[i] (B _ hr) (sp.length+a.sp.length);have C:=eY ks[i] (sp.length+a.sp.length);refine aO j (aB j ?_);rw[b8];have hsz:=Q _ hr;have BT:=R i j;obtain⟨F2,A,hc⟩:=ih ks[i] hr (B _ hr) (by omega) (sp++xm a.sp) T (P++a.pr) (by rw[d];omega) (by rw[d];exact ur a l1) (by omega);rw[d]at A hc;generalize bO ks[i] (sp.length+a.sp.length)=x at*;have CD:=C.fl;have wr:=C.ll;refine aj hc (ar (decide_eq_true (by simp only[bW];omega)) (ar (decide_eq_true (by simp only[bW];omega)) (aa ⟨F2,?_,?_⟩)));.rw[ao j];simp only[q6,Tn,JU,s_]
   .simp only[q6,j_];rw[<-aF_];exact A.congr λy=>by simp
  .rintro s ⟨T,rfl,z⟩;obtain⟨l1,l2⟩:=Xk ks.length;rw[g_]at z l1 l2⊢;have O:=key _ (by omega) l1;refine aH (aa ?_);have gc:∀(hk:bO (.mk k lo up ks) sp.length=jl (bZ ks sp.length (Pl.g0 false))\/bO (.mk k lo up ks) sp.length=Is (jl (bZ ks sp.length (Pl.g0 false)))),(bO (.mk k lo up ks) sp.length).fi=(bZ ks sp.length (Pl.g0 false)).fi/\(bO (.mk k lo up ks) sp.length).la=(bZ ks sp.length (Pl.g0 false)).la/\(bO (.mk k lo up ks) sp.length).sp=(bZ ks sp.length (Pl.g0 false)).sp/\(bO (.mk k lo up ks) sp.length).pr=(bZ ks sp.length (Pl.g0 false)).pr++ca (bZ ks sp.length (Pl.g0 false)).la (bZ ks sp.length (Pl.g0 false)).fi:=λhk=>by rcases hk with h|h<;>rw[h]<;>exact⟨rfl,rfl,rfl,rfl⟩
   have el:∀(hk:bO (.mk k lo up ks) sp.length=bZ ks sp.length (Pl.g0 false)\/bO (.mk k lo up ks) sp.length=Is (bZ ks sp.length (Pl.g0 false))),(bO (.mk k lo up ks) sp.length).fi=(bZ ks sp.length (Pl.g0 false)).fi/\(bO (.mk k lo up ks) sp.length).la=(bZ ks sp.length (Pl.g0 false)).la/\(bO (.mk k lo up ks) sp.length).sp=(bZ ks sp.length (Pl.g0 false)).sp/\(bO (.mk k lo up ks) sp.length).pr=(bZ ks sp.length (Pl.g0 false)).pr:=λhk=>by rcases hk with h|h<;>rw[h]<;>exact⟨rfl,rfl,rfl,rfl⟩
   by_cases L:k=5\/k=6
   .have J:(bif (k==(5:Int))then some true else some (k==(6:Int)))=some true:=by rcases L with rfl|rfl<;>rfl
    refine ae (cD (a:=true) (λ_=>J) ?_);obtain⟨q1,q2,q3,q4⟩:=gc (by
     rcases L with rfl|rfl;.exact .inr (by simp[bO])
     .exact .inl (by simp[bO]))
    obtain⟨F2,A,Bk⟩:=xt z (sp++xm (bZ ks sp.length (Pl.g0 false)).sp) (la:=(bZ ks sp.length (Pl.g0 false)).la) (fi:=(bZ ks sp.length (Pl.g0 false)).fi) (λp hp=>by have:=l1.la p hp;omega) (λq hq=>by have:=l1.fi q hq;omega) O.2 O.1 (by omega);refine aj Bk (aa (aa ⟨_,rfl,F2,?_,?_⟩));.rw[q1,q2,q3]
    .rw[q3,q4,<-s_];omega
   .have h5:k≠5:=λe=>L (.inl e);have h6:k≠6:=λe=>L (.inr e);have J:(bif (k==(5:Int))then some true else some (k==(6:Int)))=some false:=by rw[show(k==(5:Int))=false by simpa using h5,show(k==(6:Int))=false by simpa using h6];rfl
    refine ae (cD (a:=false) (λ_=>J) ?_);obtain⟨q1,q2,q3,q4⟩:=el (by
     rcases hn.known with rfl|rfl|rfl|rfl|rfl|rfl|rfl|rfl;.have:=len_nil (hn.leaf (by simp));subst this;exact .inr (by simp[bO,bZ,Pl.g0,Is])
     .omega
     .omega
     .omega
     .exact .inl (by simp[bO])
     .omega
     .omega
     .exact .inr (by simp[bO]))
    refine aa (aa ⟨_,rfl,T,?_,?_⟩);.rw[q1,q2,q3]
    .rw[q3,q4];omega
def zaM{ks:List Rx}(b:∀r∈ks,cN r=true)(o i:Nat):GY o (cY (ks.take i) o (Pl.g0 true))/\(cY (ks.take i) o (Pl.g0 true)).sp.length=cj (ks.take i):=by
 have hl:=eY (.mk 3 0 0 (ks.take i)) o;refine⟨hl,?_⟩;have:∀(l:List Rx) (a:G),(∀r∈l,r∈ks)->(cY l o a).sp.length=a.sp.length+cj l:=by intro l;induction l with|nil=>intro a _;simp[cY,cj]|cons r l c=>intro a hl;have hr:=hl r (u_ ..);obtain⟨e,f⟩:=dF r (b r hr) (o+a.sp.length);simp only[cY,(c (gY a (bO r (o+a.sp.length))) λx d=>hl x (m_ _ d)),cj];simp only[gY,j_];omega
 have:=this (ks.take i) (Pl.g0 true) λr hr=>C_ hr;simpa[Pl.g0]using this
def Xk{ks:List Rx}(b:∀r∈ks,cN r=true)(o i:Nat):GY o (bZ (ks.take i) o (Pl.g0 false))/\(bZ (ks.take i) o (Pl.g0 false)).sp.length=cj (ks.take i):=by
 have hl:=eY (.mk 4 0 0 (ks.take i)) o;refine⟨hl,?_⟩;have:∀(l:List Rx) (a:G),(∀r∈l,r∈ks)->(bZ l o a).sp.length=a.sp.length+cj l:=by intro l;induction l with|nil=>intro a _;simp[bZ,cj]|cons r l c=>intro a hl;have hr:=hl r (u_ ..);obtain⟨e,f⟩:=dF r (b r hr) (o+a.sp.length);simp only[bZ,(c (q6 a (bO r (o+a.sp.length))) λx d=>hl x (m_ _ d)),cj];simp only[q6,j_];omega
 have:=this (ks.take i) (Pl.g0 false) λr hr=>C_ hr;simpa[Pl.g0]using this
def J0(ks:List Rx)(i:Nat):cj (ks.take i)<=cj ks:=by
 have:cj ks=cj (ks.take i)+cj (ks.drop i):=by rw[<-nC,an_]
 omega
def mP{ks:List Rx}{i:Nat}(h:i<ks.length):cj (ks.take i)+cnt ks[i]<=cj ks:=by
 have e:cj (ks.take (i+1))=cj (ks.take i)+cnt ks[i]:=by rw[i_,a_ h,nC];simp[cj]
 have:=J0 ks (i+1);omega
def HT{a b:Nat}(c:a<2^64)(d:b<2^64):kh .u64 .or (a:Int) (b:Int)=((a|||b:Nat):Int):=by show IntKind.u64.wrap ((BitVec.ofNat 64 a|||BitVec.ofNat 64 b).toNat:Int)=_;rw[BitVec.toNat_or,BitVec.toNat_ofNat,BitVec.toNat_ofNat,aq_ c,aq_ d,wrap_u64];have:=zd2 c d;omega
def Wj{a b:Nat}(c:a<2^64)(d:b<2^64):kh .u64 .and (a:Int) (b:Int)=((a&&&b:Nat):Int):=by show IntKind.u64.wrap ((BitVec.ofNat 64 a&&&BitVec.ofNat 64 b).toNat:Int)=_;rw[BitVec.toNat_and,BitVec.toNat_ofNat,BitVec.toNat_ofNat,aq_ c,aq_ d,wrap_u64];have:a&&&b<2^64:=ai_ aJ_ c;omega
def zee{i:Nat}(a:i<64):min (K_ (f_ .u64 (i:Int))) (ae_ .u64)=i:=by rw[wrap_u64];show min _ 64=i;omega
def zbz{i:Nat}(a:i<64):f_ .u64 ((1:Int)*2^(min (K_ (f_ .u64 (i:Int))) (ae_ .u64)))=((2^i:Nat):Int):=by rw[zee a,wrap_u64];have h1:2^i<2^64:=aP_ (by simp) a;grind
def Y4{a i:Nat}(c:a<2^64)(d:i<64):(kh .u64 .and (bm_ (a:Int) (2^(min (K_ (f_ .u64 (i:Int))) (ae_ .u64)))) (1:Int)==(1:Int))=a.testBit i:=by rw[zee d];have e:=Wj (a:=a/2^i) (b:=1) (ai_ (Nat.div_le_self _ _) c) (by simp);grind
def gp(P:List (Nat×Nat))(n:Nat):List Int:=(d_ n).map λi=>((bK (CL P i):Nat):Int)
def nO(P:List (Nat×Nat))(n:Nat):(gp P n).length=n:=by simp[gp]
def nN{P:List (Nat×Nat)}{n i:Nat}(h:i<(gp P n).length):(gp P n)[i]=((bK (CL P i):Nat):Int):=by simp[gp]
def DU{a b:List Nat}(h:∀x,x∈a↔x∈b):bK a=bK b:=by refine Nat.eq_of_testBit_eq λi=>?_;rw[cW,cW];grind
def wH{P a:List (Nat×Nat)}{n:Nat}(h:∀i,i<n->∀q,(i,q)∈P↔(i,q)∈a):gp P n=gp a n:=by
 refine aw_ λi b=>?_;have e:bK (CL P i)=bK (CL a i):=DU λq=>by rw[jx,jx];grind
 rw[e]
def zbF{P:List (Nat×Nat)}{n:Nat}(a:∀p q,(p,q)∈P->q<n)(hn:n<=64)(i:Nat):bK (CL P i)<2^64:=fv λq b=>by have:=a _ _ (jx.1 b);omega
def WX{P:List (Nat×Nat)}{n i:Nat}(b:i<n)(fi:List Nat):(gp P n).set i ((bK (CL P i)|||bK fi:Nat):Int)=gp (P++ca [i] fi) n:=by
 refine F_ (by simp[gp]) λj h1 h2=>?_;rw[af_];split
 .rename_i e;subst e;have e:bK (CL P i++fi)=bK (CL (P++ca [i] fi) i):=DU λq=>by rw[h_,jx,jx,h_,jY];simp
  rw[<-xH,e,nN]
 .have a:bK (CL P j)=bK (CL (P++ca [i] fi) j):=DU λq=>by rw[jx,jx,h_,jY];grind
  rw[nN,nN,a]
def H7(x y:Int)(lo a F:List Int)(h1:lo.length<64)(h2:a.length<64)(b:F.length<64):aA tbl 267 [.ptr 0 0,.d tI x,.d tI y] [.box 323 [.sl 1,.sl 2,.sl 3],.vec 3 tI lo,.vec 3 tI a,.vec 324 tQ F] cw ((((2^lo.length:Nat):Int),((2^lo.length:Nat):Int),false,()),lo++[x],a++[y],F++[0],()):=by refine bN ?_;rw[zbz h1];refine ar (decide_eq_true (by rw[wrap_u64];omega)) (ar (decide_eq_true ?_) (ar (decide_eq_true ?_) (ar (decide_eq_true ?_) (aa rfl))));all_goals grind
def vV{n:Nat}(P:List (Nat×Nat))(lo up:List Int){la fi:List Nat}(w:∀p q,(p,q)∈P->q<n)(u:∀p∈la,p<n)(g:∀q∈fi,q<n)(hn:n<=64): aA tbl 268 [.ptr 0 0,.d tQ ((bK la:Nat):Int),.d tQ ((bK fi:Nat):Int)] [.box 323 [.sl 1,.sl 2,.sl 3],.vec 3 tI lo,.vec 3 tI up,.vec 324 tQ (gp P n)] fK (lo,up,gp (P++ca la fi) n,()):=by
 refine bN ?_;refine ae (aI (N:=(gp P n).length) (I:=λi s=>s=((i:Int),lo,up,gp (P++ca (la.filter λp=>decide (p<i)) fi) n,())) ?_ ?_ ?_)
 .have:(la.filter λp=>decide (p<0))=[]:=by simp
  rw[this];simp[ca]
 .rintro i s f rfl;rw[nO]at f;refine aO (by rw[nO];omega) (ae ?_);have key:∀b:Bool,(bK la).testBit i=b->(gp (P++ca (la.filter λp=>decide (p<i)) fi) n).set i (bif b then((bK (CL (P++ca (la.filter λp=>decide (p<i)) fi) i)|||bK fi:Nat):Int)else((bK (CL (P++ca (la.filter λp=>decide (p<i)) fi) i):Nat):Int))=gp (P++ca (la.filter λp=>decide (p<i+1)) fi) n:=λb r=>by
   rw[cW]at r;cases b with
   |true=>rw[cond_true,WX f];refine wH λj k q=>?_;simp only[h_,jY];grind|false=>
    rw[cond_false];have:(gp (P++ca (la.filter λp=>decide (p<i)) fi) n).set i ((bK (CL (P++ca (la.filter λp=>decide (p<i)) fi) i):Nat):Int)=gp (P++ca (la.filter λp=>decide (p<i)) fi) n:=by
     refine F_ (by simp) λj h1 h2=>?_;rw[af_];split;.rename_i e;subst e;rw[nN]
     simp
    rw[this];refine wH λj k q=>?_;simp only[h_,jY];grind
  have v:∀p q,(p,q)∈P++ca (la.filter λp=>decide (p<i)) fi->q<n:=λp q h=>by
   rcases h_.1 h with h|h;.grind
   .exact g q (jY.1 h).2
  generalize l:P++ca (la.filter λp=>decide (p<i)) fi=c at*;refine ar (decide_eq_true (by rw[wrap_u64];omega)) ?_;rw[Y4 (fv λp hp=>by grind) (by omega)];have a:i<(gp c n).length:=by rw[nO];omega
  refine au (λh=>?_) λh=>aa (aa ?_);.refine aB a (bi (x:=(gp c n)[i]) (by simp) (aB a (bi (x:=(gp c n)[i]) (by simp) (aa (aa ?_)))));have d:=key true h;rw[cond_true]at d;rw[nN,HT (zbF v hn i) (fv λp hp=>by grind),e_,d,ao f]
  .have d:=key false h;rw[cond_false]at d;have:(gp c n).set i ((bK (CL c i):Nat):Int)=gp c n:=by
    refine F_ (by simp) λj h1 h2=>?_;rw[af_];split;.rename_i e;subst e;rw[nN]
    simp
   rw[this]at d;rw[d,ao f]
 .rintro s rfl;refine aH (aa (aa ?_));rw[nO];have:gp (P++ca (la.filter λp=>decide (p<n)) fi) n=gp (P++ca la fi) n:=wH λj k q=>by simp only[h_,jY];grind
  grind
def Pm:∀(r:Rx),cN r=true->sz r<=1000000->∀(lo f:List Int) (P:List (Nat×Nat)),f.length=lo.length->(∀p q,(p,q)∈P->p<lo.length/\q<lo.length)->lo.length+cnt r<=64->aA tbl 237 [.ptr 0 0,.d .rx r] [.box 323 [.sl 1,.sl 2,.sl 3],.vec 3 tI lo,.vec 3 tI f,.vec 324 tQ (gp P lo.length)] cw ((((bK (bO r lo.length).fi:Nat):Int),((bK (bO r lo.length).la:Nat):Int),(bO r lo.length).em,()),lo++(bO r lo.length).sp.map (·.1),f++(bO r lo.length).sp.map (·.2),gp (P++(bO r lo.length).pr) (lo.length+(bO r lo.length).sp.length),()):=by
 refine fg λk F up ks O hw hs lo f P z C L=>?_;obtain⟨Y,g⟩:=rX hs;obtain⟨hn,e⟩:=eF.1 hw;have hcs:cj ks<=cnt (.mk k F up ks):=by simp only[cnt];simp
 refine bN ?_;have one:gp P lo.length++[0]=gp P (lo.length+1):=by
  unfold gp;rw[L_,k_];have:CL P lo.length=[]:=by refine List.eq_nil_iff_forall_not_mem.2 λq E=>?_;have:=(C _ _ (jx.1 E)).1;omega
  simp[this,bK]
 have U:bK [lo.length]=2^lo.length:=by simp[bK]
 rcases hn.known with rfl|rfl|rfl|rfl|rfl|rfl|rfl|rfl;.have:=len_nil (hn.leaf (by simp));subst this;refine cD (a:=some (gq cw (((0:Int),(0:Int),true,()),lo,f,gp P lo.length,()))) (λ_=>rfl) ?_;simp[bO,Pl.g0,bK]
 .have:=len_nil (hn.leaf (by simp));subst this;have D:lo.length<64:=by simp[cnt,cj]at L;omega
  refine aD rfl (aj (H7 F up lo f _ D (by omega) (by rw[nO];omega)) (aa ?_));rw[one];simp[bO,IB,U]
 .have:=len_nil (hn.leaf (by simp));subst this;have D:lo.length<64:=by simp[cnt,cj]at L;omega
  refine ak rfl (aD rfl (aj (H7 0 4294967295 lo f _ D (by omega) (by rw[nO];omega)) (aa ?_)));rw[one];simp[bO,IB,U]
 .have A:bO (.mk 3 F up ks) lo.length=cY ks lo.length (Pl.g0 true):=by simp[bO]
  rw[A];refine ak rfl (ak rfl (aD rfl ?_));refine ae (aI (N:=ks.length) (I:=λi s=>s=((i:Int),lo++(cY (ks.take i) lo.length (Pl.g0 true)).sp.map (·.1),f++(cY (ks.take i) lo.length (Pl.g0 true)).sp.map (·.2),gp (P++(cY (ks.take i) lo.length (Pl.g0 true)).pr) (lo.length+(cY (ks.take i) lo.length (Pl.g0 true)).sp.length),(0:Int),(0:Int),false,((bK (cY (ks.take i) lo.length (Pl.g0 true)).fi:Nat):Int),((bK (cY (ks.take i) lo.length (Pl.g0 true)).la:Nat):Int),(cY (ks.take i) lo.length (Pl.g0 true)).em,())) (by simp[cY,Pl.g0,bK]) ?_ ?_)
  .rintro i s c rfl;obtain⟨l1,l2⟩:=zaM e lo.length i;rw[AD c];have T:=mP c;generalize cY (ks.take i) lo.length (Pl.g0 true)=a at*;have hr:=b_ c;obtain⟨w1,w2⟩:=dF ks[i] (e _ hr) (lo.length+a.sp.length);have d:=eY ks[i] (lo.length+a.sp.length);refine aO c (aB c ?_);rw[b8];have hsz:=g _ hr;have B:∀p q,(p,q)∈P++a.pr->p<lo.length+a.sp.length/\q<lo.length+a.sp.length:=λp q h=>by
    rcases h_.1 h with h|h;.have:=C p q h;omega
    .have:=l1.pr p q h;omega
   have hc:=O ks[i] hr (e _ hr) (by omega) (lo++a.sp.map (·.1)) (f++a.sp.map (·.2)) (P++a.pr) (by simp[z]) (by simpa using B) (by simp;omega);rw[show(lo++a.sp.map (·.1)).length=lo.length+a.sp.length by simp]at hc;generalize bO ks[i] (lo.length+a.sp.length)=x at*;have M:lo.length+a.sp.length+x.sp.length<=64:=by omega
   refine aj hc (aj (vV (n:=lo.length+a.sp.length+x.sp.length) (P++a.pr++x.pr) _ _ (la:=a.la) (fi:=x.fi) (λp q h=>?_) (λp hp=>by have:=l1.la p hp;omega) (λq E=>by have:=d.fi q E;omega) M) ?_)
   .rcases h_.1 h with h|h;.have:=B p q h;omega
    .have:=d.pr p q h;omega
   have Q:bK a.fi<2^64:=fv λp hp=>by have:=l1.fi p hp;omega
   have R:bK x.fi<2^64:=fv λp hp=>by have:=d.fi p hp;omega
   have l:bK a.la<2^64:=fv λp hp=>by have:=l1.la p hp;omega
   have u:bK x.la<2^64:=fv λp hp=>by have:=d.la p hp;omega
   dsimp only;rw[HT Q R];have j:∀b:Bool,a.em=b->∀J:Bool,x.em=J->((((i+1:Nat):Int),lo++a.sp.map (·.1)++x.sp.map (·.1),f++a.sp.map (·.2)++x.sp.map (·.2),gp (P++a.pr++x.pr++ca a.la x.fi) (lo.length+a.sp.length+x.sp.length),(0:Int),(0:Int),false,(bif b then((bK a.fi|||bK x.fi:Nat):Int)else((bK a.fi:Nat):Int)),(bif J then((bK a.la|||bK x.la:Nat):Int)else((bK x.la:Nat):Int)),b&&J,()):Int×List Int×List Int×List Int×Int×Int×Bool×Int×Int×Bool×Unit)=(((i+1:Nat):Int),lo++(gY a x).sp.map (·.1),f++(gY a x).sp.map (·.2),gp (P++(gY a x).pr) (lo.length+(gY a x).sp.length),(0:Int),(0:Int),false,((bK (gY a x).fi:Nat):Int),((bK (gY a x).la:Nat):Int),(gY a x).em,()):=λb H J v=>by simp only[gY,H,v,k_,s_,j_,aF_];cases b<;>cases J<;>simp[xH]
   cases H:a.em<;>cases v:x.em;.simp only[cond_false,cond_true];refine ae (aa ?_);simp only[cond_false,cond_true];refine ae (aa (ae (aa (aa ?_))));rw[ao c];have y:=j false H false v;simp only[cond_false,cond_true]at y;simp only[HT l u];exact y
   .simp only[cond_false,cond_true];refine ae (aa ?_);simp only[cond_false,cond_true];refine ae (aa (ae (aa (aa ?_))));rw[ao c];have y:=j false H true v;simp only[cond_false,cond_true]at y;simp only[HT l u];exact y
   .simp only[cond_false,cond_true];refine ae (aa ?_);simp only[cond_false,cond_true];refine ae (aa (ae (aa (aa ?_))));rw[ao c];have y:=j true H false v;simp only[cond_false,cond_true]at y;simp only[HT l u];exact y
   .simp only[cond_false,cond_true];refine ae (aa ?_);simp only[cond_false,cond_true];refine ae (aa (ae (aa (aa ?_))));rw[ao c];have y:=j true H true v;simp only[cond_false,cond_true]at y;simp only[HT l u];exact y
  .rintro s rfl;refine aH (aa (aa ?_));simp
 .have A:bO (.mk 4 F up ks) lo.length=bZ ks lo.length (Pl.g0 false):=by simp[bO]
  rw[A];refine ak rfl (ak rfl (ak rfl (aD rfl ?_)));refine ae (aI (N:=ks.length) (I:=λi s=>s=((i:Int),lo++(bZ (ks.take i) lo.length (Pl.g0 false)).sp.map (·.1),f++(bZ (ks.take i) lo.length (Pl.g0 false)).sp.map (·.2),gp (P++(bZ (ks.take i) lo.length (Pl.g0 false)).pr) (lo.length+(bZ (ks.take i) lo.length (Pl.g0 false)).sp.length),(0:Int),(0:Int),false,((bK (bZ (ks.take i) lo.length (Pl.g0 false)).fi:Nat):Int),((bK (bZ (ks.take i) lo.length (Pl.g0 false)).la:Nat):Int),(bZ (ks.take i) lo.length (Pl.g0 false)).em,())) (by simp[bZ,Pl.g0,bK]) ?_ ?_)
  .rintro i s c rfl;obtain⟨l1,l2⟩:=Xk e lo.length i;rw[AB c];have T:=mP c;generalize bZ (ks.take i) lo.length (Pl.g0 false)=a at*;have hr:=b_ c;obtain⟨w1,w2⟩:=dF ks[i] (e _ hr) (lo.length+a.sp.length);have d:=eY ks[i] (lo.length+a.sp.length);refine aO c (aB c ?_);rw[b8];have hsz:=g _ hr;have B:∀p q,(p,q)∈P++a.pr->p<lo.length+a.sp.length/\q<lo.length+a.sp.length:=λp q h=>by
    rcases h_.1 h with h|h;.have:=C p q h;omega
    .have:=l1.pr p q h;omega
   have hc:=O ks[i] hr (e _ hr) (by omega) (lo++a.sp.map (·.1)) (f++a.sp.map (·.2)) (P++a.pr) (by simp[z]) (by simpa using B) (by simp;omega);rw[show(lo++a.sp.map (·.1)).length=lo.length+a.sp.length by simp]at hc;generalize bO ks[i] (lo.length+a.sp.length)=x at*;have Q:bK a.fi<2^64:=fv λp hp=>by have:=l1.fi p hp;omega
   have R:bK x.fi<2^64:=fv λp hp=>by have:=d.fi p hp;omega
   have l:bK a.la<2^64:=fv λp hp=>by have:=l1.la p hp;omega
   have u:bK x.la<2^64:=fv λp hp=>by have:=d.la p hp;omega
   refine aj hc ?_;dsimp only;rw[HT Q R,HT l u];refine ae (bf (b:=x.em) (λ_=>aa rfl) (aa ?_));rw[ao c];simp only[q6,k_,xH,s_,j_,aF_]
  .rintro s rfl;refine aH (aa (aa ?_));simp
 .obtain⟨x,rfl⟩:=iq (hn.one (by simp));have hr:x∈[x]:=v_.2 rfl;have hsz:=g _ hr;have w:lo.length+cnt x<=64:=by simp only[cj]at hcs;omega
  have hc:=O x hr (e _ hr) (by omega) lo f P z C w;have d:=eY x lo.length;obtain⟨w1,w2⟩:=dF x (e _ hr) lo.length;have A:bO (.mk 5 F up [x]) lo.length=if(5:Int)=5 then Is (jl (bO x lo.length))else jl (bO x lo.length):=rfl;rw[A];refine ak rfl (ak rfl (ak rfl (ak rfl (ae ?_))));refine cD (a:=((5:Int)==5||true,lo,f,gp P lo.length,(0:Int),(0:Int),false,())) (λ_=>rfl) ?_;refine aD rfl (bX (by simp) rfl (aj hc (aj (vV (n:=lo.length+(bO x lo.length).sp.length) (P++(bO x lo.length).pr) _ _ (la:=(bO x lo.length).la) (fi:=(bO x lo.length).fi) (λp q h=>?_) (λp hp=>by have:=d.la p hp;omega) (λq E=>by have:=d.fi q E;omega) (by omega)) (ae (bf (b:=(5:Int)==5) (λ_=>aa rfl) (aa ?_))))))
  .rcases h_.1 h with h|h;.have:=C p q h;omega
   .have:=d.pr p q h;omega
  .simp[Is,jl]
 .obtain⟨x,rfl⟩:=iq (hn.one (by simp));have hr:x∈[x]:=v_.2 rfl;have hsz:=g _ hr;have w:lo.length+cnt x<=64:=by simp only[cj]at hcs;omega
  have hc:=O x hr (e _ hr) (by omega) lo f P z C w;have d:=eY x lo.length;obtain⟨w1,w2⟩:=dF x (e _ hr) lo.length;have A:bO (.mk 6 F up [x]) lo.length=if(6:Int)=5 then Is (jl (bO x lo.length))else jl (bO x lo.length):=rfl;rw[A];refine ak rfl (ak rfl (ak rfl (ak rfl (ae ?_))));refine cD (a:=((6:Int)==5||true,lo,f,gp P lo.length,(0:Int),(0:Int),false,())) (λ_=>rfl) ?_;refine aD rfl (bX (by simp) rfl (aj hc (aj (vV (n:=lo.length+(bO x lo.length).sp.length) (P++(bO x lo.length).pr) _ _ (la:=(bO x lo.length).la) (fi:=(bO x lo.length).fi) (λp q h=>?_) (λp hp=>by have:=d.la p hp;omega) (λq E=>by have:=d.fi q E;omega) (by omega)) (ae (bf (b:=(6:Int)==5) (λ_=>aa rfl) (aa ?_))))))
  .rcases h_.1 h with h|h;.have:=C p q h;omega
   .have:=d.pr p q h;omega
  .simp[Is,jl]
 .obtain⟨x,rfl⟩:=iq (hn.one (by simp));have hr:x∈[x]:=v_.2 rfl;have hsz:=g _ hr;have w:lo.length+cnt x<=64:=by simp only[cj]at hcs;omega
  have hc:=O x hr (e _ hr) (by omega) lo f P z C w;have A:bO (.mk 7 F up [x]) lo.length=Is (bO x lo.length):=rfl;rw[A];refine ak rfl (ak rfl (ak rfl (ak rfl (ae ?_))));refine cD (a:=(false,lo,f,gp P lo.length,(0:Int),(0:Int),false,())) (λ_=>rfl) ?_;refine ak rfl (aD rfl (bX (by simp) rfl (aj hc (aa ?_))));simp[Is]
def xq(x:PR):aA tbl 242 [.d Un x] [] ap (false,()):=crZ
noncomputable def vB(a b:DF):Bool×List Int×List PR×List Int×List Int×List (List Int)×Unit:=
 match vK a b (Lo 4096) (a.2.1.length*b.2.1.length)with
 | .inl S=>Be a b false S
 | .inr S=>Be a b true S
def o8{a b:DF}(n:Good a)(p:Good b):aA tbl 241 [.d Ud a,.d Ud b,.d tI (4096:Int),.HQ JH []] [] i7 (vB a b):=by
 refine bN ?_;have qr:=fz n;have ur:=fz p;have hB:=SU n p;have hk:=E9 n p;refine aj (sR a.1 b.1 (Gi n.dt) (Gi p.dt) (by omega) (by omega)) ?_;refine bX (x:=gM a b) (by simp) rfl (bi (x:=gM a b) rfl (ar rfl ?_));refine bX (x:=gM a b) (by simp) rfl (bi (x:=gM a b) rfl (aj (xq _) ?_));refine au (λh=>by grind) λ_=>?_;refine ae (Go.Ev.wp_loop (λs=>∃i S,s=zah a b i S/\vK a b (Lo 4096) i= .inl S/\i<=S.1.length) (λs=>a.2.1.length*b.2.1.length - s.1.toNat) ⟨0,([gM a b],[],[]),rfl,rfl,by simp⟩ ?_);rintro s ⟨i,S,rfl,Y,ph⟩;have gc:S=jC a b i:=((iB i).1 S Y).1;subst gc;have v:OkP a b (jC a b i).1 (jC a b i).2.1:=eX i;have D:=De n p v;have Bk:=YD (a:=a) (b:=b) i;simp only[zah];refine au (λh=>?_) λh=>?_
 .have z:i<(jC a b i).1.length:=by grind
  have hx:=a_ z;refine ar (Ft (by omega)) (ae (Wp.imp (Q:=λr=>match kW (kH (Lo 4096) (d6 a b) (jC a b i).1[i] i) ((jC a b i).1,(jC a b i).2.1,[]) (dh a b)with
   | .inl g=>r= .inr (dh a b,g.1,tL g.2.1,Wt g.2.1,gX (jC a b i).2.2,kw 0 g.1,g.2.2.map (fun(k:Nat)=>(k:Int)),())/\OkP a b g.1 g.2.1/\g.2.2.length=(dh a b).length
   | .inr g=>r= .inl (true,dh a b,g.1,tL g.2,Wt g.2,gX (jC a b i).2.2,())) ?_ λr hr=>?_))
  .have h:=v;clear v D Y Bk ph;generalize(jC a b i).1[i]=x at hx⊢;clear z;generalize(jC a b i).2.2=R;generalize(jC a b i).2.1=T at h⊢;generalize(jC a b i).1=L at h hx⊢;have hk:=E9 n p;have hB:=SU n p;have qr:=fz n;have ur:=fz p;refine O6 (xs:=dh a b) (f:=kH (Lo 4096) (d6 a b) x i) (s0:=(L,T,[])) (Inv:=λj st=>OkP a b st.1 st.2.1/\L<+:st.1/\st.2.2.length=j) (enc:=λj st=>((j:Int),dh a b,st.1,tL st.2.1,Wt st.2.1,gX R,kw 0 st.1,kT (dh a b).length st.2.2,())) (oE:=λst=>.inr (dh a b,st.1,tL st.2.1,Wt st.2.1,gX R,kw 0 st.1,kT (dh a b).length st.2.2,())) (oB:=λr=>.inl (true,dh a b,r.1,tL r.2,Wt r.2,gX R,())) ⟨h,ba_ _,rfl⟩ (λj C st O=>?_) (λst O=>?_) (λr hr hs=>?_)
   .obtain⟨l,w,c⟩:=st;obtain⟨B,J,M⟩:=O;simp only at B J M;subst M;have A:=y5 J hx;have z:=(q_.1 A).1;have BT:=(q_.1 A).2;have u:=XV n p B A;have D:=De n p B;have P:=(ly n p _ (b_ C)).1;have hT:w.length<l.length:=by have:=B.len;omega
    obtain⟨p1,p2,p3,p4⟩:=qL n u.1.1 u.1.2 P;obtain⟨r1,r2,r3,r4⟩:=qL p u.2.1 u.2.2 P;simp only[zah];refine aO C (aB C (aB z (bi (x:=x) (by grind) ?_)));refine bM u.1.1 p1 (aj (qS a.1 _ n.dt (by omega) P) (aB p2 ?_));refine aB z (bi (x:=x) (by grind) (bM u.2.1 r1 (aj (qS b.1 _ p.dt (by omega) P) (aB r2 ?_))));rw[p3,r3];have H:((eN a x.1 (dh a b)[c.length],eN b x.2.1 (dh a b)[c.length],()):PR)=d6 a b x (dh a b)[c.length]:=rfl;simp only[H];generalize U:d6 a b x (dh a b)[c.length]=y;have Bx:PIn a b y:=by rw[<-U];exact Gk n p P u
    have I:=E6 y l 0;have N:c.length<(kT (dh a b).length c).length:=by unfold kT;grind
    by_cases E:y∈l;.rw[if_pos E]at I;have e:kH (Lo 4096) (d6 a b) x i (l,w,c) (dh a b)[c.length]= .inl (l,w,c++[pos l y]):=Ov U E;rw[e];refine ae (au (λhc=>by grind) λ_=>aa ?_);refine aB N (bi (x:=(kT (dh a b).length c)[c.length]) (by simp) (aa ?_));refine⟨⟨B,J,by simp⟩,?_⟩;rw[I,ao C];simp only[U_,e_,ag_];rw[t7 C]
    .rw[if_neg E]at I;have v:OkP a b (l++[y]) (w++[(i,(dh a b)[c.length])]):=by rw[<-U]at E⊢;exact B.add A (b_ C) E
     have wr:=De n p v;simp only[j_,N_]at wr;have F:=E7 y l 0 E;simp only[ag_]at F;have ef:tL (w++[(i,(dh a b)[c.length])])=tL w++[(i:Int)]:=by simp[tL]
     have eb:Wt (w++[(i,(dh a b)[c.length])])=Wt w++[(dh a b)[c.length]]:=by simp[Wt]
     refine ae (au (λ_=>?_) λhc=>by grind);refine ar (decide_eq_true (by rw[E5];simp only[maxLen];omega)) ?_;refine ar (decide_eq_true (by grind)) (ar (decide_eq_true (by simp[tL];omega)) (ar (decide_eq_true (by simp[Wt];omega)) ?_));refine ae (bf (b:=false) (λ_=>aj (xq y) (aa rfl)) ?_);rw[bn_];refine au (λhd=>aa ?_) λhd=>aa ?_
     .have hd:Lo 4096 l y=true:=by grind
      have e:kH (Lo 4096) (d6 a b) x i (l,w,c) (dh a b)[c.length]= .inr (l++[y],w++[(i,(dh a b)[c.length])]):=I6 U E hd;rw[e];refine aa ?_;grind
     .have hd:Lo 4096 l y=false:=by grind
      have e:kH (Lo 4096) (d6 a b) x i (l,w,c) (dh a b)[c.length]= .inl (l++[y],w++[(i,(dh a b)[c.length])],c++[l.length]):=Ow U E hd;rw[e];refine aB N (bi (x:=(kT (dh a b).length c)[c.length]) (by simp) (aa ?_));refine⟨⟨v,J.trans (aC_ _ _),by simp⟩,?_⟩;rw[ao C,ef,eb];simp only[e_];rw[t7 C,F]
   .exact aH (aa rfl)
   .rw[Ky]at hr;rw[hr];cases r with
    |inl st=>obtain⟨B,J,M⟩:=hs st rfl;refine⟨?_,B,M⟩;simp only[kT,M,az_,ax_,w_]
    |inr r=>rfl
  have d:vK a b (Lo 4096) (i+1)=match kW (kH (Lo 4096) (d6 a b) (jC a b i).1[i] i) ((jC a b i).1,(jC a b i).2.1,[]) (dh a b)with
   | .inl r=>.inl (r.1,r.2.1,(jC a b i).2.2++[r.2.2])
   | .inr r=>.inr (r.1,r.2,(jC a b i).2.2):=by
   have el:ji (d6 a b) (gM a b) (dh a b) (Lo 4096) i= .inl (jC a b i):=Y
   simp only[vK,ji,el,hx]
   grind
  cases hf:kW (kH (Lo 4096) (d6 a b) (jC a b i).1[i] i) ((jC a b i).1,(jC a b i).2.1,[]) (dh a b)with
  |inl g=>
   rw[hf]at hr d;obtain⟨rfl,h2,h3⟩:=hr;refine ar (decide_eq_true (by simp[gX];omega)) (aa ?_);have hp:=(nH (f:=d6 a b) (s0:=gM a b) (ls:=dh a b) i).1;rw[<-(((iB (i+1)).1 _ d).1)]at hp;have At:(jC a b i).1.length<=g.1.length:=hp.length_le;refine⟨⟨i+1,(g.1,g.2.1,(jC a b i).2.2++[g.2.2]),?_,d,B_ z At⟩,?_⟩;.simp only[zah,gX,k_,Q_,P_];rw[ao z]
   .rw[ao z];omega
  |inr g=>rw[hf]at hr d;subst hr;refine aa (aa ?_);have he:vK a b (Lo 4096) (a.2.1.length*b.2.1.length)= .inr (g.1,g.2,(jC a b i).2.2):=Em (by omega) d;rw[show vB a b=Be a b true (g.1,g.2,(jC a b i).2.2)from by unfold vB;grind];rfl
 .have z:(jC a b i).1.length<=i:=by grind
  refine aa (aa ?_);have he:vK a b (Lo 4096) (a.2.1.length*b.2.1.length)= .inl (jC a b i):=Iv (by omega) Y z;rw[show vB a b=Be a b false (jC a b i)from by unfold vB;grind];rfl
def SS{κ:Type} [DecidableEq κ]{L:List κ}{x:κ}(h:x∈L):L[pos L x]? =some x:=by grind
noncomputable def mK(a b:DF):DF:=(dh a b,gX (fP a b).2.2,(fP a b).1.map λx=>cz a x.1&&cz b x.2.1,0,())
section
variable {a b:DF}
theorem By(d:Good a)(e:Good b):∀x∈(fP a b).1,∀c∈dh a b,d6 a b x c∈(fP a b).1:=λx f c hc=>lX _ x (by rw[A_ (Mg d e)];omega) c hc
theorem Ba(d:Good a)(e:Good b):(mK a b).2.1=(fP a b).1.map λx=>(dh a b).map λc=>(pos (fP a b).1 (d6 a b x c):Int):=by show gX (fP a b).2.2=_;rw[ng _ _ (as_ _),A_ (Mg d e)];unfold gX;simp
theorem BN(d:Good a)(j:Good b):eH (dh a b):=by
 obtain⟨c,l⟩:=Fa a b;have g:(0:Int)∈dh a b:=(l 0).2 (.inl (by have:=d.dt.2.1 d.dt.1;grind));refine⟨(am_ g),λh=>?_,λi h=>z6 c (by simp) h,λv n=>(ly d j v n).2⟩;obtain⟨i,k,e⟩:=n_.1 g;have h1:=(ly d j _ (b_ h)).1;rcases H_ i with rfl|f;.omega
 .have:=z6 c f k;omega
theorem za3(e:Good a)(f:Good b):WF (mK a b):=by
 have hr:=Ba e f;have h:0<(fP a b).1.length:=(q_.1 (eX _).head).1;have hn:(mK a b).2.1.length=(fP a b).1.length:=by grind
 refine⟨BN e f,⟨by omega,by rw[hn];simp[mK]⟩,λr d=>?_,⟨bb_ _,by rw[hn];show(0:Int)<_;omega⟩,λr d t ht=>?_⟩;.rw[hr]at d;obtain⟨x,_,rfl⟩:=p_.1 d;simp[mK]
 .rw[hr]at d;obtain⟨x,g,rfl⟩:=p_.1 d;obtain⟨c,hc,rfl⟩:=p_.1 ht;have:=K7.1 (By e f x g c hc);omega
theorem X6(c:Good a)(d:Good b){x:PR}(f:x∈(fP a b).1){j:Nat}(g:j<(dh a b).length):cJ (mK a b) (pos (fP a b).1 x:Int) j=(pos (fP a b).1 (d6 a b x (dh a b)[j]):Int):=by have e:(fP a b).1[pos (fP a b).1 x]? =some x:=SS f;unfold cJ;rw[Ba c d];grind
theorem U5(k:Good a)(l:Good b){x:PR}(s:x∈(fP a b).1){v:Int}(r:0<=v):eN (mK a b) (pos (fP a b).1 x:Int) v=(pos (fP a b).1 (d6 a b x v):Int):=by
 obtain⟨f,p⟩:=Fa a b;obtain⟨h1,h2,u⟩:=jf (BN k l) r;have g:=(ly k l _ (b_ h1)).1;have d:∀x∈dh a b,x<=v->x<=(dh a b)[dy (dh a b) v]:=λy h c=>by
  obtain⟨j,z,rfl⟩:=n_.1 h;rcases bq_ (dy (dh a b) v) j with hl|n;.grind
  .rcases aD_ n with hl|w;.have:=z6 f hl h1;omega
   grind
 show cJ (mK a b) (pos (fP a b).1 x:Int) (dy (dh a b) v)=_;rw[X6 k l s h1];have e:d6 a b x (dh a b)[dy (dh a b) v]=d6 a b x v:=by unfold d6 eN;rw[ra k.dt g h2 λy h c=>d y ((p y).2 (.inl h)) c,ra l.dt g h2 λy h c=>d y ((p y).2 (.inr h)) c]
 rw[e]
theorem TM(d:Good a)(f:Good b){x:PR}(h:x∈(fP a b).1){v:Int}(g:0<=v):d6 a b x v∈(fP a b).1:=by
 obtain⟨c,hc,j,k⟩:=Xf d f g;have e:d6 a b x v=d6 a b x c:=by unfold d6 eN;grind
 rw[e];exact By d f x h c hc
theorem Of(d:Good a)(e:Good b):∀(w:List Int) (x:PR),x∈(fP a b).1->fo w->w.foldl (eN (mK a b)) (pos (fP a b).1 x:Int)=(pos (fP a b).1 (w.foldl (d6 a b) x):Int)/\w.foldl (d6 a b) x∈(fP a b).1
 |[],x,c,_=>⟨rfl,c⟩
 |v::w,x,c,g=>by have f:=(g v (u_ ..)).1;rw[W_,W_,U5 d e c f];exact Of d e w _ (TM d e c f) λu h=>g u (m_ _ h)
theorem U4(g:Good a)(h:Good b){w:List Int}(k:fo w):cz (mK a b) (kU (mK a b) w)=(cz a (kU a w)&&cz b (kU b w)):=by
 have c:(fP a b).1[0]? =some (gM a b):=(eX _).head;have d:pos (fP a b).1 (gM a b)=0:=(QG (D_ _) (λj z l=>by omega) (λz n=>by grind)).symm;obtain⟨h1,h2⟩:=Of g h w _ (ad_ c) k;rw[d]at h1;have e0:kU (mK a b) w=(pos (fP a b).1 (w.foldl (d6 a b) (gM a b)):Int):=h1;rw[e0];have e:(fP a b).1[pos (fP a b).1 (w.foldl (d6 a b) (gM a b))]? =some (w.foldl (d6 a b) (gM a b)):=SS h2;have f:cz (mK a b) (pos (fP a b).1 (w.foldl (d6 a b) (gM a b)):Int)=(cz a (w.foldl (d6 a b) (gM a b)).1&&cz b (w.foldl (d6 a b) (gM a b)).2.1):=by show((fP a b).1.map λx=>cz a x.1&&cz b x.2.1).getD _ false=_;grind
 rw[f,BH];rfl
end
def X7{a b:DF}(c:Good a)(d:Good b):(mK a b).1.length<=4000/\(mK a b).2.1.length=(fP a b).1.length:=by refine⟨E9 c d,?_⟩;rw[Ba c d,r_]
def zbn{a b:DF}(f:Good a)(g:Good b):(vK a b (Lo 4096) (a.2.1.length*b.2.1.length)= .inl (fP a b)/\(fP a b).1.length<=4096)\/∃r,vK a b (Lo 4096) (a.2.1.length*b.2.1.length)= .inr r:=by cases h:vK a b (Lo 4096) (a.2.1.length*b.2.1.length)with|inr r=>simp|inl S=>obtain⟨d,e⟩:=(iB _).1 S h;subst d;refine .inl ⟨rfl,Nat.le_of_not_lt λc=>?_⟩;have:=e 4095 _ (a_ c);grind
def zD:DF:=([],[],[],0,())
def LH(a b:DF)(c:DF×Int×Unit):Prop:=
 c.2.1=0->Good a/\Good b/\Good c.1/\∀w,fo w->cz c.1 (kU c.1 w)=(cz a (kU a w)&&cz b (kU b w))
def T2(m:DF):DF×Int×Unit:=if m.1.length>2000 then(zD,8,())else(m,0,())
def IZ{m:DF}(a:WF m)(h1:m.1.length<=2000)(h2:m.2.1.length<=4096):Good m:=by exact⟨a.dt,by unfold Big;have:=a.len;omega,a.len,a.rows,a.start,a.to⟩
def Wb{a b:DF}{L:List PR}{i:Nat}(c:i<L.length):(L.take i).map (λx=>cz a x.1&&cz b x.2.1)++([cz a L[i].1&&cz b L[i].2.1]:List Bool)=(L.take (i+1)).map λx=>cz a x.1&&cz b x.2.1:=by simp only[i_,a_ c,k_,E_,Q_,P_]
def Ws{a b:DF}(f:Good a)(g:Good b){m:DF}(p:vK a b (Lo 4096) (a.2.1.length*b.2.1.length)= .inl (fP a b))(j:(fP a b).1.length<=4096) (n:aA tbl 240 [.d Ud (mK a b)] [] cd (m,())): aA tbl 205 [.d Ud a,.d Ud b] [] db (T2 m):=by
 refine bN ?_;refine aj (eJ a) ?_;rw[fX.2 f];refine au (λh=>by grind) λ_=>aj (eJ b) ?_;rw[fX.2 g];refine au (λh=>by grind) λ_=>aj (o8 f g) ?_;rw[show vB a b=Be a b false (fP a b)from by unfold vB;grind];refine ae (aI (N:=(fP a b).1.length) (I:=λi s=>s=((i:Int),(0:Int),dh a b,(0:Int),gX (fP a b).2.2,((fP a b).1.take i).map (λx=>cz a x.1&&cz b x.2.1),(fP a b).1,())) (by simp[Be]) ?_ ?_);.rintro i s d rfl;have c:=XV f g (eX _) (a_ d);obtain⟨h1,k⟩:=V9 f c.1.1 c.1.2;obtain⟨h2,l⟩:=V9 g c.2.1 c.2.2;refine aO d (aB d (bi (by simp) (bM c.1.1 h1 ?_)));refine ae (bc (λ_=>bM c.2.1 h2 (aa l)) ?_);rw[k];refine ar (decide_eq_true (by grind)) (aa ?_);simp only[Wb d];rw[ao d]
 .rintro s rfl;refine aH (aa ?_);rw[g_];refine aj n ?_;refine au (λh=>?_) λh=>?_
  .have h1:m.1.length>2000:=by grind
   have e:T2 m=(zD,8,()):=if_pos h1;exact cD (λ_=>rfl) (by rw[e];rfl)
  .have h1:¬m.1.length>2000:=by grind
   have e:T2 m=(m,0,()):=if_neg h1;exact cD (λ_=>rfl) (by rw[e])
def uk(l:List Int):Asc (sw l)/\∀x,x∈sw l↔x∈l:=by obtain⟨c,hc,a⟩:=q8 l;rw[pd hc a];exact⟨hc,a⟩
def PG{l l':List Int}(h:∀x,x∈l↔x∈l'):sw l=sw l':=by obtain⟨h1,h2⟩:=uk l';exact pd h1 λx=>(h2 x).trans (h x).symm
def Mt(a b:List Int):sw (sw a++b)=sw (a++b):=PG λx=>by rw[h_,h_,(uk a).2]
def Mu(l:List Int):(sw l).length<=l.length:=RD (uk l).1 λx a=>((uk l).2 x).1 a
abbrev KT(g:G):List Int:=g.sp.map (·.1)
abbrev KB(g:G):List Int:=g.sp.map (·.2)
def TT{sp:List (Int×Int)}{i:Nat}(h:i<sp.length):q9 (sp.take (i+1))=q9 (sp.take i)++(sp[i].1::if sp[i].2<4294967295 then [sp[i].2+1]else []):=by unfold q9;rw[i_,a_ h,R_];simp
def Ju{g:G}(hg:xy g)(F:List Int):aA tbl 238 [.ptr 0 0] [.box 323 [.sl 1,.sl 2,.sl 3],.vec 3 tI (KT g),.vec 3 tI (KB g),.vec 324 tQ F] fL (eT g,KT g,KB g,F,()):=by
 refine bN ?_;have hn:=hg.n64;refine ae (aI (N:=(KT g).length) (I:=λi s=>s=(sw (q9 (g.sp.take i)),(i:Int),KT g,KB g,F,())) ?_ ?_ ?_);.have:sw (q9 (g.sp.take 0))=[0]:=pd (by simp[Asc]) (by simp[q9]);grind
 .rintro i s c rfl;have a:i<g.sp.length:=by grind
  have b:i<(KB g).length:=by grind
  have j:(KT g)[i]=g.sp[i].1:=by simp
  have f:(KB g)[i]=g.sp[i].2:=by simp
  have n:=hg.jy _ (b_ a);have l:=hg.le _ (b_ a);have k:=Mu (q9 (g.sp.take i));have d:=My (g.sp.take i);rw[T_]at d;dsimp only;refine aO c (ae (aB c (bi (x:=(KT g)[i]) (by grind) ?_)));rw[j];refine aj (sR _ [g.sp[i].1] (uk _).1 (by simp[Asc]) (by omega) (by simp)) ?_;rw[Mt];refine aB b (bi (x:=(KB g)[i]) (by grind) ?_);rw[f,TT a];refine au (λh=>?_) λh=>aa (aa ?_);.have h:=of_decide_eq_true h;refine aB b (bi (x:=(KB g)[i]) (by grind) ?_);rw[f,wrap_i64];have e:=Mu (q9 (g.sp.take i)++[g.sp[i].1]);rw[j_,N_]at e;refine aj (sR (sw (q9 (g.sp.take i)++[g.sp[i].1])) [g.sp[i].2+1] (uk _).1 (by simp[Asc]) (by omega) (by simp)) (aa (aa ?_));rw[Mt,ao c (by grind),if_pos h];simp
  .have h:=of_decide_eq_false h;rw[ao c (by grind),if_neg h]
 .rintro s rfl;refine aH (aa (aa ?_));rw[A_ (by simp)];rfl
def Dq{g:G}(hg:xy g)(F:List Int)(a:Int):aA tbl 239 [.ptr 0 0,.d tI a] [.box 323 [.sl 1,.sl 2,.sl 3],.vec 3 tI (KT g),.vec 3 tI (KB g),.vec 324 tQ F] eI (((yI g a:Nat):Int),KT g,KB g,F,()):=by
 refine bN ?_;have hn:=hg.n64;refine ae (aI (N:=(KT g).length) (I:=λi s=>s=(((bK ((d_ i).filter (mU g a)):Nat):Int),(i:Int),KT g,KB g,F,())) rfl ?_ ?_)
 .rintro i s c rfl;have k:i<g.sp.length:=by grind
  have d:i<(KB g).length:=by grind
  have e:(KT g)[i]=g.sp[i].1:=by simp
  have f:mU g a i=(decide (g.sp[i].1<=a)&&decide (a<=g.sp[i].2)):=by unfold mU;grind
  refine aO c (ae (aB c (bi (x:=(KT g)[i]) (by grind) ?_)));rw[e];refine ae (bc (b:=decide (a<=g.sp[i].2)) (λ_=>aB d (bi (x:=(KB g)[i]) (by grind) (aa (by simp)))) ?_);rw[<-f];have j:bK ((d_ i).filter (mU g a))<2^64:=fv λp hp=>by grind
  have hs:(d_ (i+1)).filter (mU g a)=(d_ i).filter (mU g a)++(if mU g a i=true then [i]else []):=by rw[L_,aB_,List.filter_cons,List.filter_nil]
  rw[hs];refine au (λh=>ar (decide_eq_true (by rw[wrap_u64];omega)) (aa (aa ?_))) λh=>aa (aa ?_);.rw[zbz (by omega),HT j (aP_ (by simp) (by omega)),ao c (by grind),if_pos h,xH];simp[bK]
  .rw[ao c (by grind),if_neg (by grind),w_]
 .rintro s rfl;refine aH (aa (aa ?_));rw[r_];rfl
abbrev Zj(g:G):List Int:=gp g.pr g.sp.length
def zbJ{g:G}(hg:xy g):∀p q,(p,q)∈g.pr->q<g.sp.length:=λp q h=>by have:=hg.lie.pr p q h;omega
def Ww{g:G}(hg:xy g)(x:Option Nat):wh g x<2^64:=aT_ (zaa hg.lie x) (aO_ (by decide) hg.n64)
def zdR{g:G}(hg:xy g)(a:Int):yI g a<2^64:=aT_ (zaR g a) (aO_ (by decide) hg.n64)
def zeD{g:G}(hg:xy g):bK g.la<2^64:=fv λp hp=>by have:=hg.lie.la p hp;have:=hg.n64;omega
abbrev SN:Type:=List (Option Nat)×List (Nat×Int)×List (List Nat)
noncomputable def aU(g:G)(i:Nat)(S:SN):Int×Int×List Int×List Int×List Int×Int×Int×Bool×List Int×Int×List (List Int)×List Bool×List NK×List (NK×Int)×Unit:=
 ((i:Int),(0:Int),KT g,KB g,Zj g,((bK g.fi:Nat):Int),((bK g.la:Nat):Int),g.em,eT g,(0:Int),gX S.2.2,(S.1.take i).map (qh g),S.1.map dz,ND 0 S.1,())
def Qg{g:G}(i:Nat):(dS g i).2.2.length<=i:=by rw[ng i i (as_ _),r_,T_];omega
def TJ{g:G}{L:List (Option Nat)}{i:Nat}{x:Option Nat}(a:L[i]? =some x):(L.take i).map (qh g)++[qh g x]=(L.take (i+1)).map (qh g):=by rw[i_,a,k_];rfl
def X5{a:Type}{L L':List a}(h:L<+:L'){i:Nat}(b:i<=L.length):L'.take i=L.take i:=by obtain⟨t,rfl⟩:=h;grind
def sQ{r:Rx}(hr:fG r=0){m:DF}(E:(xB (bO r 0)).length<=4096->aA tbl 240 [.d Ud (dN (bO r 0))] [] cd (m,())): aA tbl 204 [.d .rx r] [] db (match xX (bO r 0) NL with| .inl _=>(m,0,())| .inr _=>(zD,8,())):=by
 obtain⟨hw,hsz⟩:=ql hr;have hg:=Sj hw hsz;have DA:=D3 r;refine tf (by cases xX (bO r 0) NL<;>rfl) (Wz db ?_);refine aj (pK r (by omega)) ?_;rw[hr];refine ak rfl ?_;have l:=Pm r hw (by omega) [] [] [] rfl (λp q h=>by grind) (by grind);simp only[ah_,ag_,X_]at l;have ef:gp ([]:List (Nat×Nat)) 0=[]:=rfl;rw[ef]at l;refine aj l ?_;generalize bO r 0=g at*;have Y:=E8 hg;refine aj (Ju hg _) ?_;refine bX (x:=dz none) (by simp) rfl (bi (x:=dz none) rfl (ar rfl ?_));refine ae (Ev.wp_loop (λs=>∃i S,s=aU g i S/\xX g i= .inl S/\i<=S.1.length) (λs=>NL - s.1.toNat) ⟨0,([none],[],[]),rfl,rfl,by simp⟩ ?_);rintro s ⟨i,S,rfl,hS,Bk⟩;obtain⟨D,hq⟩:=(iB i).1 S hS;have D:S=dS g i:=D;have DB:=V1;subst D;have w:Ok (eW g) none (eT g) (dS g i).1 (dS g i).2.1:=eX i;have J:=I2 hq;have BT:=Qg (g:=g) i;have R:((dS g i).1.map dz).length=(dS g i).1.length:=r_ _;simp only[aU];refine au (λh=>?_) λh=>?_
 .have C:i<(dS g i).1.length:=by grind
  have U:=a_ C;generalize CT:(dS g i).1[i]=x at U;have Dg:((dS g i).1.map dz)[i]? =some (dz x):=by grind
  refine bX (x:=dz x) (by simp) (by rw[e_];omega) (bi (x:=dz x) (by rw[e_];omega) ?_);refine ae (Ev.wp_mono (Q:=λv=>v=(((wh g x:Nat):Int),(0:Int),KT g,KB g,Zj g,((bK g.fi:Nat):Int),((bK g.la:Nat):Int),g.em,eT g,(0:Int),gX (dS g i).2.2,((dS g i).1.take i).map (qh g),(dS g i).1.map dz,ND 0 (dS g i).1,(dz x).1,(dz x).2.1,())) ?_ ?_)
  .cases x with
   |none=>exact ak rfl (aa rfl)|some b=>
    have hb:b<2^64:=by
     have:=w.inv (P:=λy=>∀c,y=some c->c<2^64) (λc hc=>by grind) (λy c _ _ d hd=>by
      have:wh g y&&&yI g c=d:=by simpa[eW]using hd
      rw[<-this];exact ai_ aJ_ (Ww hg y)) i _ U
     grind
    refine aD rfl (ae (Ev.wp_mono (Q:=λr=>r=(((wh g (some b):Nat):Int),(0:Int),KT g,KB g,Zj g,((bK g.fi:Nat):Int),((bK g.la:Nat):Int),g.em,eT g,(0:Int),gX (dS g i).2.2,((dS g i).1.take i).map (qh g),(dS g i).1.map dz,ND 0 (dS g i).1,false,(b:Int),())) ?_ (by rintro v rfl;exact aa rfl)));have hn:=hg.n64;have hF:(Zj g).length=g.sp.length:=nO _ _;refine aI (N:=(Zj g).length) (I:=λk s=>s=(((bK ((d_ k).flatMap λk=>if b.testBit k then CL g.pr k else []):Nat):Int),(k:Int),(0:Int),KT g,KB g,Zj g,((bK g.fi:Nat):Int),((bK g.la:Nat):Int),g.em,eT g,(0:Int),gX (dS g i).2.2,((dS g i).1.take i).map (qh g),(dS g i).1.map dz,ND 0 (dS g i).1,false,(b:Int),())) rfl ?_ ?_
    .rintro k s Y rfl;have DE:k<g.sp.length:=by omega
     have hc:bK ((d_ k).flatMap λk=>if b.testBit k then CL g.pr k else [])<2^64:=fv λp hp=>by
      obtain⟨j,_,hp⟩:=aY_.1 hp;split at hp;.have:=zbJ hg _ _ (jx.1 hp);omega
      grind
     have hs:(d_ (k+1)).flatMap (λk=>if b.testBit k then CL g.pr k else [])=((d_ k).flatMap λk=>if b.testBit k then CL g.pr k else [])++(if b.testBit k then CL g.pr k else []):=by rw[L_,R_];simp
     rw[hs];dsimp only;refine aO Y (ae (ar (decide_eq_true (by rw[wrap_u64];omega)) ?_));rw[Y4 hb (by omega)];refine au (λh=>?_) λh=>aa (aa ?_);.refine aB Y (bi (x:=(Zj g)[k]) (by simp) (aa (aa ?_)));rw[nN,HT hc (zbF (zbJ hg) hn k),ao Y,if_pos h,xH]
     .rw[ao Y,if_neg (by grind),w_]
    .rintro s rfl;refine aH (aa ?_);rw[hF];rfl
  rintro v rfl;dsimp only;refine ar (Ft (by omega)) (ae (Ev.wp_mono (Q:=λr=>match kW (kH (VG 4096) (eW g) x i) ((dS g i).1,(dS g i).2.1,[]) (eT g)with
   | .inl u=>r= .inr ((0:Int),KT g,KB g,Zj g,((bK g.fi:Nat):Int),((bK g.la:Nat):Int),g.em,eT g,(0:Int),gX (dS g i).2.2,((dS g i).1.take i).map (qh g),u.1.map dz,ND 0 u.1,(dz x).1,(dz x).2.1,u.2.2.map (fun(k:Nat)=>(k:Int)),())/\u.1.length<=4096
   | .inr _=>r= .inl ((8:Int),(0:Int),())) ?_ λt ht=>?_))
  .have h:=w;have hL:=J;clear w J hS D hq BT R Dg C Bk CT;generalize gX (dS g i).2.2=RR;generalize((dS g i).1.take i).map (qh g)=AA;generalize(dS g i).2.1=T at h⊢;generalize(dS g i).1=L at h hL U⊢;have Y:=E8 hg;refine O6 (xs:=eT g) (f:=kH (VG 4096) (eW g) x i) (s0:=(L,T,[])) (Inv:=λj st=>Ok (eW g) none (eT g) st.1 st.2.1/\L<+:st.1/\st.2.2.length=j/\st.1.length<=4096) (enc:=λj st=>((j:Int),(0:Int),KT g,KB g,Zj g,((bK g.fi:Nat):Int),((bK g.la:Nat):Int),g.em,eT g,(0:Int),RR,AA,st.1.map dz,ND 0 st.1,(dz x).1,(dz x).2.1,kT (eT g).length st.2.2,())) (oE:=λst=>.inr ((0:Int),KT g,KB g,Zj g,((bK g.fi:Nat):Int),((bK g.la:Nat):Int),g.em,eT g,(0:Int),RR,AA,st.1.map dz,ND 0 st.1,(dz x).1,(dz x).2.1,kT (eT g).length st.2.2,())) (oB:=λ_=>.inl ((8:Int),(0:Int),())) ⟨h,ba_ _,rfl,hL⟩ (λj O st ur=>?_) (λst ur=>?_) (λr hr hs=>?_)
   .obtain⟨B,Tj,A⟩:=st;obtain⟨g1,g2,g3,g4⟩:=ur;simp only at g1 g2 g3 g4;subst g3;have CD:=y5 g2 U;refine aO O (aB O (aj (Dq hg _ _) ?_));rw[Wj (Ww hg x) (zdR hg _)];have gc:((false,((wh g x&&&yI g (eT g)[A.length]:Nat):Int),()):NK)=dz (eW g x (eT g)[A.length]):=rfl;rw[gc];generalize hy:eW g x (eT g)[A.length]=y;have ph:=Sr y B 0;have qr:A.length<(kT (eT g).length A).length:=by unfold kT;grind
    by_cases E:y∈B;.rw[if_pos E]at ph;have e:kH (VG 4096) (eW g) x i (B,Tj,A) (eT g)[A.length]= .inl (B,Tj,A++[pos B y]):=Ov hy E;rw[e];refine ae (au (λhc=>by grind) λ_=>aa ?_);refine aB qr (bi (x:=(kT (eT g).length A)[A.length]) (by simp) (aa ?_));refine⟨⟨g1,g2,by simp,g4⟩,?_⟩;rw[ph,ao O];simp only[U_,e_,ag_];rw[t7 O]
    .have M:=Su y B 0 E;simp only[ag_]at M;have R:(B.map dz).length=B.length:=r_ _;refine ae (au (λ_=>?_) λhc=>by grind);rw[R];refine au (λhd=>aa ?_) λhd=>?_
     .have hd:VG 4096 B y=true:=by grind
      rw[I6 hy E hd];exact aa rfl
     .have At:VG 4096 B y=false:=by grind
      have w:Ok (eW g) none (eT g) (B++[y]) (Tj++[(i,(eT g)[A.length])]):=by rw[<-hy]at E⊢;exact g1.add CD (b_ O) E
      rw[Ow hy E At];refine ar (decide_eq_true (by rw[Ss];simp only[maxLen];omega)) (ar (decide_eq_true (by grind)) (aa ?_));refine aB qr (bi (x:=(kT (eT g).length A)[A.length]) (by simp) (aa ?_));refine⟨⟨w,g2.trans (aC_ _ _),by simp,by grind⟩,?_⟩;rw[ao O];simp only[e_];rw[t7 O,M,k_];rfl
   .exact aH (aa rfl)
   .rw[Ky]at hr;rw[hr];cases r with
    |inl st=>obtain⟨g1,g2,g3,g4⟩:=hs st rfl;refine⟨?_,g4⟩;simp only[kT,g3,az_,ax_,w_]
    |inr r=>rfl
  have a:xX g (i+1)=match kW (kH (VG 4096) (eW g) x i) ((dS g i).1,(dS g i).2.1,[]) (eT g)with
   | .inl r=>.inl (r.1,r.2.1,(dS g i).2.2++[r.2.2])
   | .inr r=>.inr (r.1,r.2,(dS g i).2.2):=by
   have wr:ji (eW g) none (eT g) (VG 4096) i= .inl (dS g i):=hS
   simp only[xX,ji,wr,U]
   generalize kW (kH (VG 4096) (eW g) x i) ((dS g i).1,(dS g i).2.1,[]) (eT g)=z
   grind
  cases hf:kW (kH (VG 4096) (eW g) x i) ((dS g i).1,(dS g i).2.1,[]) (eT g)with
  |inl u=>
   rw[hf]at ht a;obtain⟨rfl,h2⟩:=ht;have hp:=(nH (f:=eW g) (s0:=none) (ls:=eT g) i).1;rw[<-(((iB (i+1)).1 _ a).1)]at hp;have Bx:(dS g i).1.length<=u.1.length:=hp.length_le;refine ar (decide_eq_true (by simp[gX];omega)) ?_;refine ae (bc (b:=g.em) (λ_=>aa rfl) ?_);refine ae (bf (b:= !(dz x).1&&(kh .u64 .and (dz x).2.1 ((bK g.la:Nat):Int) != (0:Int))) (λ_=>ae (bc (λ_=>aa rfl) (aa rfl))) ?_);have el:(((dz x).1&&g.em)||(!(dz x).1&&(kh .u64 .and (dz x).2.1 ((bK g.la:Nat):Int) != (0:Int))))=qh g x:=by
    cases x with
    |none=>simp[dz,qh]|some b=>
     have hb:b<2^64:=by
      have:=w.inv (P:=λy=>∀c,y=some c->c<2^64) (λc hc=>by grind) (λy c _ _ d hd=>by
       have:wh g y&&&yI g c=d:=by simpa[eW]using hd
       rw[<-this];exact ai_ aJ_ (Ww hg y)) i _ U
      grind
     simp only[dz,qh,bl_,Bool.not_false,Y_,Bool.false_or];rw[Wj hb (zeD hg)];grind
   rw[el];refine ar (decide_eq_true (by grind)) (aa ?_);refine⟨⟨i+1,(u.1,u.2.1,(dS g i).2.2++[u.2.2]),?_,a,B_ C Bx⟩,?_⟩;.simp only[aU,gX,k_,Q_,P_];rw[ao C,show(u.1.take (i+1)).map (qh g)=((dS g i).1.take i).map (qh g)++[qh g x]from by rw[TJ U,X5 (L':=u.1) hp (Nat.succ_le_of_lt C)]]
   .rw[ao C];omega
  |inr u=>rw[hf]at ht a;subst ht;refine aa (aa ?_);have he:xX g NL= .inr (u.1,u.2,(dS g i).2.2):=Em (by omega) a;rw[he];rfl
 .have C:(dS g i).1.length<=i:=by grind
  have he:xX g NL= .inl (dS g i):=Iv (by omega) hS C;have H:dS g NL=dS g i:=En (by omega) C;have F:(xB g).length<=4096:=by unfold xB;grind
  have hd:((eT g,gX (dS g i).2.2,((dS g i).1.take i).map (qh g),(0:Int),()):DF)=dN g:=by have h1:=zag F;rw[H]at h1;rw[<-h1,A_ C,<-H];rfl
  rw[he];refine aa ?_;show Wp (λn=>o_ (gw (sg tbl n) 240 [.d Ud (eT g,gX (dS g i).2.2,((dS g i).1.take i).map (qh g),(0:Int),())] [] cd) _) _;rw[hd];exact aj (E F) (aa rfl)
section
variable {g:G}
end
set_option maxRecDepth 100000
def Gb{d m:DF}{ψ:Int->Int}{P:Int->Prop}(b:P d.2.2.2.1)(c:∀s v,P s->0<=v->P (eN d s v))(h1:ψ d.2.2.2.1=m.2.2.2.1) (h2:∀s v,P s->0<=v->ψ (eN d s v)=eN m (ψ s) v)(j:∀s,P s->cz m (ψ s)=cz d s){w:List Int}(a:fo w):cz m (kU m w)=cz d (kU d w):=by
 have e:∀(w:List Int) (s:Int),P s->fo w->cz m (w.foldl (eN m) (ψ s))=cz d (w.foldl (eN d) s):=by intro w;induction w with|nil=>grind|cons v w h=>intro s hs a;have g:=(a v (u_ ..)).1;have:=h (eN d s v) (c s v hs g) λu f=>a u (m_ _ f);grind
 unfold kU;rw[<-h1];exact e w _ b a
def zbd{q:DF}(e:RW q)(hs:eH q.1):WF (gg q):=by
 have a:0<(aP q).length:=am_ kG;refine⟨hs,⟨by simpa[gg]using a,by simp[gg]⟩,λr hr=>?_,⟨bb_ _,by simpa[gg]using a⟩,λr hr t ht=>?_⟩;.simp only[gg,p_]at hr;obtain⟨b,_,rfl⟩:=hr;simp[gg]
 .simp only[gg,p_]at hr;obtain⟨b,d,rfl⟩:=hr;obtain⟨c,hc,rfl⟩:=p_.1 ht;have:=K7.1 (dT e b d c (x_.1 hc));refine⟨by simp,?_⟩;simp only[gg,r_];omega
def Vd{q:DF}(e:RW q)(hs:eH q.1){w:List Int}(f:fo w):cz (gg q) (kU (gg q) w)=cz q (kU q w):=by
 have c:∀b,b∈aP q->(aP q)[pos (aP q) b]? =some b:=λb h=>by grind
 refine Gb (P:=(·∈aP q)) (ψ:=λb=>(pos (aP q) b:Int)) kG (λs v a d=>?_) ?_ (λs v a d=>?_) (λs a=>?_) f;.exact dT e s a _ (jf hs d).1
 .have g:(aP q)[0]? =some q.2.2.2.1:=(eX _).head;rw[<-QG (D_ _) (λj z k=>by omega) (λz l=>by grind)];rfl
 .have hc:=(jf hs d).1;rw[uc,uc];show _=cJ (gg q) _ (dy q.1 v);unfold cJ;simp only[gg,e_,t_,ab_,c s a,au_,U_,aQ_ hc];rfl
 .unfold cz;simp only[gg,e_,t_,ab_,c s a,au_,U_];simp only[cz,t_]
def zaG{q:DF}{s:Int}(hs:In q s){c:Nat}(h:bH q.2.1 c=false):0<c/\cJ q s c=cJ q s (c - 1):=by
 simp only[bH,ac_]at h;have h1:s.toNat<q.2.1.length:=by have:=hs.1;have:=hs.2;omega
 have:=aU_.1 h.2 _ (b_ h1);unfold cJ;grind
def YK{q:DF}(d:In q q.2.2.2.1)(c:Nat)(hc:c<q.1.length):∃j,∃h:j<(Ch q (bH q.2.1)).length,(Ch q (bH q.2.1))[j]<=c/\(∀b (_:b<(Ch q (bH q.2.1)).length),j<b->c<(Ch q (bH q.2.1))[b])/\∀s,In q s->cJ q s c=cJ q s (Ch q (bH q.2.1))[j]:=by
 induction c with
 |zero=>obtain⟨j,f,e⟩:=n_.1 (xN.2 ⟨hc,rfl⟩:0∈Ch q (bH q.2.1));exact⟨j,f,by omega,λb a d=>by have:=JZ d a;omega,λs _=>by rw[e]⟩
 |succ c l=>
  cases g:bH q.2.1 (c+1)
  .obtain⟨j,h,h1,h2,k⟩:=l (by omega);refine⟨j,h,by omega,λb a d=>?_,λs hs=>?_⟩;.have:=h2 b a d;have:=(xN.1 (b_ a)).2;grind
   .rw[(zaG hs g).2];exact k s hs
  .obtain⟨j,f,e⟩:=n_.1 (xN.2 ⟨hc,g⟩:c+1∈Ch q (bH q.2.1));exact⟨j,f,by omega,λb a d=>by have:=JZ d a;omega,λs _=>by rw[e]⟩
def Bh{q:DF}{kp:Nat->Bool}{j:Nat}(a:j<(Ch q kp).length):∃h:j<(jJ q kp).1.length,(jJ q kp).1[j]=q.1[(Ch q kp)[j]]'(T0 a):=by simp only[jJ];grind
def QR{q:DF}(hs:eH q.1):eH (jJ q (bH q.2.1)).1:=by
 have hl:(jJ q (bH q.2.1)).1.length=(Ch q (bH q.2.1)).length:=by simp[jJ]
 obtain⟨i,b,e⟩:=n_.1 (xN.2 ⟨hs.1,rfl⟩:0∈Ch q (bH q.2.1));have e0:∀h:0<(Ch q (bH q.2.1)).length,(Ch q (bH q.2.1))[0]=0:=λh=>by
  rcases H_ i with rfl|d;.exact e
  .have:=JZ d b;omega
 refine⟨by omega,λh=>?_,λi b=>?_,λx f=>?_⟩;.obtain⟨_,e⟩:=Bh (q:=q) (kp:=bH q.2.1) (j:=0) (by omega);rw[e];simp only[e0 (by omega)];exact hs.2.1 hs.1
 .obtain⟨_,a⟩:=Bh (q:=q) (kp:=bH q.2.1) (j:=i) (by omega);obtain⟨_,c⟩:=Bh (q:=q) (kp:=bH q.2.1) (j:=i+1) (by omega);rw[a,c];exact lI hs _ _ _ (JZ (by simp) (by omega))
 .obtain⟨i,b,rfl⟩:=n_.1 f;obtain⟨_,a⟩:=Bh (q:=q) (kp:=bH q.2.1) (j:=i) (by omega);rw[a];exact hs.2.2.2 _ (b_ _)
def YJ{q:DF}(b:RW q)(hs:eH q.1){w:List Int}(r:fo w):cz (jJ q (bH q.2.1)) (kU (jJ q (bH q.2.1)) w)=cz q (kU q w):=by
 have e:WF q:=⟨hs,b.len,b.rows,b.start,b.to⟩;refine Gb (m:=jJ q (bH q.2.1)) (P:=In q) (ψ:=id) b.start (λs v h d=>Tp e h d) rfl (λs v h d=>?_) (λs h=>rfl) r;obtain⟨hc,l,n⟩:=jf hs d;obtain⟨j,f,h1,h2,k⟩:=YK b.start _ hc;have c:dy (jJ q (bH q.2.1)).1 v=j:=by
  obtain⟨g,x⟩:=Bh (q:=q) (kp:=bH q.2.1) f;refine tn ⟨g,?_,λu a p=>?_⟩
  .rcases aD_ h1 with hl|z;.have:=lI hs _ _ hc hl;omega
   grind
  .have a:u<(Ch q (bH q.2.1)).length:=by simpa[jJ]using a
   obtain⟨_,y⟩:=Bh (q:=q) (kp:=bH q.2.1) a;grind
 show eN q s v=eN (jJ q (bH q.2.1)) s v;rw[uc,uc,c,zbg _ h f,k s h]
def Zn.zcl{d:DF}(hd:WF d){B:List Int}{m:Nat}{NX:List (List Int)}{AC:List Bool}(h:Zn d B m NX AC): WF (gg (jJ (d.1,NX,AC,bv B d.2.2.2.1,()) (bH NX)))/\∀w,fo w->cz (gg (jJ (d.1,NX,AC,bv B d.2.2.2.1,()) (bH NX))) (kU (gg (jJ (d.1,NX,AC,bv B d.2.2.2.1,()) (bH NX))) w)=cz d (kU d w):=by have I:=h.rw hd.rw;have h1:=YM (bH NX) I;have h2:=QR (q:=(d.1,NX,AC,bv B d.2.2.2.1,())) hd.dt;refine⟨zbd h1 h2,λw H=>?_⟩;refine(Vd h1 h2 H).trans ((YJ I hd.dt H).trans ?_);refine Gb (P:=(·∈aP d)) (ψ:=bv B) kG (λs v hs E=>dT hd.rw s hs _ (jf hd.dt E).1) rfl (λs v hs E=>?_) (λs hs=>h.acc hs) H;exact(h.col hs (jf hd.dt E).1).symm
def Dr{d:DF}(hd:WF d)(b:d.1.length<=16777216)(hn:d.2.1.length<=65536):∃c:DF×Unit,((WF c.1/\∀w,fo w->cz c.1 (kU c.1 w)=cz d (kU d w))/\c.1.1.length<=d.1.length/\c.1.2.1.length<=d.2.1.length)/\aA tbl 240 [.d Ud d] [] cd c:=by obtain⟨⟨c,_⟩,⟨⟨B,m,NX,AC,a,rfl⟩,h1⟩,h2⟩:=Pk hd b hn;exact⟨_,⟨a.zcl hd,h1⟩,h2⟩
structure VK(r:Rx)(c:DF×Int×Unit):Prop where
 err:c.2.1=0\/c.2.1≠0/\c.1=zD
 zcl:c.2.1=0->(∀w,fo w->cz c.1 (kU c.1 w)=fZ (bO r 0) w)/\Good c.1
set_option maxRecDepth 100000
abbrev O9:sr:=([],[],0,())
def vD(s:PS)(n:List UInt8)(c:L8 dH s):aA tbl 37 [.d yS s,.d tS n] [] jo ((mS s n).getD O9,(mS s n).isSome,()):=by
 have hl:=c.l4;refine bN ?_;refine ae (iP (xs:=s.2.2.2.1) (p:=(·.1==n)) (enc:=λi=>((i:Int),([]:List UInt8),(0:Int),())) (g:=λx=>(true,x.1,x.2.1,x.2.2.1,())) (e:=(([]:List UInt8),(0:Int),())) (λi a=>?_) ?_ ?_)
 .refine aO a (aB a (au (λh=>aa ?_) λh=>?_));.rw[if_neg (by grind),ao a]
  have hp:=c.r4 _ (b_ a);have h:(s.2.2.2.1[i].1==n)=true:=by grind
  rw[if_pos h];generalize s.2.2.2.1[i]=p at hp;have d:=hp.tl;refine ae (aI (N:=p.2.1.length) (I:=λj t=>t=((j:Int),([]:List UInt8),(0:Int),p.1,p.2.2.1,p.2.1.take j,())) rfl (λj t b ht=>?_) λt ht=>?_);.subst ht;have ht:=hp.tr _ (b_ b);have h1:=ht.ml;have h2:=ht.al;refine aO b (aB b (ar (decide_eq_true (by grind)) (ar (decide_eq_true (by grind)) (ar ?_ (aa ?_)))));all_goals grind[f_,ao,aE_]
  .subst ht;simp[aH,aa]
 .exact aH (aa rfl)
 .unfold mS;cases s.2.2.2.1.find? (·.1==n)with|some r=>exact aa rfl|none=>exact aa rfl
set_option maxRecDepth 100000
def MB(a b:DF):∃c:DF×Int×Unit,LH a b c/\(c.2.1=0\/c.1=zD)/\aA tbl 205 [.d Ud a,.d Ud b] [] db c:=by
 by_cases d:Good a
 .by_cases f:Good b
  .have s:=fz d;have u:=fz f;rcases zbn d f with⟨v,g⟩|⟨r,hr⟩
   .obtain⟨y,z⟩:=X7 d f;obtain⟨⟨x,_⟩,⟨⟨h1,h2⟩,j,k⟩,n⟩:=Dr (za3 d f) (by omega) (by omega);simp only at j k h1 h2;refine⟨T2 x,?_,?_,Ws d f v g n⟩
    .unfold T2;split;.intro h;grind
     .intro _;exact⟨d,f,IZ h1 (by grind) (by grind),λw l=>(h2 w l).trans (U4 d f l)⟩
    .unfold T2;grind
   .refine⟨(zD,8,()),(λh=>absurd h (by simp):LH a b (zD,8,())),.inr rfl,?_⟩;.refine bN ?_;refine aj (eJ a) ?_;rw[fX.2 d];refine au (λh=>by grind) λ_=>aj (eJ b) ?_;rw[fX.2 f];refine au (λh=>by grind) λ_=>aj (o8 d f) ?_;rw[show vB a b=Be a b true r from by unfold vB;grind];exact au (λ_=>aa rfl) λh=>by cases h
  .have hc:de b≠0:=λe=>f (fX.1 e);have p:(de b != (0:Int))=true:=by grind
   refine⟨(zD,de b,()),(λh=>absurd h hc:LH a b (zD,de b,())),.inr rfl,?_⟩;.refine bN ?_;refine aj (eJ a) ?_;rw[fX.2 d];refine au (λh=>by grind) λ_=>aj (eJ b) ?_;exact au (λ_=>aa rfl) λh=>by grind
 .have hc:de a≠0:=λe=>d (fX.1 e);refine⟨(zD,de a,()),(λh=>absurd h hc:LH a b (zD,de a,())),.inr rfl,?_⟩;.refine bN ?_;refine aj (eJ a) ?_;exact au (λ_=>aa rfl) λh=>by grind
def TV(r:Rx)(hs:sz r<=1000000):∃c:DF×Int×Unit,VK r c/\aA tbl 204 [.d .rx r] [] db c:=by
 by_cases hr:fG r=0
 .obtain⟨e,hsz⟩:=ql hr;have hg:=Sj e hsz;cases d:xX (bO r 0) NL with
  |inr S=>
   have h1:=sQ hr (m:=zD) (λh=>?_);rw[d]at h1;.exact⟨(zD,8,()),⟨.inr ⟨by simp,rfl⟩,(λh=>by grind)⟩,h1⟩
   all_goals
    exfalso;obtain⟨L,y,l,A,B,n,p,_⟩:=(iB NL).2 S d;have s:=p.length_le;rw[l,j_]at s;have C:4096<=L.length:=of_decide_eq_true n;have D:(dS (bO r 0) NL).1.length<=4096:=h;grind
  |inl S=>
   obtain⟨_,a⟩:=Wh d;have g:=zdB hg a;have u:(dN (bO r 0)).1.length<=129:=(E8 hg);have v:(dN (bO r 0)).2.1.length<=4096:=by show((xB (bO r 0)).map _).length<=_;grind
   obtain⟨⟨m,_⟩,⟨⟨j,k⟩,x,z⟩,f⟩:=Dr g (by omega) (by omega);have h1:=sQ hr (m:=m) (λ_=>f);rw[d]at h1;have b:=IZ j (by grind) (by grind);refine⟨(m,0,()),⟨.inl rfl,λ_=>⟨λw e=>(k w e).trans (zae hg a e),b⟩⟩,h1⟩
 .refine⟨(zD,fG r,()),⟨.inr ⟨hr,rfl⟩,λh=>absurd h hr⟩,?_⟩;.refine bN ?_;exact aj (pK r (by omega)) (aD (by grind) (aa rfl))
def lC(s:List UInt8)(hs:s.length<=1048576):∃c:Rx×Int×Unit,ju s c/\aA tbl 99 [.d tS s] [] bR c/\aA tbl 170 [.d tS s] [] bR c:=by obtain⟨c,h1,h2⟩:=pL s hs;obtain⟨d,a,b⟩:=pJ s hs;cases h1.Yh hs a;grind
abbrev noD:DF:=([0],[[0]],[false],0,())
def zbY:aA tbl 204 [.d .rx (.mk 4 0 0 [])] [] db (noD,0,()):=jv (m:=40) λk=>by kernel_rfl
noncomputable def gU(s:List UInt8):Rx:=if h:s.length<=1048576 then(I_ (lC s h)).1 else .mk 0 0 0 []
noncomputable def lV(r:Rx):DF×Int×Unit:=if h:sz r<=1000000 then I_ (TV r h)else(noD,0,())
noncomputable def Aa(a b:DF):DF×Int×Unit:=I_ (MB a b)
noncomputable def b9:List Pt->DF×Int×Unit
 |[]=>(noD,0,())
 |r::l=>if(b9 l).2.1≠0 then b9 l else if(lV (gU r.2.1)).2.1≠0 then(zD,(lV (gU r.2.1)).2.1,())
  else if r.1 then(if(Aa (gT (lV (gU r.2.1)).1) (gT (b9 l).1)).2.1≠0 then(zD,(Aa (gT (lV (gU r.2.1)).1) (gT (b9 l).1)).2.1,())else(gT (Aa (gT (lV (gU r.2.1)).1) (gT (b9 l).1)).1,0,()))
  else Aa (gT (lV (gU r.2.1)).1) (b9 l).1
def lb(a b:DF):LH a b (Aa a b)/\((Aa a b).2.1=0\/(Aa a b).1=zD)/\aA tbl 205 [.d yF a,.d yF b] [] db (Aa a b):=Z_ (MB a b)
def z8{r:Rx}(h:sz r<=1000000):VK r (lV r)/\aA tbl 204 [.d .rx r] [] db (lV r):=by unfold lV;grind
abbrev Dz(s:List UInt8):Prop:=s.length<=1048576/\∃x,fG x=0/\pat x=s
def AX{s:List UInt8}(h:Dz s):fG (gU s)=0/\sz (gU s)<=64/\aA tbl 99 [.d tS s] [] bR (gU s,0,())/\aA tbl 170 [.d tS s] [] bR (gU s,0,()):=by
 obtain⟨b,x,h1,h2⟩:=h;have e:gU s=(I_ (lC s b)).1:=by unfold gU;grind
 obtain⟨g,c,d⟩:=Z_ (lC s b);rcases g with⟨r,a,j,f⟩|⟨a,_⟩;.rw[f]at c d e;rw[e];exact⟨a,(ql a).2,c,d⟩
 grind
def W0:Good noD:=fX.1 (by unfold de;rw[if_neg (by simp[Big]),if_neg (by simp[eH]),if_neg (by simp),if_neg (by simp),if_neg (by simp),if_neg (by simp)])
def yX:∀l:List Pt,(∀r∈l,Dz r.2.1)->((b9 l).2.1=0->Good (b9 l).1)/\((b9 l).2.1=0\/(b9 l).1=zD)
 |[],_=>⟨λ_=>W0,.inl rfl⟩
 |r::l,h=>by
  have j:=yX l λx c=>h x (m_ _ c);obtain⟨k,n,_⟩:=AX (h r (u_ ..));obtain⟨f,_⟩:=z8 (r:=gU r.2.1) (by omega);unfold b9;by_cases e:(b9 l).2.1≠0;.grind
  rw[if_neg e];by_cases b:(lV (gU r.2.1)).2.1≠0;.grind
  rw[if_neg b];have d:=lb (gT (lV (gU r.2.1)).1) (gT (b9 l).1);have a:=lb (gT (lV (gU r.2.1)).1) (b9 l).1;split
  .split;.grind
   .rename_i g;exact⟨λ_=>W1 (d.1 (by omega)).2.2.1,.inl rfl⟩
  .exact⟨λh=>(a.1 h).2.2.1,a.2.1⟩
def wZ(l:List Pt):∀k,k<=l.length->(b9 (l.drop k)).2.1≠0->b9 l=b9 (l.drop k)
 |0,_,_=>by simp
 |k+1,a,h=>by
  have hd:l.drop k=l[k]::l.drop (k+1):=z_ a;have e:b9 (l.drop k)=b9 (l.drop (k+1)):=by
   rw[hd];conv=>lhs;unfold b9
   grind
  rw[<-e]at h⊢;exact wZ l k (by omega) h
def vT(l:List Pt)(hl:l.length<=64)(h:∀r∈l,Dz r.2.1):aA tbl 169 [.d (.list yH) l] [] db (b9 l):=by
 refine bN ?_;refine aj zbY (ae (Ev.wp_loop (λst=>∃k:Nat,k<=l.length/\st=((b9 (l.drop k)).2.1,(k:Int) - 1,(0:Int),(b9 (l.drop k)).1.1,(b9 (l.drop k)).1.2.1,(b9 (l.drop k)).1.2.2.1,(b9 (l.drop k)).1.2.2.2.1,())) (λst=>(st.2.1+1).toNat) ⟨l.length,as_ _,by rw[wrap_i64];simp[b9]⟩ ?_));rintro st ⟨k,g,rfl⟩;dsimp only;cases k with
 |zero=>refine ae (bc (b:=((b9 (l.drop 0)).2.1==0)) (λ_=>aa rfl) (ak (by simp) (aa (aa ?_))));simp|succ i=>
  have a:i<l.length:=g;have hd:l.drop i=l[i]::l.drop (i+1):=z_ a;obtain⟨p,s,j,_⟩:=AX (h _ (b_ a));obtain⟨n,c⟩:=z8 (r:=gU l[i].2.1) (by omega);have hc:((i+1:Nat):Int) - 1=(i:Int):=by simp
  rw[hc];by_cases e0:(b9 (l.drop (i+1))).2.1=0
  .refine ae (bc (b:=((b9 (l.drop (i+1))).2.1==0)) (λ_=>aa rfl) (aD (by grind) (ae (aB a (aj j ?_)))));refine ak rfl ?_;rw[b8];refine aj c ?_;have hp:b9 (l.drop i)=b9 (l[i]::l.drop (i+1)):=by simp
   conv at hp=>rhs;unfold b9
   rw[if_neg (by omega)]at hp;refine au (λf=>aa (aa (aa ?_))) λf=>aB a (au (λhr=>aj (ui _) (aj (ui _) (aj (lb _ _).2.2 (aj (ui _) (aa (aa ?_)))))) λhr=>aj (ui _) (aj (lb _ _).2.2 (aa (aa ?_))))
   .have d:(lV (gU l[i].2.1)).2.1≠0:=by grind
    rw[if_pos d]at hp;have:=wZ l i (by omega) (by grind);rw[this,hp];rfl
   all_goals rw[if_neg (show ¬(lV (gU l[i].2.1)).2.1≠0 by grind)]at hp
   .have q:=(lb (gT (lV (gU l[i].2.1)).1) (gT (b9 (l.drop (i+1))).1)).2.1;have hp:b9 (l.drop i)=(gT (Aa (gT (lV (gU l[i].2.1)).1) (gT (b9 (l.drop (i+1))).1)).1,(Aa (gT (lV (gU l[i].2.1)).1) (gT (b9 (l.drop (i+1))).1)).2.1,()):=by
     rw[hp,if_pos hr];split;.rename_i e;rw[q.resolve_left e,show gT zD=zD by unfold gT;split<;>rfl]
     grind
    refine⟨⟨i,by omega,?_⟩,?_⟩;.rw[hp,wrap_i64]
    .rw[wrap_i64];simp
   .rw[if_neg (by grind)]at hp;refine⟨⟨i,by omega,?_⟩,?_⟩;.rw[hp,wrap_i64]
    .rw[wrap_i64];simp
  .refine ae (bc (b:=((b9 (l.drop (i+1))).2.1==0)) (λ_=>aa rfl) (ak (by grind) (aa (aa ?_))));rw[wZ l (i+1) (by omega) e0]
def LvS(k:Nat)(L:List dM):Prop:=∀l∈L,okD H5 l/\l.2.1.length<=k
def SG{A:List j7}{l:dM}{k:Nat}(c:∀a∈A,okD yA a)(hl:okD H5 l/\l.2.1.length<=k)(d:A.length+k<=1000000):okD H5 (mZ A l)/\(mZ A l).2.1.length<=A.length+k:=by
 unfold mZ;split
 .refine⟨⟨trivial,⟨?_,λa b=>?_⟩,trivial⟩,?_⟩;.show(A++l.2.1).length<=maxLen;rw[j_];simp only[maxLen];omega
  .rcases h_.1 b with b|b;.grind
   .exact hl.1.2.1.2 a b
  grind
 grind
abbrev ZO(l:List qT):Prop:=l.Pairwise λa b=>a.1<b.1
structure LI(i:Nat)(ts:List ee)(B:List cF)(L:List dM):Prop where
 tab:CY ts.length B L
 cB:B.length<=i*4500000000
 cL:L.length<=i*10000+1
 lv:LvS (64*i) L
 le:∀l∈L,vt l=0
abbrev tA(ts:List ee)(B:List cF)(L:List dM):eZ:=(ts,B,L,0,())
structure Fit(F:Nat)(g:eZ)(r:Int):Prop where
 num:Bu F g r
 l2:(kA F g r).2.1.length<=4096
 l3:(kA F g r).2.2.1.length<=4096
structure YS(i:Nat)(ts:List ee)(B:List cF)(L:List dM)(B1:List cF)(L1:List dM)(y:Int)(R:List Int):Prop where
 tab:CY ts.length B1 L1
 kj:Ps B1 L1 R
 mem:y∈R
 len:R.length<=8192
 eB:∃E,B1=B++E
 eL:∃E,L1=L++E
 cB:B1.length<=B.length+8192
 cL:L1.length<=L.length+8192
 lv:LvS (64*(i+1)) L1
 le:∀l∈L1,vt l=0
def LI.leaf{i:Nat}{ts:List ee}{B:List cF}{L:List dM}(h:LI i ts B L){l:dM}(N:okD H5 l)(hl:l.2.1.length<=64)(J:vt l=0):YS i ts B L B (dY L l).2 (dY L l).1 [(dY L l).1]:=by
 obtain⟨p1,p2,I,p4,H,p6⟩:=lz L l;obtain⟨U,Y⟩:=Sx B L l;refine⟨h.tab.leaf l,λn hn=>?_,List.mem_singleton_self _,by simp,⟨[],by simp⟩,I,by simp,by omega,λx E=>?_,λx E=>?_⟩;.rw[v_.1 hn];grind
 .rcases H x E with E|rfl;.exact⟨(h.lv x E).1,by have:=(h.lv x E).2;omega⟩
  grind
 .rcases H x E with E|rfl;.exact h.le x E
  omega
def LI.pre{F i:Nat}{ts:List ee}{B:List cF}{L:List dM}(h:LI i ts B L)(hi:i<=64){r:Int}(H:Fit F (tA ts B L) r){A:List j7}(Y:∀a∈A,okD yA a)(hA:A.length<=64)(U:∀a∈A,eP a=0){f:Nat}(N:(r+1).toNat<f): YS i ts B L (kS (tA ts B L) A f r (B,L,[])).2.1 (kS (tA ts B L) A f r (B,L,[])).2.2.1 (kS (tA ts B L) A f r (B,L,[])).1 ((kS (tA ts B L) A f r (B,L,[])).2.2.2.map (·.2)):=by
 have hc:=H.num.kj;have hn:=H.num.len;have p:=AZ (g:=tA ts B L) A hc h.tab f r (B,L,[]) H.num.mem N (PI.nil A _ h.tab);generalize kS (tA ts B L) A f r (B,L,[])=P at p;have hl:=p.inv.len;have h1:=H.l2;have h2:=H.l3;have hd:P.2.2.2.length<=8192:=by omega
 refine⟨p.inv.tab,p.inv.kj,p_.2 ⟨_,p.mem,rfl⟩,by grind,p.inv.eB,p.inv.eL,?_,?_,λx E=>?_,λx E=>?_⟩;.have:=p.inv.cB;grind
 .have:=p.inv.cL;grind
 .rcases p.inv.lv x E with E|⟨J,I,rfl⟩;.exact⟨(h.lv x E).1,by have:=(h.lv x E).2;omega⟩
  .have:=SG Y (h.lv J I) (by omega);grind
 .rcases p.inv.lv x E with E|⟨J,I,rfl⟩;.exact h.le x E
  .exact Xg U (h.le J I)
def zco{l:List qT}(h:ZO l)(i j:Nat)(a b:qT)(d:l[i]? =some a)(e:l[j]? =some b)(c:i<j):a.1<b.1:=by obtain⟨h1,rfl⟩:=q_.1 d;obtain⟨h2,rfl⟩:=q_.1 e;exact M_.1 h i j h1 h2 c
def W3{nt:Nat}{B:List cF}{L:List dM}(h:CY nt B L){n:Int}(hn:CO B L n):BK B n (-1):=λb=>by
 have a:n.toNat<B.length:=by have:=hn.1;omega
 have:=(h.bb _ _ (a_ a)).2.1;grind
def IF{a b:Ty}(k:a.den)(v:b.den):∀D:List (a.den×b.den),(fe a b D k v).length<=D.length+1
 |[]=>by simp[fe]
 |(x,y)::l=>by unfold fe;cases hZ a k x with|true=>simp|false=>have:=IF k v l;grind
def Lu{s:PS}{m:oJ}(a:iw s m=0){R:List Ly}{D:ZK}{C:List Tv}(h1:if m.1=1 then R.length<=64/\bz gG R=0 else R=[])(h2:if m.1=2 then de D=0 else D=Rr) (c:if m.1=3 then C.length<=64/\bz gE C=0 else C=[]):ue (m.1,m.2.2.1,m.2.2.2.1,R,D,C,())=0:=by
 obtain⟨k,nm,N,⟨e,pl,⟨⟩⟩,nt,⟨⟩⟩:=m;unfold iw at a;simp only at h1 h2 c a⊢;split at a;.omega
 split at a;.omega
 rename_i b d;unfold ue mh;have b:k=1\/k=2\/k=3\/k=4\/k=5\/k=6\/k=7\/k=8:=by omega
 rcases b with rfl|rfl|rfl|rfl|rfl|rfl|rfl|rfl<;>simp_all<;>omega
def zcs{s:PS}{m:oJ}(a:iw s m=0)(h:m.1=2):∃l∈s.2.1,l.1=m.2.1:=by
 obtain⟨k,nm,N,⟨b,pl,⟨⟩⟩,nt,⟨⟩⟩:=m;simp only at h;subst h;rw[jF (.inr (.inl rfl))]at a;split at a;.omega
 split at a;.rename_i h;obtain⟨l,h1,h2⟩:=aH_.1 (show s.2.1.any (·.1==nm)=true from h);grind
 omega
set_option maxRecDepth 100000
def XU{d:DF}(h:Good d):okD yF d:=by
 have hl:=fz h;have hs:=h.dt;have n:∀x:Int,0<=x->x<=4294967295->okD tI x:=λx h1 h2=>by show -9223372036854775808<=x/\x<=9223372036854775807;omega
 refine⟨⟨by show _<=9223372036854775807;omega,λx a=>n x ?_ (hs.2.2.2 x a)⟩,⟨by show _<=9223372036854775807;omega,λr hr=>⟨by rw[h.rows r hr];show _<=9223372036854775807;omega,λt ht=>n t (h.to r hr t ht).1 (by have:=h.to r hr t ht;omega)⟩⟩,⟨by show _<=9223372036854775807;omega,λ_ _=>trivial⟩,n _ h.start.1 (by have:=h.start;omega),trivial⟩;obtain⟨i,b,rfl⟩:=n_.1 a;have c:=hs.2.1 hs.1;rcases H_ i with rfl|hp;.omega
 .have:=lI hs i 0 b hp;omega
def zct{l:List (List UInt8)}(h:∀i,i<l.length->kP l i=0):∀(j i:Nat) (b:j<l.length) (a:i<j),l[i]<l[j]:=by
 intro j;induction j with
 |zero=>simp|succ k d=>
  intro i b a;have h1:=h (k+1) b;unfold kP at h1;rw[a_ b]at h1;simp only at h1;split at h1;.omega
  split at h1;.omega
  have c:tR l[k+1] l[k]=false:=by grind
  unfold tR at c;rw[Go.Proofs.bytesLess_eq]at c;grind
def IN{c:Type}{nm:c->List UInt8}{sz:c->Nat}{ck:c->Int}{l:List c}(h:c8 nm sz ck l=0):l.Pairwise λa b=>nm a≠nm b:=by
 unfold c8 at h;split at h;.omega
 have h1:∀i,i<(l.map nm).length->kP (l.map nm) i=0:=λi e=>by have:=nf.1 h i (by grind);unfold xS at this;omega
 refine M_.2 λi j e f d=>?_;have:=zct h1 j i (by grind) d;grind
def R3{s:PS}(h:j5 dH s=0):(s.1.Pairwise λa b=>a.1≠b.1)/\s.2.2.1.Pairwise λa b=>a.1≠b.1:=by
 unfold j5 at h;split at h;.omega
 rename_i h1;split at h;.omega
 split at h;.omega
 rename_i c;exact⟨IN (l_ h1),IN (l_ c)⟩
def Ix{d:Type}{nm:d->List UInt8}{l:List d}(h:l.Pairwise λa b=>nm a≠nm b)(n:List UInt8){i:Nat}(c:i<l.length):(l.take (i+1)).find? (nm ·==n)=if nm l[i]=n then some l[i]else(l.take i).find? (nm ·==n):=by
 rw[<-aE_ c];by_cases e:nm l[i]=n
 .have:(l.take i).find? (nm ·==n)=none:=List.find?_eq_none.2 λx g=>by obtain⟨j,f,rfl⟩:=n_.1 g;rw[T_]at f;have:=M_.1 h j i (by omega) c (by omega);grind
  grind
 grind
structure nw(s:PS):Prop where
 po:L8 dH s
 sm:Bw s
 d1:s.1.Pairwise λa b=>a.1≠b.1
 d3:s.2.2.1.Pairwise λa b=>a.1≠b.1
theorem nw.pat{s:PS}(h:nw s){l:Zl}(hl:l∈s.2.1):∀r∈l.2.1,Dz r.2.1:=λr hr=>⟨h.sm.pt l hl r hr,by have:=(h.po.r2 l hl).2 r hr;unfold dH at this;grind⟩
noncomputable def d9(s:PS)(m:oJ):ee×Int×Unit:=
 if m.1=1 then((m.1,m.2.2.1,m.2.2.2.1,((cn s m.2.1).getD ([],[],())).2.1,Rr,[],()),0,())
 else if m.1=2 then((m.1,m.2.2.1,m.2.2.2.1,[],(b9 ((fy s m.2.1).getD ([],[],())).2.1).1,[],()),(b9 ((fy s m.2.1).getD ([],[],())).2.1).2.1,())
 else if m.1=3 then((m.1,m.2.2.1,m.2.2.2.1,[],Rr,((bD s m.2.1).getD ([],[],())).2.1,()),0,())
 else((m.1,m.2.2.1,m.2.2.2.1,[],Rr,[],()),0,())
def Qj{s:PS}{m:oJ}(a:iw s m=0)(h:m.1=2):∃l∈s.2.1,fy s m.2.1=some l:=by obtain⟨l,hl,e⟩:=zcs a h;unfold fy;cases b:s.2.1.find? (·.1==m.2.1)with|some l=>grind|none=>grind
def Y6{s:PS}(hs:nw s){m:oJ}(d:iw s m=0)(b:okD yM m)(c:(d9 s m).2.1=0):ue (d9 s m).1=0/\okD LG (d9 s m).1:=by
 have a:∀{R:List Ly} {D:ZK} {C:List Tv},okD (.list yR) R->okD yF D->okD (.list yC) C->okD LG (m.1,m.2.2.1,m.2.2.2.1,R,D,C,()):=λh1 h2 f=>⟨b.1,b.2.2.1,b.2.2.2.1,h1,h2,f,trivial⟩;have zF:okD yF Rr:=⟨f7,f7,f7,(by show IntKind.min .i64<=(0:Int)/\(0:Int)<=IntKind.max .i64;decide),trivial⟩;have h:=hs.po;unfold d9 at c⊢;by_cases h1:m.1=1
 .rw[if_pos h1];have:(((cn s m.2.1).getD ([],[],())).2.1.length<=64/\bz gG ((cn s m.2.1).getD ([],[],())).2.1=0)/\okD (.list yR) ((cn s m.2.1).getD ([],[],())).2.1:=by cases e:cn s m.2.1 with|none=>exact⟨⟨by simp,rfl⟩,f7⟩|some l=>have hl:=G_ (show s.1.find? (·.1==m.2.1)=some l from e);exact⟨⟨(h.r1 l hl).1,fj.2 (h.r1 l hl).2⟩,(hs.sm.ok.1.2 l hl).2.1⟩
  exact⟨Lu d (by grind) (by grind) (by grind),a this.2 zF f7⟩
 rw[if_neg h1]at c⊢;by_cases h2:m.1=2;.rw[if_pos h2]at c⊢;obtain⟨l,hl,e⟩:=Qj d h2;rw[e]at c⊢;have g:=(yX l.2.1 (hs.pat hl)).1 c;exact⟨Lu d (by grind) (by rw[if_pos h2];exact fX.2 g) (by grind),a f7 (XU g) f7⟩
 rw[if_neg h2];by_cases f:m.1=3
 .rw[if_pos f];have:(((bD s m.2.1).getD ([],[],())).2.1.length<=64/\bz gE ((bD s m.2.1).getD ([],[],())).2.1=0)/\okD (.list yC) ((bD s m.2.1).getD ([],[],())).2.1:=by cases e:bD s m.2.1 with|none=>exact⟨⟨by simp,rfl⟩,f7⟩|some l=>have hl:=G_ (show s.2.2.1.find? (·.1==m.2.1)=some l from e);exact⟨⟨(h.r3 l hl).1,fj.2 (h.r3 l hl).2⟩,(hs.sm.ok.2.2.1.2 l hl).2.1⟩
  exact⟨Lu d (by grind) (by grind) (by grind),a f7 zF this.2⟩
 rw[if_neg f];exact⟨Lu d (by grind) (by grind) (by grind),a f7 zF f7⟩
def sP{s:PS}(hs:nw s){m:oJ}(k:iw s m=0):aA tbl 107 [.d yS s,.d yM m] [] nZ (d9 s m):=by
 refine bN ?_;have c:=hs.po;unfold d9;by_cases h1:m.1=1
 .have f:=c.l1;rw[if_pos h1];refine ae (aD (by grind) (ae (aI (N:=s.1.length) (I:=λi x=>x=((i:Int),0,0,0,0,0,m.1,m.2.2.1,m.2.2.2.1.1,m.2.2.2.1.2.1,0,(((s.1.take i).find? (·.1==m.2.1)).getD ([],[],())).2.1,())) rfl (λi x a b=>?_) λx b=>?_)))
  .subst b;have hl:=c.r1 _ (b_ a);rw[Ix (nm:=(·.1)) hs.d1 m.2.1 a];refine aO a (ae (aB a (au (λh=>ar (decide_eq_true (by grind)) (aa (aa ?_))) λh=>aa (aa ?_))));.rw[ao a,if_pos (by grind)];rfl
   .rw[ao a,if_neg (by grind)]
  .subst b;rw[g_];exact aH (aa (aa (aa rfl)))
 rw[if_neg h1];by_cases h2:m.1=2
 .have g:=c.l2;rw[if_pos h2];obtain⟨l,hl,e⟩:=Qj k h2;rw[e];refine ae (ak (by grind) (aD (by grind) (ae (aI (N:=s.2.1.length) (I:=λi x=>x=((i:Int),0,0,0,0,0,m.1,m.2.2.1,m.2.2.2.1.1,m.2.2.2.1.2.1,0,())/\(s.2.1.drop i).find? (·.1==m.2.1)=some l) ⟨rfl,by rw[aj_];exact e⟩ (λi x a b=>?_) λx b=>?_))))
  .obtain⟨rfl,b⟩:=b;rw[z_ a,bg_]at b;refine aO a (aB a (au (λh=>?_) λh=>aa ?_));.rw[h]at b;obtain rfl:=bs_ b;exact aj (vT _ (c.r2 _ hl).1 (hs.pat hl)) (aa (aa (aa rfl)))
   .rw[h]at b;rw[ao a];grind
  grind
 rw[if_neg h2];by_cases d:m.1=3
 .have j:=c.l3;rw[if_pos d];refine ae (ak (by grind) (ak (by grind) (aD (by grind) (ae (aI (N:=s.2.2.1.length) (I:=λi x=>x=((i:Int),0,0,0,0,0,m.1,m.2.2.1,m.2.2.2.1.1,m.2.2.2.1.2.1,0,(((s.2.2.1.take i).find? (·.1==m.2.1)).getD ([],[],())).2.1,())) rfl (λi x a b=>?_) λx b=>?_)))))
  .subst b;have hl:=c.r3 _ (b_ a);rw[Ix (nm:=(·.1)) hs.d3 m.2.1 a];refine aO a (ae (aB a (au (λh=>ar (decide_eq_true (by grind)) (aa (aa ?_))) λh=>aa (aa ?_))));.rw[ao a,if_pos (by grind)];rfl
   .rw[ao a,if_neg (by grind)]
  .subst b;rw[g_];exact aH (aa (aa (aa rfl)))
 rw[if_neg d];exact ae (ak (by grind) (ak (by grind) (ak (by grind) (aa (aa rfl)))))
set_option maxRecDepth 100000
abbrev Tz:Type:=Bool×(Int×(Int×Unit))
def fits(r:Tz)(c:Int):Bool:=
 ((r.2.1==(-1:Int))||(r.2.1==f_ .i64 (bm_ c (2^(min (K_ (16:Int)) (ae_ .u32))))))&&
 ((r.2.2.1==(-1:Int))||(r.2.2.1==f_ .i64 (kh .u32 .and c (65535:Int))))
def AM(r:Tz)(l:List Int):Bool:=(l.find? (fits r)).isSome
def nX(a:List Tz)(l:List Int):Bool:=match a.find? (λr=>AM r l)with
 |some r=>r.1
 |none=>false
def Qv(r:Tz)(c:Int){β:Type}{k:Nat->Bool->Option β}{Q:β->Prop}(a:Wp (λn=>k n (fits r c)) Q):Wp (λn=>o_ (bif (r.2.1==(-1:Int))then some (true)else bU (decide (0<=(16:Int))) (let b:=f_ .i64 (bm_ c (2^(min (K_ (16:Int)) (ae_ .u32))));some ((r.2.1==b)))) λd=>o_ (bif d then o_ (bif (r.2.2.1==(-1:Int))then some (true)else some ((r.2.2.1==f_ .i64 (kh .u32 .and c (65535:Int))))) λe=>some (e) else some (false)) λf=>k n f) Q:=by refine ae (bf (λ_=>ar rfl (aa rfl)) ?_);refine ae (bc (λ_=>ae (bf (λ_=>aa rfl) (aa rfl))) ?_);exact a
def o7{N:Nat}(r:Tz)(l:List Int)(hl:l.length<=9223372036854775807)(b:N=178\/N=140:=by decide):aA tbl N [.d Ur r,.d (.list tW) l] [] ap (AM r l,()):=by
 rcases b with rfl|rfl;all_goals
  refine bN ?_;refine ae (zw (xs:=l) (p:=fits r) (g:=λ_=>((true,()):Bool×Unit)) (e:=()) (λi x a=>?_) ?_ ?_)
  .have c:=(q_.1 a).1;refine au (λ_=>?_) (λh=>absurd h (by simp;omega));refine bX (by simp) (by simpa using a) ?_;refine Qv r x ?_;cases fits r x;.exact aa (by simp only[aA_,if_false];rw[ao c hl])
   .exact aa rfl
  .exact au (λh=>absurd h (by simp)) λ_=>aa rfl
  .unfold AM;cases l.find? (fits r);.exact aa rfl
   .exact aa rfl
def fR{N:Nat}(a:List Tz)(l:List Int)(hr:a.length<=9223372036854775807)(hl:l.length<=9223372036854775807)(c:N=136\/N=66:=by decide):aA tbl N [.d (.list Ur) a,.d (.list tW) l] [] ap (nX a l,()):=by
 rcases c with rfl|rfl;all_goals
  refine bN ?_;refine ae (zw (xs:=a) (p:=λr=>AM r l) (g:=λr=>((r.1,()):Bool×Unit)) (e:=()) (λi x b=>?_) ?_ ?_)
  .have d:=(q_.1 b).1;refine au (λ_=>?_) (λh=>absurd h (by simp;omega));refine bX (by simp) (by simpa using b) ?_;first|refine aj (o7 x l hl) ?_|refine aj (o7 x l hl) ?_
   cases h:AM x l;.exact aa (by simp only[aA_,if_false];rw[ao d hr])
   .exact aa rfl
  .exact au (λh=>absurd h (by simp)) λ_=>aa rfl
  .unfold nX;cases a.find? (λr=>AM r l);.exact aa rfl
   .exact aa rfl
def uE{l:List Int}{k:Nat}(h:k<l.length):l.getD k 0=l[k]:=by simp[List.getD,a_ h]
def xp(l:List Int):aA tbl 147 [.d (.list tW) l] [] aw (Cm.check l,()):=by
 refine bN ?_;refine au (λh=>aa ?_) λh=>?_;.rw[Cm.DZ (by grind)]
 have hl:¬255<l.length:=by grind
 refine ae (r8 (N:=l.length) (good:=λi=>i=0\/l.getD (i - 1) 0<l.getD i 0) (e:=((16:Int),())) (g:=()) (λi a=>?_) ?_ (λh=>?_) λh=>?_)
 .refine aO a (ae (bc (b:=decide (l.getD i 0<=l.getD (i - 1) 0)) (λc=>?_) (ev ?_ (by rw[ao a]))))
  .have c:=of_decide_eq_true c;have e:f_ .i64 ((i:Int) - 1)=((i - 1:Nat):Int):=by rw[wrap_i64];omega
   rw[e];refine aB a (aB (by omega) (aa ?_));grind
  grind
 .exact aH (aa rfl)
 .refine aa ?_;have d:∀k,k<=l.length->Cm.Up (l.take k):=by intro k;induction k with|zero=>simp|succ k f=>intro j;exact Cm.Tt (f (by omega)) (by omega) (h k (by omega))
  have:=d l.length (as_ _);rw[g_]at this;rw[Cm.MF hl this]
 .refine aa ?_;obtain⟨i,a,hg⟩:=h;rw[Cm.Im hl (Cm.XE a (by omega) (by omega))]
def GI(l:List Int):aA tbl 151 [.d (.list tW) l] [] aw (Cm.check l,()):=by
 refine bN ?_;refine au (λh=>aa ?_) λh=>?_;.rw[Cm.DZ (by grind)]
 have hl:¬255<l.length:=by grind
 refine ae (Wp.imp (Q:=λr=>(r= .inr ()/\Cm.Up l)\/(r= .inl ((16:Int),())/\¬Cm.Up l)) (Go.Ev.wp_loop (fun(s:Int×Unit)=>∃k:Nat,s=((k:Int),())/\1<=k/\(l.length<=1\/k<=l.length)/\Cm.Up (l.take k)) (fun(s:Int×Unit)=>l.length - s.1.toNat) ⟨1,rfl,by simp,by omega,?_⟩ λs hs=>?_) λr hr=>?_);.cases l with|nil=>simp|cons x l=>simp
 .obtain⟨k,rfl,b,c,a⟩:=hs;refine au (λh=>?_) λh=>aa (.inl ⟨rfl,?_⟩)
  .have h:k<l.length:=by grind
   have e:f_ .i64 ((k:Int) - 1)=((k - 1:Nat):Int):=by rw[wrap_i64];omega
   simp only;rw[e];refine aB h (aB (by omega) (au (λh'=>aa (.inr ⟨rfl,?_⟩)) λh'=>aa ⟨⟨k+1,?_,by simp,by omega,?_⟩,?_⟩));.have h':=of_decide_eq_true h';exact Cm.XE h (by omega) (by grind)
   .rw[ao h]
   .have h':=of_decide_eq_false h';refine Cm.Tt a h (.inr ?_);grind
   .show l.length - (f_ .i64 ((k:Int)+1)).toNat<l.length - ((k:Int)).toNat;rw[ao h];omega
  .have h:¬k<l.length:=by grind
   rw[A_ (by omega)]at a;omega
 .rcases hr with⟨rfl,a⟩|⟨rfl,a⟩;.refine aa ?_;rw[Cm.MF hl a]
  .refine aa ?_;rw[Cm.Im hl a]
def LQ(l:List Int)(x:Int)(hl:l.length<=12000000000):aA tbl 221 [.d (.list tW) l,.d tW x] [] aW (Cm.ins x l,()):=by
 refine bN ?_;have A:f_ .i64 ((l.length:Int)+1)=((l.length+1:Nat):Int):=by rw[wrap_i64];rfl
 refine ar (by grind) ?_;refine ae (aI (N:=l.length) (I:=λi s=>s.2.1=(i:Int)/\s.2.2.1++Cm.kX x (l.drop i) s.1=Cm.ins x l/\s.2.2.1.length<=i+(if s.1 then 1 else 0)) ⟨rfl,by simp,by simp⟩ (λi s f hs=>?_) λs hs=>?_)
 .obtain⟨d,j,c,⟨⟩⟩:=s;obtain⟨h1,h2,k⟩:=hs;simp only at h1 h2 k;subst h1;rw[Cm.Qp x l i d f,uE f]at h2;have p:f_ .i64 ((i:Int)+1)=((i+1:Nat):Int):=ao f;refine aO f (ae (aB f (ae ?_)));generalize l[i]=y at h2;have a:∀(e:Bool) (o:List Int),o++((if y != x then [y]else [])++Cm.kX x (l.drop (i+1)) e)=Cm.ins x l->o.length<=i+(if e then 1 else 0)->Wp (λ_=>bif (y != x)then bU (decide ((o.length+([y]:List Int).length)*4<=140737488355328)) (some ((e,o++([y]:List Int),())))else some ((e,o,())))
   (λu:Bool×List Int×Unit=>Wp (λ_=>some (br_ (u.1,f_ .i64 ((i:Int)+(1:Int)),u.2.1,()))) fun(r:(Bool×Int×List Int×Unit)⊕(Bool×List Int×Unit))=>match r with
    | .inl s'=>s'.2.1=((i+1:Nat):Int)/\s'.2.2.1++Cm.kX x (l.drop (i+1)) s'.1=Cm.ins x l/\s'.2.2.1.length<=i+1+(if s'.1 then 1 else 0)
    | .inr _=>False):=λe o B w=>by
   have n:o.length<=i+1:=by grind
   refine au (λh=>ar (decide_eq_true (by grind)) (aa (aa ⟨p,?_,?_⟩))) λh=>aa (aa ⟨p,?_,?_⟩)
   .grind
   all_goals grind
  refine ae (bc (b:=decide (x<=y)) (λ_=>aa rfl) ?_);cases d with
  |true=>refine ak rfl (aa (Wp.imp (a true c (by grind) (by omega)) λv g=>Wp.imp g λr hr=>?_));grind|false=>
   by_cases z:x<=y;.refine aD (by grind) (ar (decide_eq_true (by grind)) (aa (Wp.imp (a true (c++[x]) (by grind) (by grind)) λv g=>Wp.imp g λr hr=>?_)));grind
   .refine ak (by grind) (aa (Wp.imp (a false c (by grind) (by omega)) λv g=>Wp.imp g λr hr=>?_));grind
 .obtain⟨d,j,c,⟨⟩⟩:=s;obtain⟨h1,h2,k⟩:=hs;simp only at h1 h2 k;subst h1;refine aH (aa ?_);rw[ao_]at h2;cases d with|true=>refine ae (ak rfl (aa (aa ?_)));rw[<-h2];simp[Cm.kX]|false=>refine ae (aD rfl (ar (decide_eq_true (by grind)) (aa (aa ?_))));rw[<-h2];simp[Cm.kX]
def LZ(l:List Int)(hl:l.length<=12000000000):aA tbl 219 [.d (.list tW) l] [] aW (Cm.pc l,()):=by
 refine bN ?_;refine ae (aI (N:=l.length) (I:=λi s=>s=((l.take i).foldl (λo x=>Cm.ins x o) [],(i:Int),())) rfl (λi s a hs=>?_) λs hs=>?_)
 .subst hs;have b:((l.take i).foldl (λo x=>Cm.ins x o) []).length<=i:=by have:=(Cm.tK (l.take i) [] List.Pairwise.nil).2.2;grind
  refine aO a (aB a (aj (LQ ((l.take i).foldl (λo x=>Cm.ins x o) []) l[i] (by omega)) (aa ?_)));show(Cm.ins l[i] ((l.take i).foldl (λo x=>Cm.ins x o) []),f_ .i64 ((i:Int)+1),())=_;rw[ao a,y_ a,ak_];rfl
 .subst hs;refine aH (aa (aa ?_));rw[g_];rfl
def j8{N:Nat}(l:List Int)(x:Int)(hl:l.length<=9223372036854775807)(c:N=220\/N=223:=by decide):aA tbl N [.d (.list tW) l,.d tW x] [] ap (decide (x∈l),()):=by
 rcases c with rfl|rfl;all_goals
  refine bN ?_;refine ae (kL (xs:=l) (P:=λy=>y≠x) (e:=(true,())) (g:=()) (λi a=>?_) ?_ (λh=>aa ?_) λh=>aa ?_);.refine aO a (aB a (ev ?_ (by rw[ao a hl])));simp
  .exact aH (aa rfl)
  .rw[decide_eq_false λb=>h x b rfl]
  .rw[decide_eq_true (l_ λb=>h λy d e=>b (e▸d))]
def B4(l:List Int)(c:Int)(hl:l.length<=6000000000):aA tbl 184 [.d (.list tW) l,.d tW c] [] aW (Cm.add l c,()):=by
 refine bN ?_;have a:=Cm.KM l;refine aj (LZ l (by omega)) (ae (bc (b:= !decide (c∈Cm.pc l)) (λ_=>aj (j8 (Cm.pc l) c (by omega)) (aa rfl)) (au (λh=>aa ?_) λh=>aj (LQ (Cm.pc l) c (by omega)) (aa ?_))));.rw[show Cm.add l c=Cm.pc l from if_pos (by grind)]
 .rw[show Cm.add l c=Cm.ins c (Cm.pc l)from if_neg (fun⟨h1,h2⟩=>by grind)]
def zdp(l:List Int)(hl:l.length<=6000000000):aA tbl 10222 [.d (.list tW) l] [] aW (Cm.pc l,())/\aA tbl 222 [.d (.list tW) l] [] gI (Cm.pc l,()):=by
 constructor;all_goals
  refine bN ?_;refine ae (Wp.imp (Q:=λr=>r=(Cm.pc l,())) ?_ λr hr=>?_)
  .refine Go.Ev.wp_loop (fun(s:List Int×Unit)=>Cm.Out l s.1) (fun(s:List Int×Unit)=>Cm.left l s.1) (Cm.Out.zero l) λs hs=>?_;obtain⟨a,⟨⟩⟩:=s;change Cm.Out l a at hs;have u:=hs.len;refine ae (Wp.imp (Q:=λr=>r.2.2.1=a/\Cm.vS l a l.length r.1 r.2.1) ?_ λr hr=>?_)
   .refine aI (N:=l.length) (I:=λi z=>z.2.2.1=(i:Int)/\z.2.2.2.1=a/\Cm.vS l a i z.1 z.2.1) ⟨rfl,rfl,Cm.vS.zero l a 0⟩ (λi z c w=>?_) λz w=>?_
    .obtain⟨f,b,j,o,⟨⟩⟩:=z;obtain⟨h1,h2,e⟩:=w;simp only at h1 h2 e;subst h1;subst h2;have u:=hs.len;have A:f_ .i64 ((i:Int)+1)=((i+1:Nat):Int):=ao c;refine aO c (ae (aB c ?_));have k:∃g:Bool,(g=true↔∀y∈o,y<l[i])/\Wp (λn=>(bif ((o.length:Int)==(0:Int))then some (true)else o_ (lx o (f_ .i64 ((o.length:Int) - (1:Int)))) λ_=>o_ o[K_ (f_ .i64 ((o.length:Int) - (1:Int)))]? λD=>some (decide (l[i]>D)):Option Bool)) (·=g):=by
      by_cases e0:o=[]
      .subst e0;exact⟨true,by simp,aD rfl (aa rfl)⟩
      .have hp:0<o.length:=List.length_pos_iff.2 e0;have B:f_ .i64 ((o.length:Int) - 1)=((o.length - 1:Nat):Int):=by rw[wrap_i64];omega
       refine⟨decide (l[i]>o[o.length - 1]),?_,ak (beq_eq_false_iff_ne.2 (by omega)) ?_⟩;.rw[Cm.Sw hs.up e0 l[i],uE (by omega),decide_eq_true_eq]
       .simp only[B];refine aB (by omega) (bi (x:=o[o.length - 1]) ?_ (aa rfl));rw[e_];exact a_ _
     obtain⟨g,hg,p⟩:=k;refine ae (Wp.imp p λv C=>?_);subst C;refine ae (bc (b:= !f||decide (l[i]<b)) (λ_=>ae (bf (b:=decide (l[i]<b)) (λ_=>aa rfl) (aa rfl))) (au (λh=>aa (aa ⟨A,rfl,?_⟩)) λh=>aa (aa ⟨A,rfl,?_⟩)));.simp only[Bool.and_eq_true,bd_,decide_eq_true_eq,Bool.not_eq_true']at h;have:=Cm.vS.take e c (by rw[uE c];exact hg.1 h.1) (by rw[uE c];exact h.2);rw[uE c]at this;exact this
     .refine Cm.vS.skip e c λd=>?_;rw[uE c]at d⊢;rw[hg.2 d]at h;simp at h;exact⟨h.1,h.2⟩
    .obtain⟨f,b,j,o,⟨⟩⟩:=z;obtain⟨h1,h2,e⟩:=w;simp only at h1 h2 e;subst h1;subst h2;exact aH (aa ⟨rfl,e⟩)
   obtain⟨f,b,o,⟨⟩⟩:=r;obtain⟨h1,h2⟩:=hr;simp only at h1 h2;subst h1;cases f with|false=>exact aD rfl (aa (by show(o,())=_;rw[Cm.Out.za0 hs h2]))|true=>refine ak rfl (ar (decide_eq_true (by show(o.length+1)*4<=_;omega)) (aa ⟨Cm.Out.step hs h2,?_⟩));have:=h2.yes rfl;exact Cm.left_step this.1 this.2
  subst hr;exact aa rfl
def zbu(l:List Int)(hl:l.length<=6000000000):=(zdp l hl).1
def zbU(l:List Int)(hl:l.length<=6000000000):=(zdp l hl).2
def qe{N:Nat}(l:List Int)(c:Int)(hl:l.length<=6000000000)(b:N=185\/N=187:=by decide):aA tbl N [.d (.list tW) l,.d tW c] [] aW (Cm.drop l c,()):=by
 have f:=B_ (Cm.KM l) hl;rcases b with rfl|rfl;all_goals
  refine bN ?_;first|refine aj (LZ l (by omega)) ?_|refine aj (zbu l hl) ?_
  refine ae (Wp.imp (Q:=λr=>r=((Cm.pc l).filter (λx=>x != c),())) ?_ λr hr=>?_)
  .refine aI (N:=(Cm.pc l).length) (I:=λi s=>s=((i:Int),((Cm.pc l).take i).filter (λx=>x != c),())) rfl (λi s a hs=>?_) λs hs=>?_
   .subst hs;have d:(((Cm.pc l).take i).filter (λx=>x != c)).length<=i:=B_ (List.length_filter_le _ _) (by rw[T_];omega);have e:((Cm.pc l).take (i+1)).filter (λx=>x != c)=((Cm.pc l).take i).filter (λx=>x != c)++(if(Cm.pc l)[i] != c then [(Cm.pc l)[i]]else []):=by rw[y_ a,aB_];congr 1;cases h:((Cm.pc l)[i] != c)<;>simp[List.filter,h]
    refine aO a (ae (aB a (au (λh=>ar (decide_eq_true (by show((((Cm.pc l).take i).filter (λx=>x != c)).length+1)*4<=_;omega)) (aa (aa ?_))) λh=>aa (aa ?_))));.show(f_ .i64 ((i:Int)+1),((Cm.pc l).take i).filter (λx=>x != c)++[(Cm.pc l)[i]],())=_;rw[e,if_pos h,ao a]
    .show(f_ .i64 ((i:Int)+1),((Cm.pc l).take i).filter (λx=>x != c),())=_;rw[e,if_neg (by rw[h];decide),w_,ao a]
   .subst hs;refine aH (aa ?_);rw[g_]
  subst hr;exact aa rfl
def LU(l:List Int)(c:Int)(hl:l.length<=5500000000):aA tbl 186 [.d (.list tW) l,.d tW c] [] aW (Cm.add l c,()):=by
 refine bN ?_;have a:=Cm.KM l;have d:(Cm.pc l,()).1.length<=5500000000:=by grind
 refine aj (zbU l (by omega)) (ae (bc (b:= !decide (c∈Cm.pc l)) (λ_=>aj (j8 _ c (by omega)) (aa rfl)) (au (λh=>aa ?_) λh=>ar (decide_eq_true (by grind)) (aj (zbu _ (by grind)) (aa ?_)))));.rw[show Cm.add l c=Cm.pc l from if_pos (by grind)]
 .rw[show Cm.add l c=Cm.ins c (Cm.pc l)from if_neg (fun⟨h1,h2⟩=>by grind),Cm.add_eq]
set_option maxRecDepth 100000
def if5{P:Prop} [Decidable P]:(if P then(0:Int)else 5)=0\/(if P then(0:Int)else 5)=5:=by omega
def Jj{r:ix}(h1:ik r.1=true)(h2:¬(r.2.1<1\/7<r.2.1))(a:¬r.2.2.2.1.length>2000):mE r=if ¬∀v∈r.2.2.2.1,1<=v/\v<=4294967295 then 5 else if Cm.check r.2.2.2.2.1≠0 then Cm.check r.2.2.2.2.1 else if ¬(pY r.2.2.2.2.2.1/\pY r.2.2.2.2.2.2.1/\pY r.2.2.2.2.2.2.2.2.1)\/r.2.2.2.2.2.2.2.1<0\/16777216<r.2.2.2.2.2.2.2.1 then 5 else 0:=by unfold mE;grind
def vC(r:ix)(hp:iF r.1.1):aA tbl 68 [.d xn r] [] aw (mE r,()):=by
 refine bN ?_;refine aj (bV r.1 hp) (au (λh=>aa ?_) λh=>?_);.rw[show mE r=1 from if_pos (by grind)]
 have h1:ik r.1=true:=by grind
 refine ae (bf (b:=decide (r.2.1>7)) (λ_=>aa rfl) (au (λh=>aa ?_) λh=>?_));.rw[show mE r=5 from by unfold mE;grind]
 have h2:¬(r.2.1<1\/7<r.2.1):=by grind
 refine au (λh=>aa ?_) λh=>?_;.rw[show mE r=4 from by unfold mE;grind]
 have B:¬r.2.2.2.1.length>2000:=by grind
 rw[Jj h1 h2 B];refine ae (kL (xs:=r.2.2.2.1) (P:=λv=>1<=v/\v<=4294967295) (e:=((5:Int),())) (g:=()) (λi l=>?_) ?_ (λh=>?_) λh=>aa ?_);.refine aO l (aB l (ae (bf (b:=decide (r.2.2.2.1[i]>4294967295)) (λ_=>aa rfl) (ev ?_ (by rw[ao l])))));grind
 .exact aH (aa rfl)
 .rw[if_neg (not_not_intro h)];refine aj (xp r.2.2.2.2.1) (au (λh=>aa ?_) λh=>?_);.grind
  rw[if_neg (by grind)];generalize r.2.2.2.2.2.1=x0;generalize r.2.2.2.2.2.2.1=d;generalize r.2.2.2.2.2.2.2=y;obtain⟨D,k,⟨⟩⟩:=y;have one:∀x:Int,Wp (λ_=>o_ (bif decide (x<(0:Int))then some (true)else some (decide (x>(4294967295:Int)))) λv=>some v) (λb=>b= !decide (pY x)):=λx=>by refine ae (bf (b:=decide (x>4294967295)) (λ_=>aa rfl) (aa ?_));grind
  refine ae (mG (N:=3) (f:=λi=>if pY (if i=0 then x0 else if i=1 then d else k)then 0 else 5) (enc:=λi=>((x0,d,k,()),(i:Int),())) (oB:=λe=>(e,())) (oE:=()) (λi l=>?_) ?_ ?_)
  .have p:∀x:Int,x=(if i=0 then x0 else if i=1 then d else k)->Wp (λ_=>o_ (bif decide (x<(0:Int))then some (true)else some (decide (x>(4294967295:Int)))) λu=>
    bif u then some (.inr (.inl (((5:Int),()))))else some (.inl ((x0,d,k,()),f_ .i64 ((i:Int)+(1:Int)),())))
    (fun(r:((Int×Int×Int×Unit)×Int×Unit)⊕(Int×Unit)⊕Unit)=>r=if(if pY (if i=0 then x0 else if i=1 then d else k)then(0:Int)else 5)=0 then .inl ((x0,d,k,()),((i+1:Nat):Int),())else .inr (.inl ((if pY (if i=0 then x0 else if i=1 then d else k)then(0:Int)else 5),()))):=λx C=>by
    subst C
    refine ae (bf (b:=decide (_>4294967295)) (λ_=>aa rfl) (au (λh=>aa ?_) λh=>aa ?_))
    .grind
    .rw[if_pos (show pY _ by grind),if_pos rfl,ao (n:=3) l (by simp)]
   refine aO l ?_;have s:i=0\/i=1\/i=2:=by omega
   rcases s with rfl|rfl|rfl;.exact qN (a:=x0) rfl (p x0 rfl)
   .exact qN (a:=d) rfl (p d rfl)
   .exact qN (a:=k) rfl (p k rfl)
  .exact aH (aa rfl)
  have z:gS (λi=>if pY (if i=0 then x0 else if i=1 then d else k)then(0:Int)else 5) 3=if pY x0/\pY d/\pY k then 0 else 5:=by
   by_cases h:pY x0/\pY d/\pY k;.rw[if_pos h];refine nf.2 λj H=>?_;omega
   .rw[if_neg h];refine(WP (c:=5) (λj=>if5)).resolve_left λA=>h ?_;have h1:=nf.1 A;have g0:=h1 0 (by simp);have E:=h1 1 (by simp);have F:=h1 2 (by simp);omega
  rw[z];by_cases w:pY x0/\pY d/\pY k;.rw[if_pos w,if_pos rfl];refine ae (bf (b:=decide (D>16777216)) (λ_=>aa rfl) (au (λh=>aa ?_) λh=>aa ?_));all_goals grind
  .rw[if_neg w,if_neg (by simp)];refine aa ?_;grind
 grind
set_option maxRecDepth 100000
def qQ(x:Int):aA tbl 152 [.d tI x] [] ap (decide (x>=0)&&decide (x<=4294967295),()):=by refine bN ?_;exact ae (bc (b:=decide (x<=4294967295)) (λ_=>aa rfl) (aa rfl))
def vF(r:ix)(hp:iF r.1.1):aA tbl 72 [.d xn r] [] aw (mE r,()):=by
 refine bN ?_;refine aj (bV r.1 hp) (au (λh=>aa ?_) λh=>?_);.rw[show mE r=1 from if_pos (by grind)]
 have h1:ik r.1=true:=by grind
 refine ae (bf (b:=decide (r.2.1>7)) (λ_=>aa rfl) (au (λh=>aa ?_) λh=>?_));.rw[show mE r=5 from by unfold mE;grind]
 have h2:¬(r.2.1<1\/7<r.2.1):=by grind
 refine au (λh=>aa ?_) λh=>?_;.rw[show mE r=4 from by unfold mE;grind]
 have j:¬r.2.2.2.1.length>2000:=by grind
 rw[Jj h1 h2 j];refine ae (kL (xs:=r.2.2.2.1) (P:=λv=>1<=v/\v<=4294967295) (e:=((5:Int),())) (g:=()) (λi a=>?_) ?_ (λh=>?_) λh=>aa ?_);.refine aO a (aB a (ae (bf (b:=decide (r.2.2.2.1[i]>4294967295)) (λ_=>aa rfl) (ev ?_ (by rw[ao a])))));grind
 .exact aH (aa rfl)
 .rw[if_neg (not_not_intro h)];refine aj (GI r.2.2.2.2.1) (au (λh=>aa ?_) λh=>?_);.grind
  rw[if_neg (by grind)];generalize r.2.2.2.2.2.1=x0;generalize r.2.2.2.2.2.2.1=c;generalize r.2.2.2.2.2.2.2=y;obtain⟨f,d,⟨⟩⟩:=y;refine aj (qQ x0) (ae (bf (b:= !(decide (c>=0)&&decide (c<=4294967295))) (λ_=>aj (qQ c) (aa rfl)) ?_));refine ae (bf (b:= !(decide (d>=0)&&decide (d<=4294967295))) (λ_=>aj (qQ d) (aa rfl)) ?_);refine ae (bf (b:=decide (f<0)) (λ_=>aa rfl) (ae (bf (b:=decide (f>16777216)) (λ_=>aa rfl) (au (λh=>aa ?_) λh=>aa ?_))));all_goals grind
 grind
set_option maxRecDepth 100000
def xo(r:ix)(h1:r.2.2.2.1.length<=6000000000)(h2:r.2.2.2.2.1.length<=6000000000):aA tbl 148 [.d xn r] [] bB (r,()):=by obtain⟨p,po,nh,pt,cm,t⟩:=r;simp only at h1 h2;refine bN ?_;refine ar (by grind) (ar (by grind) (aa ?_));simp
def GN(r:ix)(h1:r.2.2.2.1.length<=6000000000)(h2:r.2.2.2.2.1.length<=6000000000):aA tbl 153 [.d xn r] [] bB (r,()):=by obtain⟨p,po,nh,pt,cm,t⟩:=r;simp only at h1 h2;refine bN ?_;exact ar (decide_eq_true (by grind)) (ar (decide_eq_true (by grind)) (aa rfl))
def Me{a:j7}(b:eP a=0)(c:a.1=8):1<=a.2.1/\a.2.1<=16:=by
 unfold eP at b;split at b;.omega
 split at b;.omega
 split at b;.omega
 rename_i h;have h:jk a=true:=by grind
 unfold jk at h;grind
def Ic{a:j7}(b:eP a=0):1<=a.1/\a.1<=8:=by
 unfold eP at b;split at b;.cases b
 .omega
section
variable {a:j7} {p:Gu} {po nh:Int} {pt cm:List Int} {pf md mt tg:Int} {u:Unit}
theorem zds(h:a.1=1):Cf a (p,po,nh,pt,cm,pf,md,mt,tg,u)=(p,po,nh,pt,cm,a.2.1,md,mt,tg,u):=by simp[Cf,h]
theorem zdt(h:a.1=2):Cf a (p,po,nh,pt,cm,pf,md,mt,tg,u)=(p,po,nh,pt,cm,pf,a.2.1,mt,tg,u):=by simp[Cf,h]
theorem zdu(h:a.1=3):Cf a (p,po,nh,pt,cm,pf,md,mt,tg,u)=(p,po,nh,pt,cm,pf,md,a.2.1,tg,u):=by simp[Cf,h]
theorem zdv(h:a.1=4):Cf a (p,po,nh,pt,cm,pf,md,mt,tg,u)=(p,po,nh,pt,cm,pf,md,mt,a.2.1,u):=by simp[Cf,h]
theorem zdw(h:a.1=5):Cf a (p,po,nh,pt,cm,pf,md,mt,tg,u)=(p,po,a.2.2.2.2.1,pt,cm,pf,md,mt,tg,u):=by simp[Cf,h]
theorem zdx(h:a.1=6):Cf a (p,po,nh,pt,cm,pf,md,mt,tg,u)=(p,po,nh,pt,Cm.add cm a.2.2.2.1,pf,md,mt,tg,u):=by simp[Cf,h]
theorem zdy(h:a.1=7):Cf a (p,po,nh,pt,cm,pf,md,mt,tg,u)=(p,po,nh,pt,Cm.drop cm a.2.2.2.1,pf,md,mt,tg,u):=by simp[Cf,h]
theorem zdz(h:a.1=8)(hl:(pt.length:Int)+a.2.1<=2000):Cf a (p,po,nh,pt,cm,pf,md,mt,tg,u)=(p,po,nh,c_ a.2.1.toNat a.2.2.1++pt,cm,pf,md,mt,tg,u):=by simp[Cf,h,hl]
theorem zdA(h:a.1=8)(hl:¬(pt.length:Int)+a.2.1<=2000):Cf a (p,po,nh,pt,cm,pf,md,mt,tg,u)=(p,po,nh,pt,cm,pf,md,mt,tg,u):=by simp[Cf,h];intro h';exact absurd h' hl
end
def Do(a:j7)(r:ix)(y:eP a=0)(h1:r.2.2.2.1.length<=5400000000)(h2:r.2.2.2.2.1.length<=5400000000):aA tbl 150 [.d yA a,.d xn r] [] bB (Cf a r,()):=by
 obtain⟨⟨z,A,⟨⟩⟩,po,nh,pt,cm,pf,md,mt,tg,⟨⟩⟩:=r;simp only at h1 h2;refine bN ?_;have F:=Ic y;have b:∀{k:Int},a.1≠k->(a.1==k)=false:=λh=>beq_eq_false_iff_ne.2 h;have c:∀{k:Int},a.1=k->(a.1==k)=true:=λh=>beq_iff_eq.2 h;by_cases d:a.1=1;.rw[zds d];exact ae (aD (c d) (aa (aa rfl)))
 by_cases e:a.1=2;.rw[zdt e];exact ae (ak (b d) (aD (c e) (aa (aa rfl))))
 by_cases f:a.1=3;.rw[zdu f];exact ae (ak (b d) (ak (b e) (aD (c f) (aa (aa rfl)))))
 by_cases g:a.1=4;.rw[zdv g];exact ae (ak (b d) (ak (b e) (ak (b f) (aD (c g) (aa (aa rfl))))))
 by_cases j:a.1=5;.rw[zdw j];exact ae (ak (b d) (ak (b e) (ak (b f) (ak (b g) (aD (c j) (aa (aa rfl)))))))
 by_cases p:a.1=6;.rw[zdx p];exact ae (ak (b d) (ak (b e) (ak (b f) (ak (b g) (ak (b j) (aD (c p) (aj (B4 cm a.2.2.2.1 (by omega)) (aa (aa rfl)))))))))
 by_cases w:a.1=7;.rw[zdy w];exact ae (ak (b d) (ak (b e) (ak (b f) (ak (b g) (ak (b j) (ak (b p) (aD (c w) (aj (qe cm a.2.2.2.1 (by omega)) (aa (aa rfl))))))))))
 have u:a.1=8:=by omega
 obtain⟨D,E⟩:=Me y u;generalize l:a.2.1=N at D E;obtain⟨m,rfl⟩:=aG_ (show 0<=N by omega);refine ae (ak (b d) (ak (b e) (ak (b f) (ak (b g) (ak (b j) (ak (b p) (ak (b w) (aD (c u) ?_))))))));have B:f_ .i64 ((pt.length:Int)+(m:Int))=(pt.length:Int)+(m:Int):=wrap_i64;have v:f_ .i64 ((m:Int)+(pt.length:Int))=(m:Int)+(pt.length:Int):=wrap_i64;simp only[l,B,v];refine au (λh=>?_) λh=>aa (aa ?_)
 .have h:=of_decide_eq_true h;rw[zdz u (by omega),l];refine ar (by grind) ?_;refine ae (aI (N:=m) (I:=λi s=>s=((i:Int),z,A,po,nh,pt,cm,pf,md,mt,tg,(0:Int),(0:Int),(0:Int),(0:Int),(0:Int),(0:Int),(0:Int),(0:Int),c_ i a.2.2.1++c_ (m - i) (0:Int),())) rfl (λi s C hs=>?_) λs hs=>?_)
  .subst hs;simp only[l];have hl:(c_ i a.2.2.1++c_ (m - i) (0:Int)).length=m:=by grind
   refine aD (decide_eq_true (by grind)) ?_;refine aB (by omega) (bi (x:=(c_ i a.2.2.1++c_ (m - i) (0:Int))[i]'(by omega)) (by grind) (aa ?_));show(f_ .i64 ((i:Int)+1),z,A,po,nh,pt,cm,pf,md,mt,tg,(0:Int),(0:Int),(0:Int),(0:Int),(0:Int),(0:Int),(0:Int),(0:Int),(c_ i a.2.2.1++c_ (m - i) (0:Int)).set (K_ (i:Int)) a.2.2.1,())=_;rw[ao C,e_];have:(c_ i a.2.2.1++c_ (m - i) (0:Int)).set i a.2.2.1=c_ (i+1) a.2.2.1++c_ (m - (i+1)) (0:Int):=by rw[aK_ _ _ (by simp),aa_,az_,show m - i=(m - (i+1))+1 by omega,List.replicate_succ,aS_,aM_ (n:=i),s_];rfl
   grind
  .subst hs;simp only[l];refine ak (decide_eq_false (by simp)) (aa ?_);simp only[az_,ax_,w_];refine ar (decide_eq_true (by grind)) (aa (aa ?_));simp
 .have h:=of_decide_eq_false h;rw[zdA u (by omega)]
def Gy(t:jd):aA tbl 149 [.d yT t] [] qa (([([112],[([116],t.2.1,t.2.2.1,1,())],1,())]:List sr),()):=crZ
def zbi{a:j7}(h:okD yA a):Bw (YT a):=by
 have l1:(1:Nat)<=maxLen:=by decide
 have c:IntKind.i64.min<=(1:Int)/\(1:Int)<=IntKind.i64.max:=by decide
 have ht:okD yT ([116],[],[a],1,()):=by refine⟨l1,⟨D_ _,λy b=>by grind⟩,⟨l1,λx d=>?_⟩,c,trivial⟩;grind
 have hp:okD yO ([112],[([116],[],[a],1,())],1,()):=by refine⟨l1,⟨l1,λx d=>?_⟩,c,trivial⟩;grind
 refine⟨⟨⟨D_ _,λy b=>by grind⟩,⟨D_ _,λy b=>by grind⟩,⟨D_ _,λy b=>by grind⟩,⟨l1,λy b=>?_⟩,trivial⟩,D_ _,D_ _,D_ _,show(1:Nat)<=1048576 by simp,λl hl=>by grind⟩;grind
def Xi:∀(l:List Int) (a:Int) (n:Nat),Cm.Up l->(∀z∈l,a<=z/\z<a+n)->l.length<=n
 |[],_,_,_,_=>D_ _
 |y::l,a,n,b,h=>by
  unfold Cm.Up at b;rw[V_]at b;have d:=h y (by simp);have:=Xi l (y+1) (n - (y+1 - a).toNat) b.2 λz c=>by have h1:=h z (by grind);have h2:=b.1 z c;omega
  simp only[ap_];omega
structure V5(r:ix):Prop where
 pt:r.2.2.2.1.length<=100000
 cm:r.2.2.2.2.1.length<=100000\/Cm.Up r.2.2.2.2.1
 rg:∀z∈r.2.2.2.2.1,iF z
def V5.sm{r:ix}(h:V5 r):Zo 5000000000 r:=by
 refine⟨h.pt,?_⟩;rcases h.cm with hc|hc;.omega
 have:=Xi _ 0 4294967296 hc λz E=>by have:=h.rg z E;omega
 omega
def zab{a:j7}{r:ix}(l:iF a.2.2.2.1)(h:V5 r):V5 (Cf a r):=by
 obtain⟨p,po,nh,pt,cm,pf,md,mt,tg,u⟩:=r;obtain⟨h1,h2,d⟩:=h;simp only at h1 h2 d;have k:=Cm.Ri cm;have g:∀(p:Gu) (po nh:Int) (j e:List Int) (t:Int×Int×Int×Int×Unit),j.length<=100000->(e.length<=100000\/Cm.Up e)->(∀z∈e,iF z)->V5 (p,po,nh,j,e,t):=λ_ _ _ _ _ _ a b c=>⟨a,b,c⟩;simp only[Cf];split;.exact g _ _ _ _ _ _ h1 h2 d
 split;.exact g _ _ _ _ _ _ h1 h2 d
 split;.exact g _ _ _ _ _ _ h1 h2 d
 split;.exact g _ _ _ _ _ _ h1 h2 d
 split;.exact g _ _ _ _ _ _ h1 h2 d
 split
 .refine g _ _ _ _ _ _ h1 (.inr ?_) λz f=>?_
  .unfold Cm.add;split;.exact k
   .exact Cm.Rj _ _ k
  .unfold Cm.add at f;split at f;.exact d z ((Cm.Dc cm z).1 f)
   rcases(Cm.KY _ z _).1 f with f|rfl;.exact d z ((Cm.Dc cm z).1 f)
   .exact l
 split;.refine g _ _ _ _ _ _ h1 (.inr (k.filter _)) λz f=>?_;exact d z ((Cm.Dc cm z).1 (bj_.1 f).1)
 split;.rename_i hl;refine g _ _ _ _ _ _ ?_ h2 d;simp only[j_,aa_];omega
 .exact g _ _ _ _ _ _ h1 h2 d
def xz{l:List j7}:∀{r:ix},(∀a∈l,okD yA a)->V5 r->V5 (u4 l r):=by
 induction l with
 |nil=>intro r _ h;exact h|cons a l c=>
  intro r b h;refine c (r:=DC a r) (λx d=>b x (by grind)) ?_;unfold DC;split;.exact zab (b a (by simp)).2.2.2.1 h
  .exact h
def Bq(l:List j7)(r:ix)(hl:l.length<=9223372036854775807)(j:∀a∈l,okD yA a)(hr:∀i,Zo 5000000000 (u4 (l.take i) r)):aA tbl 71 [.d (.list yA) l,.d xn r] [] bB (u4 l r,()):=by
 refine bN ?_;refine aj (xo r (by have f:Zo 5000000000 r:=hr 0;have:=f.pt;omega) (by have f:Zo 5000000000 r:=hr 0;have:=f.cm;omega)) ?_;have enc:∀x:ix,x=((x.1.1,x.1.2.1,()),x.2.1,x.2.2.1,x.2.2.2.1,x.2.2.2.2.1,x.2.2.2.2.2.1,x.2.2.2.2.2.2.1,x.2.2.2.2.2.2.2.1,x.2.2.2.2.2.2.2.2.1,()):=λx=>rfl;refine ae (aI (N:=l.length) (I:=λi s=>∃x:ix,x=u4 (l.take i) r/\s=((i:Int),(0:Int),(0:Int),(0:Int),(0:Int),(0:Int),(0:Int),(0:Int),(0:Int),x.1.1,x.1.2.1,x.2.1,x.2.2.1,x.2.2.2.1,x.2.2.2.2.1,x.2.2.2.2.2.1,x.2.2.2.2.2.2.1,x.2.2.2.2.2.2.2.1,x.2.2.2.2.2.2.2.2.1,())) ⟨r,rfl,rfl⟩ (λi s c hs=>?_) λs hs=>?_)
 .obtain⟨x,e,rfl⟩:=hs;have d:Zo 5000000000 x:=by rw[e];exact hr i
  have hc:=d.cm;have hp:=d.pt;have g:=j _ (b_ c);have b:u4 (l.take (i+1)) r=DC l[i] x:=by unfold u4 at e⊢;rw[y_ c,ak_,e];rfl
  refine aO c (ae (aB c (aj (Gy _) (aj (iy (YT l[i]) (zbi g)) ?_))));rw[YU];refine au (λh=>?_) λh=>?_
  .have h:eP l[i]=0:=by grind
   rw[show DC l[i] x=Cf l[i] x from if_pos h]at b;refine aj (Do l[i] x h (by omega) (by omega)) (aa (aa ⟨Cf l[i] x,b.symm,?_⟩));show(f_ .i64 ((i:Int)+1),_)=_;rw[ao c]
  .have h:¬eP l[i]=0:=by grind
   rw[show DC l[i] x=x from if_neg h]at b;refine aa (aa ⟨x,b.symm,?_⟩);show(f_ .i64 ((i:Int)+1),_)=_;rw[ao c]
 .obtain⟨x,e,rfl⟩:=hs;refine aH (aa (aa ?_));grind
def LY(a:j7)(r:ix)(h1:r.2.2.2.1.length<=5400000000)(h2:r.2.2.2.2.1.length<=5400000000):aA tbl 154 [.d yA a,.d xn r] [] bB (DC a r,()):=by
 obtain⟨⟨j,l,⟨⟩⟩,po,nh,pt,cm,pf,md,mt,tg,⟨⟩⟩:=r;simp only at h1 h2;refine bN ?_;refine aj (sY a) (au (λh=>aa ?_) λh=>?_);.rw[show DC a ((j,l,()),po,nh,pt,cm,pf,md,mt,tg,())=((j,l,()),po,nh,pt,cm,pf,md,mt,tg,())from if_neg (by grind)]
 have x:eP a=0:=by grind
 rw[show DC a ((j,l,()),po,nh,pt,cm,pf,md,mt,tg,())=Cf a ((j,l,()),po,nh,pt,cm,pf,md,mt,tg,())from if_pos x];have D:=Ic x;have b:∀{k:Int},a.1≠k->(a.1==k)=false:=λh=>beq_eq_false_iff_ne.2 h;have c:∀{k:Int},a.1=k->(a.1==k)=true:=λh=>beq_iff_eq.2 h;by_cases d:a.1=1;.rw[zds d];exact ae (aD (c d) (aa (aa rfl)))
 by_cases e:a.1=2;.rw[zdt e];exact ae (ak (b d) (aD (c e) (aa (aa rfl))))
 by_cases f:a.1=3;.rw[zdu f];exact ae (ak (b d) (ak (b e) (aD (c f) (aa (aa rfl)))))
 by_cases g:a.1=4;.rw[zdv g];exact ae (ak (b d) (ak (b e) (ak (b f) (aD (c g) (aa (aa rfl))))))
 by_cases p:a.1=5;.rw[zdw p];exact ae (ak (b d) (ak (b e) (ak (b f) (ak (b g) (aD (c p) (aa (aa rfl)))))))
 by_cases v:a.1=6;.rw[zdx v];exact ae (ak (b d) (ak (b e) (ak (b f) (ak (b g) (ak (b p) (aD (c v) (aj (LU cm a.2.2.2.1 (by omega)) (aa (aa rfl)))))))))
 by_cases y:a.1=7;.rw[zdy y];exact ae (ak (b d) (ak (b e) (ak (b f) (ak (b g) (ak (b p) (ak (b v) (aD (c y) (aj (qe cm a.2.2.2.1 (by omega)) (aa (aa rfl))))))))))
 have w:a.1=8:=by omega
 obtain⟨B,C⟩:=Me x w;generalize u:a.2.1=N at B C;obtain⟨m,rfl⟩:=aG_ (show 0<=N by omega);refine ae (ak (b d) (ak (b e) (ak (b f) (ak (b g) (ak (b p) (ak (b v) (ak (b y) (aD (c w) ?_))))))));have A:f_ .i64 ((pt.length:Int)+(m:Int))=(pt.length:Int)+(m:Int):=wrap_i64;simp only[u,A];refine au (λh=>aa (aa ?_)) λh=>?_;.have h:=of_decide_eq_true h;rw[zdA w (by omega)]
 .have h:=of_decide_eq_false h;rw[zdz w (by omega),u];refine ae (aI (N:=m) (I:=λi s=>s=((i:Int),j,l,po,nh,pt,cm,pf,md,mt,tg,(0:Int),(0:Int),(0:Int),(0:Int),(0:Int),(0:Int),(0:Int),(0:Int),c_ i a.2.2.1,())) rfl (λi s z hs=>?_) λs hs=>?_);.subst hs;simp only[u];refine aO z (ar (decide_eq_true (by grind)) (aa ?_));show(f_ .i64 ((i:Int)+1),j,l,po,nh,pt,cm,pf,md,mt,tg,(0:Int),(0:Int),(0:Int),(0:Int),(0:Int),(0:Int),(0:Int),(0:Int),c_ i a.2.2.1++[a.2.2.1],())=_;rw[ao z,aM_ (n:=i)]
  .subst hs;simp only[u];refine aH (aa ?_);refine ar (decide_eq_true (by grind)) (aa (aa ?_));simp
def LV(l:List j7)(r:ix)(hl:l.length<=9223372036854775807)(hr:∀i,Zo 5000000000 (u4 (l.take i) r)):aA tbl 73 [.d (.list yA) l,.d xn r] [] bB (u4 l r,()):=by
 refine bN ?_;refine aj (GN r (by have e:Zo 5000000000 r:=hr 0;have:=e.pt;omega) (by have e:Zo 5000000000 r:=hr 0;have:=e.cm;omega)) ?_;refine ae (aI (N:=l.length) (I:=λi s=>∃x:ix,x=u4 (l.take i) r/\s=((i:Int),x.1.1,x.1.2.1,x.2.1,x.2.2.1,x.2.2.2.1,x.2.2.2.2.1,x.2.2.2.2.2.1,x.2.2.2.2.2.2.1,x.2.2.2.2.2.2.2.1,x.2.2.2.2.2.2.2.2.1,(0:Int),(0:Int),(0:Int),(0:Int),(0:Int),(0:Int),(0:Int),(0:Int),())) ⟨r,rfl,rfl⟩ (λi s c hs=>?_) λs hs=>?_)
 .obtain⟨x,d,rfl⟩:=hs;have b:Zo 5000000000 x:=by rw[d];exact hr i
  have hc:=b.cm;have hp:=b.pt;have a:u4 (l.take (i+1)) r=DC l[i] x:=by unfold u4 at d⊢;rw[y_ c,ak_,d];rfl
  refine aO c (aB c (aj (LY l[i] x (by omega) (by omega)) (aa ⟨DC l[i] x,a.symm,?_⟩)));show(f_ .i64 ((i:Int)+1),_)=_;rw[ao c]
 .obtain⟨x,d,rfl⟩:=hs;refine aH (aa (aa ?_));grind
end Go.Proofs.YtdgiglmmpbndmaaGreatDoor
set_option maxRecDepth 100000
set_option maxHeartbeats 1000000
namespace Go.Proofs.YtdgiglmmpbndmaaGreatDoor
open Z
open Go Go.Av Go.Ev Go.Pl
def JF:∀(r:Rx),sz r<=1000000->aA tbl 255 [.d .rx r] [] ap (cN r,()):=by
 refine fg λk lo up ks n hs=>?_;obtain⟨c,b⟩:=rX hs;refine bN ?_;refine aj (xw _) ?_;show Wp _ _;have l:cN (.mk k lo up ks)=(fD k lo up ks.length==0&&r7 ks):=rfl;refine au (λh=>aa ?_) λh=>?_
 .have:(fD k lo up ks.length==0)=false:=by have h:(fD k lo up ks.length != 0)=true:=h;grind
  grind
 .have d:(fD k lo up ks.length==0)=true:=by have h:(fD k lo up ks.length != 0)=false:=h;grind
  rw[l,d,Y_];refine ae (kL (xs:=ks) (P:=λr=>cN r=true) (e:=(false,())) (g:=()) (λi a=>?_) ?_ (λhg=>?_) (λf=>?_));.refine aO a (aB a ?_);rw[b8];have hr:=b_ a;refine aj (n ks[i] hr (by grind)) (ev ?_ (by rw[ao a]));simp
  .exact aH (aa rfl)
  .refine aa ?_;rw[(lM ks).2 hg]
  .refine aa ?_;have:r7 ks=false:=by
    cases j:r7 ks;.rfl
    .exact absurd ((lM ks).1 j) f
   grind
def GU:∀(r:Rx),sz r<=1000000->aA tbl 256 [.d .rx r] [] aw ((cnt r:Int),()):=by
 refine fg λk lo up ks h hs=>?_;obtain⟨e,d⟩:=rX hs;refine bN ?_;have g:cnt (.mk k lo up ks)<=1000000:=B_ (D3 _) hs;simp only[cnt]at g;have hc:∀i,cj (ks.take i)<=cj ks:=λi=>by
  have:cj ks=cj (ks.take i)+cj (ks.drop i):=by rw[<-nC,an_]
  omega
 have j:∀n:Nat,(o_ (o_ (bif (k==(1:Int))then some true else some (k==(2:Int))) λv=>bif v then some (((1:Int),()):Int×Unit)else some ((0:Int),())) fun(v:Int×Unit)=>some v)=some (((bif k==1||k==2 then 1 else 0:Nat):Int),()):=λ_=>by grind
 have c:(o_ (bif (k==(1:Int))then some true else some (k==(2:Int))) λv=>bif v then some (((1:Int),()):Int×Unit)else some ((0:Int),()))=some (((bif k==1||k==2 then 1 else 0:Nat):Int),()):=by grind
 refine ae (cD (a:=(((bif k==1||k==2 then 1 else 0:Nat):Int),())) (λ_=>c) ?_);refine ae (aI (N:=ks.length) (I:=λi s=>s=((((bif k==1||k==2 then 1 else 0)+cj (ks.take i):Nat):Int),(i:Int),())) (by simp[cj]) (λi s b hs=>?_) λs hs=>?_)
 .subst hs;refine aO b (aB b ?_);rw[b8];have hr:=b_ b;refine aj (h ks[i] hr (by grind)) (aa ?_);have f:cj (ks.take (i+1))=cj (ks.take i)+cnt ks[i]:=by rw[i_,a_ b,nC];simp[cj]
  have:=hc (i+1);refine bt_ ?_ (bt_ (ao b) rfl);show f_ .i64 ((((bif k==1||k==2 then 1 else 0)+cj (ks.take i):Nat):Int)+(cnt ks[i]:Int))=_;rw[wrap_i64,f];omega
 .subst hs;refine aH (aa (aa ?_));rw[g_];rfl
def iS(M:Nat)(P:List (Nat×Nat)):List (List Bool):=(d_ M).map λi=>(d_ M).map λk=>decide ((i,k)∈P)
def Fj(M:Nat)(P:List (Nat×Nat)):(iS M P).length=M:=by simp[iS]
def yE{M:Nat}{P:List (Nat×Nat)}{i:Nat}(h:i<(iS M P).length):(iS M P)[i]=(d_ M).map λk=>decide ((i,k)∈P):=by simp[iS]
def Xv{M:Nat}{P:List (Nat×Nat)}{i k:Nat}(f:i<M)(g:k<M):(iS M P).set i (((d_ M).map λk=>decide ((i,k)∈P)).set k true)=iS M (P++[(i,k)]):=by
 refine F_ (by simp[iS]) λa h1 h2=>?_;simp only[af_,yE,bh_]at h1⊢;split;.rename_i e;subst e;refine F_ (by simp) λb c d=>?_;grind
 grind
def gB(a b:List Int)(c:a.length<=1000000)(d:b.length<=1000000):aA tbl 282 [.d (.list tI) a,.d (.list tI) b] [] iG (a++b,()):=by refine bN ?_;refine ar (decide_eq_true (by grind)) (ar (decide_eq_true (by grind)) (aa ?_));simp
def nu(x y:Int)(lo a:List Int)(F:List (List Bool))(h1:lo.length<=1000000)(h2:a.length<=1000000):aA tbl 280 [.ptr 0 0,.d tI x,.d tI y] [.box 360 [.sl 1,.sl 2,.sl 3],.vec 3 tI lo,.vec 3 tI a,.tree 49 (.s 4 1 .e .e) (.list tB) F none] cI (([(lo.length:Int)],[(lo.length:Int)],false,()),lo++[x],a++[y],F,()):=by refine bN ?_;exact ar (decide_eq_true (by grind)) (ar (decide_eq_true (by grind)) (aa rfl))
def iX{M:Nat}(P:List (Nat×Nat))(lo up:List Int){la fi:List Nat}(h:∀p∈la,p<M)(e:∀q∈fi,q<M)(h1:la.length<=1000000)(h2:fi.length<=1000000)(n:M<=1000000): aA tbl 281 [.ptr 0 0,.d (.list tI) (cL la),.d (.list tI) (cL fi)] [.box 360 [.sl 1,.sl 2,.sl 3],.vec 3 tI lo,.vec 3 tI up,.tree 49 (.s 4 1 .e .e) (.list tB) (iS M P) none] gf (lo,up,iS M (P++ca la fi),()):=by
 refine bN ?_;refine ae (aI (N:=(cL la).length) (I:=λi s=>s=((i:Int),lo,up,iS M (P++ca (la.take i) fi),())) (by simp[ca]) ?_ ?_)
 .rintro i s a rfl;have f:i<la.length:=by rw[bW]at a;omega
  have hp:=h _ (b_ f);refine aO a (aB a ?_);rw[Ac f];refine ae (aI (N:=(cL fi).length) (I:=λj s=>s=((j:Int),lo,up,iS M (P++ca (la.take i) fi++ca [la[i]] (fi.take j)),())) (by simp[ca]) ?_ ?_)
  .rintro j s b rfl;have g:j<fi.length:=by rw[bW]at b;omega
   have l:=e _ (b_ g);refine aO b (aB b ?_);rw[Ac g];have c:la[i]<(iS M (P++ca (la.take i) fi++ca [la[i]] (fi.take j))).length:=by rw[Fj];omega
   have hg:=a_ c;rw[yE]at hg;refine aB c (ar (decide_eq_true (by simp)) ?_);simp only[e_];refine bi hg (bi hg (ar (ay_ _) ?_));have d:fi[j]<((d_ M).map λk=>decide ((la[i],k)∈P++ca (la.take i) fi++ca [la[i]] (fi.take j))).length:=by grind
   refine aB d (bi (a_ d) (bi hg (aa ?_)));rw[ao b (by rw[bW];omega),Xv hp l];congr 4;rw[i_,a_ g];simp only[ca,O_,aI_,w_,k_,E_,Q_,P_,s_]
  .rintro s rfl;refine aH (aa (aa ?_));rw[ao a (by rw[bW];omega),bW,g_,FL f,s_]
 .rintro s rfl;refine aH (aa (aa ?_));rw[bW,g_]
def uY{M:Nat}(E:M<=1000000):∀(r:Rx),cN r=true->sz r<=1000000->∀(lo f:List Int) (P:List (Nat×Nat)),f.length=lo.length->lo.length+cnt r<=M->aA tbl 257 [.ptr 0 0,.d .rx r] [.box 360 [.sl 1,.sl 2,.sl 3],.vec 3 tI lo,.vec 3 tI f,.tree 49 (.s 4 1 .e .e) (.list tB) (iS M P) none] cI ((cL (bO r lo.length).fi,cL (bO r lo.length).la,(bO r lo.length).em,()),lo++(bO r lo.length).sp.map (·.1),f++(bO r lo.length).sp.map (·.2),iS M (P++(bO r lo.length).pr),()):=by
 refine fg λk w up ks B O hs lo f P v L=>?_;obtain⟨H,g⟩:=rX hs;obtain⟨hn,e⟩:=eF.1 O;have hcs:cj ks<=cnt (.mk k w up ks):=by simp only[cnt];simp
 refine bN ?_;have F:(bif (k==(0:Int))then some true else some (k==(3:Int)))=some (k==0||k==3):=by grind
 refine ae (cD (a:=(k==0||k==3)) (λ_=>F) ?_);rcases hn.known with rfl|rfl|rfl|rfl|rfl|rfl|rfl|rfl;.have:=len_nil (hn.leaf (by simp));subst this;refine cD (a:=some (gq cI (([],[],true,()),lo,f,iS M P,()))) (λ_=>rfl) ?_;simp[bO,Pl.g0,cL]
 .have:=len_nil (hn.leaf (by simp));subst this;refine ae (aj (nu w up lo f _ (by omega) (by omega)) (aa (aa ?_)));simp[bO,IB,cL]
 .have:=len_nil (hn.leaf (by simp));subst this;refine ae (aj (nu 0 4294967295 lo f _ (by omega) (by omega)) (aa (aa ?_)));simp[bO,IB,cL]
 .have l:bO (.mk 3 w up ks) lo.length=cY ks lo.length (Pl.g0 true):=by simp[bO]
  rw[l];show Wp (λn=>o_ (o_ (ff n _ ((0:Int),lo,f,iS M P,false,([]:List Int),([]:List Int),true,())) _) _) _;refine ae (ae (aI (N:=ks.length) (I:=λi s=>s=((i:Int),lo++(cY (ks.take i) lo.length (Pl.g0 true)).sp.map (·.1),f++(cY (ks.take i) lo.length (Pl.g0 true)).sp.map (·.2),iS M (P++(cY (ks.take i) lo.length (Pl.g0 true)).pr),false,cL (cY (ks.take i) lo.length (Pl.g0 true)).fi,cL (cY (ks.take i) lo.length (Pl.g0 true)).la,(cY (ks.take i) lo.length (Pl.g0 true)).em,())) (by simp[cY,Pl.g0,cL]) ?_ ?_))
  .rintro i s c rfl;obtain⟨l1,l2⟩:=zaM e lo.length i;rw[AD c];have u:=mP c;generalize cY (ks.take i) lo.length (Pl.g0 true)=a at*;have hr:=b_ c;obtain⟨w1,w2⟩:=dF ks[i] (e _ hr) (lo.length+a.sp.length);have d:=eY ks[i] (lo.length+a.sp.length);refine aO c (aB c ?_);rw[b8];have hsz:=g _ hr;have hc:=B ks[i] hr (e _ hr) (by omega) (lo++a.sp.map (·.1)) (f++a.sp.map (·.2)) (P++a.pr) (by grind) (by grind);rw[show(lo++a.sp.map (·.1)).length=lo.length+a.sp.length by simp]at hc;generalize bO ks[i] (lo.length+a.sp.length)=x at*;have h1:=l1.fl;have h2:=l1.ll;have C:=d.fl;have D:=d.ll;refine aj hc (aj (iX (P++a.pr++x.pr) _ _ (la:=a.la) (fi:=x.fi) (λp hp=>by have:=l1.la p hp;omega) (λq A=>by have:=d.fi q A;omega) (by omega) (by omega) E) ?_);have j:∀b:Bool,a.em=b->∀z:Bool,x.em=z->((((i+1:Nat):Int),lo++a.sp.map (·.1)++x.sp.map (·.1),f++a.sp.map (·.2)++x.sp.map (·.2),iS M (P++a.pr++x.pr++ca a.la x.fi),false,(bif b then cL a.fi++cL x.fi else cL a.fi),(bif z then cL a.la else [])++cL x.la,b&&z,()):Int×List Int×List Int×List (List Bool)×Bool×List Int×List Int×Bool×Unit)=(((i+1:Nat):Int),lo++(gY a x).sp.map (·.1),f++(gY a x).sp.map (·.2),iS M (P++(gY a x).pr),false,cL (gY a x).fi,cL (gY a x).la,(gY a x).em,()):=λb y z h=>by simp only[gY,y,h,k_,s_];cases b<;>cases z<;>simp[JU,cL]
   show Wp (λn=>o_ (bif a.em then _ else _) _) _;cases y:a.em
   .refine ae (aa ?_);show Wp (λn=>o_ (bif !x.em then _ else _) _) _;cases h:x.em;.refine ae (aa (aj (gB [] (cL x.la) (by simp) (by rw[bW];omega)) (ae (aa (aa ?_)))));rw[ao c];exact j false y false h
    .refine ae (aa (aj (gB (cL a.la) (cL x.la) (by rw[bW];omega) (by rw[bW];omega)) (ae (aa (aa ?_)))));rw[ao c];exact j false y true h
   .refine ae (aj (gB (cL a.fi) (cL x.fi) (by rw[bW];omega) (by rw[bW];omega)) (aa ?_));show Wp (λn=>o_ (bif !x.em then _ else _) _) _;cases h:x.em;.refine ae (aa (aj (gB [] (cL x.la) (by simp) (by rw[bW];omega)) (ae (aa (aa ?_)))));rw[ao c];exact j true y false h
    .refine ae (aa (aj (gB (cL a.la) (cL x.la) (by rw[bW];omega) (by rw[bW];omega)) (ae (aa (aa ?_)))));rw[ao c];exact j true y true h
  .rintro s rfl;refine aH (aa (aa (aa ?_)));simp
 .have l:bO (.mk 4 w up ks) lo.length=bZ ks lo.length (Pl.g0 false):=by simp[bO]
  rw[l];show Wp (λn=>o_ (o_ (ff n _ ((0:Int),lo,f,iS M P,false,([]:List Int),([]:List Int),false,())) _) _) _;refine ae (ae (aI (N:=ks.length) (I:=λi s=>s=((i:Int),lo++(bZ (ks.take i) lo.length (Pl.g0 false)).sp.map (·.1),f++(bZ (ks.take i) lo.length (Pl.g0 false)).sp.map (·.2),iS M (P++(bZ (ks.take i) lo.length (Pl.g0 false)).pr),false,cL (bZ (ks.take i) lo.length (Pl.g0 false)).fi,cL (bZ (ks.take i) lo.length (Pl.g0 false)).la,(bZ (ks.take i) lo.length (Pl.g0 false)).em,())) (by simp[bZ,Pl.g0,cL]) ?_ ?_));.rintro i s c rfl;obtain⟨l1,l2⟩:=Xk e lo.length i;rw[AB c];have u:=mP c;generalize bZ (ks.take i) lo.length (Pl.g0 false)=a at*;have hr:=b_ c;obtain⟨w1,w2⟩:=dF ks[i] (e _ hr) (lo.length+a.sp.length);have d:=eY ks[i] (lo.length+a.sp.length);refine aO c (aB c ?_);rw[b8];have hsz:=g _ hr;have hc:=B ks[i] hr (e _ hr) (by omega) (lo++a.sp.map (·.1)) (f++a.sp.map (·.2)) (P++a.pr) (by grind) (by grind);rw[show(lo++a.sp.map (·.1)).length=lo.length+a.sp.length by simp]at hc;generalize bO ks[i] (lo.length+a.sp.length)=x at*;have h1:=l1.fl;have h2:=l1.ll;have C:=d.fl;have D:=d.ll;refine aj hc (aj (gB (cL a.fi) (cL x.fi) (by rw[bW];omega) (by rw[bW];omega)) (aj (gB (cL a.la) (cL x.la) (by rw[bW];omega) (by rw[bW];omega)) ?_));refine ae (bf (b:=x.em) (λ_=>aa rfl) (aa ?_));rw[ao c];simp only[q6,k_,JU,s_]
  .rintro s rfl;refine aH (aa (aa (aa ?_)));simp
 .obtain⟨x,rfl⟩:=iq (hn.one (by simp));have hr:x∈[x]:=v_.2 rfl;have hsz:=g _ hr;have u:cnt x<=M - lo.length:=by simp only[cj]at hcs;omega
  have hc:=B x hr (e _ hr) (by omega) lo f P v (by omega);have d:=eY x lo.length;obtain⟨w1,w2⟩:=dF x (e _ hr) lo.length;have J:bZ [x] lo.length (Pl.g0 false)=bO x lo.length:=rfl;have C:=d.fl;have D:=d.ll;refine ae (aj hc (ae (aj (iX (P++(bO x lo.length).pr) _ _ (la:=(bO x lo.length).la) (fi:=(bO x lo.length).fi) (λp hp=>by have:=d.la p hp;omega) (λq A=>by have:=d.fi q A;omega) (by omega) (by omega) E) (aa ?_))));refine ae (bf (b:=(5:Int) != 6) (λ_=>aa rfl) (aa (aa ?_)));have l:bO (.mk 5 w up [x]) lo.length=if(5:Int)=5 then Is (jl (bO x lo.length))else jl (bO x lo.length):=rfl;rw[l];simp[Is,jl]
 .obtain⟨x,rfl⟩:=iq (hn.one (by simp));have hr:x∈[x]:=v_.2 rfl;have hsz:=g _ hr;have u:cnt x<=M - lo.length:=by simp only[cj]at hcs;omega
  have hc:=B x hr (e _ hr) (by omega) lo f P v (by omega);have d:=eY x lo.length;obtain⟨w1,w2⟩:=dF x (e _ hr) lo.length;have J:bZ [x] lo.length (Pl.g0 false)=bO x lo.length:=rfl;have C:=d.fl;have D:=d.ll;refine ae (aj hc (ae (aj (iX (P++(bO x lo.length).pr) _ _ (la:=(bO x lo.length).la) (fi:=(bO x lo.length).fi) (λp hp=>by have:=d.la p hp;omega) (λq A=>by have:=d.fi q A;omega) (by omega) (by omega) E) (aa ?_))));refine ae (bf (b:=(6:Int) != 6) (λ_=>aa rfl) (aa (aa ?_)));have l:bO (.mk 6 w up [x]) lo.length=if(6:Int)=5 then Is (jl (bO x lo.length))else jl (bO x lo.length):=rfl;rw[l];simp[Is,jl]
 .obtain⟨x,rfl⟩:=iq (hn.one (by simp));have hr:x∈[x]:=v_.2 rfl;have hsz:=g _ hr;have hc:=B x hr (e _ hr) (by omega) lo f P v (by simp only[cj]at hcs;omega);refine ae (aj hc (ae (aa ?_)));refine ae (bf (b:=true) (λ_=>aa rfl) (aa (aa ?_)));have l:bO (.mk 7 w up [x]) lo.length=Is (bO x lo.length):=rfl;rw[l];simp[Is]
def Jm{a β:Type}{xs:List a}{i:Nat}{f:Nat->a->Option β}{Q:β->Prop}(h:i<xs.length)(b:Wp (λn=>f n xs[i]) Q):Wp (λn=>o_ (lx xs (i:Int)) λ_=>o_ xs[K_ (i:Int)]? (f n)) Q:=by refine aB h ?_;grind
def r9{β:Type}{M i:Nat}{g:Nat->Bool}{f:Nat->Bool->Option β}{Q:β->Prop}(h:i<M)(a:Wp (λn=>f n (g i)) Q):Wp (λn=>o_ (lx (dD M g) (i:Int)) λ_=>o_ (dD M g)[K_ (i:Int)]? (f n)) Q:=by refine Jm (by rw[jq];omega) ?_;rw[Y9];omega
def Oj{a:List Int}{i:Nat}(h:i<a.length):iJ (a.take (i+1))=(iJ (a.take i)&&(decide (0<=a[i])&&decide (a[i]<=4294967295))):=by unfold iJ;rw[i_,a_ h,be_];simp
def Ol{a:List Int}{i:Nat}(h:iJ (a.take i)=false):iJ a=false:=by
 cases e:iJ a;.rfl
 .have:iJ (a.take i)=true:=by unfold iJ at e⊢;grind
  grind
def GP(r:Rx)(hs:sz r<=100000)(a:List Int)(hp:a.length<=1000000): aA tbl 224 [.d .rx r,.d (.list tI) a] [] ap (cN r&&(iJ a&&fZ (bO r 0) a),()):=by
 refine bN ?_;refine aj (JF r (by omega)) (au (λh=>aa ?_) λh=>?_);.grind
 have L:cN r=true:=by grind
 rw[L,Y_];have hM:cnt r<=100000:=B_ (D3 r) hs;obtain⟨ur,_⟩:=dF r L 0;have l:=eY r 0;have C:=uY (M:=cnt r) (by omega) r L (by omega) [] [] [] rfl (by simp);simp only[X_,ah_]at C;refine aj (GU r (by omega)) ?_;generalize bO r 0=g at*;generalize cnt r=M at*;refine ar ?_ (ae (Wp.imp (Q:=λt=>t=(iS M [],())) ?_ ?_));.grind
 .have hz:iS M []=c_ M (c_ M false):=by refine F_ (by simp[iS]) λi h1 h2=>?_;rw[yE,List.getElem_replicate];refine F_ (by simp) λj h3 h4=>by simp
  refine aI (N:=M) (I:=λi s=>s=((i:Int),(c_ M (c_ M false)).take i++c_ (M - i) [],())) (by simp) ?_ ?_
  .rintro i s f rfl;have U:((c_ M (c_ M false)).take i++c_ (M - i) ([]:List Bool)).length=M:=by grind
   have u:i<((c_ M (c_ M false)).take i++c_ (M - i) ([]:List Bool)).length:=by omega
   show Wp (λn=>bif decide ((i:Int)<((c_ (K_ (M:Int)) ([]:List Bool)).length:Int))then _ else _) _;rw[aa_,e_];refine aO f ?_;show Wp (λn=>bU _ _) _;refine ar (by grind) ?_;refine aB u (ar (decide_eq_true (by simp)) ?_);rw[e_];refine bi (a_ u) (bi (a_ u) (ar (ay_ _) (bi (a_ u) (aa ?_))));rw[ao f,U,e_];congr 2;refine List.ext_getElem? λj=>?_;rw[List.getElem?_set];by_cases H:i=j;.subst H;rw[if_pos rfl,if_pos u,List.getElem?_append_left (by grind),List.take_replicate,List.getElem?_replicate,if_pos (by omega)];rfl
   grind
  .rintro s rfl;show Wp (λn=>bif decide ((M:Int)<((c_ (K_ (M:Int)) ([]:List Bool)).length:Int))then _ else _) _;rw[aa_,e_];refine aH (aa ?_);grind
 rintro t rfl;have hl:(iS M g.pr).length=M:=Fj _ _;have P:=l.fl;have T:(dD M λp=>decide (p∈g.fi)).length=M:=jq _ _;have qr:∀p q,(p,q)∈g.pr->p<M:=λp q h=>by have:=(l.pr p q h).1;omega
 refine aj C (ar ?_ ?_);.grind
 rw[hl,e_,show c_ M (Ty.zero tB)=dD M λ_=>false from uf M];refine ae (Wp.imp (Q:=λt=>t=(g.sp.map (·.1),g.sp.map (·.2),iS M g.pr,cL g.fi,cL g.la,g.em,dD M (λp=>decide (p∈g.fi)),())) ?_ ?_)
 .refine aI (N:=(cL g.fi).length) (I:=λi s=>s=((i:Int),g.sp.map (·.1),g.sp.map (·.2),iS M g.pr,cL g.fi,cL g.la,g.em,dD M (λp=>decide (p∈g.fi.take i)),())) (by simp) ?_ ?_
  .rintro i s c rfl;have f:i<g.fi.length:=by rw[bW]at c;omega
   have hp:g.fi[i]<M:=by have:=l.fi _ (b_ f);omega
   refine aO c (aB c ?_);rw[Ac f];refine r9 hp (aa ?_);rw[ao c (by rw[bW];omega),e_,zv];have e:(dD M λj=>if j=g.fi[i]then true else decide (j∈g.fi.take i))=dD M λp=>decide (p∈g.fi.take (i+1)):=oz λj _=>by
    have ht:∀x,x∈g.fi.take (i+1)↔x∈g.fi.take i\/x=g.fi[i]:=λx=>by rw[i_,a_ f,h_,E_,v_]
    grind
   rw[e]
  .rintro s rfl;refine aH (aa ?_);rw[bW,g_]
 rintro t rfl;refine ar ?_ ?_;.grind
 rw[jq,e_,show c_ M (Ty.zero tB)=dD M λ_=>false from uf M];refine ae (Wp.imp (Q:=λt=>match t with
  | .inl e=>e=(false,())/\iJ a=false
  | .inr t=>iJ a=true/\t=(cL g.fi,cL g.la,g.em,dD M (ja g a).2,())) ?_ ?_)
 .refine aI (N:=a.length) (I:=λi s=>iJ (a.take i)=true/\s=((i:Int),iS M g.pr,g.sp.map (·.1),g.sp.map (·.2),cL g.fi,cL g.la,g.em,dD M (ja g (a.take i)).1,dD M (ja g (a.take i)).2,())) ⟨rfl,rfl⟩ ?_ ?_
  .rintro i s f ⟨hr,rfl⟩;have J:=Oj f;rw[hr,Y_]at J;refine aO f (aB f ?_);refine ae (bf (b:=decide (a[i]>4294967295)) (λ_=>aa rfl) ?_);refine au (λh=>aa ⟨rfl,?_⟩) λh=>?_;.refine Ol (i:=i+1) ?_;grind
   .have h:(decide (a[i]<0)||decide (a[i]>4294967295))=false:=h;simp only[ac_,decide_eq_false_iff_not]at h;have hl:(dD M (ja g (a.take i)).1).length=M:=jq _ _;refine ar ?_ ?_;.grind
    rw[hl,e_,show c_ M (Ty.zero tB)=dD M λ_=>false from uf M];rw[Bf f];clear h hl;generalize ja g (a.take i)=R;obtain⟨d,z⟩:=R;generalize a[i]=v;dsimp only;refine ae (Wp.imp (Q:=λt=>t=(iS M g.pr,g.sp.map (·.1),g.sp.map (·.2),cL g.fi,cL g.la,g.em,dD M (z7 g d v),dD M (VF g (z7 g d v)),())) ?_ ?_)
    .clear C l J hr T P L;refine aI (N:=(dD M z).length) (I:=λi s=>s=((i:Int),iS M g.pr,g.sp.map (·.1),g.sp.map (·.2),cL g.fi,cL g.la,g.em,dD M d,dD M (λj=>if j<i then z7 g d v j else z j),dD M (λq=>(d_ i).any λj=>z7 g d v j&&decide ((j,q)∈g.pr)),())) (by simp) ?_ ?_
     .rintro i s c rfl;have f:i<M:=by rw[jq]at c;omega
      have F:i<g.sp.length:=by omega
      have hh:mU g v i=(decide (g.sp[i].1<=v)&&decide (v<=g.sp[i].2)):=by unfold mU;grind
      refine aO c (r9 f ?_);refine ae (bc (b:=decide (g.sp[i].1<=v)) (λ_=>?_) ?_);.refine Jm (xs:=g.sp.map (·.1)) (by simpa using F) ?_;refine aa ?_;simp
      refine ae (bc (b:=decide (v<=g.sp[i].2)) (λ_=>?_) ?_);.refine Jm (xs:=g.sp.map (·.2)) (by simpa using F) ?_;refine aa ?_;simp
      refine r9 f ?_;have A:((d i&&decide (g.sp[i].1<=v))&&decide (v<=g.sp[i].2))=z7 g d v i:=by unfold z7;grind
      rw[A,e_];have O:(dD M λj=>if j<i then z7 g d v j else z j).set i (z7 g d v i)=dD M λj=>if j<i+1 then z7 g d v j else z j:=by rw[zv];grind
      rw[O];generalize D:(λj=>if j<i+1 then z7 g d v j else z j)=w;generalize E:(λq=>(d_ i).any λj=>z7 g d v j&&decide ((j,q)∈g.pr))=y;refine ae (Wp.imp (Q:=λt=>t=(iS M g.pr,g.sp.map (·.1),g.sp.map (·.2),cL g.fi,cL g.la,g.em,dD M d,dD M w,dD M (λq=>y q||(w i&&decide ((i,q)∈g.pr))),())) ?_ ?_)
      .clear D E hh A O;refine aI (N:=(dD M y).length) (I:=λk s=>s=((k:Int),iS M g.pr,g.sp.map (·.1),g.sp.map (·.2),cL g.fi,cL g.la,g.em,dD M d,dD M w,dD M (λq=>if q<k then y q||(w i&&decide ((i,q)∈g.pr))else y q),())) (by simp) ?_ ?_
       .rintro k s B rfl;have hk:k<M:=by rw[jq]at B;omega
        refine aO B (r9 hk ?_);rw[if_neg (Nat.lt_irrefl k)];refine ae (bf (b:=w i&&decide ((i,k)∈g.pr)) (λ_=>?_) ?_);.refine r9 f (ae (bc (b:=decide ((i,k)∈g.pr)) (λ_=>?_) (aa rfl)));refine aB (xs:=iS M g.pr) (by rw[Fj];omega) ?_;rw[yE];refine aB (by grind) (aa ?_);simp
        .refine r9 hk (aa ?_);rw[ao B (by rw[jq];omega),e_,zv];grind
       .rintro s rfl;refine aH (aa ?_);rw[jq];have e:(dD M λq=>if q<M then y q||(w i&&decide ((i,q)∈g.pr))else y q)=dD M λq=>y q||(w i&&decide ((i,q)∈g.pr)):=oz λj H=>if_pos H;rw[e]
      rintro t rfl;subst D E;refine aa ?_;rw[ao c (by rw[jq];omega)];have e2:(dD M λq=>((d_ i).any λj=>z7 g d v j&&decide ((j,q)∈g.pr))||((if i<i+1 then z7 g d v i else z i)&&decide ((i,q)∈g.pr)))=dD M λq=>(d_ (i+1)).any λj=>z7 g d v j&&decide ((j,q)∈g.pr):=oz λq _=>by simp[L_]
      grind
     .rintro s rfl;refine aH (aa ?_);rw[jq];have O:(dD M λj=>if j<M then z7 g d v j else z j)=dD M (z7 g d v):=oz λj H=>if_pos H;have e2:(dD M λq=>(d_ M).any λj=>z7 g d v j&&decide ((j,q)∈g.pr))=dD M (VF g (z7 g d v)):=oz λq _=>by refine bc_.2 ?_;rw[uL,aH_];grind
      grind
    rintro t rfl;refine aa ⟨?_,?_⟩;.grind
    .rw[ao f];rfl
  .rintro s ⟨hr,rfl⟩;rw[g_]at hr;refine aH (aa ⟨hr,?_⟩);simp
 rintro(e|t) ht;.obtain⟨rfl,hr⟩:=ht;refine aa ?_;grind
 obtain⟨hr,rfl⟩:=ht;rw[hr,Y_];refine au (λh=>aa ?_) λh=>?_
 .have:a=[]:=ar_ (by grind)
  subst this;rfl
 .have ph:a.isEmpty=false:=by grind
  have el:fZ g a=g.la.any (ja g a).2:=by unfold fZ;grind
  rw[el];refine ae (Wp.imp (Q:=λt=>match t with
   | .inl e=>e=(true,())/\g.la.any (ja g a).2=true
   | .inr _=>g.la.any (ja g a).2=false) ?_ ?_)
  .refine aI (N:=(cL g.la).length) (I:=λi s=>s=((i:Int),dD (M) (ja g a).2,())/\(g.la.take i).any (ja g a).2=false) ⟨rfl,rfl⟩ ?_ ?_
   .rintro i s c ⟨rfl,A⟩;have f:i<g.la.length:=by rw[bW]at c;omega
    have hm:=b_ f;have Y:g.la[i]<M:=by have:=l.la _ hm;omega
    have gc:=l.ll;refine aO c (aB c ?_);rw[Ac f];refine r9 Y ?_;dsimp only;refine au (λh=>aa ⟨rfl,?_⟩) λh=>aa ⟨?_,?_⟩;.grind
    .rw[ao c (by rw[bW];omega)]
    .rw[i_,a_ f,bf_,A];grind
   .rintro s ⟨rfl,A⟩;refine aH (aa ?_);rw[bW,g_]at A;omega
  rintro(e|t) ht;.obtain⟨rfl,A⟩:=ht;refine aa ?_;grind
  .refine aa ?_;grind
structure Tw(M:Nat)(C:List Int)(can:Nat->Bool):Prop where
 bd:∀x∈C,0<=x/\x<(M:Int)
 mem:∀q:Nat,(q:Int)∈C↔can q=true
 len:C.length<=10000000000
def getD_lt{F:List (List Int)}{i:Nat}(h:i<F.length):F.getD i []=F[i]:=by rw[t_,a_ h];rfl
def px(F:List (List Int))(H:List Int):List Int:=H.flatMap λx=>F.getD x.toNat []
def AQ{n:Nat}{F:List (List Int)}{P:List (Nat×Nat)}(a:lU n F P):∀(H:List Int),(px F H).length<=H.length*n
 |[]=>by simp[px]
 |x::H=>by
  have h1:(F.getD x.toNat []).length<=n:=by
   by_cases h:x.toNat<F.length;.rw[getD_lt h];exact a.zaJ h
   grind
  have:=AQ a H;rw[show px F (x::H)=F.getD x.toNat []++px F H from rfl,j_,ap_,Nat.add_mul,Nat.one_mul];omega
def Fx{n:Nat}{H:List Int}(hd:H.Nodup)(a:∀x∈H,0<=x/\x<(n:Int)):H.length<=n:=by
 have:=f5 H ((d_ n).map fun(k:Nat)=>(k:Int)) hd λx b=>by have:=a x b;exact p_.2 ⟨x.toNat,x_.2 (by omega),by omega⟩
 grind
def GG(r:Rx)(hs:sz r<=100000)(c:List Int)(hp:c.length<=1000000): aA tbl 181 [.d .rx r,.d (.list tI) c] [] ap (cN r&&fZ (bO r 0) c,()):=by
 refine bN ?_;refine aj (vX r (by omega)) (au (λh=>aa ?_) λh=>?_);.grind
 have hw:cN r=true:=by grind
 rw[hw,Y_];have hM:cnt r<=100000:=B_ (D3 r) hs;obtain⟨Bx,U⟩:=dF r hw 0;have d:=eY r 0;refine au (λh=>?_) λh=>?_
 .have:c=[]:=ar_ (by grind)
  subst this;refine aj (qf r (by omega)) (aa ?_);rw[<-U];rfl
 have At:c.isEmpty=false:=by grind
 have Y:fZ (bO r 0) c=(bO r 0).la.any (ja (bO r 0) c).2:=by unfold fZ;grind
 rw[Y];obtain⟨F,l,L⟩:=Jw r hw (by omega) [] [] [] ⟨rfl,by simp,by simp,λp h=>absurd h (by simp)⟩ (by simp) (by grind);simp only[X_,ah_,ag_]at L l;generalize hg:bO r 0=g at*;rw[Bx]at l;have ur:=d.fl;have wr:=d.ll;refine aj L ?_;have D:Tw (cnt r) (cL g.fi) (ja g []).1:=⟨λx B=>by
  obtain⟨p,h1,rfl⟩:=p_.1 B;have:=d.fi p h1;omega,λq=>by
  show(q:Int)∈cL g.fi↔decide (q∈g.fi)=true;rw[decide_eq_true_eq];constructor;.intro B;obtain⟨p,h1,h2⟩:=p_.1 B;grind
  .exact λB=>p_.2 ⟨q,B,rfl⟩,by rw[bW];omega⟩
 have CT:∀p q,(p,q)∈g.pr->p<cnt r/\q<cnt r:=λp q h=>by have:=d.pr p q h;omega
 generalize cnt r=M at*;generalize cL g.fi=C0 at D⊢;refine ae (Wp.imp (Q:=λt=>∃H,t=(H,())/\Tw M H (ja g c).2) ?_ ?_)
 .refine aI (N:=c.length) (I:=λi s=>∃C H:List Int,s=(C,(i:Int),F,xm g.sp,H,())/\Tw M C (ja g (c.take i)).1/\Tw M H (ja g (c.take i)).2) ⟨C0,[],rfl,D,⟨by simp,λq=>⟨λh=>by grind,λh=>by cases h⟩,by simp⟩⟩ ?_ ?_
  .rintro i s f ⟨C,H,rfl,P,w⟩;have hl:(xm g.sp).length=M:=by rw[zo];omega
   have hz:c_ (K_ ((xm g.sp).length:Int)) (Ty.zero tB)=dD M λ_=>false:=by rw[hl,e_];exact uf M
   refine aO f (aB f (ar ?_ ?_));.grind
   rw[hl,e_,show c_ M (Ty.zero tB)=dD M λ_=>false from uf M];generalize z:(ja g (c.take i)).1=can at P;generalize hv:c[i]=v;refine ae (Wp.imp (Q:=λt=>∃H,t=(F,xm g.sp,H,px F H,())/\Tw M H (z7 g can v)/\Tw M (px F H) (VF g (z7 g can v))) ?_ ?_)
   .clear L Y U d ur wr z hv hz w D At;have ph:=P.len;refine aI (N:=C.length) (I:=λk s=>∃H:List Int,s=((k:Int),F,xm g.sp,H,dD M (λp=>decide ((p:Int)∈H)),px F H,())/\H.Nodup/\(∀x∈H,0<=x/\x<(M:Int))/\∀p:Nat,(p:Int)∈H↔(p:Int)∈C.take k/\mU g v p=true) ⟨[],by simp[px],by simp,by simp,by simp⟩ ?_ ?_
    .rintro k s O ⟨H,rfl,hd,T,n⟩;have B:=P.bd _ (b_ O);obtain⟨p,hp⟩:∃p:Nat,C[k]=(p:Int):=⟨C[k].toNat,by omega⟩;have el:p<M:=by omega
     have Dg:p<g.sp.length:=by omega
     have gc:∀x,x∈C.take (k+1)↔x∈C.take k\/x=(p:Int):=λx=>by rw[i_,a_ O,h_,E_,v_,hp]
     have hh:mU g v p=(decide (g.sp[p].1<=v)&&decide (v<=g.sp[p].2)):=by unfold mU;grind
     have u:=Fx hd T;have qr:=AQ l H;have R:H.length*M<=10000000000:=B_ (aN_ (B_ u hM) hM) (by simp);refine aO O ?_;refine ae (aB O ?_);rw[hp];refine r9 el ?_;refine ae (bf (b:=decide (v<g.sp[p].1)) (λ_=>?_) ?_);.refine Jm (xs:=xm g.sp) (by rw[zo];omega) ?_;refine aa ?_;simp[xm]
     refine ae (bf (b:=decide (v>g.sp[p].2)) (λ_=>?_) ?_);.refine Jm (xs:=xm g.sp) (by rw[zo];omega) ?_;refine aa ?_;simp[xm]
     refine au (λh=>?_) λh=>?_
     .refine aa (aa ⟨H,by rw[ao O],hd,T,λq=>?_⟩);have h:((decide ((p:Int)∈H)||decide (v<g.sp[p].1))||decide (v>g.sp[p].2))=true:=h;simp only[bd_,decide_eq_true_eq]at h;rw[n q,gc];constructor;.grind
      .rintro⟨h1,h2⟩;refine⟨h1.elim id λe=>?_,h2⟩;obtain rfl:q=p:=by omega
       grind
     .have h:((decide ((p:Int)∈H)||decide (v<g.sp[p].1))||decide (v>g.sp[p].2))=false:=h;simp only[ac_,decide_eq_false_iff_not]at h;obtain⟨⟨h1,h2⟩,h3⟩:=h;have J:p<F.length:=by rw[l.len];omega
      have CD:=l.zaJ J;have Bk:px F (H++[(p:Int)])=px F H++F[p]:=by unfold px;rw[R_,O_,aI_,w_,e_,getD_lt J]
      refine r9 el (ar (decide_eq_true ?_) (aB J (ar (decide_eq_true ?_) (aa (aa ⟨H++[(p:Int)],?_,?_,?_,?_⟩)))));.grind
      .grind
      .rw[ao O,Bk,e_,zv];grind
      .grind
      .grind
      .intro q;rw[h_,n q,gc,v_];constructor
       .rintro(⟨a,b⟩|a);.grind
        .refine⟨.inr a,?_⟩;obtain rfl:q=p:=by omega
         grind
       grind
    .rintro s ⟨H,rfl,hd,T,n⟩;have u:=Fx hd T;have qr:=AQ l H;have R:H.length*M<=10000000000:=B_ (aN_ (B_ u hM) hM) (by simp);rw[g_]at n;have E:∀q:Nat,(q:Int)∈H↔z7 g can v q=true:=λq=>by rw[n q,P.mem q];unfold z7;simp
     have A:∀y,y∈px F H↔∃p:Nat,(p:Int)∈H/\∃h:p<F.length,y∈F[p]:=by
      intro y;unfold px;rw[aY_];constructor;.grind
      .rintro⟨p,h1,hp,h2⟩;exact⟨p,h1,by rw[e_,getD_lt hp];omega⟩
     refine aH (aa ⟨H,rfl,⟨T,E,by omega⟩,⟨λy hy=>?_,λq=>?_,by omega⟩⟩);.obtain⟨p,_,hp,h2⟩:=(A y).1 hy;exact l.bd _ (b_ hp) y h2
     .rw[A,uL];constructor;.rintro⟨p,h1,hp,h2⟩;exact⟨p,(E p).1 h1,(l.mem p hp q).1 h2⟩
      .rintro⟨p,h1,h2⟩;have hp:p<F.length:=by rw[l.len];grind
       exact⟨p,(E p).2 h1,hp,(l.mem p hp q).2 h2⟩
   rintro t ⟨H2,rfl,h5,h6⟩;subst z hv;refine aa ⟨px F H2,H2,?_,?_,?_⟩;.rw[ao f]
   .rw[Bf f];exact h6
   .rw[Bf f];exact h5
  .rintro s ⟨C,H,rfl,P,w⟩;rw[g_]at w;exact aH (aa ⟨H,rfl,w⟩)
 rintro t ⟨H,rfl,w⟩;have u:=w.len;have BT:=bW g.la;refine ae (Wp.imp (Q:=λt=>match t with
  | .inl e=>e=(true,())/\∃x∈H,x∈cL g.la
  | .inr _=>∀x∈H,x∉cL g.la) ?_ ?_)
 .refine aI (N:=H.length) (I:=λi s=>s=((i:Int),H,())/\∀x∈H.take i,x∉(cL g.la)) ⟨rfl,by simp⟩ ?_ ?_
  .rintro i s f ⟨rfl,ha⟩;refine aO f ?_;refine Jm (xs:=H) f ?_;refine ae (Wp.imp (Q:=λt=>match t with
    | .inl e=>e=(true,())/\H[i]∈cL g.la
    | .inr t=>t=(H,())/\H[i]∉cL g.la) ?_ ?_)
   .refine aI (N:=(cL g.la).length) (I:=λj s=>s=((j:Int),H,())/\H[i]∉(cL g.la).take j) ⟨rfl,by simp⟩ ?_ ?_
    .rintro j s hj ⟨rfl,hn⟩;refine aO hj (aB hj (au (λh=>aa ⟨rfl,?_⟩) λh=>aa ⟨?_,λn=>?_⟩));.grind
     .rw[ao hj]
     .have h:H[i]≠(cL g.la)[j]:=by grind
      rw[i_,a_ hj,h_,E_,v_]at n;grind
    .rintro s ⟨rfl,hn⟩;rw[g_]at hn;exact aH (aa ⟨rfl,hn⟩)
   rintro(e|t) ht;.obtain⟨rfl,n⟩:=ht;exact aa ⟨rfl,_,b_ f,n⟩
   .obtain⟨rfl,n⟩:=ht;refine aa ⟨by rw[ao f],λx B=>?_⟩;rw[i_,a_ f,h_,E_,v_]at B;grind
  .rintro s ⟨rfl,ha⟩;rw[g_]at ha;exact aH (aa ha)
 rintro(e|t) ht;.obtain⟨rfl,x,h1,h2⟩:=ht;obtain⟨p,h3,rfl⟩:=p_.1 (show x∈cL g.la from h2);refine aa ?_;rw[aH_.2 ⟨p,h3,(w.mem p).1 h1⟩]
 .refine aa ?_;have:g.la.any (ja g c).2=false:=by rw[aU_];intro p h1 h2;exact ht (p:Int) ((w.mem p).2 h2) (p_.2 ⟨p,h1,rfl⟩)
  grind
set_option maxRecDepth 100000
open Classical in
noncomputable def sH(s:List UInt8)(a:List Int):Bool:=decide (∃r,fG r=0/\pat r=s/\fZ (bO r 0) a=true)
noncomputable def CR(l:List Pt)(a:List Int):Bool:=match l.find? (λu=>sH u.2.1 a)with|some u=>u.1|none=>false
open Classical in
def SC{s:List UInt8}{c:Rx×Int×Unit}(h:ju s c)(hc:(c.2.1==0)=false)(a:List Int):sH s a=false:=by unfold sH;refine decide_eq_false ?_;rintro⟨r,h1,h2,_⟩;rcases h with⟨d,_,_,rfl⟩|⟨b,_⟩;all_goals grind
open Classical in
def Fq{s:List UInt8}(hs:s.length<=1048576){c:Rx×Int×Unit}(h:ju s c)(hc:(c.2.1==0)=true)(a:List Int):∃r,c=(r,0,())/\cN r=true/\sz r<=64/\sH s a=fZ (bO r 0) a:=by
 rcases h with⟨r,h1,h2,rfl⟩|⟨_,rfl⟩
 .obtain⟨b,d,_⟩:=uT h1;refine⟨r,rfl,b,d,?_⟩;unfold sH;cases j:fZ (bO r 0) a;.refine decide_eq_false ?_;rintro⟨g,e,f,k⟩;have:=ju.Yh hs (.inl ⟨g,e,f,rfl⟩) (.inl ⟨r,h1,h2,rfl⟩);grind
  grind
 grind
def Gz(l:List Pt)(a:List Int)(hl:l.length<=9223372036854775807)(hr:∀u∈l,u.2.1.length<=1048576)(hp:a.length<=1000000):aA tbl 190 [.d (.list yH) l,.d (.list tI) a] [] ap (CR l a,()):=by
 refine bN ?_;refine ae (iP (xs:=l) (p:=λu=>sH u.2.1 a) (enc:=λi=>((i:Int),())) (g:=λu=>(u.1,())) (e:=()) (λi d=>?_) ?_ ?_)
 .have f:=hr _ (b_ d);obtain⟨c,h1,h2⟩:=pL l[i].2.1 f;refine aO d (aB d (aj h2 (ae (bc (b:=sH l[i].2.1 a) (λh=>?_) ?_))))
  .obtain⟨r,rfl,j,n,k⟩:=Fq f h1 h a;rw[b8];refine aj (GP r (by omega) a hp) (aa ?_);rw[k,j];show(iJ a&&fZ (bO r 0) a)=_;cases e:iJ a;.rw[UN j e];rfl
   simp
  .have e:((c.2.1==0)&&sH l[i].2.1 a)=sH l[i].2.1 a:=by
    cases hc:(c.2.1==0);.rw[SC h1 hc];rfl
    simp
   rw[e];refine au (λh=>aa ?_) λh=>aa ?_;.grind
   .rw[if_neg (by grind),ao d hl]
 .exact aH (aa rfl)
 .unfold CR;cases l.find? (λu=>sH u.2.1 a)with|some r=>exact aa rfl|none=>exact aa rfl
def mI(l:List Pt)(a:List Int)(hl:l.length<=9223372036854775807)(hr:∀u∈l,u.2.1.length<=1048576)(hp:a.length<=1000000):aA tbl 143 [.d (.list yH) l,.d (.list tI) a] [] ap (CR l a,()):=by
 refine bN ?_;refine ae (iP (xs:=l) (p:=λu=>sH u.2.1 a) (enc:=λi=>((i:Int),())) (g:=λu=>(u.1,())) (e:=()) (λi d=>?_) ?_ ?_)
 .have f:=hr _ (b_ d);obtain⟨c,h1,h2⟩:=pJ l[i].2.1 f;refine aO d (aB d (aj h2 (ae (bc (b:=sH l[i].2.1 a) (λh=>?_) ?_))));.obtain⟨r,rfl,k,n,j⟩:=Fq f h1 h a;rw[b8];refine aj (GG r (by omega) a hp) (aa ?_);grind
  .have e:((c.2.1==0)&&sH l[i].2.1 a)=sH l[i].2.1 a:=by
    cases hc:(c.2.1==0);.rw[SC h1 hc];rfl
    simp
   rw[e];refine au (λh=>aa ?_) λh=>aa ?_;.grind
   .rw[if_neg (by grind),ao d hl]
 .exact aH (aa rfl)
 .unfold CR;cases l.find? (λu=>sH u.2.1 a)with|some r=>exact aa rfl|none=>exact aa rfl
noncomputable def gr(s:PS)(m:oJ)(r:ix):Bool:=
 if m.1=1 then(match cn s m.2.1 with|some l=>QD l.2.1 r.1|none=>false)
 else if m.1=2 then(match fy s m.2.1 with|some l=>CR l.2.1 r.2.2.2.1|none=>false)
 else if m.1=3 then(match bD s m.2.1 with|some l=>nX l.2.1 r.2.2.2.2.1|none=>false)
 else if m.1=4 then r.2.1==m.2.2.1
 else if m.1=5 then r.2.2.2.2.2.2.2.2.1==m.2.2.1
 else if m.1=6 then decide (r.2.2.2.2.2.2.2.1<=m.2.2.1)
 else if m.1=7 then BD m.2.2.2.1 r.2.2.1
 else decide ((r.2.2.2.1.length:Int)<=m.2.2.1)
noncomputable def ER(s:PS)(r:ix)(m:oJ):Bool:=true ^^ (gr s m r==m.2.2.2.2.1)
noncomputable def mw(s:PS)(r:ix)(t:jd):Bool:=t.2.1.all (ER s r)
structure TA(s:PS)(r:ix):Prop where
 s:Bw s
 p:iF r.1.1
 n:iF r.2.2.1
 pt:r.2.2.2.1.length<=100000
 cm:r.2.2.2.2.1.length<=100000
 rg:∀z∈r.2.2.2.2.1,iF z
def TA.u{s:PS}{r:ix}(h:TA s r):V5 r:=⟨h.pt,.inl h.cm,h.rg⟩
abbrev bxU(r:ix):Ob:=.box 57 [.d tW r.1.1,.d tI r.1.2.1,.d tI r.2.1,.d tW r.2.2.1,.d (.list tI) r.2.2.2.1,.d (.list tW) r.2.2.2.2.1,.d tI r.2.2.2.2.2.1,.d tI r.2.2.2.2.2.2.1,.d tI r.2.2.2.2.2.2.2.1,.d tI r.2.2.2.2.2.2.2.2.1]
abbrev cR(s:PS)(r:ix):List Zm×List Zl×List Zi×List sr×Int×Int×Int×Int×List Int×List Int×Int×Int×Int×Int×Unit:=
 (s.1,s.2.1,s.2.2.1,s.2.2.2.1,r.1.1,r.1.2.1,r.2.1,r.2.2.1,r.2.2.2.1,r.2.2.2.2.1,r.2.2.2.2.2.1,r.2.2.2.2.2.2.1,r.2.2.2.2.2.2.2.1,r.2.2.2.2.2.2.2.2.1,())
def Zu(s:PS)(m:oJ)(r:ix)(h:TA s r)(A:1<=m.1/\m.1<=8)(j:iF m.2.2.2.1.1):aA tbl 189 [.d yM m,.ptr 0 0,.ptr 1 0] [RH s,bxU r] fJ (gr s m r,cR s r):=by
 refine bN (hp:=by kernel_rfl) ?_;have f:=h.s.ok;have b:∀{k:Int},m.1≠k->(m.1==k)=false:=λh=>beq_eq_false_iff_ne.2 h;have c:∀{k:Int},m.1=k->(m.1==k)=true:=λh=>beq_iff_eq.2 h;by_cases h1:m.1=1
 .have a:gr s m r=match cn s m.2.1 with|some l=>QD l.2.1 r.1|none=>false:=by unfold gr;grind
  refine ae (aD (c h1) (ae (iP (xs:=s.1) (p:=(·.1==m.2.1)) (enc:=λi=>((i:Int),cR s r)) (g:=λl=>(QD l.2.1 r.1,cR s r)) (e:=cR s r) (λi d=>?_) ?_ ?_)))
  .refine aO d (aB d (au (λh'=>?_) λh'=>aa ?_));.have hl:=f.1.2 _ (b_ d);refine aj (jr s.1[i].2.1 r.1 hl.2.1.1 (λu n=>(hl.2.1.2 u n).2.1.1) h.p) (aa ?_);grind
   .rw[if_neg (by grind),ao d (by exact f.1.1)]
  .exact aH (aa rfl)
  .unfold cn at a;cases e:s.1.find? (·.1==m.2.1)with|some l=>rw[e]at a;rw[a];exact aa (aa rfl)|none=>rw[e]at a;rw[a];exact aa (aa rfl)
 by_cases h2:m.1=2
 .have a:gr s m r=match fy s m.2.1 with|some l=>CR l.2.1 r.2.2.2.1|none=>false:=by unfold gr;grind
  refine ae (ak (b h1) (aD (c h2) (ae (iP (xs:=s.2.1) (p:=(·.1==m.2.1)) (enc:=λi=>((i:Int),cR s r)) (g:=λl=>(CR l.2.1 r.2.2.2.1,cR s r)) (e:=cR s r) (λi d=>?_) ?_ ?_))))
  .refine aO d (aB d (au (λh'=>?_) λh'=>aa ?_));.have hl:=f.2.1.2 _ (b_ d);refine aj (Gz s.2.1[i].2.1 r.2.2.2.1 hl.2.1.1 (λu n=>h.s.pt _ (b_ d) u n) (by have:=h.pt;omega)) (aa ?_);grind
   .rw[if_neg (by grind),ao d (by exact f.2.1.1)]
  .exact aH (aa rfl)
  .unfold fy at a;cases e:s.2.1.find? (·.1==m.2.1)with|some l=>rw[e]at a;rw[a];exact aa (aa rfl)|none=>rw[e]at a;rw[a];exact aa (aa rfl)
 by_cases v:m.1=3
 .have a:gr s m r=match bD s m.2.1 with|some l=>nX l.2.1 r.2.2.2.2.1|none=>false:=by unfold gr;grind
  refine ae (ak (b h1) (ak (b h2) (aD (c v) (ae (iP (xs:=s.2.2.1) (p:=(·.1==m.2.1)) (enc:=λi=>((i:Int),cR s r)) (g:=λl=>(nX l.2.1 r.2.2.2.2.1,cR s r)) (e:=cR s r) (λi d=>?_) ?_ ?_)))))
  .refine aO d (aB d (au (λh'=>?_) λh'=>aa ?_));.have hl:=f.2.2.1.2 _ (b_ d);refine aj (fR s.2.2.1[i].2.1 r.2.2.2.2.1 hl.2.1.1 (by have:=h.cm;omega)) (aa ?_);grind
   .rw[if_neg (by grind),ao d (by exact f.2.2.1.1)]
  .exact aH (aa rfl)
  .unfold bD at a;cases e:s.2.2.1.find? (·.1==m.2.1)with|some l=>rw[e]at a;rw[a];exact aa (aa rfl)|none=>rw[e]at a;rw[a];exact aa (aa rfl)
 refine ae (ak (b h1) (ak (b h2) (ak (b v) ?_)));by_cases w:m.1=4;.refine aD (c w) (aa (aa ?_));rw[show gr s m r=(r.2.1==m.2.2.1)from by unfold gr;grind]
 refine ak (b w) ?_;by_cases x:m.1=5;.refine aD (c x) (aa (aa ?_));rw[show gr s m r=(r.2.2.2.2.2.2.2.2.1==m.2.2.1)from by unfold gr;grind]
 refine ak (b x) ?_;by_cases y:m.1=6;.refine aD (c y) (aa (aa ?_));rw[show gr s m r=decide (r.2.2.2.2.2.2.2.1<=m.2.2.1)from by unfold gr;grind]
 refine ak (b y) ?_;by_cases z:m.1=7;.refine aD (c z) (aj (fm m.2.2.2.1 r.2.2.1 j h.n) (aa (aa ?_)));rw[show gr s m r=BD m.2.2.2.1 r.2.2.1 from by unfold gr;grind]
 refine ak (b z) (aD (c (by omega)) (aa (aa ?_)));rw[show gr s m r=decide ((r.2.2.2.1.length:Int)<=m.2.2.1)from by unfold gr;grind]
def Zv(s:PS)(m:oJ)(r:ix)(h:TA s r)(b:1<=m.1/\m.1<=8)(a:iF m.2.2.2.1.1):aA tbl 191 [.d yM m,.ptr 0 0] [.box 242 [.kj iz [1,2]],RH s,bxU r] f8 (ER s r m,cR s r):=by refine bN (hp:=by kernel_rfl) ?_;exact aj (Zu s m r h b a) (aa rfl)
def Js(s:PS)(r:ix):aA tbl 160 [.d yS s,.d xn r] [] jH (cR s r):=crZ (hp:=by kernel_rfl)
def LW(s:PS)(m:oJ)(r:ix)(h:TA s r)(x:1<=m.1/\m.1<=8)(g:iF m.2.2.2.1.1):aA tbl 67 [.d yS s,.d yM m,.d xn r] [] ap (gr s m r,()):=by
 refine bN ?_;have d:=h.s.ok;have c:∀{k:Int},m.1≠k->(m.1==k)=false:=λh=>beq_eq_false_iff_ne.2 h;have b:∀{k:Int},m.1=k->(m.1==k)=true:=λh=>beq_iff_eq.2 h;by_cases h1:m.1=1
 .have a:gr s m r=match cn s m.2.1 with|some l=>QD l.2.1 r.1|none=>false:=by unfold gr;grind
  refine aD (b h1) (aj (qg s m.2.1 d.1.1) ?_);cases e:cn s m.2.1 with|some l=>rw[e]at a;rw[a];have hl:=d.1.2 l (G_ e);exact aj (jr l.2.1 r.1 hl.2.1.1 (λu f=>(hl.2.1.2 u f).2.1.1) h.p) (aa rfl)|none=>rw[e]at a;rw[a];exact aj (jr [] r.1 (D_ _) (λu f=>by grind) h.p) (aa rfl)
 refine ak (c h1) ?_;by_cases h2:m.1=2
 .have a:gr s m r=match fy s m.2.1 with|some l=>CR l.2.1 r.2.2.2.1|none=>false:=by unfold gr;grind
  refine aD (b h2) (aj (vE s m.2.1 d.2.1.1) ?_);cases e:fy s m.2.1 with|some l=>rw[e]at a;rw[a];have hl:=d.2.1.2 l (G_ e);exact aj (mI l.2.1 r.2.2.2.1 hl.2.1.1 (λu f=>h.s.pt _ (G_ e) u f) (by have:=h.pt;omega)) (aa rfl)|none=>rw[e]at a;rw[a];exact aj (mI [] r.2.2.2.1 (D_ _) (λu f=>by grind) (by have:=h.pt;omega)) (aa rfl)
 refine ak (c h2) ?_;by_cases j:m.1=3
 .have a:gr s m r=match bD s m.2.1 with|some l=>nX l.2.1 r.2.2.2.2.1|none=>false:=by unfold gr;grind
  refine aD (b j) (aj (mH s m.2.1 d.2.2.1.1) ?_);cases e:bD s m.2.1 with|some l=>rw[e]at a;rw[a];have hl:=d.2.2.1.2 l (G_ e);exact aj (fR l.2.1 r.2.2.2.2.1 hl.2.1.1 (by have:=h.cm;omega)) (aa rfl)|none=>rw[e]at a;rw[a];exact aj (fR [] r.2.2.2.2.1 (D_ _) (by have:=h.cm;omega)) (aa rfl)
 refine ak (c j) ?_;by_cases n:m.1=4;.refine aD (b n) (aa ?_);rw[show gr s m r=(r.2.1==m.2.2.1)from by unfold gr;grind]
 refine ak (c n) ?_;by_cases p:m.1=5;.refine aD (b p) (aa ?_);rw[show gr s m r=(r.2.2.2.2.2.2.2.2.1==m.2.2.1)from by unfold gr;grind]
 refine ak (c p) ?_;by_cases v:m.1=6;.refine aD (b v) (aa ?_);rw[show gr s m r=decide (r.2.2.2.2.2.2.2.1<=m.2.2.1)from by unfold gr;grind]
 refine ak (c v) ?_;by_cases w:m.1=7;.refine aD (b w) (aj (fm m.2.2.2.1 r.2.2.1 g h.n) (aa ?_));rw[show gr s m r=BD m.2.2.2.1 r.2.2.1 from by unfold gr;grind]
 refine ak (c w) (aa ?_);rw[show gr s m r=decide ((r.2.2.2.1.length:Int)<=m.2.2.1)from by unfold gr;grind]
set_option maxRecDepth 100000
def zdY(x:Zm):Prop:=∀r∈x.2.1,iF r.2.1.1
def zdZ(x:Zl):Prop:=∀r∈x.2.1,r.2.1.length<=1048576
def zd0(_:Zi):Prop:=True
def zcW{x:Zm}(h:zdY x){j:Nat}(a:j<x.2.1.length)(hl:x.2.1.length<=64):Wp (λn=>o_ (gw (sg tbl n) 130 [.d yR x.2.1[j]] [] aw) λb=>bif (b.1 != (0:Int))then some (.inr (.inl ((b.1,()))))else some (.inl (f_ .i64 ((j:Int)+(1:Int)),()))) (fun(r:(Int×Unit)⊕(Int×Unit)⊕Unit)=>r=if gG x.2.1[j]=0 then .inl (((j+1:Nat):Int),())else .inr (.inl (gG x.2.1[j],()))):=by
 refine aj (lO _ (h _ (b_ a))) (au (λh=>aa ?_) λh=>aa ?_);.grind
 .rw[if_pos (by grind),ao a]
def zcX{x:Zl}(h:zdZ x){j:Nat}(a:j<x.2.1.length)(hl:x.2.1.length<=64):Wp (λn=>o_ (gw (sg tbl n) 170 [.d tS x.2.1[j].2.1] [] bR) λb=>bif (b.2.1 != (0:Int))then some (.inr (.inl ((b.2.1,()))))else some (.inl (f_ .i64 ((j:Int)+(1:Int)),()))) (fun(r:(Int×Unit)⊕(Int×Unit)⊕Unit)=>r=if(λr:Pt=>dH r.2.1) x.2.1[j]=0 then .inl (((j+1:Nat):Int),())else .inr (.inl ((λr:Pt=>dH r.2.1) x.2.1[j],()))):=by
 obtain⟨c,h1,h2⟩:=pJ x.2.1[j].2.1 (h _ (b_ a));simp only;rw[<-SP h1];refine aj h2 (au (λh=>aa ?_) λh=>aa ?_);.grind
 .rw[if_pos (by grind),ao a]
def zcY{x:Zi}(_:zd0 x){j:Nat}(b:j<x.2.1.length)(hl:x.2.1.length<=64):Wp (λn=>o_ (gw (sg tbl n) 131 [.d yC x.2.1[j]] [] aw) λa=>bif (a.1 != (0:Int))then some (.inr (.inl ((a.1,()))))else some (.inl (f_ .i64 ((j:Int)+(1:Int)),()))) (fun(r:(Int×Unit)⊕(Int×Unit)⊕Unit)=>r=if gE x.2.1[j]=0 then .inl (((j+1:Nat):Int),())else .inr (.inl (gE x.2.1[j],()))):=by
 refine aj (xu _) (au (λh=>aa ?_) λh=>aa ?_);.grind
 .rw[if_pos (by grind),ao b]
def zK(l:List Zm)(hn:∀x∈l,x.1.length<=9223372036854775807)(hr:∀x∈l,zdY x):aA tbl 111 [.d (.list yL) l] [] aw (c8 (·.1) (λl=>l.2.1.length) (λl=>bz gG l.2.1) l,()):=by
 refine bN ?_;refine au (λh=>aa ?_) λh=>?_;.rw[show c8 (·.1) (λl=>l.2.1.length) (λl=>bz gG l.2.1) l=4 from if_pos (by have:=of_decide_eq_true h;omega)]
 have c:¬l.length>64:=by have:=of_decide_eq_false h;omega
 rw[show c8 (·.1) (λl=>l.2.1.length) (λl=>bz gG l.2.1) l=gS (xS (·.1) (λl=>l.2.1.length) (λl=>bz gG l.2.1) l) l.length from if_neg c];generalize k:xS (·.1) (λl=>l.2.1.length) (λl=>bz gG l.2.1) l=E;refine ae (mG (N:=l.length) (f:=E) (enc:=λi=>(Mw (l.map (·.1)) i,(i:Int),())) (oB:=λe=>(e,())) (oE:=()) (λi a=>?_) ?_ ?_)
 .have b:=C6 (nm:=(·.1)) (sz:=λl=>l.2.1.length) (ck:=λl=>bz gG l.2.1) a;rw[k]at b;refine aO a (aB a (aj (ke _ _ _ _ (hn _ (b_ a))) (au (λh=>aa ?_) λh=>?_)));.rw[if_neg (by simpa using h)]at b;rw[b,if_neg (by simpa using h)]
  rw[if_pos (by simpa using h)]at b;rw[b];have g:l[i].2.1.length<=64:=by
   have h:wJ l[i].1 (Mw (l.map (·.1)) i) ((i:Int)==0) l[i].2.1.length=0:=by simpa using h
   unfold wJ at h;split at h;.cases h
   split at h;.cases h
   split at h;.cases h
   .omega
  refine ae (iu (l:=l[i].2.1) (f:=gG) (enc:=λi=>((i:Int),())) (oB:=λe=>(e,())) (oE:=()) (λj d=>?_) ?_ ?_);.exact aO d (aB d (zcW (hr _ (b_ a)) d g))
  .exact aH (aa rfl)
  by_cases e:bz gG l[i].2.1=0;.rw[if_pos e,if_pos e];refine aa ?_;show _=br_ (Mw (l.map (·.1)) (i+1),((i+1:Nat):Int),());rw[xE (nm:=(·.1)) a,ao a]
  .rw[if_neg e,if_neg e];exact aa rfl
 .exact aH (aa rfl)
 by_cases e:gS E l.length=0;.rw[if_pos e];refine aa ?_;rw[e]
 .rw[if_neg e];exact aa rfl
def GM(l:List Zl)(hn:∀x∈l,x.1.length<=9223372036854775807)(hr:∀x∈l,zdZ x):aA tbl 112 [.d (.list yG) l] [] aw (c8 (·.1) (λl=>l.2.1.length) (λl=>bz (λr=>dH r.2.1) l.2.1) l,()):=by
 refine bN ?_;refine au (λh=>aa ?_) λh=>?_;.rw[show c8 (·.1) (λl=>l.2.1.length) (λl=>bz (λr=>dH r.2.1) l.2.1) l=4 from if_pos (by have:=of_decide_eq_true h;omega)]
 have c:¬l.length>64:=by have:=of_decide_eq_false h;omega
 rw[show c8 (·.1) (λl=>l.2.1.length) (λl=>bz (λr=>dH r.2.1) l.2.1) l=gS (xS (·.1) (λl=>l.2.1.length) (λl=>bz (λr=>dH r.2.1) l.2.1) l) l.length from if_neg c];generalize k:xS (·.1) (λl=>l.2.1.length) (λl=>bz (λr=>dH r.2.1) l.2.1) l=E;refine ae (mG (N:=l.length) (f:=E) (enc:=λi=>(Mw (l.map (·.1)) i,(i:Int),())) (oB:=λe=>(e,())) (oE:=()) (λi a=>?_) ?_ ?_)
 .have b:=C6 (nm:=(·.1)) (sz:=λl=>l.2.1.length) (ck:=λl=>bz (λr=>dH r.2.1) l.2.1) a;rw[k]at b;refine aO a (aB a (aj (ke _ _ _ _ (hn _ (b_ a))) (au (λh=>aa ?_) λh=>?_)));.rw[if_neg (by simpa using h)]at b;rw[b,if_neg (by simpa using h)]
  rw[if_pos (by simpa using h)]at b;rw[b];have g:l[i].2.1.length<=64:=by
   have h:wJ l[i].1 (Mw (l.map (·.1)) i) ((i:Int)==0) l[i].2.1.length=0:=by simpa using h
   unfold wJ at h;split at h;.cases h
   split at h;.cases h
   split at h;.cases h
   .omega
  refine ae (iu (l:=l[i].2.1) (f:=(λr=>dH r.2.1)) (enc:=λi=>((i:Int),())) (oB:=λe=>(e,())) (oE:=()) (λj d=>?_) ?_ ?_);.exact aO d (aB d (zcX (hr _ (b_ a)) d g))
  .exact aH (aa rfl)
  by_cases e:bz (λr=>dH r.2.1) l[i].2.1=0;.rw[if_pos e,if_pos e];refine aa ?_;show _=br_ (Mw (l.map (·.1)) (i+1),((i+1:Nat):Int),());rw[xE (nm:=(·.1)) a,ao a]
  .rw[if_neg e,if_neg e];exact aa rfl
 .exact aH (aa rfl)
 by_cases e:gS E l.length=0;.rw[if_pos e];refine aa ?_;rw[e]
 .rw[if_neg e];exact aa rfl
def uX(l:List Zi)(hn:∀x∈l,x.1.length<=9223372036854775807)(hr:∀x∈l,zd0 x):aA tbl 113 [.d (.list yD) l] [] aw (c8 (·.1) (λl=>l.2.1.length) (λl=>bz gE l.2.1) l,()):=by
 refine bN ?_;refine au (λh=>aa ?_) λh=>?_;.rw[show c8 (·.1) (λl=>l.2.1.length) (λl=>bz gE l.2.1) l=4 from if_pos (by have:=of_decide_eq_true h;omega)]
 have c:¬l.length>64:=by have:=of_decide_eq_false h;omega
 rw[show c8 (·.1) (λl=>l.2.1.length) (λl=>bz gE l.2.1) l=gS (xS (·.1) (λl=>l.2.1.length) (λl=>bz gE l.2.1) l) l.length from if_neg c];generalize k:xS (·.1) (λl=>l.2.1.length) (λl=>bz gE l.2.1) l=E;refine ae (mG (N:=l.length) (f:=E) (enc:=λi=>(Mw (l.map (·.1)) i,(i:Int),())) (oB:=λe=>(e,())) (oE:=()) (λi a=>?_) ?_ ?_)
 .have b:=C6 (nm:=(·.1)) (sz:=λl=>l.2.1.length) (ck:=λl=>bz gE l.2.1) a;rw[k]at b;refine aO a (aB a (aj (ke _ _ _ _ (hn _ (b_ a))) (au (λh=>aa ?_) λh=>?_)));.rw[if_neg (by simpa using h)]at b;rw[b,if_neg (by simpa using h)]
  rw[if_pos (by simpa using h)]at b;rw[b];have g:l[i].2.1.length<=64:=by
   have h:wJ l[i].1 (Mw (l.map (·.1)) i) ((i:Int)==0) l[i].2.1.length=0:=by simpa using h
   unfold wJ at h;split at h;.cases h
   split at h;.cases h
   split at h;.cases h
   .omega
  refine ae (iu (l:=l[i].2.1) (f:=gE) (enc:=λi=>((i:Int),())) (oB:=λe=>(e,())) (oE:=()) (λj d=>?_) ?_ ?_);.exact aO d (aB d (zcY (hr _ (b_ a)) d g))
  .exact aH (aa rfl)
  by_cases e:bz gE l[i].2.1=0;.rw[if_pos e,if_pos e];refine aa ?_;show _=br_ (Mw (l.map (·.1)) (i+1),((i+1:Nat):Int),());rw[xE (nm:=(·.1)) a,ao a]
  .rw[if_neg e,if_neg e];exact aa rfl
 .exact aH (aa rfl)
 by_cases e:gS E l.length=0;.rw[if_pos e];refine aa ?_;rw[e]
 .rw[if_neg e];exact aa rfl
def JB(s:PS)(hs:okD yS s)(p:sr)(hp:okD yO p)(i:Nat)(d:i<p.2.1.length):aA tbl 115 [.d yS s,.d yO p,.d tI (i:Int)] [] aw (gu s (p.2.1.take i) p.2.1[i],()):=by
 refine bN ?_;refine aB d ?_;have ht:okD yT p.2.1[i]:=hp.2.1.2 _ (b_ d);have w:(p.2.1.take i).length<=9223372036854775807:=by have:p.2.1.length<=9223372036854775807:=hp.2.1.1;grind
 have u:(p.2.1.take (K_ (i:Int))).drop 0=p.2.1.take i:=by simp
 generalize p.2.1[i]=t at ht;refine aj (jt t.1 ht.1) (au (λh=>aa ?_) λh=>?_);.rw[show gu s (p.2.1.take i) t=1 from if_pos (by grind)]
 have hn:¬jX t.1=false:=by grind
 refine ar (decide_eq_true (by simp)) (ar (by grind) ?_);rw[u];generalize y:p.2.1.take i=a at w;refine ae (iP (xs:=a) (p:=(·.1==t.1)) (enc:=λi=>((i:Int),t.1,t.2.1,t.2.2.1,t.2.2.2.1,())) (g:=λ_=>((7:Int),())) (e:=(t.1,t.2.1,t.2.2.1,t.2.2.2.1,())) (λj v=>?_) ?_ ?_)
 .refine aO v (aB v (au (λh=>aa ?_) λh=>aa ?_));.grind
  .rw[if_neg (by grind),ao v w]
 .exact aH (aa rfl)
 have c:a.any (·.1==t.1)=(a.find? (·.1==t.1)).isSome:=xD;cases e:a.find? (·.1==t.1)with
 |some r=>rw[e]at c;have c:a.any (·.1==t.1)=true:=c;refine aa ?_;rw[show gu s a t=7 from by unfold gu;grind]|none=>
  rw[e]at c;have x:¬a.any (·.1==t.1)=true:=by grind
  refine au (λh=>aa ?_) λh=>?_;.have h:decide ((t.2.1.length:Int)>64)=true:=h;rw[show gu s a t=4 from by unfold gu;grind]
  have h:decide ((t.2.1.length:Int)>64)=false:=h;have h1:¬t.2.1.length>64:=by grind
  refine ae (iu (l:=t.2.1) (f:=iw s) (enc:=λi=>((i:Int),t.1,t.2.1,t.2.2.1,t.2.2.2.1,())) (oB:=λe=>(e,())) (oE:=(t.1,t.2.1,t.2.2.1,t.2.2.2.1,())) (λi d=>?_) ?_ ?_)
  .refine aO d (aB d (aj (GL s _ hs ((λm z=>((ht.2.1.2 m z).2.2.2.1).1) _ (b_ d))) (au (λh=>aa ?_) λh=>aa ?_)));.grind
   .rw[if_pos (by grind),ao d]
  .exact aH (aa rfl)
  by_cases k:bz (iw s) t.2.1=0
  .rw[if_pos k];refine au (λh=>aa ?_) λh=>?_;.rw[show gu s a t=4 from by unfold gu;grind]
   have h2:¬t.2.2.1.length>64:=by grind
   refine ae (iu (l:=t.2.2.1) (f:=eP) (enc:=λi=>((i:Int),t.1,t.2.1,t.2.2.1,t.2.2.2.1,())) (oB:=λe=>(e,())) (oE:=(t.1,t.2.1,t.2.2.1,t.2.2.2.1,())) (λi d=>?_) ?_ ?_)
   .refine aO d (aB d (aj (sY _) (au (λh=>aa ?_) λh=>aa ?_)));.grind
    .rw[if_pos (by grind),ao d]
   .exact aH (aa rfl)
   by_cases n:bz eP t.2.2.1=0
   .rw[if_pos n];refine ae (bc (b:=(t.2.2.2.1 != 2)) (λ_=>aa rfl) (ae (bc (b:=(t.2.2.2.1 != 3)) (λ_=>aa rfl) (au (λh=>aa ?_) λh=>aa ?_))));.rw[show gu s a t=15 from by unfold gu;grind]
    .rw[show gu s a t=0 from by unfold gu;rw[if_neg hn,if_neg x,if_neg h1,if_neg (not_not_intro k),if_neg h2,if_neg (not_not_intro n),if_neg (by simp at h;omega)]]
   .rw[if_neg n];refine aa ?_;rw[show gu s a t=bz eP t.2.2.1 from by unfold gu;grind]
  .rw[if_neg k];refine aa ?_;rw[show gu s a t=bz (iw s) t.2.1 from by unfold gu;grind]
def GK(s:PS)(hs:Bw s):aA tbl 46 [.d yS s] [] aw (j5 dH s,()):=by
 refine bN ?_;have a:=hs.ok;have C:=zK s.1 (λx d=>(a.1.2 x d).1) (λx d r hr=>((a.1.2 x d).2.1.2 r hr).2.1.1);have D:=GM s.2.1 (λx d=>(a.2.1.2 x d).1) (λx d r hr=>hs.pt x d r hr);have F:=uX s.2.2.1 (λx d=>(a.2.2.1.2 x d).1) (λ_ _=>trivial);generalize L:c8 (·.1) (λl=>l.2.1.length) (λl=>bz gG l.2.1) s.1=z at C;generalize M:c8 (·.1) (λl=>l.2.1.length) (λl=>bz (λr=>dH r.2.1) l.2.1) s.2.1=A at D;generalize O:c8 (·.1) (λl=>l.2.1.length) (λl=>bz gE l.2.1) s.2.2.1=B at F;generalize v:c8 (·.1) (λp=>p.2.1.length) (kQ s) s.2.2.2.1=I;have hp:j5 dH s=if z≠0 then z else if A≠0 then A else if B≠0 then B else I:=by unfold j5;omega
 rw[hp];refine aj C (au (λh=>aa ?_) λh=>aj D (au (λh'=>aa ?_) λh'=>aj F (au (λw=>aa ?_) λw=>?_)));.grind
 .grind
 .grind
 rw[if_neg (by grind),if_neg (by grind),if_neg (by grind)];generalize hl:s.2.2.2.1=l at v;refine au (λh=>aa ?_) λh=>?_;.rw[<-v,show c8 (·.1) (λp=>p.2.1.length) (kQ s) l=4 from if_pos (by grind)]
 have n:¬l.length>64:=by grind
 rw[<-v,show c8 (·.1) (λp=>p.2.1.length) (kQ s) l=gS (xS (·.1) (λp=>p.2.1.length) (kQ s) l) l.length from if_neg n];generalize J:xS (·.1) (λp=>p.2.1.length) (kQ s) l=E;refine ae (mG (N:=l.length) (f:=E) (enc:=λi=>(Mw (l.map (·.1)) i,(i:Int),())) (oB:=λe=>(e,())) (oE:=()) (λi g=>?_) ?_ ?_)
 .have H:E i=if wJ l[i].1 (Mw (l.map (·.1)) i) ((i:Int)==0) l[i].2.1.length=0 then kQ s l[i]else wJ l[i].1 (Mw (l.map (·.1)) i) ((i:Int)==0) l[i].2.1.length:=by rw[<-J];exact C6 g
  have c:=(λp hp=>by rw[<-hl]at hp;exact a.2.2.2.1.2 p hp) _ (b_ g);refine aO g (aB g (aj (ke _ _ _ _ c.1) (au (λh=>aa ?_) λh=>?_)));.grind
  rw[if_pos (by grind)]at H;rw[H,SQ];have k:=xE (nm:=λp:sr=>p.1) g;generalize l[i]=p at c k;have y:p.2.1.length<=9223372036854775807:=c.2.1.1;refine ae (mG (N:=p.2.1.length) (f:=OY s p.2.1) (enc:=λi=>((i:Int),p.1,p.2.1,p.2.2.1,())) (oB:=λe=>(e,())) (oE:=(p.1,p.2.1,p.2.2.1,())) (λj u=>?_) ?_ ?_)
  .refine aO u (aj (JB s a p c j u) ?_);rw[<-OZ u];refine au (λh=>aa ?_) λh=>aa ?_;.grind
   .rw[if_pos (by grind),ao u y]
  .exact aH (aa rfl)
  by_cases e:gS (OY s p.2.1) p.2.1.length=0
  .rw[if_pos e,if_neg (not_not_intro e)];refine ae (bc (b:=(p.2.2.1 != 2)) (λ_=>aa rfl) (au (λh=>aa ?_) λh=>aa ?_));.grind
   .rw[if_neg (show ¬(p.2.2.1≠1/\p.2.2.1≠2) by grind),if_pos rfl];rw[k,ao g]
  .rw[if_neg e,if_pos e,if_neg e];exact aa rfl
 .exact aH (aa rfl)
 by_cases e:gS E l.length=0;.rw[if_pos e];refine aa ?_;rw[e]
 .rw[if_neg e];exact aa rfl
def Jy(s:PS)(n:List UInt8)(hl:s.2.2.2.1.length<=9223372036854775807):aA tbl 47 [.d yS s,.d tS n] [] jo ((mS s n).getD O9,(mS s n).isSome,()):=by
 refine bN (ae (iP (xs:=s.2.2.2.1) (p:=(·.1==n)) (enc:=λi=>((i:Int),([]:List UInt8),(0:Int),())) (g:=λx=>(true,x.1,x.2.1,x.2.2.1,())) (e:=(([]:List UInt8),(0:Int),())) (λi a=>?_) ?_ ?_))
 .refine aO a (aB a (au (λh=>aa ?_) λh=>aa ?_));.grind
  .rw[if_neg (by grind),ao a hl]
 .exact aH (aa rfl)
 .unfold mS;cases s.2.2.2.1.find? (·.1==n)with|some r=>exact aa rfl|none=>exact aa rfl
set_option maxRecDepth 100000
def IQ{s:PS}{m:oJ}(h:iw s m=0):1<=m.1/\m.1<=8:=by refine l_ λhn=>?_;rw[Fl (show m.1<1\/8<m.1 by omega)]at h;omega
def Mh{a:Type}{p:a->Bool}{l:List a}{i:Nat}(b:i<l.length):(l.take (i+1)).all p=((l.take i).all p&&p l[i]):=by rw[y_ b,be_];simp
abbrev eE{a:Type}(s:PS)(r:ix)(x:a):List Zm×List Zl×List Zi×List sr×Int×Int×Int×Int×List Int×List Int×Int×Int×Int×Int×a:=
 (s.1,s.2.1,s.2.2.1,s.2.2.2.1,r.1.1,r.1.2.1,r.2.1,r.2.2.1,r.2.2.2.1,r.2.2.2.2.1,r.2.2.2.2.2.1,r.2.2.2.2.2.2.1,r.2.2.2.2.2.2.2.1,r.2.2.2.2.2.2.2.2.1,x)
abbrev zE{a:Type}(x:a):Bool×Int×Int×Int×Int×Int×Int×Int×Int×a:=(false,0,0,0,0,0,0,0,0,x)
def nF{hold:jd->Bool}{t:jd}{l:List jd}{i:Nat}{d:Int}:fb hold (t::l) i d=if hold t then(if t.2.2.2.1≠3 then([(i:Int)],t.2.2.1,t.2.2.2.1)else((i:Int)::(fb hold l (i+1) d).1,t.2.2.1++(fb hold l (i+1) d).2.1,(fb hold l (i+1) d).2.2))else fb hold l (i+1) d:=rfl
noncomputable def sM(s:PS)(p:sr)(r:ix):List Int×List j7×Int:=fb (mw s r) p.2.1 0 p.2.2.1
noncomputable def O4(s:PS)(p:sr)(r:ix):Bool×(ix×Unit):=if(sM s p r).2.2=2 then(false,CV,())else(true,u4 (sM s p r).2.1 r,())
def Qf{s:PS}{p:sr}{r:ix}(hs:okD yO p):∀a∈(sM s p r).2.1,okD yA a:=by
 have key:∀(l:List jd) (i:Nat) (d:Int),(∀t∈l,okD yT t)->∀a∈(fb (mw s r) l i d).2.1,okD yA a:=by
  intro l;induction l with
  |nil=>intro i d _ a b;cases b|cons t l e=>
   intro i d h a b;rw[nF]at b;have c:=h t (by simp);split at b
   .split at b;.exact c.2.2.1.2 a b
    .rcases h_.1 b with b|b;.exact c.2.2.1.2 a b
     grind
   grind
 exact key p.2.1 0 p.2.2.1 hs.2.1.2
def zH(s:PS)(p:sr)(r:ix)(h:TA s r)(hp:Ib s p)(j:okD yO p):aA tbl 84 [.d yS s,.d yO p,.d xn r] [] lD ((sM s p r).1,O4 s p r,()):=by
 refine bN ?_;have D:=hp.tl;have z:∀t∈p.2.1,t.2.2.1.length<=64:=λt ht=>(hp.tr t ht).al;generalize k:sM s p r=R;have B:R.1.length<=64/\R.2.1.length<=64*64:=by have:=qo (hold:=mw s r) (l:=p.2.1) (i:=0) (d:=p.2.2.1) z;have e:fb (mw s r) p.2.1 0 p.2.2.1=R:=k;grind
 refine aj (Js s r) (ae (Wp.imp (Q:=λx=>x=(R.2.2,zE (R.1,R.2.1,()))) (aI (N:=p.2.1.length) (I:=λi x=>∃(T:List Int) (A:List j7),x=(p.2.2.1,(i:Int),zE (eE s r (T,A,())))/\T++(fb (mw s r) (p.2.1.drop i) i p.2.2.1).1=R.1/\A++(fb (mw s r) (p.2.1.drop i) i p.2.2.1).2.1=R.2.1/\(fb (mw s r) (p.2.1.drop i) i p.2.2.1).2.2=R.2.2) ⟨[],[],rfl,by rw[aj_,<-k];rfl,by rw[aj_,<-k];rfl,by rw[aj_,<-k];rfl⟩ (λi x b c=>?_) λx c=>?_) λx c=>?_))
 .obtain⟨T,A,rfl,h1,h2,g⟩:=c;have M:T.length<=64:=by grind
  have L:A.length<=64*64:=by grind
  have O:f_ .i64 ((i:Int)+1)=((i+1:Nat):Int):=ao b;rw[z_ b,nF]at h1 h2 g;have v:=b_ b;have f:=hp.tr _ v;have u:=j.2.1.2 _ v;refine aO b (ae (aB b ?_));generalize p.2.1[i]=t at h1 h2 g f u;have C:=f.al;refine ae (Wp.imp (Q:=λy=>y=(mw s r t,zE (eE s r (T,A,t.1,t.2.1,t.2.2.1,t.2.2.2.1,())))) (aI (N:=t.2.1.length) (I:=λi x=>x=((t.2.1.take i).all (ER s r),(i:Int),zE (eE s r (T,A,t.1,t.2.1,t.2.2.1,t.2.2.2.1,())))) rfl (λi x b c=>?_) λx c=>?_) λy E=>?_)
  .subst c;have hl:=f.ml;have n:=b_ b;refine aO b (aB b (au (λa=>?_) λa=>aa ?_));.refine aj (Zv s t.2.1[i] r h (IQ (f.ma _ n)) ((u.2.1.2 _ n).2.2.2.1).1) (aa ?_);show(ER s r t.2.1[i],f_ .i64 ((i:Int)+1),_)=_;have a:(t.2.1.take i).all (ER s r)=true:=a;rw[Mh b,a,Y_,ao b]
   .show(false,f_ .i64 ((i:Int)+1),_)=_;have a:(t.2.1.take i).all (ER s r)=false:=a;rw[Mh b,a,bl_,ao b]
  .subst c;refine aH (aa ?_);rw[g_];rfl
  subst E;refine au (λa=>aa (aa ?_)) λa=>?_;.grind
  .have a:mw s r t=true:=by grind
   rw[a]at h1 h2 g;refine ar (decide_eq_true (by grind)) (ar (decide_eq_true (by grind)) (au (λw=>aa (aa ?_)) λw=>aa (aa ?_)));.grind
   .have w:¬t.2.2.2.1≠3:=by grind
    rw[if_pos rfl,if_neg w]at h1 h2 g;refine⟨T++[(i:Int)],A++t.2.2.1,?_,?_,?_,g⟩;all_goals grind
 .obtain⟨T,A,rfl,h1,h2,g⟩:=c;rw[ao_]at h1 h2 g;refine aH (aa ?_);show(p.2.2.1,zE (T,A,()))=_;have F:T=R.1:=by rw[<-h1];exact(w_ T).symm
  have H:A=R.2.1:=by rw[<-h2];exact(w_ A).symm
  have J:p.2.2.1=R.2.2:=g;grind
 .subst c;have w:O4 s p r=if R.2.2=2 then(false,CV,())else(true,u4 R.2.1 r,()):=by unfold O4;grind
  rw[w];refine au (λa=>aa ?_) λa=>?_;.grind
  .rw[if_neg (by grind)];refine aj (Bq R.2.1 r (by omega) (by rw[<-k];exact Qf j) λi=>(xz (λx c=>by rw[<-k]at c;exact Qf j x (C_ c)) h.u).sm) (aa rfl)
noncomputable def ol(s:PS)(n:List UInt8)(r:ix):Int:=if j5 dH s≠0 then j5 dH s else if(mS s n).isSome=false then 6 else mE r
noncomputable def vz(s:PS)(n:List UInt8):sr:=if j5 dH s≠0 then O9 else(mS s n).getD O9
def B3(s:PS)(n:List UInt8)(r:ix)(h:TA s r):aA tbl 83 [.d yS s,.d tS n,.d xn r] [] gV (vz s n,ol s n r,()):=by
 refine bN ?_;refine aj (iy s h.s) (au (λa=>aa ?_) λa=>?_)
 .have a:j5 dH s≠0:=by grind
  rw[show vz s n=O9 from if_pos a,show ol s n r=j5 dH s from if_pos a]
 have a:¬j5 dH s≠0:=by grind
 have c:=yZ (l_ a);rw[show vz s n=(mS s n).getD O9 from if_neg a,show ol s n r=if(mS s n).isSome=false then 6 else mE r from if_neg a];refine aj (vD s n c) (au (λb=>aa ?_) λb=>aj (vC r h.p) (aa ?_))
 .have b:(mS s n).isSome=false:=by grind
  rw[if_pos b];cases e:mS s n with|some p=>grind|none=>rfl
 grind
def vG(s:PS)(n:List UInt8)(r:ix)(h:TA s r)(hc:aA tbl 72 [.d xn r] [] aw (mE r,())):aA tbl 85 [.d yS s,.d tS n,.d xn r] [] gV (vz s n,ol s n r,()):=by
 refine bN ?_;refine aj (GK s h.s) (au (λa=>aa ?_) λa=>?_)
 .have a:j5 dH s≠0:=by grind
  rw[show vz s n=O9 from if_pos a,show ol s n r=j5 dH s from if_pos a]
 have a:¬j5 dH s≠0:=by grind
 have c:=yZ (l_ a);have d:=c.l4;rw[show vz s n=(mS s n).getD O9 from if_neg a,show ol s n r=if(mS s n).isSome=false then 6 else mE r from if_neg a];refine aj (Jy s n (by omega)) (au (λb=>aa ?_) λb=>aj hc (aa ?_))
 .have b:(mS s n).isSome=false:=by grind
  rw[if_pos b];cases e:mS s n with|some p=>grind|none=>rfl
 grind
def F8{s:PS}{n:List UInt8}{r:ix}(h:ol s n r=0):∃p,mS s n=some p/\vz s n=p/\L8 dH s/\mE r=0:=by
 unfold ol at h;split at h;.omega
 rename_i a;split at h;.omega
 rename_i h1;cases e:mS s n with|none=>grind|some p=>exact⟨p,rfl,by unfold vz;grind,yZ (l_ a),h⟩
noncomputable def Lc(s:PS)(n:List UInt8)(r:ix):Bool×(ix×Unit):=if ol s n r≠0 then(false,CV,())else O4 s (vz s n) r
noncomputable def runT(s:PS)(n:List UInt8)(r:ix):List Int:=if ol s n r≠0 then []else(sM s (vz s n) r).1
def LK(s:PS)(n:List UInt8)(r:ix)(h:TA s r):aA tbl 32 [.d yS s,.d tS n,.d xn r] [] mn (Lc s n r,ol s n r,()):=by
 refine bN ?_;refine aj (B3 s n r h) (au (λa=>aa ?_) λa=>?_)
 .have a:ol s n r≠0:=by grind
  rw[show Lc s n r=(false,CV,())from if_pos a]
 .have a:ol s n r=0:=by grind
  obtain⟨p,h1,h2,b,_⟩:=F8 a;rw[show Lc s n r=O4 s (vz s n) r from if_neg (not_not_intro a),h2,a];exact aj (zH s p r h (b.r4 p (l5 h1)) (h.s.ok.2.2.2.1.2 p (l5 h1))) (aa rfl)
def JC(s:PS)(r:ix)(h:TA s r)(t:jd)(ht:Mc s t)(c:∀m∈t.2.1,iF m.2.2.2.1.1):aA tbl 161 [.d yS s,.d yT t,.d xn r] [] ap (mw s r t,()):=by
 refine bN ?_;have hl:=ht.ml;refine ae (kL (xs:=t.2.1) (P:=λm=>ER s r m=true) (e:=(false,())) (g:=()) (λi b=>?_) ?_ (λh=>aa ?_) λh=>aa ?_);.have a:=b_ b;refine aO b (aB b (aj (LW s t.2.1[i] r h (IQ (ht.ma _ a)) (c _ a)) (ev ?_ (by rw[ao b]))));show(false ^^ (gr s t.2.1[i] r==t.2.1[i].2.2.2.2.1))=true↔¬(true ^^ (gr s t.2.1[i] r==t.2.1[i].2.2.2.2.1))=true;simp
 .exact aH (aa rfl)
 .rw[show mw s r t=true from aX_.2 h]
 .rw[show mw s r t=false from by cases e:mw s r t;rfl;exact absurd (aX_.1 e) h]
def GO(s:PS)(n:List UInt8)(r:ix)(h:TA s r):aA tbl 86 [.d yS s,.d tS n,.d xn r] [] iT (runT s n r,ol s n r,()):=by
 refine bN ?_;refine aj (vG s n r h (vF r h.p)) (au (λa=>aa ?_) λa=>?_)
 .have a:ol s n r≠0:=by grind
  rw[show runT s n r=[]from if_pos a]
 have a:ol s n r=0:=by grind
 obtain⟨p,h1,h2,z,_⟩:=F8 a;rw[show runT s n r=(sM s (vz s n) r).1 from if_neg (not_not_intro a),h2,a];have hp:=z.r4 p (l5 h1);have u:=h.s.ok.2.2.2.1.2 p (l5 h1);have B:=hp.tl;generalize w:(sM s p r).1=R;have y:R.length<=64:=by have:=qo (hold:=mw s r) (l:=p.2.1) (i:=0) (d:=p.2.2.1) (λt ht=>(hp.tr t ht).al);have e:(fb (mw s r) p.2.1 0 p.2.2.1).1=R:=w;grind
 refine ae (Wp.imp (Q:=λx=>x=(R,())) (aI (N:=p.2.1.length) (I:=λi x=>∃T:List Int,x=((i:Int),T,())/\T++(fb (mw s r) (p.2.1.drop i) i p.2.2.1).1=R) ⟨[],rfl,by rw[aj_,<-w];rfl⟩ (λi x c k=>?_) λx k=>?_) λx k=>?_)
 .obtain⟨T,rfl,b⟩:=k;have C:T.length<=64:=by grind
  have D:f_ .i64 ((i:Int)+1)=((i+1:Nat):Int):=ao c;rw[z_ c,nF]at b;have g:=b_ c;have j:=hp.tr _ g;have f:=u.2.1.2 _ g;refine aO c (ae (aB c ?_));generalize p.2.1[i]=t at b j f;refine aj (JC s r h t j (λm A=>((f.2.1.2 m A).2.2.2.1).1)) (au (λa=>aa (aa ?_)) λa=>?_);.grind
  .have a:mw s r t=true:=by grind
   rw[a]at b;refine ar (decide_eq_true (by grind)) (au (λv=>aa (aa ?_)) λv=>aa (aa ?_));.grind
   .have v:¬t.2.2.2.1≠3:=by grind
    rw[if_pos rfl,if_neg v]at b;refine⟨T++[(i:Int)],?_,?_⟩;all_goals grind
 .obtain⟨T,rfl,b⟩:=k;rw[ao_]at b;refine aH (aa ?_);show(T,())=_;rw[show T=R from by rw[<-b];exact(w_ T).symm]
 .subst k;exact aa rfl
def ud(l:List jd)(x:Int×List j7)(v:Int):Int×List j7:=((if(l.getD v.toNat ([],[],[],0,())).2.2.2.1≠3 then(l.getD v.toNat ([],[],[],0,())).2.2.2.1 else x.1),x.2++(l.getD v.toNat ([],[],[],0,())).2.2.1)
def OS{hold:jd->Bool}{l:List jd}{d:Int}:∀(k i:Nat) (A:List j7),i+k=l.length->(fb hold (l.drop i) i d).1.foldl (ud l) (d,A)=((fb hold (l.drop i) i d).2.2,A++(fb hold (l.drop i) i d).2.1)
 |0,i,A,h=>by rw[List.drop_eq_nil_of_le (by omega)];show(d,A)=(d,A++[]);simp
 |k+1,i,A,h=>by
  have a:i<l.length:=by omega
  have c:=λA=>OS (hold:=hold) (l:=l) (d:=d) k (i+1) A (by omega);have hg:l.getD ((i:Int).toNat) ([],[],[],0,())=l[i]:=by grind
  rw[z_ a,nF];split
  .split;.rename_i b;show ud l (d,A) (i:Int)=_;unfold ud;grind
   .rename_i b;show(fb hold (l.drop (i+1)) (i+1) d).1.foldl (ud l) (ud l (d,A) (i:Int))=_;have e:ud l (d,A) (i:Int)=(d,A++l[i].2.2.1):=by unfold ud;grind
    grind
  grind
def MV{hold:jd->Bool}:∀(l:List jd) (i:Nat) (d:Int),∀v∈(fb hold l i d).1,(i:Int)<=v/\v<((i+l.length:Nat):Int)
 |[],_,_,v,a=>by cases a
 |t::l,i,d,v,a=>by have b:=MV (hold:=hold) l (i+1) d v;rw[nF]at a;grind
def LX(s:PS)(n:List UInt8)(r:ix)(h:TA s r):aA tbl 33 [.d yS s,.d tS n,.d xn r] [] mn (Lc s n r,ol s n r,()):=by
 refine bN ?_;refine aj (vG s n r h (vF r h.p)) (au (λa=>aa ?_) λa=>?_)
 .have a:ol s n r≠0:=by grind
  rw[show Lc s n r=(false,CV,())from if_pos a]
 have a:ol s n r=0:=by grind
 obtain⟨p,h1,h2,J,_⟩:=F8 a;have D:=GO s n r h;rw[show runT s n r=(sM s (vz s n) r).1 from if_neg (not_not_intro a),h2]at D;rw[show Lc s n r=O4 s (vz s n) r from if_neg (not_not_intro a),h2,a];rw[a]at D;refine aj D ?_;have hp:=J.r4 p (l5 h1);have E:=h.s.ok.2.2.2.1.2 p (l5 h1);have L:=hp.tl;have c:∀t∈p.2.1,t.2.2.1.length<=64:=λt ht=>(hp.tr t ht).al;have f:(sM s p r).1.foldl (ud p.2.1) (p.2.2.1,[])=((sM s p r).2.2,(sM s p r).2.1):=OS (hold:=mw s r) (l:=p.2.1) (d:=p.2.2.1) p.2.1.length 0 [] (by simp);have u:∀v∈(sM s p r).1,0<=v/\v.toNat<p.2.1.length:=λv z=>by have:=MV (hold:=mw s r) p.2.1 0 p.2.2.1 v z;omega
 have w:(sM s p r).1.length<=64:=by have:=(qo (hold:=mw s r) (l:=p.2.1) (i:=0) (d:=p.2.2.1) c).1;have e:(fb (mw s r) p.2.1 0 p.2.2.1).1=(sM s p r).1:=rfl;grind
 have g:(sM s p r).2.1.length<=64*64:=by have:=(qo (hold:=mw s r) (l:=p.2.1) (i:=0) (d:=p.2.2.1) c).2;have e:(fb (mw s r) p.2.1 0 p.2.2.1).2.1=(sM s p r).2.1:=rfl;grind
 have z:O4 s p r=if(sM s p r).2.2=2 then(false,CV,())else(true,u4 (sM s p r).2.1 r,()):=rfl;rw[z];have y:=Qf (s:=s) (r:=r) E;generalize sM s p r=R at f u w g y;refine ae (Wp.imp (Q:=λx=>x=(R.2.2,zE (R.2.1,()))) (aI (N:=R.1.length) (I:=λi x=>x=(((R.1.take i).foldl (ud p.2.1) (p.2.2.1,[])).1,(i:Int),zE (p.1,p.2.1,p.2.2.1,((R.1.take i).foldl (ud p.2.1) (p.2.2.1,[])).2,()))/\((R.1.take i).foldl (ud p.2.1) (p.2.2.1,[])).2.length<=64*i) ⟨rfl,D_ _⟩ (λi x k j=>?_) λx j=>?_) λx j=>?_)
 .obtain⟨rfl,F⟩:=j;have O:f_ .i64 ((i:Int)+1)=((i+1:Nat):Int):=ao k;obtain⟨C,B⟩:=u _ (b_ k);have b:(R.1.take (i+1)).foldl (ud p.2.1) (p.2.2.1,[])=ud p.2.1 ((R.1.take i).foldl (ud p.2.1) (p.2.2.1,[])) R.1[i]:=by rw[y_ k,ak_];rfl
  generalize(R.1.take i).foldl (ud p.2.1) (p.2.2.1,[])=X at F b;obtain⟨d,A⟩:=X;simp only at F;refine aO k (ae (aB k ?_));rw[b];generalize R.1[i]=v at C B;have hg:p.2.1.getD v.toNat ([],[],[],0,())=p.2.1[v.toNat]:=by grind
  have M:=c _ (b_ B);have H:ud p.2.1 (d,A) v=((if p.2.1[v.toNat].2.2.2.1≠3 then p.2.1[v.toNat].2.2.2.1 else d),A++p.2.1[v.toNat].2.2.1):=by unfold ud;grind
  rw[H];refine bM C B (ar (decide_eq_true (by grind)) (bM C B (au (λz=>bM C B (aa (aa ⟨?_,?_⟩))) λz=>aa (aa ⟨?_,?_⟩))));.grind
  all_goals grind
 .obtain⟨rfl,_⟩:=j;refine aH (aa ?_);grind
 .subst j;refine au (λa=>aa ?_) λa=>?_;.grind
  .rw[if_neg (by grind)];exact aj (LV R.2.1 r (by omega) λi=>(xz (λx j=>y x (C_ j)) h.u).sm) (aa rfl)
set_option maxRecDepth 100000
noncomputable def Qm(t:ee)(r:ix):Bool:=
 if t.1=1 then QD t.2.2.2.1 r.1 else if t.1=2 then p8 t.2.2.2.2.1 r.2.2.2.1 else if t.1=3 then nX t.2.2.2.2.2.1 r.2.2.2.2.1
 else if t.1=4 then r.2.1==t.2.1 else if t.1=5 then r.2.2.2.2.2.2.2.2.1==t.2.1 else if t.1=6 then decide (r.2.2.2.2.2.2.2.1<=t.2.1)
 else if t.1=7 then BD t.2.2.1 r.2.2.1 else decide ((r.2.2.2.1.length:Int)<=t.2.1)
def B6(t:ee)(r:ix)(ht:okD LG t)(hr:okD xn r):aA tbl 63 [.d LG t,.d xn r] [] ap (Qm t r,()):=by
 refine bN ?_;unfold Qm;refine au (λh=>?_) λh=>au (λh2=>?_) λh2=>au (λa=>?_) λa=>au (λb=>aa ?_) λb=>au (λc=>aa ?_) λc=>au (λd=>aa ?_) λd=>au (λe=>?_) λe=>aa ?_;.rw[if_pos (by simpa using h)];exact aj (jr _ _ ht.2.2.2.1.1 (λu f=>(ht.2.2.2.1.2 u f).2.1.1) hr.1.1) (aa rfl)
 .rw[if_neg (by simpa using h),if_pos (by simpa using h2)];exact aj (LO _ _ hr.2.2.2.1.1) (aa rfl)
 .rw[if_neg (by simpa using h),if_neg (by simpa using h2),if_pos (by simpa using a)];exact aj (fR _ _ ht.2.2.2.2.2.1.1 hr.2.2.2.2.1.1) (aa rfl)
 .rw[if_neg (by simpa using h),if_neg (by simpa using h2),if_neg (by simpa using a),if_pos (by simpa using b)]
 .rw[if_neg (by simpa using h),if_neg (by simpa using h2),if_neg (by simpa using a),if_neg (by simpa using b),if_pos (by simpa using c)]
 .rw[if_neg (by simpa using h),if_neg (by simpa using h2),if_neg (by simpa using a),if_neg (by simpa using b),if_neg (by simpa using c),if_pos (by simpa using d)]
 .rw[if_neg (by simpa using h),if_neg (by simpa using h2),if_neg (by simpa using a),if_neg (by simpa using b),if_neg (by simpa using c),if_neg (by simpa using d),if_pos (by simpa using e)];exact aj (fm _ _ ht.2.2.1.1 hr.2.2.1) (aa rfl)
 .rw[if_neg (by simpa using h),if_neg (by simpa using h2),if_neg (by simpa using a),if_neg (by simpa using b),if_neg (by simpa using c),if_neg (by simpa using d),if_neg (by simpa using e)]
def GB(r:ix):aA tbl 21 [.d xn r] [] ap (decide ((r.2.2.2.1.length:Int)>2100)||decide ((r.2.2.2.2.1.length:Int)>600),()):=by refine bN ?_;exact ae (bf (λ_=>aa rfl) (aa rfl))
def UT{r:ix}(h:(decide ((r.2.2.2.1.length:Int)>2100)||decide ((r.2.2.2.2.1.length:Int)>600))=false):r.2.2.2.1.length<=2100/\r.2.2.2.2.1.length<=600:=by simp only[ac_,decide_eq_false_iff_not]at h;omega
set_option maxRecDepth 100000
noncomputable def UG(d:DF)(w:List Int):Bool:=cz d (kU d w)
def BG{d:DF}:∀(l:List Int) (s0:Int),fo l->kV (ub d) s0 l= .inl (l.foldl (eN d) s0)
 |[],_,_=>rfl
 |x::l,s0,b=>by
  have c:=b x (u_ ..);have e:ub d s0 x= .inl (eN d s0 x):=by unfold ub;rw[show(decide (x<0)||decide (x>4294967295))=false by simp;omega];rfl
  simp only[kV,e,W_];exact BG l _ λv a=>b v (m_ _ a)
def Xw{d:DF}(hg:Good d){w:List Int}(a:fo w):p8 d w=UG d w:=by unfold p8;rw[if_pos hg,BG w _ a];rfl
def Qs{d:DF}(h:Good d){w:List Int}(b:fo w):UG (gT d) w= !UG d w:=by
 obtain⟨h1,h2⟩:=YE h.wf b;have hn:=h.len.2;rw[AS h];show(d.2.2.1.map (!·)).getD (kU d w).toNat false= !d.2.2.1.getD (kU d w).toNat false;have a:(kU d w).toNat<d.2.2.1.length:=by omega
 simp[t_,ab_,a_ a]
def zaL(w:List Int):UG noD w=false:=by unfold UG cz;cases(kU noD w).toNat<;>rfl
def U2(u:Pt)(l:List Pt)(w:List Int):CR (u::l) w=if sH u.2.1 w=true then u.1 else CR l w:=by unfold CR;rw[bg_];cases e:sH u.2.1 w<;>simp
def zaS{s:List UInt8}(h:Dz s)(w:List Int):sH s w=fZ (bO (gU s) 0) w:=by
 obtain⟨a,x,h1,h2⟩:=h;have e:gU s=(I_ (lC s a)).1:=by unfold gU;grind
 obtain⟨b,_⟩:=Z_ (lC s a);have hc:((I_ (lC s a)).2.1==0)=true:=by
  rcases b with⟨r,f,j,g⟩|⟨f,_⟩;.rw[g];rfl
  .grind
 obtain⟨r,c,_,_,d⟩:=Fq a b hc w;rw[d,e,c]
def Oc{w:List Int}(c:fo w):∀l:List Pt,(∀r∈l,Dz r.2.1)->(b9 l).2.1=0->UG (b9 l).1 w=CR l w
 |[],_,_=>zaL w
 |r::l,h,a=>by
  have hl:∀x∈l,Dz x.2.1:=λx u=>h x (m_ _ u);have hr:=h r (u_ ..);have k:=Oc c l hl;have g0:=(yX l hl).1;obtain⟨z,A,_⟩:=AX hr;obtain⟨s,_⟩:=z8 (r:=gU r.2.1) (by omega);rw[U2,zaS hr];unfold b9 at a⊢;by_cases e:(b9 l).2.1≠0;.rw[if_pos e]at a;omega
  rw[if_neg e]at a⊢;have e:=l_ e;by_cases g:(lV (gU r.2.1)).2.1≠0;.rw[if_pos g]at a;exact absurd a g
  rw[if_neg g]at a⊢;obtain⟨b,n⟩:=s.zcl (l_ g);have b:UG (lV (gU r.2.1)).1 w=fZ (bO (gU r.2.1) 0) w:=b w c;have f:=Qs n c;have g0:=g0 e;have k:=k e;have v:=(lb (gT (lV (gU r.2.1)).1) (gT (b9 l).1)).1;have y:=(lb (gT (lV (gU r.2.1)).1) (b9 l).1).1;by_cases hp:r.1=true
  .rw[if_pos hp]at a⊢;by_cases j:(Aa (gT (lV (gU r.2.1)).1) (gT (b9 l).1)).2.1≠0;.rw[if_pos j]at a;exact absurd a j
   rw[if_neg j];obtain⟨_,_,p,d⟩:=v (l_ j);have d:UG (Aa (gT (lV (gU r.2.1)).1) (gT (b9 l).1)).1 w=(UG (gT (lV (gU r.2.1)).1) w&&UG (gT (b9 l).1) w):=d w c;simp only;rw[Qs p c,d,f,Qs g0 c,b,k];cases fZ (bO (gU r.2.1) 0) w<;>simp[hp]
  .rw[if_neg hp]at a⊢;obtain⟨_,_,p,d⟩:=y a;have d:UG (Aa (gT (lV (gU r.2.1)).1) (b9 l).1).1 w=(UG (gT (lV (gU r.2.1)).1) w&&UG (b9 l).1 w):=d w c;rw[d,f,b,k];cases fZ (bO (gU r.2.1) 0) w<;>simp[hp]
def zaz{s:PS}(hs:nw s){m:oJ}(d:iw s m=0){r:ix}(c:fo r.2.2.2.1)(a:(d9 s m).2.1=0):Qm (d9 s m).1 r=gr s m r:=by
 unfold d9 at a⊢;unfold Qm gr;by_cases h1:m.1=1;.rw[if_pos h1,if_pos h1,if_pos h1];cases cn s m.2.1 with|some l=>rfl|none=>rfl
 rw[if_neg h1]at a;rw[if_neg h1];by_cases h2:m.1=2;.rw[if_pos h2]at a;rw[if_pos h2,if_neg h1,if_pos h2,if_neg h1,if_pos h2];obtain⟨l,hl,e⟩:=Qj d h2;rw[e]at a⊢;have hp:=hs.pat hl;exact(Xw ((yX l.2.1 hp).1 a) c).trans (Oc c l.2.1 hp a)
 rw[if_neg h2];by_cases b:m.1=3;.rw[if_pos b,if_neg h1,if_neg h2,if_pos b,if_neg h1,if_neg h2,if_pos b];cases bD s m.2.1 with|some l=>rfl|none=>rfl
 rw[if_neg b,if_neg h1,if_neg h2,if_neg b,if_neg h1,if_neg h2,if_neg b]
set_option maxRecDepth 100000
def zbp{c ρ β a:Type}{xs:List c}{p:c->Bool}{enc:Nat->ρ}{oB:Nat->β}{oE:a}{body:Nat->ρ->Option (ρ⊕β⊕a)}{Q:β⊕a->Prop} (h:∀i (b:i<xs.length),Wp (λn=>body n (enc i)) λr=>r=if p xs[i]=true then .inr (.inl (oB i))else .inl (enc (i+1))) (d:Wp (λn=>body n (enc xs.length)) λr=>r= .inr (.inr oE)) (k:Q (match xs.findIdx? p with|some i=>.inl (oB i)|none=>.inr oE)):Wp (λn=>ff n (body n) (enc 0)) Q:=by
 refine aI (N:=xs.length) (I:=λi s=>s=enc i/\∀j (f:j<xs.length),j<i->¬p xs[j]=true) ⟨rfl,λj _ h=>by omega⟩ (λi s b hs=>?_) λs hs=>?_
 .obtain⟨rfl,hd⟩:=hs;refine Go.Ev.wp_mono (h i b) λr hr=>?_;by_cases hp:p xs[i]=true;.grind[List.findIdx?_eq_some_iff_getElem]
  grind
 .obtain⟨rfl,hd⟩:=hs;refine Go.Ev.wp_mono d λr hr=>?_;have e:xs.findIdx? p=none:=List.findIdx?_eq_none_iff.2 λx g=>by obtain⟨j,f,rfl⟩:=n_.1 g;grind
  grind
def lN{a β:Type}{xs:List a}{i:Int}{x:a}{f:Nat->a->Option β}{Q:β->Prop}(c:0<=i)(b:xs[i.toNat]? =some x)(d:Wp (λn=>f n x) Q):Wp (λn=>o_ (lx xs i) λ_=>o_ xs[K_ i]? (f n)) Q:=bX c b (bi b d)
def CP:Nat->List cF->List (cF×Int)
 |_,[]=>[]
 |k,b::l=>(b,(k:Int))::CP (k+1) l
abbrev kB(B:List cF):List (cF×Int):=CP 0 B
def N2:∀(k:Nat) (B:List cF),(CP k B).length=B.length
 |_,[]=>rfl
 |k,b::l=>by rw[CP,ap_,N2];rfl
def N1(b:cF):∀(k:Nat) (B:List cF),di xk tI (CP k B) b=(B.findIdx? λx=>decide (x=b)).map λi=>((i+k:Nat):Int)
 |_,[]=>rfl
 |k,c::l=>by
  show(bif hZ xk b c then some (k:Int)else di xk tI (CP (k+1) l) b)=_;rw[R5,List.findIdx?_cons,N1 b (k+1) l];by_cases e:b=c;.grind
  .rw[decide_eq_false e,decide_eq_false λx=>e x.symm];simp only[cond_false,aA_,if_false,Option.map_map];congr 1;grind
theorem N3(b:cF)(v:Int):∀(k:Nat) (B:List cF),b∉B->fe xk tI (CP k B) b v=CP k B++[(b,v)]
 |_,[],_=>rfl
 |k,c::l,h=>by rw[bo_,not_or]at h;show(bif hZ xk b c then _ else _)=_;rw[R5,decide_eq_false h.1,cond_false,N3 b v (k+1) l h.2];rfl
def N0(b:cF):∀(k:Nat) (B:List cF),CP k (B++[b])=CP k B++[(b,((k+B.length:Nat):Int))]
 |k,[]=>rfl
 |k,c::l=>by show(c,(k:Int))::CP (k+1) (l++[b])=(c,(k:Int))::(CP (k+1) l++[(b,_)]);rw[N0 b (k+1) l,ap_];grind
def kvS(n k:Int):∀(D:Gt),(∀k,(n,k)∉D)->fe tI tI D n k=D++[(n,k)]
 |[],_=>rfl
 |(a,b)::l,h=>by
  have h1:n≠a:=λe=>h b (by grind);show(bif hZ tI n a then _ else _)=_;have:hZ tI n a=decide (n=a):=by rw[bc_];simp[hZ]
  rw[this,decide_eq_false h1,cond_false,kvS n k l λk c=>h k (m_ _ c)];rfl
abbrev bxT(B:List cF)(L:List dM):List Ob:=[.box 190 [.sl 1,.mp 2,.sl 3],.vec 90 xk B,.map 90 3 xk tI (kB B),.vec 70 H5 L]
def mN(B:List cF)(L:List dM)(l:dM)(b:∀x∈L,okD H5 x)(hl:L.length<=1000000000000):aA tbl 40 [.ptr 0 0,.d H5 l] (bxT B L) da ((dY L l).1,B,kB B,(dY L l).2,()):=by
 refine bN (ae (zbp (xs:=L) (p:=λx=>decide (x=l)) (enc:=λi=>((i:Int),B,kB B,L,())) (oB:=λi=>(-1 - (i:Int),B,kB B,L,())) (oE:=(B,kB B,L,())) (λi a=>?_) ?_ ?_))
 .refine aO a (lN (by simp) (by simp) (aj (vU _ l (b _ (b_ a))) (au (λh=>aa ?_) λh=>aa ?_)));.rw[if_pos (show decide (L[i]=l)=true from h),wrap_i64]
  .rw[if_neg (Bool.eq_false_iff.1 (show decide (L[i]=l)=false from h)),ao a]
 .exact aH (aa rfl)
 .unfold dY;cases L.findIdx? (λx=>decide (x=l))with|some i=>exact aa rfl|none=>refine ar (decide_eq_true (by grind)) (aa ?_);grind[wrap_i64]
def sZ(B:List cF)(L:List dM)(t y o:Int)(hl:B.length<=1000000000000):aA tbl 76 [.ptr 0 0,.d tI t,.d tI y,.d tI o] (bxT B L) da ((dP B (t,y,o,())).1,(dP B (t,y,o,())).2,kB (dP B (t,y,o,())).2,L,()):=by
 refine bN ?_;unfold dP;refine au (λh=>aa ?_) λh=>?_;.grind
 rw[if_neg (by grind),N1];cases e:B.findIdx? (λx=>decide (x=(t,y,o,())))with
 |some i=>exact ae (ak rfl (aa (aa rfl)))|none=>
  refine ae (aD rfl (ar (decide_eq_true ?_) (ar (decide_eq_true (by grind)) (aa (aa ?_)))));.rw[N2];show B.length<9223372036854775807;omega
  .have a:kB (B++[(t,y,o,())])=kB B++[((t,y,o,()),(B.length:Int))]:=by simp[N0]
   grind[N3]
theorem IK:∀D:Gt,D.length=(D.filter λp=>decide (0<=p.1)).length+(D.filter λp=>decide (p.1<0)).length
 |[]=>rfl
 |(n,k)::l=>by have:=IK l;grind
structure ZL(g:eZ):Prop where
 low:Low g
 l2:g.2.1.length<=1000000000000
 l3:g.2.2.1.length<=1000000000000
 ac:∀l∈g.2.2.1,l.2.1.length<=1048576
def VI.small{g:eZ}(hg:ZL g){B:List cF}{L:List dM}{D:Gt}(h:VI g B L D):B.length<=1000000000000/\L.length<=1000000000000/\D.length<=2000000000000:=by have h1:=RS h.kn h.kd;have h2:=RP h.kn h.kd;have E:=hg.l2;have H:=hg.l3;have I:=h.cb;have J:=h.cl;grind[IK]
def Xh{g:eZ}{n:Int}(hg:ZL g)(hn:cu g n=true)(a:n<0):f_ .i64 ((-1:Int) - n)= -1 - n/\0<=-1 - n/\(eU g n).2.1.length<=1048576:=by have:=cS.1 hn;have:=hg.l3;exact⟨wrap_i64,by omega,hg.ac _ (ad_ (jW a hn))⟩
def Zc{g:eZ}{b:cF}{s:CX}{p:Int×CX}{m m':Int}{D:Gt}{Y O:Int×CX}(y:ZP g m (s.1++[b],s.2.1,D) Y)(o:ZP g m' Y.2 O):s.1.length<O.2.1.length/\O.2.1[s.1.length]? =some b:=by have h1:=y.len;have h2:=o.len;simp only[j_,N_]at h1;refine⟨by omega,?_⟩;rw[o.old _ (by omega),y.old _ (by simp)];simp
abbrev bxV(g:eZ)(N:List (cF×Int))(v:Int)(T:List ee)(s:CX):List Ob:=[.box 193 [.ptr 1 0,.mp 2,.sl 3,.sl 4,.sl 5,.d tI v],.box 190 [.sl 6,.mp 7,.sl 8],.map 3 3 tI tI s.2.2,.vec 54 LG T,.vec 90 xk s.1,.vec 70 H5 s.2.1,.vec 90 xk g.2.1,.map 90 3 xk tI N,.vec 70 H5 g.2.2.1]
def ZJ{g:eZ}(hg:ZL g)(N:List (cF×Int))(v:Int)(T:List ee):∀(f:Nat) (n:Int) (s:CX),cu g n=true->(n+1).toNat<f->VI g s.1 s.2.1 s.2.2->aA tbl 108 [.ptr 0 0,.d tI n] (bxV g N v T s) f9 ((ug g f n s).1,v,(ug g f n s).2.2.2,T,(ug g f n s).2.1,(ug g f n s).2.2.1,g.2.1,N,g.2.2.1,()):=by
 intro f;induction f with
 |zero=>simp|succ f h=>
  intro n s hn w hs;refine bN ?_;unfold ug;obtain⟨A,B,C⟩:=hs.small hg;have eL:di tI tI s.2.2 n=lk s.2.2 n:=rfl;rw[eL];cases e:lk s.2.2 n with
  |some k=>exact aD rfl (aa rfl)|none=>
   have b:=yz e;refine ak rfl ?_;by_cases a:n<0
   .simp only[if_pos a];obtain⟨w1,w2,z⟩:=Xh hg hn a;rw[w1];refine aD (decide_eq_true a) (lN w2 (jW a hn) (ar (decide_eq_true (by grind)) (ar (decide_eq_true (by grind)) (ar (decide_eq_true ?_) (aa ?_)))));.show s.2.2.length<9223372036854775807;omega
    .simp only[X_,j_,N_];have r:f_ .i64 (0 - ((s.2.1.length+1:Nat):Int))= -((s.2.1.length:Int)+1):=by rw[wrap_i64];simp
     rw[r,kvS n _ _ b];have:=IM (nR hs.kn b) (show(n,-((s.2.1.length:Int)+1))∈s.2.2++[(n,-((s.2.1.length:Int)+1))] by simp);rw[show di tI tI (s.2.2++[(n,-((s.2.1.length:Int)+1))]) n=some _ from this];rfl
   .simp only[if_neg a];have a:0<=n:=by omega
    have j:=hg.low.kids hn a _ (.inl rfl);have l:=hg.low.kids hn a _ (.inr rfl);obtain⟨i,rfl,u⟩:=nV hn a;have hp:=hs.push a hn b ((ci g i).1,0,0,());have y:=Rl hg.low f _ (s.1++[((ci g i).1,0,0,())],s.2.1,s.2.2++[((i:Int),(s.1.length:Int))]) j.1 (by omega) hp;have d:=h _ (s.1++[((ci g i).1,0,0,())],s.2.1,s.2.2++[((i:Int),(s.1.length:Int))]) j.1 (by omega) hp;generalize ug g f (ci g i).2.1 (s.1++[((ci g i).1,0,0,())],s.2.1,s.2.2++[((i:Int),(s.1.length:Int))])=Y at y d;have o:=Rl hg.low f _ Y.2 l.1 (by omega) y.inv;have c:=h _ Y.2 l.1 (by omega) y.inv;generalize ug g f (ci g i).2.2.1 Y.2=O at o c;obtain⟨l1,l2⟩:=Zc (p:=O) y o;refine ak (decide_eq_false (by simp)) (ar (decide_eq_true ?_) (lN (x:=ci g i) (by simp) ?_ (ar (decide_eq_true (by grind)) ?_)));.show s.2.2.length<9223372036854775807;omega
    .rw[e_,nA u];simp
    rw[kvS (i:Int) _ _ b];refine aj d (aj c (lN (x:=((ci g i).1,0,0,())) (by simp) (by rw[e_];omega) ?_));refine lN (x:=((ci g i).1,Y.1,0,())) (by simp) (by rw[e_,al_ l1]) (aa ?_);simp
def Du{g:eZ}(hg:ZL g)(r:Int)(hr:cu g r=true){F:Nat}(a:g.2.1.length<F)(N:List (cF×Int)): aA tbl 41 [.ptr 0 0,.d tI r] [.box 190 [.sl 1,.mp 2,.sl 3],.vec 90 xk g.2.1,.map 90 3 xk tI N,.vec 70 H5 g.2.2.1] ig (([],(ug g F r ([],[],[])).2.1,(ug g F r ([],[],[])).2.2.1,(ug g F r ([],[],[])).1,()),g.2.1,N,g.2.2.1,()):=by refine bN ?_;have:=(cS.1 hr).1;exact aj (ZJ hg N 0 [] F r ([],[],[]) hr (by omega) (VI.nil g)) (aa rfl)
def Pn:aA tbl 39 [] [] jI ([],()):=crZ
end Go.Proofs.YtdgiglmmpbndmaaGreatDoor
