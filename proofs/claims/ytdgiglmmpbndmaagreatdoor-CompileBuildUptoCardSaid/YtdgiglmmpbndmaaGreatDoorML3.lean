import Derived.Test.YtdgiglmmpbndmaaGreatDoorML1
import Derived.Recover
import Derived.Tactics
import Derived.Tactics2
import Derived.Laws.Pointers
set_option linter.all false
open Array renaming replicate->v_,getElem?_eq_getElem->z_,mapM_eq_mapM_toList->Q_,getElem?_append->W_,getElem?_toList->X_,all_eq_true'->af_,getD->aI_
open Bool renaming and_eq_true->f_,rec->E_,not_eq_true'->R_,false_eq_true->ag_,or_eq_true->as_
open Classical renaming byContradiction->A_,epsilon_spec->aB_,epsilon->aJ_
open List renaming getElem?_eq_some_iff->c_,mem_flatMap->d_,getElem?_eq_getElem->k_,map_cons->l_,getElem?_set_ne->m_,getElem?_set_self->n_,mapM_cons->o_,all_eq_true->p_,map_append->q_,mem_append->r_,getElem?_append_left->t_,mem_singleton->u_,take_of_length_le->w_,mem_map->C_,drop_eq_getElem_cons->F_,length_map->G_,length_append->H_,drop_zero->I_,mem_range->J_,replicate->K_,range->L_,map_nil->N_,getD->P_,flatMap_cons->S_,mem_cons->T_,length_cons->U_,mem_of_getElem?->Y_,take_succ_cons->aa_,mapM_nil->ab_,map_drop->ac_,map_take->ad_,set_comm->ae_,getElem?_map->ah_,nodup_append->ai_,any_eq_true->ak_,cons_append->al_,drop_append->am_,mapM_append->an_,not_mem_nil->ao_,length_nil->au_,mem_filter->av_,nil_append->aw_,nodup_cons->ax_,take_zero->az_,all_cons->aA_,map_map->aC_,length->aF_
open Nat renaming beq->a_,eq_of_beq_eq_true->h_,ble->j_,le_of_ble_eq_true->y_,lor->O_,land->V_,le_refl->Z_,lt_or_ge->aj_,zero_testBit->ap_,add_mul->ar_,testBit_and->ay_,and_comm->aD_,one_mul->aG_
open Option renaming bind->e_,bind_eq_some_iff->g_,map_eq_some_iff->i_,bind_eq_bind->s_,rec->x_,pure_def->B_,getD_some->D_,map_some->M_,bind_some->aq_
open Option.some renaming injEq->b_
open Prod renaming mk->aE_
open Sum renaming elim->aH_
namespace Go.Av
open Go Go.RowKit
theorem Er(v:Value):(bI v).ids=[]:=by unfold bI;split<;>rfl
theorem Ap(v:Value):(fT v).ids=[]:=by unfold fT;grind[AV.ids,List.flatMap_eq_nil_iff,Er]
structure uV(rd:List Nat)(a b:St):Prop where
 fr:∀k∈rd,∀y,look b.fr k=some y->look a.fr k=some y
 hp:∀k∈rd,∀y,look b.fr k=some y->∀i∈y.ids,∀ob,b.hp[i]? =some ob->a.hp[i]? =some ob
def KY(y:AV)(h h':List aM):Prop:=∀i∈y.ids,∀ob,h[i]? =some ob->h'[i]? =some ob
section
variable {P:Program} {rd:List Nat} {a b:St}
theorem uV.get(h:uV rd a b){x:SX}(H:∀t∈x.rd,t∈rd){y:AV}(C:b.get x=some y):a.get x=some y/\KY y b.hp a.hp:=by cases x with|tm k=>exact⟨h.fr k (H k (by simp[SX.rd])) y C,h.hp k (H k (by simp[SX.rd])) y C⟩|c v=>simp only[St.get,b_]at C⊢;subst C;exact⟨rfl,λi E=>by grind[Ap]⟩|g n=>simp only[St.get,b_]at C⊢;subst C;exact⟨rfl,λi E=>by cases E⟩|f n=>simp only[St.get,b_]at C⊢;subst C;exact⟨rfl,λi E=>by cases E⟩
theorem uV.bind(h:uV rd a b){x:SX}(J:∀t∈x.rd,t∈rd){K C:AV->Prop}(hs:aS (b.get x) K)(I:∀y,KY y b.hp a.hp->K y->C y):aS (a.get x) C:=by obtain⟨y,h1,h2⟩:=hs;obtain⟨E,H⟩:=h.get J h1;exact⟨y,E,I y H h2⟩
theorem uV.pN(h:uV rd a b){x:Option SX}(J:∀t∈(x.map SX.rd).getD [],t∈rd){d:Nat}{K C:Nat->Prop}(hs:pN b x d K)(E:∀n,K n->C n):pN a x d C:=by cases x with|none=>exact E _ hs|some x=>exact h.bind (by grind) hs λy _ I=>bB I λv H=>bW H λ_ n hn=>⟨hn.1,E _ hn.2⟩
theorem nD{b β:Type}{f g:b->Option β}:∀{l:List b} {m:List β},(∀x∈l,∀y,f x=some y->g x=some y)->l.mapM f=some m->l.mapM g=some m
 |[],m,_,a=>a
 |x::l,m,h,a=>by simp only[o_,s_,B_,g_,b_]at a⊢;obtain⟨z,h1,m',h2,rfl⟩:=a;exact⟨z,h x (by simp) _ h1,m',nD (λy c=>h y (by grind)) h2,rfl⟩
theorem uV.bindM(h:uV rd a b){β:Type}{l:List SX}(hl:∀x∈l,∀t∈x.rd,t∈rd){g g':AV->Option β}(hg:∀y z,KY y b.hp a.hp->g y=some z->g' y=some z){K:List β->Prop}(hs:aS (l.mapM λx=>(b.get x).bind g) K):aS (l.mapM λx=>(a.get x).bind g') K:=by obtain⟨ys,h1,h2⟩:=hs;refine⟨ys,nD (λx E y H=>?_) h1,h2⟩;obtain⟨u,C,I⟩:=g_.1 H;obtain⟨J,M⟩:=h.get (hl x E) C;grind
theorem mW{h h':List aM}{sz:Nat}{y:AV}{K b:List PV->Prop}(c:KY y h h')(hs:l9 h sz y K)(a:∀L,K L->b L):l9 h' sz y b:=by
 rcases hs with⟨rfl,hs⟩|⟨L,rfl,hs⟩|⟨id,e,L,rfl,d,hs⟩|⟨L,rfl,hs⟩;.exact .inl ⟨rfl,a _ hs⟩
 .exact .inr (.inl ⟨L,rfl,a _ hs⟩)
 .exact .inr (.inr (.inl ⟨id,e,L,rfl,c id (by simp[AV.ids,BV.ids]) _ d,a _ hs⟩))
 .exact .inr (.inr (.inr ⟨L,rfl,a _ hs⟩))
theorem VF{h h':List aM}{y:AV}{K c:Nat->Prop}(d:KY y h h')(hs:isLen h y K)(a:∀L,K L->c L):isLen h' y c:=by
 rcases hs with⟨rfl,hs⟩|⟨sz,L,rfl,hs⟩|⟨id,e,sz,L,rfl,b,hs⟩|⟨sz,L,rfl,hs⟩|⟨id,e,sz,k,L,hole,rfl,b,hs⟩;.exact .inl ⟨rfl,a _ hs⟩
 .exact .inr (.inl ⟨sz,L,rfl,a _ hs⟩)
 .exact .inr (.inr (.inl ⟨id,e,sz,L,rfl,d id (by simp[AV.ids,BV.ids]) _ b,a _ hs⟩))
 .exact .inr (.inr (.inr (.inl ⟨sz,L,rfl,a _ hs⟩)))
 .exact .inr (.inr (.inr (.inr ⟨id,e,sz,k,L,hole,rfl,d id (by simp[AV.ids,BV.ids]) _ b,a _ hs⟩)))
theorem Mc{h h':List aM}{k e:TypeId}{y:AV}{K a:Nat->List (PV×PV)->Prop}(b:KY y h h')(hs:isMap h k e y K)(c:∀i L,K i L->a i L):isMap h' k e y a:=by obtain⟨id,kvs,rfl,d,hs⟩:=hs;exact⟨id,kvs,rfl,b id (by simp[AV.ids,BV.ids]) _ d,c _ _ hs⟩
theorem VQ{h h':List aM}{sz:Nat}{ag:Bool}{y:AV}{K a:AV->Prop}(b:KY y h h')(hs:Bu h sz ag y K)(c:∀L,K L->a L):Bu h' sz ag y a:=by
 have h2:=EJ hs c;revert h2;unfold Bu;split;.simp
 .rename_i id off;rintro⟨o,h1,h2⟩;exact⟨o,b id (by simp[AV.ids,BV.ids]) _ h1,h2⟩
 .rename_i id i off;rintro⟨o,h1,h2⟩;exact⟨o,b id (by simp[AV.ids,BV.ids]) _ h1,h2⟩
 simp
theorem Qo{h h':List aM}{bor:Bool}{y:BV}{p:PV}(a:∀i∈y.ids,∀ob,h[i]? =some ob->h'[i]? =some ob)(hs:sa h bor y=some p):sa h' bor y=some p:=by
 cases y with
 |sl id=>
  simp only[sa]at hs⊢;cases bor;.grind
  .simp only[Kf]at hs⊢;grind[BV.ids]
 |_=>exact hs
theorem Lh{h h':List aM}{bor:Bool}{y:AV}{p:PV}(d:KY y h h')(hs:ja h bor y=some p):ja h' bor y=some p:=by
 cases y with
 |b x=>exact Qo (λi a ob c=>d i a ob c) hs|agg xs=>simp only[ja,i_]at hs⊢;obtain⟨g,h1,rfl⟩:=hs;refine⟨g,nD (λx e y f=>Qo (λi a ob c=>d i (d_.2 ⟨x,e,a⟩) ob c) f) h1,rfl⟩
 |dP xs=>exact hs
theorem y7{s:fv}{K:AV->Prop}(h:uV s.rd a b)(hs:jh P b s K):jh P a s K:=by
 cases s<;>simp only[fv.rd]at h<;>simp only[jh]at hs⊢;case mv=>exact h.bind (λ_ h=>h) hs λ_ _ h=>h
 case pick x y z=>exact h.bind (λt ht=>by grind) hs λ_ _ hs=>bB hs λ_ hs=>lM hs λ_ hs=>⟨λe=>h.bind (λt ht=>by grind) (hs.1 e) λ_ _ h=>h,λe=>h.bind (λt ht=>by grind) (hs.2 e) λ_ _ h=>h⟩
 case bin=>exact h.bind (λt ht=>by grind) hs λ_ _ hs=>h.bind (λt ht=>by grind) hs λ_ _ h=>h
 case Gf=>exact h.bind (λt ht=>by grind) hs λ_ _ hs=>h.bind (λt ht=>by grind) hs λ_ _ h=>h
 case un=>exact h.bind (λ_ h=>h) hs λ_ _ h=>h
 case len str x=>refine h.bind (λ_ h=>h) hs λ_ c hs=>?_;grind[VF]
 case ol=>exact h.bind (λ_ h=>h) hs λ_ c hs=>Mc c hs λ_ _ h=>h
 case ql=>exact h.bind (λt ht=>by grind) hs λ_ _ hs=>h.bind (λt ht=>by grind) hs λ_ _ h=>h
 case pB=>exact h.bind (λt ht=>by grind) hs λ_ _ hs=>h.bind (λt ht=>by grind) hs λ_ _ h=>h
 case qj=>
  exact h.bind (λt ht=>by grind) hs λx c hs=>h.bind (λt ht=>by grind) hs λ_ _ hs=>bB hs λ_ hs=>bW hs λ_ _ hs=>by
   rcases hs with hs|⟨id,rfl,ob,w,hs⟩;.grind
   .exact .inr ⟨id,rfl,ob,c id (by simp[AV.ids,BV.ids]) _ w,hs⟩
 case qk=>exact h.bind (λt ht=>by grind) hs λ_ _ hs=>h.bind (λt ht=>by grind) hs λ_ _ h=>h
 case oj=>exact h.bind (λ_ h=>h) hs λ_ _ h=>h
 case HJ=>exact h.bind (λ_ h=>h) hs λ_ _ h=>h
 case load=>exact h.bind (λ_ h=>h) hs λ_ c hs=>VQ c hs λ_ h=>h
 case pY=>exact h.bind (λ_ h=>h) hs λ_ _ h=>h
 case Im sz x lo C mx=>refine h.bind (λt ht=>by grind) hs λ_ c hs=>hs.imp (λhs=>aC hs λq ⟨L,h2,p⟩=>⟨L,h2,h.pN (λt ht=>by grind) p λ_ r=>h.pN (λt ht=>by grind) r λ_ v=>h.pN (λt ht=>by grind) v λ_ h=>h⟩) ?_;rintro⟨id,rfl,ob,w,e,k,L,g,h2,p⟩;exact⟨id,rfl,ob,c id (by simp[AV.ids,BV.ids]) _ w,e,k,L,g,h2,h.pN (λt ht=>by grind) p λ_ r=>h.pN (λt ht=>by grind) r λ_ v=>h.pN (λt ht=>by grind) v λ_ h=>h⟩
 case qw x lo C=>exact h.bind (λt ht=>by grind) hs λ_ _ hs=>bB hs λ_ hs=>ny hs λ_ hs=>h.pN (λt ht=>by grind) hs λ_ hs=>h.pN (λt ht=>by grind) hs λ_ h=>h
 case ext=>exact h.bind (λ_ h=>h) hs λ_ _ h=>h
 case rC=>exact h.bind (λ_ h=>h) hs λ_ _ h=>h
 case build z n=>obtain⟨ys,h1,h2⟩:=hs;refine⟨ys,nD (λq d y l=>?_) h1,h2⟩;obtain⟨u,A,B⟩:=i_.1 l;rw[(h.get (λt ht=>d_.2 ⟨q,d,ht⟩) A).1,<-B];rfl
 case call=>exact h.bindM (λq d t ht=>d_.2 ⟨q,d,ht⟩) (λy z c j=>Lh c j) hs
 case hZ=>exact h.bind (λt ht=>by grind) hs λ_ _ ⟨f,cs,h1,h2,hs⟩=>⟨f,cs,h1,h2,h.bindM (λq d t ht=>r_.2 (.inr (d_.2 ⟨q,d,ht⟩))) (λy z c j=>Lh c j) hs⟩
 case pW=>exact h.bind (λ_ h=>h) hs λ_ _ h=>h
 case Gb=>exact h.bind (λ_ h=>h) hs λ_ c hs=>mW c hs λ_ h=>h
 case bQ own e sz len n=>
  cases own;.exact h.bindM (λq d t ht=>d_.2 ⟨q,d,ht⟩) (λy z _ j=>j) hs
  omega
 case eE e sz len n=>exact h.bindM (λq d t ht=>d_.2 ⟨q,d,ht⟩) (λy z _ j=>j) hs
 case rB f n=>obtain⟨ys,h1,h2⟩:=hs;exact⟨ys,nD (λq d y l=>(h.get (λt ht=>d_.2 ⟨q,d,ht⟩) l).1) h1,h2⟩
 case lookup=>exact h.bind (λt ht=>by grind) hs λ_ c hs=>h.bind (λt ht=>by grind) hs λ_ _ hs=>Mc c hs λ_ _ h=>h
 case sy=>exact h.bind (λt ht=>by grind) hs λ_ _ hs=>h.bind (λt ht=>by grind) hs λ_ _ h=>h
 case mb mx k x n=>refine h.bind (λt ht=>by grind) hs λ_ _ hs=>bB hs λ_ hs=>bW hs λ_ _ hs=>?_;obtain⟨ys,h1,h2⟩:=hs;exact⟨ys,nD (λq d y l=>(h.get (λt ht=>r_.2 (.inr (d_.2 ⟨q,d,ht⟩))) l).1) h1,h2⟩
 case iface=>exact h.bind (λ_ h=>h) hs λ_ _ h=>h
 case pi=>exact h.bind (λt ht=>by grind) hs λ_ _ hs=>h.bind (λt ht=>by grind) hs λ_ c hs=>mW c hs λ_ h=>h
theorem nR{st:St}{s:fv}{R c:aM->(Nat->BV)->Prop}(hs:Fv st s R)(d:∀o m,R o m->c o m):Fv st s c:=by
 cases s<;>simp only[Fv]at hs⊢;case alloc=>grind
 case box=>grind[aC]
 case bQ own e sz len k=>cases own;all_goals grind[aC]
 case cU=>exact aC hs λ_ hs=>aC hs λ_ hs=>bB hs λ_ hs=>bB hs λ_ hs=>bW hs λ_ _ hs=>bW hs λ_ _ ⟨h1,h2,a,b,f,g,j⟩=>⟨h1,h2,a,b,f,g,aC j λ_ h=>⟨h.1,d _ _ h.2⟩⟩
 case append=>exact aC hs λ_ hs=>aC hs λ_ hs=>fC hs λ_ ⟨h1,h2,a,b⟩=>⟨h1,h2,a,d _ _ b⟩
 grind
theorem Nj{s:fv}{R:aM->(Nat->BV)->Prop}(h:uV s.rd a b)(hs:Fv b s R):Fv a s R:=by
 cases s<;>simp only[fv.rd]at h<;>simp only[Fv]at hs⊢;case alloc=>omega
 case box=>exact h.bind (λ_ h=>h) hs λ_ _ h=>h
 case bQ own e sz len g=>
  cases own;.omega
  .exact h.bindM (λq d t ht=>d_.2 ⟨q,d,ht⟩) (λy z _ f=>f) hs
 case cU=>exact h.bind (λt ht=>by grind) hs λ_ _ hs=>h.bind (λt ht=>by grind) hs λ_ _ h=>h
 case append=>exact h.bind (λt ht=>by grind) hs λ_ _ hs=>h.bind (λt ht=>by grind) hs λ_ c hs=>mW c hs λ_ h=>h
 omega
theorem Nz{o:bc}{x:AV}(h:uV o.rd a b)(hs:fK P o b x):fK P o a x:=by
 have hr:uV o.op.rd a b:=⟨λk d=>h.fr k (by grind[bc.rd]),λk d=>h.hp k (by grind[bc.rd])⟩;unfold fK at hs⊢;split at hs;.grind[y7]
 .rename_i t want hg;obtain⟨g,h1,v,rfl,h2,c⟩:=hs;exact⟨_,h.fr t (by grind[bc.rd]) _ h1,v,rfl,λe=>y7 hr (h2 e),c⟩
theorem Nx{hp:List aM}{sz:Nat}{a v:AV}{K r:List aM->Prop}(h:AT hp sz a v K)(u:∀x,K x->r x):AT hp sz a v r:=by
 unfold AT at h⊢;split at h;.grind[aC]
 .refine aC h λ_ h=>h.imp (fun⟨e,s,xs,h1,h2,g⟩=>⟨e,s,xs,h1,h2,aC g λ_ ⟨j,c,d⟩=>⟨j,c,?_⟩⟩) fun⟨e,s,k,xs,w,h1,h2,g,j⟩=>⟨e,s,k,xs,w,h1,h2,g,j.imp (fun⟨c,d,l⟩=>⟨c,d,aC l λ_ ⟨n,p,f⟩=>⟨n,p,u _ f⟩⟩) fun⟨b,b',c,d,l,n,p⟩=>⟨b,b',c,d,l,n,u _ p⟩⟩;grind
 omega
theorem Di{st:St}{d:Option Nat}{bor:Bool}{B:List Nat}{f:FuncId}{ars:List AV}{os:List aM}{K e KP b:St->Prop}(h:cN.callK P st d bor B f ars os K KP)(k:∀x,K x->e x)(c:∀x,KP x->b x):cN.callK P st d bor B f ars os e b:=by
 obtain⟨h1,h2,g,j⟩:=h;refine⟨h1,h2,g,j.mono λo a=>?_⟩
 match o,a with|some (_,_),a=>exact⟨a.1,k _ a.2⟩|none,a=>exact c _ a
theorem nQ{d:Option Nat}{op:fv}{st:St}{K s KP n:St->Prop}(h:cN P d op st K KP)(j:∀x,K x->s x)(r:∀x,KP x->n x):cN P d op st s n:=by
 have p:(jh P st op λa=>K (st.aF d a))->jh P st op λa=>s (st.aF d a):=λh=>y8 h λ_ h=>j _ h;cases op<;>simp only[cN]at h⊢<;>try exact p h
 case store=>exact aC h λ_ h=>aC h λ_ h=>⟨h.1,Nx h.2 λ_ h=>j _ h⟩
 case alloc=>exact j _ h
 case box=>exact aC h λ_ h=>⟨h.1,j _ h.2⟩
 case bQ own e sz len v=>cases own;all_goals grind[aC]
 case cU=>exact aC h λ_ h=>aC h λ_ h=>bB h λ_ h=>bB h λ_ h=>bW h λ_ _ h=>bW h λ_ _ ⟨h1,h2,b,c,g,k,l⟩=>⟨h1,h2,b,c,g,k,aC l λ_ h=>⟨h.1,j _ h.2⟩⟩
 case append=>
  refine aC h λ_ h=>aC h λ_ h=>fC h λ_ ⟨h1,h2⟩=>⟨h1,?_⟩;rcases h2 with⟨id,b,c⟩|⟨b,c,g⟩;.exact .inl ⟨id,b,aC c λ_ ⟨xs,g,k,l⟩=>⟨xs,g,k,j _ l⟩⟩
  .exact .inr ⟨b,c,j _ g⟩
 case d6=>exact aC h λ_ h=>aC h λ_ h=>bB h λ_ h=>bB h λ_ h=>bW h λ_ _ h=>bW h λ_ _ ⟨h1,h2,b,c,g,k,l⟩=>⟨h1,h2,b,c,g,k,aC l λ_ h=>⟨h.1,h.2.1,j _ h.2.2⟩⟩
 case pj=>
  refine aC h λ_ h=>aC h λ_ h=>fC h λ_ ⟨h1,h2⟩=>⟨h1,?_⟩;rcases h2 with⟨id,b,c⟩|⟨b,c,g⟩;.exact .inl ⟨id,b,aC c λ_ ⟨xs,g,k,l⟩=>⟨xs,g,k,j _ l⟩⟩
  .exact .inr ⟨b,c,j _ g⟩
 case gF=>exact aC h λ_ h=>aC h λ_ h=>Di h j r
 case fz=>exact aC h λ_ ⟨f,caps,h1,h2,b⟩=>⟨f,caps,h1,h2,aC b λ_ h=>aC h λ_ h=>Di h j r⟩
 case ik=>exact j _ h
 case gY=>exact aC h λ_ h=>aC h λ_ h=>aC h λ_ h=>wN h λ_ _ h=>aC h λ_ h=>aC h λ_ ⟨h1,h2,b,c,g,k⟩=>⟨h1,h2,b,c,g,aC k λ_ ⟨l,u⟩=>⟨l,j _ u⟩⟩
 case copy=>exact aC h λ_ h=>aC h λ_ h=>fC h λ_ ⟨h1,id,h2,b,c⟩=>⟨h1,id,h2,b,aC c λ_ ⟨xs,g,k⟩=>⟨xs,g,j _ k⟩⟩
 all_goals grind[panic,aC,nR]
theorem rP{o:bc}{st:St}{K b KP a:St->Prop}(h:iD P o st K KP)(d:∀x,K x->b x)(c:∀x,KP x->a x):iD P o st b a:=by unfold iD at h⊢;split at h;all_goals grind[nQ,aC,bB]
end
def rA{a:Type}{f:a->a}:∀{l:List a},(∀x∈l,f x=x)->l.map f=l
 |[],_=>rfl
 |x::l,h=>by rw[l_,h x (by simp),rA λy b=>h y (by grind)]
def BV.kids:BV->List Nat
 | .sl id=>[id]
 | .i6 id _ _=>[id]
 |_=>[]
def AV.kids:AV->List Nat
 | .b x=>x.kids
 | .agg xs=>xs.flatMap BV.kids
 | .dP xs=>xs.flatMap BV.kids
def aM.kids:aM->List Nat
 | .box _ cs=>cs.flatMap BV.kids
 | .tree _ _ _ _ (some (_,_,b))=>b.kids
 |_=>[]
theorem BV.qm{x:BV}{i:Nat}(h:i∈x.kids):i∈x.ids:=by cases x<;>first|exact h|cases h
theorem AV.qm{x:AV}{i:Nat}(h:i∈x.kids):i∈x.ids:=by
 have C:∀xs:List BV,i∈xs.flatMap BV.kids->i∈xs.flatMap BV.ids:=λxs h=>by grind[BV.qm]
 cases x with|b x=>exact BV.qm h|agg xs=>exact C xs h|dP xs=>exact C xs h
theorem BV.iv{id:Nat}{x:BV}(h:id∉x.kids):x.kill id=x:=by cases x<;>simp only[BV.kill]<;>simp only[BV.kids,u_]at h;all_goals grind
theorem AV.iv{id:Nat}{x:AV}(h:id∉x.kids):x.kill id=x:=by cases x with|b x=>simp only[AV.kill,BV.iv h]|agg xs=>simp only[AV.kill,AV.agg.injEq];exact rA (λy E=>BV.iv λC=>h (d_.2 ⟨y,E,C⟩))|dP xs=>simp only[AV.kill,AV.dP.injEq];exact rA (λy E=>BV.iv λC=>h (d_.2 ⟨y,E,C⟩))
theorem aM.iv{id:Nat}{o:aM}(h:id∉o.kids):o.kill id=o:=by
 cases o<;>simp only[aM.kill];case tree e sz k xs hole=>cases hole with|none=>rfl|some q=>obtain⟨i,j,b⟩:=q;simp only[JV,BV.iv (h)]
 simp;exact rA (λy E=>BV.iv λC=>h (d_.2 ⟨y,E,C⟩))
theorem BV.fV{B:List Nat}{x:BV}(h:∀i∈x.kids,i∉B):x.cE B=x:=by cases x<;>simp only[BV.cE];all_goals grind[BV.kids]
theorem AV.fV{B:List Nat}{x:AV}(h:∀i∈x.kids,i∉B):x.cE B=x:=by cases x with|b x=>simp only[AV.cE,BV.fV h]|agg xs=>simp only[AV.cE,AV.agg.injEq];exact rA (λy E=>BV.fV λi C=>h i (d_.2 ⟨y,E,C⟩))|dP xs=>simp only[AV.cE,AV.dP.injEq];exact rA (λy E=>BV.fV λi C=>h i (d_.2 ⟨y,E,C⟩))
theorem aM.fV{B:List Nat}{o:aM}(h:∀i∈o.kids,i∉B):o.cE B=o:=by
 cases o<;>simp only[aM.cE];case tree e sz k xs hole=>cases hole with|none=>rfl|some q=>obtain⟨i,j,b⟩:=q;simp only[JV,BV.fV (h)]
 simp;exact rA (λy E=>BV.fV λi C=>h i (d_.2 ⟨y,E,C⟩))
def fv.kY:fv->List Nat
 | .gF _ B _ _=>B
 | .fz _ B _ _=>B
 | .uj s op=>s::op.kY
 |_=>[]
def touch(st:St)(o:bc):List Nat:=(o.rd.flatMap λk=>match look st.fr k with|some a=>a.ids|none=>[])++o.op.kY
def y6(q:Option (Nat×aM))(hp:List aM):List aM:=match q with
 |none=>hp
 |some (s,ob)=>hp.set s ob
structure Over(T:List Nat)(d:Option Nat)(x:AV)(q:Option (Nat×aM))(st st1:St):Prop where
 hp:st1.hp=y6 q st.hp
 fr:∀t,look st1.fr t=if d=some t then some x else look st.fr t
 sl:∀s ob,q=some (s,ob)->st.hp[s]? =some .free/\s∉T/\∀j∈ob.kids,j∉T
structure zci(T:List Nat)(d:Option Nat)(st st':St):Prop where
 fr:∀t,d≠some t->(∀y,look st.fr t=some y->∀i∈y.kids,i∉T)->look st'.fr t=look st.fr t
 hp:∀i ob,st.hp[i]? =some ob->i∉T->(∀j∈ob.kids,j∉T)->st'.hp[i]? =some ob
def KO(T:List Nat)(e:Option Nat)(d:Option Nat)(x:AV)(q:Option (Nat×aM))(st:St)(K:St->Prop):St->Prop:=λb=>zci T e st b/\∃a,Over T d x q b a/\K a
def Xc(q:Option (Nat×aM))(hp:List aM):(y6 q hp).length=hp.length:=by unfold y6;split<;>simp
theorem Oh(B:List Nat)(hp os:List aM):(j6 B hp os).length=hp.length+(os.length - B.length):=by unfold j6;simp
def C9{B:List Nat}{hp os:List aM}{i:Nat}{ob:aM}(b:hp[i]? =some ob)(a:i∉B):(j6 B hp os)[i]? =some (ob.cE B):=by unfold j6;grind
section
variable {P:Program} {T:List Nat} {e d:Option Nat} {x:AV} {q:Option (Nat×aM)} {st st1:St} {K:St->Prop} {KP:Prop}
theorem Over.get(hO:Over T d x q st st1){i:Nat}(C:i∈T):st1.hp[i]? =st.hp[i]? :=by
 rw[hO.hp];unfold y6;split;.rfl
 .rename_i s ob;exact m_ fun(h:s=i)=>(hO.sl s ob rfl).2.1 (h▸C)
theorem Over.len(hO:Over T d x q st st1):st1.hp.length=st.hp.length:=by rw[hO.hp,Xc]
theorem Over.app(hO:Over T d x q st st1)(l:List aM):y6 q (st.hp++l)=st1.hp++l:=by
 rw[hO.hp];unfold y6;split;.rfl
 .rename_i s ob;have h:=(c_.1 (hO.sl s ob rfl).1).1;grind
theorem Over.set(hO:Over T d x q st st1){i:Nat}(C:i∈T)(o:aM):y6 q (st.hp.set i o)=st1.hp.set i o:=by
 rw[hO.hp];unfold y6;split;.rfl
 .rename_i s ob;exact ae_ _ _ fun(h:i=s)=>(hO.sl s ob rfl).2.1 (h▸C)
theorem Over.fD(hO:Over T d x q st st1){id:Nat}(E:id∈T)(o:aM):y6 q ((st.hp.map (aM.kill id)).set id o)=(st1.hp.map (aM.kill id)).set id o:=by
 rw[hO.hp];unfold y6;split;.rfl
 .rename_i s ob;obtain⟨h1,h2,C⟩:=hO.sl s ob rfl;grind[List.map_set,aM.iv,ae_]
theorem Over.back(hO:Over T d x q st st1){B:List Nat}(C:∀i∈B,i∈T)(os:List aM):y6 q (j6 B st.hp os)=j6 B st1.hp os:=by
 rw[hO.hp];unfold y6;split;.rfl
 .rename_i s ob;obtain⟨h1,h2,E⟩:=hO.sl s ob rfl;refine List.ext_getElem? λi=>?_;by_cases I:i=s;.subst I;rw[n_ (by grind[Oh]),C9 (n_ ((c_.1 h1).1)) (λh=>h2 (C _ h)),aM.fV λj J H=>E j J (C j H)]
  .grind[j6]
theorem EV(hO:Over T d x q st st1)(hd:∀t,d=some t->e≠some t)(y:AV):Over T d x q (st.aF e y) (st1.aF e y):=by refine⟨by cases e<;>exact hO.hp,λt=>?_,λs ob h=>by cases e<;>exact hO.sl s ob h⟩;rw[fw,fw,hO.fr];grind
theorem Qg(hO:Over T d x q st st1)(hd:∀t,d=some t->e≠some t){h':List aM}{y:AV}(hc:∀i ob,st.hp[i]? =some ob->i∉T->(∀j∈ob.kids,j∉T)->h'[i]? =some ob) (c:K (St.aF {st1 with hp:=y6 q h'} e y)):KO T e d x q st K (St.aF {st with hp:=h'} e y):=by
 refine⟨⟨λt ht _=>?_,λi ob f h1 h2=>?_⟩,_,EV (st:={st with hp:=h'}) (st1:={st1 with hp:=y6 q h'}) ⟨rfl,hO.fr,λs ob h=>?_⟩ hd y,c⟩;.rw[fw,if_neg ht]
 .have:(St.aF {st with hp:=h'} e y).hp=h':=by cases e<;>rfl
  grind
 .obtain⟨h1,h2,a⟩:=hO.sl s ob h;exact⟨hc s _ h1 h2 (λj b=>by cases b),h2,a⟩
theorem KZ(hO:Over T d x q st st1)(hd:∀t,d=some t->e≠some t){id:Nat}{o:aM}{y:AV}(b:id∈T)(l:∀i∈x.kids,i∉T)(g:K ((st1.fD id o).aF e y)):KO T e d x q st K ((st.fD id o).aF e y):=by
 have k:∀s:St,((s.fD id o).aF e y).hp=(s.hp.map (aM.kill id)).set id o:=λs=>by cases e<;>rfl
 have hc:∀i ob,st.hp[i]? =some ob->i∉T->(∀j∈ob.kids,j∉T)->((st.hp.map (aM.kill id)).set id o)[i]? =some ob:=λi ob c h1 h2=>by grind[aM.iv]
 refine⟨⟨λt ht n=>?_,λi ob c h1 h2=>by grind⟩,_,EV ⟨(hO.fD b o).symm,λt=>?_,λs ob h=>?_⟩ hd y,g⟩;.rw[fw,if_neg ht];simp only[St.fD,lQ];cases hl:look st.fr t with|none=>rfl|some z=>grind[AV.iv]
 .simp only[St.fD,lQ,hO.fr];by_cases h:d=some t;.grind[AV.iv]
  grind
 .obtain⟨h1,h2,a⟩:=hO.sl s ob h;exact⟨hc s _ h1 h2 (λj f=>by cases f),h2,a⟩
theorem X0(hO:Over T d x q st st1)(hd:∀t,d=some t->e≠some t){B:List Nat}{os:List aM}{y:AV}(a:∀i∈B,i∈T)(n:∀i∈x.kids,i∉T)(k:K ((st1.back B os).aF e y)):KO T e d x q st K ((st.back B os).aF e y):=by
 have l:∀s:St,((s.back B os).aF e y).hp=j6 B s.hp os:=λs=>by cases e<;>rfl
 have hc:∀i ob,st.hp[i]? =some ob->i∉T->(∀j∈ob.kids,j∉T)->(j6 B st.hp os)[i]? =some ob:=λi ob f h1 h2=>by rw[C9 f (λb=>h1 (a i b)),aM.fV λj c b=>h2 j c (a j b)]
 refine⟨⟨λt ht p=>?_,λi ob f h1 h2=>by grind⟩,_,EV ⟨(hO.back a os).symm,λt=>?_,λs ob h=>?_⟩ hd y,k⟩;.rw[fw,if_neg ht];simp only[St.back,lQ];cases hl:look st.fr t with|none=>rfl|some z=>grind[AV.fV]
 .simp only[St.back,lQ,hO.fr];by_cases h:d=some t;.grind[AV.fV]
  grind
 .obtain⟨h1,h2,g⟩:=hO.sl s ob h;exact⟨hc s _ h1 h2 (λj c=>by cases c),h2,g⟩
theorem Lc{h h':List aM}{bor:Bool}{z:BV}(a:∀i∈z.ids,h[i]? =h'[i]?):sa h bor z=sa h' bor z:=by
 cases z<;>try rfl
 grind[sa,Kf,BV.ids]
theorem Sn{h h':List aM}{bor:Bool}{y:AV}(a:∀i∈y.ids,h[i]? =h'[i]?):ja h bor y=ja h' bor y:=by cases y with|b z=>exact Lc a|agg zs=>show(zs.mapM (sa h bor)).map PV.agg=_;rw[dj λz d=>Lc λi c=>a i (d_.2 ⟨z,d,c⟩)];rfl|dP zs=>rfl
theorem Sm{h h':List aM}{bor:Bool}{B:List Nat}{y:AV}(a:∀i∈y.ids,h[i]? =h'[i]?):m7 h bor B y=m7 h' bor B y:=by
 cases y with
 |b z=>
  cases z<;>try rfl
  grind[m7,Sn]
 |agg zs=>rfl|dP zs=>rfl
theorem mN{op:fv}{st:St}{b:St->Prop}(hs:jh P st op λa=>K (st.aF e a)):cN P e op st K b:=by unfold cN;split<;>first|exact hs|exact hs.elim
theorem Pv{op:fv}(hO:Over T d x q st st1)(ur:∀t,d=some t->t∉op.rd)(hd:∀t,d=some t->e≠some t)(hT:∀t∈op.rd,∀y,look st.fr t=some y->∀i∈y.ids,i∈T)(N:∀i∈op.kY,i∈T) (hx:∀i∈x.kids,i∉T) (h:cN P e op st1 K λ_=>KP):cN P e op st (KO T e d x q st K) (λ_=>KP):=by
 have hl:∀t∈op.rd,look st1.fr t=look st.fr t:=λt ht=>by rw[hO.fr,if_neg λh=>ur t h ht]
 have hF:uV op.rd st st1:=⟨λk j y hy=>by grind,λk j y hy i z ob O=>by rw[<-hO.get (hT k j y (by grind) i z)];omega⟩;have hg:∀q:SX,(∀t∈q.rd,t∈op.rd)->st1.get q=st.get q:=λq w=>bf λt ht=>hl t (w t ht);have hid:∀(q:SX) (y:AV),(∀t∈q.rd,t∈op.rd)->st.get q=some y->∀i∈y.ids,i∈T:=λq y w hy=>by cases q with|tm k=>exact hT k (w k (by simp[SX.rd])) y hy|c v=>grind[St.get,b_,Ap]|g n=>simp only[St.get,b_]at hy;subst hy;intro i z;cases z|f n=>simp only[St.get,b_]at hy;subst hy;intro i z;cases z
 have el:jh P st1 op (λa=>K (st1.aF e a))->cN P e op st (KO T e d x q st K) (λ_=>KP):=λhs=>mN (y8 (y7 hF hs) λa ha=>Qg (h':=st.hp) hO hd (λi ob z _ _=>z) (by rw[<-hO.hp];omega));have fin:∀(o:aM) (y:AV),K (St.aF {st1 with hp:=st1.hp++[o]} e y)->KO T e d x q st K (St.aF {st with hp:=st.hp++[o]} e y):=λo y j=>Qg hO hd (λi ob z _ _=>get_append z) (by rw[hO.app];omega);have A:∀(id:Nat) (o:aM) (y:AV),id∈T->K (St.aF {st1 with hp:=st1.hp.set id o} e y)->KO T e d x q st K (St.aF {st with hp:=st.hp.set id o} e y):=λid o y hid j=>Qg hO hd (λi ob z h1 _=>by grind) (by rw[hO.set hid];omega);have Q:∀(bor:Bool) (B:List Nat) (l:List SX),(∀q∈l,∀t∈q.rd,t∈op.rd)->(l.mapM λx=>(st1.get x).bind (m7 st1.hp bor B))=(l.mapM λx=>(st.get x).bind (m7 st.hp bor B)):=λbor B l hl=>dj λq w=>by rw[hg q (hl q w)];cases hy:st.get q with|none=>rfl|some y=>exact Sm λi z=>hO.get (hid q y (hl q w) hy i z)
 have R:∀(bor:Bool) (B:List Nat) (f:FuncId) (ars:List AV) (os:List aM),(∀i∈B,i∈T)->cN.callK P st1 e bor B f ars os K (λ_=>KP)->cN.callK P st e bor B f ars os (KO T e d x q st K) (λ_=>KP):=λbor B f ars os hB ⟨h1,h2,F,H⟩=>by refine⟨h1,h2,F,H.mono λo O=>?_⟩;cases o with|none=>omega|some r=>refine⟨O.1,X0 hO hd hB hx ?_⟩;have:=O.2;rw[hO.len]at this;omega
 cases op with
 |store sz q v=>
  obtain⟨D,w,E,I,he,hs⟩:=h;have wr:=w;rw[hg q (λt ht=>by grind[fv.rd])]at w;rw[hg v (λt ht=>by grind[fv.rd])]at I;have C:=hid q D (λt ht=>by grind[fv.rd]) w;refine⟨D,w,E,I,he,?_⟩;subst he;revert hs;unfold AT;split;.rename_i id off;rintro⟨o,h1,t,cs,h2,F,H,J,j⟩;rw[hO.get (C id (by simp[AV.ids,BV.ids]))]at h1;have:=A id (.box t (splice cs off E.cells)) E (C id (by simp[AV.ids,BV.ids])) j;exact⟨o,h1,t,cs,h2,F,H,J,this⟩
  .rename_i id i off;have z:=C id (by simp[AV.ids,BV.ids]);rintro⟨o,h1,⟨t,s,xs,h2,F,p,H,J,U,j⟩|⟨t,s,k,xs,O,h2,F,H,j⟩⟩<;>rw[hO.get z]at h1
   .refine⟨o,h1,.inl ⟨t,s,xs,h2,F,p,H,J,U,?_⟩⟩;rcases j with⟨M,h8,j⟩|⟨M,h8,j⟩;.exact .inl ⟨M,h8,A id _ E z j⟩
    .exact .inr ⟨M,h8,A id _ E z j⟩
   .refine⟨o,h1,.inr ⟨t,s,k,xs,O,h2,F,H,?_⟩⟩;rcases j with⟨J,U,p,M,h8,h9,j⟩|⟨b,b',J,U,M,h8,j⟩;.exact .inl ⟨J,U,p,M,h8,h9,A id _ E z j⟩
    .exact .inr ⟨b,b',J,U,M,h8,A id _ E z j⟩
  simp
 |alloc t zero=>exact fin _ _ (by have:=h;simp only[cN,hO.len]at this⊢;omega)|box t q=>obtain⟨D,w,h1,j⟩:=h;rw[hg q (λt ht=>by grind[fv.rd])]at w;exact⟨D,w,h1,fin _ _ (by rw[hO.len]at j;omega)⟩
 |bQ own t sz len ps=>cases own with|false=>exact el h|true=>obtain⟨qs,w,h1,h2,F,H,j⟩:=h;rw[dj (g:=λx=>(st.get x).bind AV.bG) λq w=>by rw[hg q (λt ht=>d_.2 ⟨q,w,ht⟩)]]at w;exact⟨qs,w,h1,h2,F,H,fin _ _ (by rw[hO.len]at j;omega)⟩
 |cU t sz gc zero l c=>obtain⟨al,w,ac,hc,j⟩:=h;rw[hg l (λt ht=>by grind[fv.rd])]at w;rw[hg c (λt ht=>by grind[fv.rd])]at hc;exact⟨al,w,ac,hc,bB j λ_ j=>bB j λ_ j=>bW j λ_ _ j=>bW j λ_ _ ⟨h1,h2,F,H,J,U,M⟩=>⟨h1,h2,F,H,J,U,aC M λ_ h=>⟨h.1,fin _ _ (by have:=h.2;rw[hO.len]at this;omega)⟩⟩⟩
 |append t sz gc q v=>
  obtain⟨D,w,E,I,hs⟩:=h;rw[hg q (λt ht=>by grind[fv.rd])]at w;rw[hg v (λt ht=>by grind[fv.rd])]at I;have C:=hid q D (λt ht=>by grind[fv.rd]) w;have Y:=hid v E (λt ht=>by grind[fv.rd]) I;refine⟨D,w,E,I,?_⟩;refine fC (mW (h:=st1.hp) (λi z ob O=>by rw[<-hO.get (Y i z)];omega) hs λL h=>h) λL hs=>⟨hs.1,?_⟩;rcases hs.2 with⟨id,rfl,o,O,xs,rfl,h1,j⟩|⟨h1,h2,j⟩;.exact .inl ⟨id,rfl,_,by rw[<-hO.get (C id (by simp[AV.ids,BV.ids]))];omega,xs,rfl,h1,KZ hO hd (C id (by simp[AV.ids,BV.ids])) hx j⟩
  .exact .inr ⟨h1,h2,fin _ _ (by rw[hO.len]at j;omega)⟩
 |d6 kk t sz gc zero l c=>obtain⟨al,w,ac,hc,j⟩:=h;rw[hg l (λt ht=>by grind[fv.rd])]at w;rw[hg c (λt ht=>by grind[fv.rd])]at hc;exact⟨al,w,ac,hc,bB j λ_ j=>bB j λ_ j=>bW j λ_ _ j=>bW j λ_ _ ⟨h1,h2,F,H,J,U,M⟩=>⟨h1,h2,F,H,J,U,aC M λ_ h=>⟨h.1,h.2.1,fin _ _ (by have:=h.2.2;rw[hO.len]at this;omega)⟩⟩⟩
 |pj kk t sz gc q v=>
  obtain⟨D,w,E,I,hs⟩:=h;rw[hg q (λt ht=>by grind[fv.rd])]at w;rw[hg v (λt ht=>by grind[fv.rd])]at I;have C:=hid q D (λt ht=>by grind[fv.rd]) w;have Y:=hid v E (λt ht=>by grind[fv.rd]) I;refine⟨D,w,E,I,?_⟩;refine fC (mW (h:=st1.hp) (λi z ob O=>by rw[<-hO.get (Y i z)];omega) hs λL h=>h) λL hs=>⟨hs.1,?_⟩;rcases hs.2 with⟨id,rfl,o,O,xs,rfl,h1,j⟩|⟨h1,h2,j⟩;.exact .inl ⟨id,rfl,_,by rw[<-hO.get (C id (by simp[AV.ids,BV.ids]))];omega,xs,rfl,h1,KZ hO hd (C id (by simp[AV.ids,BV.ids])) hx j⟩
  .exact .inr ⟨h1,h2,fin _ _ (by rw[hO.len]at j;omega)⟩
 |gF bor B f args=>obtain⟨ars,h1,os,h2,j⟩:=h;rw[Q bor B args (λq w t ht=>d_.2 ⟨q,w,ht⟩)]at h1;rw[dj (l:=B) (g:=(st.hp[·]?)) λi z=>hO.get (N i z)]at h2;exact⟨ars,h1,os,h2,R bor B f ars os N j⟩
 |fz bor B q args=>obtain⟨D,w,f,caps,h0,qr,ars,h1,os,h2,j⟩:=h;rw[hg q (λt ht=>by grind[fv.rd])]at w;rw[Q bor B args (λq w t ht=>r_.2 (.inr (d_.2 ⟨q,w,ht⟩)))]at h1;rw[dj (l:=B) (g:=(st.hp[·]?)) λi z=>hO.get (N i z)]at h2;exact⟨D,w,f,caps,h0,qr,ars,h1,os,h2,R bor B f _ os N j⟩
 |ik k t=>exact fin _ _ (by have:=h;simp only[cN,hO.len]at this⊢;omega)|gY k t m q v=>obtain⟨am,hm,D,w,E,I,hs⟩:=h;rw[hg m (λt ht=>by grind[fv.rd])]at hm;rw[hg q (λt ht=>by grind[fv.rd])]at w;rw[hg v (λt ht=>by grind[fv.rd])]at I;have ph:=hid m am (λt ht=>by grind[fv.rd]) hm;refine⟨am,hm,D,w,E,I,?_⟩;obtain⟨id,kvs,rfl,O,p,h1,r,h2,he,F,H,J,U,u,M,h8,j⟩:=hs;refine⟨id,kvs,rfl,by rw[<-hO.get (ph id (by simp[AV.ids,BV.ids]))];omega,p,h1,r,h2,he,F,H,J,U,u,M,h8,?_⟩;subst he;exact A id _ E (ph id (by simp[AV.ids,BV.ids])) j
 |copy t sz q v=>obtain⟨D,w,E,I,hs⟩:=h;rw[hg q (λt ht=>by grind[fv.rd])]at w;rw[hg v (λt ht=>by grind[fv.rd])]at I;have C:=hid q D (λt ht=>by grind[fv.rd]) w;have Y:=hid v E (λt ht=>by grind[fv.rd]) I;refine⟨D,w,E,I,?_⟩;refine fC (mW (h:=st1.hp) (λi z ob O=>by rw[<-hO.get (Y i z)];omega) hs λL h=>h) λL ⟨h1,id,h2,F,o,O,xs,H,j⟩=>?_;subst h2;exact⟨h1,id,rfl,F,o,by rw[<-hO.get (C id (by simp[AV.ids,BV.ids]))];omega,xs,H,A id _ _ (C id (by simp[AV.ids,BV.ids])) j⟩
 |panic q=>obtain⟨D,w,h1,j⟩:=h;rw[hg q (λt ht=>by grind[fv.rd])]at w;exact⟨D,w,h1,j⟩
 |uj s u=>
  have rg:uV u.rd st st1:=hF;have h':Fv st1 u λo m=>yE st1 (some s)/\K ((st1.new (some s) o).aF e (.b (m s))):=h;show Fv st u λo m=>yE st (some s)/\KO T e d x q st K ((st.new (some s) o).aF e (.b (m s)));refine nR (Nj rg h') λo m ⟨h1,j⟩=>⟨?_,?_⟩;.simp only[yE]at h1⊢;rw[<-hO.get (N s (by simp[fv.kY]))];omega
  .exact A s o _ (N s (by simp[fv.kY])) j
 |_=>exact el h
end
structure Eff where
 x:AV
 slot:Option (Nat×aM)
def St.app(st:St)(d:Option Nat)(E:Eff):St:=St.aF ⟨st.fr,match E.slot with|none=>st.hp|some (s,ob)=>st.hp.set s ob⟩ d E.x
def rq(P:Program)(o:bc)(st:St)(E:Eff):Prop:=match E.slot with
 |none=>fK P o st E.x
 |some (s,ob)=>o.gd=none/\∃q,o.op= .uj s q/\Fv st q λa mk=>a=ob/\E.x= .b (mk s)/\st.hp[s]? =some .free
def KX(a b:St):Prop:=a.hp=b.hp/\∀t,look a.fr t=look b.fr t
def KX.refl(a:St):KX a a:=⟨rfl,λ_=>rfl⟩
def KX.symm{a b:St}(h:KX a b):KX b a:=⟨h.1.symm,λt=>(h.2 t).symm⟩
def KX.trans{a b c:St}(h:KX a b)(k:KX b c):KX a c:=⟨h.1.trans k.1,λt=>(h.2 t).trans (k.2 t)⟩
def comm(r:Rec)(T:List Nat)(o:bc)(b:Bool):Prop:=
 (∀t,r.d=some t->t∉o.rd/\o.dst≠some t)/\(∀t,o.dst=some t->t∉r.rd)/\(∀s,r.s=some s->s∉T)/\(b=true->∀s∈o.op.kY,s∉r.F)/\(b=false->∀i∈T,i∉r.G)
def fv.hf:fv->Bool
 | .mv _=>true
 |_=>false
def ez(st:St)(o:bc):List Nat:=if o.op.hf=true/\o.gd=none then []else touch st o
def Z6(F:List Nat)(st:St)(o:bc)(E:Eff):Prop:=
 (∀i∈ez st o,i∈F/\∃ob,st.hp[i]? =some ob/\∀j∈ob.kids,j∈F)/\∀i∈E.x.kids,i∈F
def UG(G:List Nat)(st:St)(o:bc)(E:Eff):Prop:=(∀i∈E.x.kids,i∈G)/\∀t∈o.rd,∀y,look st.fr t=some y->∀i∈y.kids,i∈G
def Sok(P:Program)(S:List aM->Prop)(F:List Nat)(st:St)(o:bc)(E:Eff):Prop:=∀a:St,S a.hp->(∀t∈o.rd,look a.fr t=look st.fr t)->rq P o a E/\Z6 F a o E
def zbl(R:List (Rec×(List aM->Prop)))(S:List aM->Prop)(G:List Nat)(E:Eff):Prop:=∀s ob,E.slot=some (s,ob)->(∀j∈ob.kids,j∈G)/\(∀hp,¬S hp)/\∀r∈R,∀hp:List aM,hp[s]? =some .free->r.2 (hp.set s ob)->r.2 hp
def UM(un:Nat->Nat->Bool)(R:List (Rec×(List aM->Prop)))(j:Nat)(T:List Nat)(hp:List aM):Prop:=∀r∈R,un r.1.i j=true->(∀i∈T,i∉r.1.F)\/r.2 hp
def rO(P:Program)(un:Nat->Nat->Bool)(K:St->Prop)(KP:Prop):List (Rec×(List aM->Prop))->List (Nat×Bool×bc)->St->Prop
 |_,[],st=>∃b,KX b st/\K b
 |R,(j,true,o)::l,st=>(∀r∈R,un r.1.i j=true->comm r.1 (ez st o) o true)/\∃E F G S,rq P o st E/\Z6 F st o E/\UG G st o E/\Sok P S F st o E/\zbl R S G E/\rO P un K KP (R++[(⟨j,o.dst,o.rd,E.slot.map (·.1),F,G⟩,S)]) l (st.app o.dst E)
 |R,(j,false,o)::l,st=>(∀r∈R,un r.1.i j=true->comm r.1 (touch st o) o false)/\iD P o st (λa=>UM un R j (touch st o) a.hp/\rO P un K KP R l a) λ_=>KP
section
variable {P:Program} {un:Nat->Nat->Bool} {K:St->Prop} {KP:Prop}
theorem Bj{a β:Type}{f g:a->List β}:∀{l:List a},(∀x∈l,f x=g x)->l.flatMap f=l.flatMap g
 |[],_=>rfl
 |x::l,h=>by rw[S_,S_,h x (by simp),Bj λy b=>h y (by grind)]
theorem FF{a b:St}{o:bc}(h:∀t∈o.rd,look a.fr t=look b.fr t):touch a o=touch b o:=by unfold touch;congr 1;exact Bj λk c=>by grind
theorem qz{a b:St}{o:bc}(h:∀t∈o.rd,look a.fr t=look b.fr t):ez a o=ez b o:=by unfold ez;rw[FF h]
theorem NB{st:St}{o:bc}{t:Nat}{y:AV}{i:Nat}(ht:t∈o.rd)(b:look st.fr t=some y)(a:i∈y.ids):i∈touch st o:=r_.2 (.inl (d_.2 ⟨t,ht,by grind⟩))
theorem xm{st:St}{o:bc}{i:Nat}(a:i∈o.op.kY):i∈touch st o:=r_.2 (.inr a)
theorem nB(st:St)(d:Option Nat)(E:Eff)(t:Nat):look (st.app d E).fr t=if d=some t then some E.x else look st.fr t:=fw _ _ _ _
theorem re(st:St)(d:Option Nat)(E:Eff):(st.app d E).hp=match E.slot with|none=>st.hp|some (s,ob)=>st.hp.set s ob:=by unfold St.app;cases d<;>rfl
theorem uC{st:St}{d:Option Nat}{E:Eff}{i:Nat}(h:∀s,E.slot.map (·.1)=some s->i≠s):(st.app d E).hp[i]? =st.hp[i]? :=by rw[re];grind
theorem Fx{o:bc}{T:List Nat}{d:Option Nat}{x:AV}{q:Option (Nat×aM)}{st st1:St}(hO:Over T d x q st st1)(a:∀t,d=some t->t∉o.rd/\o.dst≠some t)(c:∀i∈touch st o,i∈T)(j:∀i∈x.kids,i∉T) (h:iD P o st1 K λ_=>KP):iD P o st (KO T o.dst d x q st K) (λ_=>KP):=by
 have ex:cN P o.dst o.op st1 K (λ_=>KP)->cN P o.dst o.op st (KO T o.dst d x q st K) (λ_=>KP):=λh=>Pv hO (λt ht hr=>(a t ht).1 (by grind[bc.rd])) (λt ht=>(a t ht).2) (λt ht y k i b=>c i (NB (by grind[bc.rd]) k b)) (λi b=>c i (xm b)) j h;unfold iD at h⊢;split at h;.grind
 .rename_i t want hg;obtain⟨g,h1,v,rfl,h2,f⟩:=h;have ht:look st1.fr t=look st.fr t:=by rw[hO.fr,if_neg λe=>(a t e).1 (by grind[bc.rd])]
  refine⟨_,by grind,v,rfl,λe=>ex (h2 e),λe=>Qg (h':=st.hp) hO (λt ht=>(a t ht).2) (λi ob b _ _=>b) (by rw[<-hO.hp];exact f e)⟩
theorem HV{o:bc}{a b:St}{E:Eff}(h:uV o.rd a b)(d:∀s,E.slot.map (·.1)=some s->b.hp[s]? =some .free->a.hp[s]? =some .free)(c:rq P o b E):rq P o a E:=by unfold rq at c⊢;cases hs:E.slot with|none=>grind[Nz]|some q=>grind[nR,Nj,bc.rd,fv.rd]
theorem wQ{o:bc}{a b:St}{E:Eff}(d:∀k∈o.rd,∀y,look b.fr k=some y->look a.fr k=some y)(f:∀i∈ez b o,∀ob,b.hp[i]? =some ob->a.hp[i]? =some ob) (n:∀s,E.slot.map (·.1)=some s->b.hp[s]? =some .free->a.hp[s]? =some .free) (c:rq P o b E):rq P o a E:=by
 by_cases h:o.op.hf=true/\o.gd=none
 .obtain⟨h1,h2⟩:=h;unfold rq at c⊢;cases hs:E.slot with
  |none=>
   rw[hs]at c;cases e:o.op<;>rw[e]at h1<;>try (cases h1;done)
   rename_i x;simp only[fK,h2,e]at c⊢;obtain⟨y,g,j⟩:=c;refine⟨y,?_,j⟩;cases x with|tm k=>exact d k (by grind[bc.rd,fv.rd,SX.rd]) y g|_=>exact g
  |some q=>rw[hs]at c;obtain⟨_,p,l,_⟩:=c;rw[l]at h1;cases h1
 .have ht:ez b o=touch b o:=if_neg h;exact HV ⟨d,λk u y v i r ob e=>f i (by grind[NB]) ob e⟩ n c
theorem HW{o:bc}{a:St}{E:Eff}(c:rq P o a E):∀s,E.slot.map (·.1)=some s->a.hp[s]? =some .free/\s∈o.op.kY:=by
 intro s hs;unfold rq at c;cases d:E.slot with
 |none=>grind|some q=>
  rw[d]at c hs;simp only[M_,b_]at hs;obtain⟨h1,p,h2,b⟩:=c;rw[h2,<-hs];refine⟨?_,by simp[fv.kY]⟩;cases p<;>simp only[Fv]at b;case alloc=>grind
  case box=>obtain⟨_,_,_,h⟩:=b;grind
  case bQ own _ _ _ _=>
   cases own;.grind
   .obtain⟨_,_,_,_,_,_,h⟩:=b;grind
  case cU=>obtain⟨_,_,_,_,_,_,_,_,_,_,_,_,_,_,_,_,_,_,_,_,_,_,_,h⟩:=b;grind
  case append=>obtain⟨_,_,_,_,h⟩:=b;rcases h with⟨_,_,_,_,h⟩|⟨_,_,_,_,_,h⟩|⟨_,_,_,_,_,_,_,_,h⟩|⟨_,_,_,_,_,h⟩<;>exact h.2.2
  grind
theorem G8{o:bc}{st:St}{E:Eff}{K a:St->Prop}(h:rq P o st E)(f:K (st.app o.dst E)):iD P o st K a:=by
 unfold rq at h;cases hs:E.slot with
 |none=>
  rw[hs]at h;refine md h ?_;have:st.app o.dst E=st.aF o.dst E.x:=by unfold St.app;rw[hs]
  grind
 |some q=>
  rw[hs]at h;obtain⟨h1,p,h2,e⟩:=h;unfold iD;rw[h1,h2];show Fv st p λo' mk=>yE st (some q.1)/\K ((st.new (some q.1) o').aF o.dst (.b (mk q.1)));refine nR e λob m ⟨b,c,d⟩=>⟨d,?_⟩;have:st.app o.dst E=(st.new (some q.1) ob).aF o.dst (.b (m q.1)):=by unfold St.app;rw[hs,b,c];rfl
  grind
theorem Vn{a b:St}{T:List Nat}(h:KX a b):Over T none (.v undef) none b a:=⟨h.1,λt=>by rw[h.2 t];simp,λ_ _ h=>by cases h⟩
theorem Vm{a b:St}(h:KX a b)(rd:List Nat):uV rd b a:=⟨λk _ y d=>by rw[<-h.2];omega,λk _ y _ i _ ob c=>by rw[<-h.1];omega⟩
theorem Yt{a b:St}(h:KX a b)(d:Option Nat)(E:Eff):KX (a.app d E) (b.app d E):=⟨by rw[re,re,h.1],λt=>by rw[nB,nB,h.2 t]⟩
theorem Kh{S:List aM->Prop}{F:List Nat}{a b:St}{o:bc}{E:Eff}(h:∀t∈o.rd,look b.fr t=look a.fr t)(hs:Sok P S F a o E):Sok P S F b o E:=λc h1 h2=>hs c h1 λt ht=>(h2 t ht).trans (h t ht)
theorem JG{G:List Nat}{a b:St}{o:bc}{E:Eff}(h:∀t∈o.rd,look b.fr t=look a.fr t)(hs:UG G a o E):UG G b o E:=⟨hs.1,λt ht y c=>hs.2 t ht y (by grind)⟩
theorem qx:∀(l:List (Nat×Bool×bc)) (R:List (Rec×(List aM->Prop))) (a b:St),KX a b->rO P un K KP R l a->rO P un K KP R l b
 |[],R,a,b,h,hs=>by obtain⟨g,h1,h2⟩:=hs;exact⟨g,h1.trans h,h2⟩
 |(j,true,o)::l,R,a,b,h,hs=>by obtain⟨h1,E,F,G,S,h2,d,hg,p,n,k⟩:=hs;have ht:ez b o=ez a o:=qz λt _=>(h.2 t).symm;refine⟨λr hr v=>by grind,E,F,G,S,HV (Vm h _) (λs _ w=>by rw[<-h.1];omega) h2,⟨λi c=>?_,d.2⟩,JG (λt _=>(h.2 t).symm) hg,Kh (λt _=>(h.2 t).symm) p,n,qx l _ _ _ (Yt h _ _) k⟩;rw[ht]at c;exact⟨(d.1 i c).1,by rw[<-h.1];exact(d.1 i c).2⟩
 |(j,false,o)::l,R,a,b,h,hs=>by obtain⟨h1,h2⟩:=hs;have ht:touch b o=touch a o:=FF λt _=>(h.2 t).symm;refine⟨λr hr v=>by grind,?_⟩;refine rP (Fx (T:=touch b o) (Vn h) (λt e=>by grind) (λi c=>c) (λi c=>by cases c) h2) (λf ⟨_,st1,hO,u⟩=>?_) λ_ h=>h;have e:st1.hp=f.hp:=hO.hp;exact⟨by grind,qx l _ _ _ ⟨e,λt=>by rw[hO.fr];simp⟩ u.2⟩
theorem AS:∀(l:List (Nat×Bool×bc)) (R b:List (Rec×(List aM->Prop))) (a:St),(∀r∈b,r∈R)->rO P un K KP R l a->rO P un K KP b l a
 |[],R,b,a,_,hs=>hs
 |(j,true,o)::l,R,b,a,h,hs=>by obtain⟨h1,E,F,G,S,h2,f,hg,k,c,g⟩:=hs;refine⟨λr hr=>h1 r (h r hr),E,F,G,S,h2,f,hg,k,λs ob e=>⟨(c s ob e).1,(c s ob e).2.1,λr hr=>(c s ob e).2.2 r (h r hr)⟩,AS l _ _ _ (λr hr=>?_) g⟩;grind
 |(j,false,o)::l,R,b,a,h,hs=>⟨λr hr=>hs.1 r (h r hr),rP hs.2 (λn d=>⟨λr hr=>d.1 r (h r hr),AS l _ _ _ h d.2⟩) λ_ h=>h⟩
def Hd(P:Program)(un:Nat->Nat->Bool)(K:St->Prop)(KP:Prop)(R:List (Rec×(List aM->Prop)))(l:List (Nat×Bool×bc))(st:St)(j:Nat)(o:bc):Bool->Prop
 |true=>∃G,rq P o st G/\rO P un K KP R l (st.app o.dst G)
 |false=>iD P o st (λa=>UM un R j (touch st o) a.hp/\rO P un K KP R l a) λ_=>KP
theorem zbw{l2:List (Nat×Bool×bc)}{j:Nat}{b:Bool}{o:bc}:∀(l1:List (Nat×Bool×bc)) (R:List (Rec×(List aM->Prop))) (st:St),rO P un K KP R (l1++(j,b,o)::l2) st->(∀u∈l1,u.2.1=true/\un u.1 j=true)->(∀r∈R,un r.1.i j=true->comm r.1 (match b with|true=>ez st o|false=>touch st o) o b)/\Hd P un K KP R (l1++l2) st j o b:=by
 intro l1;induction l1 with
 |nil=>
  intro R st h _;cases b with
  |true=>obtain⟨h1,E,F,G,S,h2,_,_,_,_,h4⟩:=h;exact⟨h1,E,h2,AS l2 _ _ _ (λr hr=>r_.2 (.inl hr)) h4⟩
  |false=>exact h
 |cons q l1 ih=>
  intro R st h hu;obtain⟨i,bu,u⟩:=q;obtain⟨hb,O⟩:=hu _ (List.mem_cons_self ..);simp only at hb O;subst hb;obtain⟨h1,E,F,G0,S,h2,w,hg,hS,Q,h4⟩:=h;obtain⟨hA,hB⟩:=ih _ _ h4 λv hv=>hu v (List.mem_cons_of_mem _ hv);obtain⟨c1,c2,C,c4,c5⟩:=hA (⟨i,u.dst,u.rd,E.slot.map (·.1),F,G0⟩,S) (by simp) O;simp only at c1 c2 C c4 c5;have Y:∀t∈o.rd,look (st.app u.dst E).fr t=look st.fr t:=λt ht=>by rw[nB,if_neg λe=>(c1 t e).1 ht]
  have M:touch (st.app u.dst E) o=touch st o:=FF Y;have el:ez (st.app u.dst E) o=ez st o:=qz Y;have U:=HW h2;cases b with
  |true=>
   refine⟨λr hr n=>by grind,?_⟩;simp only at C c5;rw[el]at C;obtain⟨G,g1,g2⟩:=hB;have z:=HW g1;have gc:rq P o st G:=by
    refine wQ (λk hk y hy=>by grind) (λi a ob B=>?_) (λs hs hf=>?_) g1;.grind[uC]
    .rw[<-uC (d:=u.dst) (E:=E) λs' A e=>?_];.omega
     .have D:=(z s hs).2;by_cases H:o.op.hf=true/\o.gd=none
      .cases B:o.op<;>rw[B]at H<;>try (cases H.1;done)
       rw[B]at D;cases D
      .refine C s' A (e▸?_);rw[show ez st o=touch st o from if_neg H];exact xm D
   have c:∀t∈u.rd,look (st.app o.dst G).fr t=look st.fr t:=λt ht=>by rw[nB,if_neg λe=>c2 t e ht]
   have N:ez (st.app o.dst G) u=ez st u:=qz c;have I:∀i∈ez st u,(st.app o.dst G).hp[i]? =st.hp[i]? :=λi a=>uC λs hs e=>c4 rfl s (z s hs).2 (e▸(w.1 i a).1);have f:∀s,E.slot.map (·.1)=some s->s∈F:=λs hs=>by
    have D:=(U s hs).2;by_cases H:u.op.hf=true/\u.gd=none
    .cases B:u.op<;>rw[B]at H<;>try (cases H.1;done)
     rw[B]at D;cases D
    .exact(w.1 s (by rw[show ez st u=touch st u from if_neg H];exact xm D)).1
   refine⟨G,gc,λr hr n=>by grind,E,F,G0,S,?_,⟨λi a=>?_,w.2⟩,JG c hg,Kh c hS,Q,qx _ _ _ _ ⟨?_,λt=>?_⟩ g2⟩;.refine wQ (λk hk y hy=>by grind) (λi a ob B=>by grind) (λs hs hf=>?_) h2;rw[uC λs' A e=>c4 rfl s' (z s' A).2 (e▸f s hs)];omega
   .rw[N]at a;exact⟨(w.1 i a).1,by rw[I i a];exact(w.1 i a).2⟩
   .rw[re,re,re,re];cases hs:E.slot with|none=>rfl|some p=>cases A:G.slot with|none=>rfl|some p'=>simp only;exact ae_ _ _ λe=>c4 rfl p'.1 (z p'.1 (by grind)).2 (e▸f p.1 (by grind))
   grind[nB]
  |false=>
   refine⟨λr hr n=>by grind,?_⟩;have c7:=c5 rfl;rw[M]at c7;simp only at C;rw[M]at C;have hO:Over (touch st o) u.dst E.x E.slot st (st.app u.dst E):=⟨by rw[re];rfl,λt=>nB _ _ _ t,λs ob e=>⟨(U s (by rw[e];rfl)).1,C s (by rw[e];rfl),λj hj x=>c7 j x ((Q s ob e).1 j hj)⟩⟩;refine rP (Fx (T:=touch st o) hO c1 (λi a=>a) (λi a x=>c7 i x (hg.1 i a)) hB) (λg ⟨hC,st1,l,L,hk⟩=>?_) λ_ h=>h;rw[M,l.hp]at L;have c:∀t∈u.rd,look g.fr t=look st.fr t:=λt ht=>hC.fr t (λe=>c2 t e ht) λy hy i a x=>c7 i x (hg.2 t ht y hy i a);have N:ez g u=ez st u:=qz c;have key:rq P u g E/\Z6 F g u E:=by
    rcases L (⟨i,u.dst,u.rd,E.slot.map (·.1),F,G0⟩,S) (by simp) O with hdj|hs
    .have I:∀i∈ez st u,g.hp[i]? =st.hp[i]? :=λi a=>by obtain⟨h5,ob,h6,h7⟩:=w.1 i a;rw[h6];exact hC.hp i ob h6 (λx=>hdj i x h5) λj hj x=>hdj j x (h7 j hj)
     refine⟨wQ (λk hk y hy=>by grind) (λi a ob B=>by grind) (λs hs _=>by obtain⟨p,hp,rfl⟩:=i_.1 hs;exact(l.sl p.1 p.2 hp).1) h2,⟨λi a=>?_,w.2⟩⟩
     rw[N]at a;exact⟨(w.1 i a).1,by rw[I i a];exact(w.1 i a).2⟩
    .cases J:E.slot with|none=>rw[J]at hs;exact hS g hs c|some p=>exact absurd hs ((Q p.1 p.2 J).2.1 _)
   refine⟨λr hr n=>?_,λr hr n=>by grind,E,F,G0,S,key.1,key.2,JG c hg,Kh c hS,Q,?_⟩
   .rcases L r (r_.2 (.inl hr)) n with h|h;.exact .inl h
    .refine .inr ?_;cases J:E.slot with|none=>rw[J]at h;exact h|some p=>rw[J]at h;exact(Q p.1 p.2 J).2.2 r hr _ (l.sl p.1 p.2 J).1 h
   refine qx _ _ _ _ ⟨?_,λt=>?_⟩ hk;.rw[re];exact l.hp
   .rw[nB,l.fr]
theorem Xg{u:fv}{ob:aM}{R:aM->(Nat->BV)->Prop}{st:St}(h:Fv st u λo m=>o=ob/\R o m):∀j∈ob.kids,∃t∈u.rd,∃y,look st.fr t=some y/\j∈y.kids:=by
 intro j l;cases u<;>simp only[Fv]at h<;>try exact h.elim
 case alloc t zero=>obtain⟨rfl,_⟩:=h;obtain⟨b,r,d⟩:=d_.1 l;have:=BV.qm d;grind[Er]
 case box t x=>
  obtain⟨a,w,_,rfl,_⟩:=h;obtain⟨b,r,d⟩:=d_.1 l;have s:j∈a.kids:=by
   cases a with
   |b z=>
    cases z with
    |pv p=>obtain⟨A,_,rfl⟩:=C_.1 r;cases d
    |_=>rw[u_.1 r]at d;exact d
   |agg xs=>exact d_.2 ⟨b,r,d⟩|dP xs=>rw[u_.1 r]at d;cases d
  cases x with|tm k=>exact⟨k,u_.2 rfl,a,w,s⟩|c v=>cases w;have:=AV.qm s;grind[Ap]|g n=>cases w;cases s|f n=>cases w;cases s
 case bQ own e sz len B=>
  cases own;.grind
  .obtain⟨_,_,_,_,_,_,rfl,_⟩:=h;cases l
 case cU=>obtain⟨_,_,_,_,_,_,_,_,_,_,_,_,_,_,_,_,_,_,_,_,_,_,_,rfl,_⟩:=h;cases l
 case append=>obtain⟨_,_,_,_,h⟩:=h;rcases h with⟨_,_,_,_,rfl,_⟩|⟨_,_,_,_,_,rfl,_⟩|⟨_,_,_,_,_,_,_,_,rfl,_⟩|⟨_,_,_,_,_,rfl,_⟩<;>cases l
 case ik=>obtain⟨rfl,_⟩:=h;cases l
end
def AU(n:Nat)(a:List (List Nat))(k:Nat):Bool:=(L_ n).all λj=>decide (j<k)||(L_ j).all λi=>(a.getD j []).contains i
def oT(a:List (List Nat)):List (Nat×Bool)->Bool
 |[]=>true
 |u::l=>l.all (λo=> !(a.getD u.1 []).contains o.1&&((a.getD o.1 []).contains u.1||u.2))&&oT a l
def NA(n:Nat)(after:List (List Nat))(k:Nat):AU n (Ga after) k=AU n (gw [] after) k:=by simp only[AU,Ck]
def J3(after:List (List Nat)):∀l,oT (Ga after) l=oT (gw [] after) l
 |[]=>rfl
 |u::l=>by simp only[oT,Ck,J3 after l]
def tO:∀(k:Nat) (L:List Nat),L.Nodup->(∀x∈L,x<k)->L.length<=k
 |0,L,_,h=>by cases L with|nil=>simp|cons x L=>exact absurd (h x (by simp)) (Nat.not_lt_zero _)
 |k+1,L,hn,h=>by
  by_cases b:k∈L
  .have:=tO k (L.erase k) (hn.erase k) λx a=>by grind
   grind
  .have:=tO k L hn λx a=>by grind
   omega
section
variable {P:Program} {c:Ctx} {w:World} {a:Act}
theorem H5{a:List (List Nat)}:∀{l1 l2:List (Nat×Bool)} {o:Nat×Bool},oT a (l1++o::l2)=true->∀u∈l1,((a.getD o.1 []).contains u.1=true\/u.2=true)
 |[],_,_,_,u,b=>by grind
 |v::l1,l2,o,h,u,b=>by
  simp only[al_,oT,f_,p_,as_]at h;rcases T_.1 b with rfl|b;.grind
  .exact H5 h.2 u b
theorem EU{a:List (List Nat)}:∀{l1 l2:List (Nat×Bool)} {o:Nat×Bool},oT a (l1++o::l2)=true->oT a (l1++l2)=true
 |[],l2,o,h=>by simp only[aw_,oT,f_]at h⊢;grind
 |v::l1,l2,o,h=>by simp only[al_,oT,f_,p_]at h⊢;exact⟨λx b=>h.1 x (by grind),EU h.2⟩
theorem LF{id n k ml:Nat}{ops:Array Oper}{s:List bc}{after:List (List Nat)}{l:List (Nat×Bool×bc)}(hm:P.follows .mixedOrders=true)(hn:c.n=n)(Fm:c.th.length<=ml)(hc:qQ P n ops ops.toList s)(Th:after=qL ops)(H:Ay after=true) (RK:AU s.length (gw [] after) k=true) (DQ:k<=s.length) (A:oT (gw [] after) (l.map λu=>(u.1,u.2.1))=true) (Fk:∀u∈l,u.1<k/\s[u.1]? =some u.2.2) (GS:(l.map (·.1)).Nodup) (SW:l.length=k) {st:St} {K KP:St->Prop} {KC:Prop} {Q:Exit->Act->World->Prop} (h:rO P (λi j=> !((gw [] after).getD j []).contains i) (λst=>j0 P ml (s.drop k) st K KP) KC [] l st) (hr:i8 c st a w) (hQ:∀a w,(∃f,K f/\i8 c f a w)->Q .normal a w) (hP:∀Y a w,(qH Y/\∃f,KP f/\i8 c f a w)->Q (.panic Y) a w) (Pc:KC->∀Y a w,(qH Y/\∃f,i8 c f a w)->Q (.panic Y) a w):(Code.region id ops true).wp P Q a w:=by
 obtain⟨Rg,wr⟩:=te hc;have hsz:ops.size=s.length:=by omega
 have Vc:after.length=s.length:=by grind[qL]
 have rg:∀(i:Nat) (o:Oper),ops[i]? =some o->after[i]? =some ((o.after.toList.filter (Region.binds .any)).map (·.on)):=λi o ho=>by grind[qL]
 have y:∀(d:Array Bool) (i:Nat),d.size=s.length->(i∈Region.ready .any ops d↔i<s.length/\d.getD i true=false/\∀l:List Nat,after[i]? =some l->∀e∈l,d.getD e false=true):=by
  intro d i p;unfold Region.ready;simp only[av_,J_,f_,R_,hsz];constructor;.rintro⟨h1,h2,h3⟩;refine⟨h1,h2,λl hl e B=>?_⟩;have ho:ops[i]? =some ops[i]:=z_ (by omega);rw[rg i _ ho]at hl;cases hl;rw[ho]at h3;simp only[M_,D_,af_]at h3;grind
  .rintro⟨h1,h2,h3⟩;refine⟨h1,h2,?_⟩;have ho:ops[i]? =some ops[i]:=z_ (by omega);rw[ho];simp only[M_,D_,af_];intro ed Wf;by_cases O:Region.binds .any ed=true;.have:=h3 _ (rg i _ ho) ed.on (C_.2 ⟨ed,av_.2 ⟨by grind,O⟩,rfl⟩);grind
   grind
 have At:∀i j,i<j->j<s.length->k<=j->((gw [] after).getD j []).contains i=true:=by intro i j n6 hj PJ;simp only[AU,p_,J_,as_,decide_eq_true_eq]at RK;grind
 have N:∀(m j:Nat) (d:Array Bool) (f:St) (a:Act) (w:World),j<=s.length->s.length<=j+m->k<=j->d.size=s.length->(∀i,i<s.length->d.getD i false=decide (i<j))->j0 P ml (s.drop j) f K KP->i8 c f a w->wpAny P .any ops Q m d a w:=by
  have fin:∀(d:Array Bool) (f:St) (a:Act) (w:World),d.size=s.length->(∀i,i<s.length->d.getD i false=decide (i<s.length))->j0 P ml (s.drop s.length) f K KP->i8 c f a w->Region.ready .any ops d=[]/\Q .normal a w:=by intro d f a w p r hs hr;rw[List.drop_length]at hs;simp only[j0]at hs;obtain⟨st1,CT,hs⟩:=hs;refine⟨?_,hQ a w ⟨st1,hs,CT _ _ _ Fm hr⟩⟩;apply List.eq_nil_iff_forall_not_mem.2;grind
  intro m
  induction m with
  |zero=>
   intro j d f a w hj hm _ p r hs hr;have Bx:j=s.length:=by omega
   subst Bx;exact fin d f a w p r hs hr
  |succ m ih=>
   intro j d f a w hj hm PJ p r hs hr;rcases aj_ j s.length with E|E;case inr=>
    have Bx:j=s.length:=by omega
    subst Bx;obtain⟨f1,f2⟩:=fin d f a w p r hs hr;exact⟨λ_=>f2,λi C=>by rw[f1]at C;cases C⟩
   have DM:∀i,i<s.length->d.getD i true=decide (i<j):=λi C=>by
    have h4:i<d.size:=by omega
    have:=r i C;simp[h4]at this⊢;omega
   have JT:∀i,i∈Region.ready .any ops d↔i=j:=by
    intro i;rw[y d i p];constructor
    .rintro⟨h1,h2,h3⟩;rw[DM i h1]at h2;simp only[decide_eq_false_iff_not,Nat.not_lt]at h2;rcases aj_ j i with h4|h4
     .rcases(Or.inl (At j i h4 h1 (by omega)):_\/False)with h5|h5
      .have el:=nf H (S:=λx=>x<j\/x=i) (λx l hl R e B=>by
        have g:=H;simp only[Ay,p_,J_,decide_eq_true_eq]at g;have Dg:=(c_.1 hl).1;have DH:=g x Dg e (by simpa[P_,hl]using B);rcases R with R|rfl;.omega
        .have:=h3 l hl e B;rw[r e (by omega)]at this;exact .inl (by simpa using this)) i i j (Z_ _) (.inr rfl) h5 (by omega)
       omega
      .exact h5.elim
     omega
    .rintro rfl;refine⟨E,by rw[DM _ E];simp,λl hl e B=>?_⟩;have g:=H;simp only[Ay,p_,J_,decide_eq_true_eq]at g;have Dg:=(c_.1 hl).1;have DH:=g i Dg e (by simpa[P_,hl]using B);rw[r e (by omega)];simpa using DH
   refine⟨λh0=>?_,λi C=>?_⟩;.have:=(JT j).2 rfl;rw[h0]at this;cases this
   .have:=(JT i).1 C;subst this;have ho:ops[i]? =some ops[i]:=z_ (by omega);have RT:=k_ E;have Bk:=wr i _ _ (by rw[X_];omega) RT;rw[F_ E]at hs;simp only[j0]at hs;obtain⟨st1,CT,hs⟩:=hs;obtain⟨θ,D,hI⟩:=CT _ _ _ Fm hr;have:=nT hI hn Bk hs (λa' w'=>wpAny P .any ops Q m (d.setIfInBounds i true) a' w') Q (λa' w' ⟨I,h1,h2⟩=>
     ih (i+1) _ I a' w' (by omega) (by omega) (by omega) (by simpa using p) (λx R=>by
      rw[d9 p (by omega),r x R];by_cases Pb:x=i;.subst Pb;simp
      .rw[if_neg Pb];apply decide_eq_decide.2;omega) h1 h2) (λY w' hp=>hP Y a w' hp)
    unfold wpOp;grind
 have DB:∀i,i<k->i∈l.map (·.1):=by
  intro i C;refine A_ λhn=>?_;have:=tO k (i::l.map (·.1)) (ax_.2 ⟨hn,GS⟩) λx R=>by
   rcases T_.1 R with rfl|R;.omega
   .obtain⟨u,U,rfl⟩:=C_.1 R;grind
  grind
 have g:=H;simp only[Ay,p_,J_,decide_eq_true_eq]at g;have qr:∀(m:Nat) (l':List (Nat×Bool×bc)) (d:Array Bool) (f:St) (a:Act) (w:World),d.size=s.length->(∀i,i<s.length->(d.getD i false=true↔i<k/\i∉l'.map (·.1)))->l'.Sublist l->oT (gw [] after) (l'.map λu=>(u.1,u.2.1))=true->(∀(i:Nat) (l:List Nat),after[i]? =some l->d.getD i false=true->∀e∈l,d.getD e false=true)->s.length+l'.length<=k+m->rO P (λi j=> !((gw [] after).getD j []).contains i) (λst=>j0 P ml (s.drop k) st K KP) KC [] l' f->i8 c f a w->wpAny P .any ops Q m d a w:=by
  intro m
  induction m with
  |zero=>
   intro l' d f a w p r M A el J hs hr;cases l' with
   |cons u l'=>simp only[U_]at J;omega|nil=>
    obtain⟨DA,B,hk⟩:=hs;refine N 0 k d DA a w DQ (by omega) (Z_ _) p (λi C=>?_) hk (i8.congr B.1 B.2 hr);have:=r i C;simp only[N_,ao_,not_false_eq_true,and_true]at this;cases O:d.getD i false with
    |true=>simp[this.1 O]|false=>
     have:¬i<k:=λh=>by have:=this.2 h;rw[O]at this;cases this
     omega
  |succ m ih=>
   intro l' d f a w p r M A el J hs hr;cases gc:l' with
   |nil=>
    subst gc;obtain⟨DA,B,hk⟩:=hs;refine N (m+1) k d DA a w DQ (by omega) (Z_ _) p (λi C=>?_) hk (i8.congr B.1 B.2 hr);have:=r i C;simp only[N_,ao_,not_false_eq_true,and_true]at this;cases O:d.getD i false with
    |true=>simp[this.1 O]|false=>
     have:¬i<k:=λh=>by have:=this.2 h;rw[O]at this;cases this
     simp[this]
   |cons q l0=>
    have Nd:∀i,i<s.length->d.getD i true=d.getD i false:=λi C=>by
     have h4:i<d.size:=by omega
     simp[h4]
    have F:∀u∈l',u.1<k/\s[u.1]? =some u.2.2:=λu U=>Fk u (M.subset U);have CD:∀u∈l',d.getD u.1 false=false:=λu U=>by cases O:d.getD u.1 false with|false=>rfl|true=>exact absurd (C_.2 ⟨u,U,rfl⟩) ((r u.1 (by have:=(F u U).1;omega)).1 O).2
    have hq:q∈l':=by rw[gc];simp
    have ur:∀i,i<s.length->(∀l:List Nat,after[i]? =some l->∀e∈l,d.getD e false=true)->∀j,((gw [] after).getD i []).contains j=true->j=i\/d.getD j false=true:=λi C h3 j hj=>
     nf H (S:=λx=>x=i\/d.getD x false=true) (λx l hl R e B=>by
      rcases R with rfl|R;.exact .inr (h3 l hl e B)
      .exact .inr (el x l hl R e B)) i i j (Z_ _) (.inl rfl) hj (by omega)
    refine⟨λh0=>?_,λi C=>?_⟩
    .have RM:=(F q hq).1;have:q.1∈Region.ready .any ops d:=(y d q.1 p).2 ⟨by omega,by rw[Nd _ (by omega)];exact CD q hq,λlq DS e B=>by
      have WD:=g q.1 (by omega) e (by simpa[P_,DS]using B);cases O:d.getD e false with
      |true=>rfl|false=>
       exfalso;have DE:e∈l'.map (·.1):=A_ λhn=>by have:=(r e (by omega)).2 ⟨by omega,hn⟩;rw[O]at this;cases this
       rw[gc,l_]at DE;rcases T_.1 DE with h1|h1;.omega
       .obtain⟨u,U,rfl⟩:=C_.1 h1;rw[gc,l_,oT,f_,p_]at A;have:=A.1 (u.1,u.2.1) (C_.2 ⟨u,U,rfl⟩);simp only[f_,R_]at this;have hg:=xw after [] q.1 lq DS;simp only[au_,Nat.zero_add]at hg;have h2:((gw [] after).getD q.1 []).contains u.1=true:=by rw[hg];simp only[List.contains_iff_mem,d_];exact⟨u.1,B,by simp⟩
        rw[h2]at this;exact absurd this.1 (by simp)⟩
     rw[h0]at this;cases this
    .obtain⟨r1,r2,r3⟩:=(y d i p).1 C;rw[Nd i r1]at r2;have DP:i<k:=by
      apply A_;intro n7;have RM:=(F q hq).1;rcases ur i r1 r3 q.1 (At q.1 i (by omega) r1 (by omega))with h1|h1;.omega
      .rw[CD q hq]at h1;cases h1
     have PB:i∈l'.map (·.1):=A_ λhn=>by have:=(r i r1).2 ⟨DP,hn⟩;rw[r2]at this;cases this
     obtain⟨u,U,Pa⟩:=C_.1 PB;obtain⟨l1,l2,z⟩:=List.append_of_mem U;obtain⟨i',b,o⟩:=u;simp only at Pa;subst Pa;have L:(l'.map (·.1)).Nodup:=(M.map _).nodup GS;have Hx:∀v∈l1,v.2.1=true/\(!((gw [] after).getD i' []).contains v.1)=true:=λv hv=>by
      have SM:v∈l':=by rw[z];exact r_.2 (.inl hv)
      have Fr:((gw [] after).getD i' []).contains v.1=false:=by
       cases O:((gw [] after).getD i' []).contains v.1 with
       |false=>rfl|true=>
        rcases ur i' r1 r3 v.1 O with h1|h1;.rw[z,q_,l_]at L;have:=(ai_.1 L).2.2 v.1 (C_.2 ⟨v,hv,rfl⟩) i' (by simp);omega
        .rw[CD v SM]at h1;cases h1
      refine⟨?_,by rw[Fr];rfl⟩;rw[z,q_,l_]at A;rcases H5 A (v.1,v.2.1) (C_.2 ⟨v,hv,rfl⟩)with h1|h1;.simp only at h1;rw[Fr]at h1;cases h1
      omega
     rw[z]at hs;have hh:=(zbw l1 [] f hs Hx).2;have So:iD P o f (λf=>rO P (λi j=> !((gw [] after).getD j []).contains i) (λst=>j0 P ml (s.drop k) st K KP) KC [] (l1++l2) f) λ_=>KC:=by
      cases b with
      |true=>obtain⟨G,g1,g2⟩:=hh;exact G8 g1 g2
      |false=>exact rP hh (λ_ h=>h.2) λ_ h=>h
     have MT:=(F _ U).2;simp only at MT;have ho:ops[i']? =some ops[i']:=z_ (by omega);have Bk:=wr i' _ _ (by rw[X_];omega) MT;obtain⟨θ,D,hI⟩:=hr;have:=nT (hp:=λY w' ⟨PA,I,hk,KK⟩=>Pc hk Y _ _ ⟨PA,I,KK⟩) hI hn Bk So (λa' w'=>wpAny P .any ops Q m (d.setIfInBounds i' true) a' w') Q (λa' w' ⟨I,h1,h2⟩=>by
      have BT:(l1++l2).Sublist l':=by rw[z];simp
      refine ih (l1++l2) _ I a' w' (by simpa using p) (λj hj=>?_) (BT.trans M) ?_ (λj lj ph E e B=>?_) ?_ h1 h2
      .rw[d9 p r1];have ph:=r j hj;by_cases T:j=i'
       .subst T;simp only[if_true,true_iff];refine⟨DP,λhm=>?_⟩;rw[z,q_,l_]at L;obtain⟨n1,n2,n3⟩:=ai_.1 L;rw[q_]at hm;rcases r_.1 hm with h5|h5;.exact n3 _ h5 j (by simp) rfl
        .exact(ax_.1 n2).1 h5
       .rw[if_neg T,ph,z];simp only[q_,l_,r_,T_,T,false_or]
      .rw[z,q_,l_]at A;rw[q_];exact EU A
      .rw[d9 p r1]at E⊢;split at E
       .rename_i T;subst T;split;.rfl
        .exact r3 lj ph e B
       .split;.rfl
        .exact el j lj ph E e B
      .rw[z]at J;simp only[H_,U_]at J⊢;omega)
     unfold wpOp;rw[ho];simp only;split;.rename_i hw;rw[if_pos hw]at this;exact .inl this
     .rename_i hw;rw[if_neg hw]at this;omega
 refine wp_region_any hm ?_;obtain⟨θ,D,hI⟩:=hr;refine qr ops.size l (v_ ops.size false) st a {w with drawn:=w.drawn+1} (by simp[hsz]) (λi C=>?_) (List.Sublist.refl _) A (λi l hl h2=>by
  have C:i<ops.size:=by have:=(c_.1 hl).1;omega
  simp[C]at h2) (by omega) h ⟨θ,D,hI.drew⟩
 have:(v_ ops.size false).getD i false=false:=by simp[hsz,C]
 rw[this];constructor;.simp
 .rintro⟨h1,h2⟩;exact absurd (DB i h1) h2
end
inductive AC where
 |skip
 |region (ops:List bc)
 |draw (k:Nat) (ops:List bc) (after:List (List Nat))
 |ke (ord:List (Nat×Bool)) (ops:List bc) (after:List (List Nat))
 |seq (a b:AC)
 |cond (c:SX) (thn els:AC)
 |block (id:Nat) (body:AC)
 |loop (body:AC)
 |exit (id:Nat)
 |ret
 deriving Inhabited
def ZB(n:Nat)(d:Option Nat):Bool:=match d with
 |some k=>decide (k<n)
 |none=>true
def uv(P:Program)(n:Nat)(ops:Array Oper)(o:Oper):Option bc:=
 (gX P o).bind λs=>
  if(ZB n o.dst&&sOk P o)=true then
   match o.guard with
   |none=>some ⟨o.dst,s,none⟩
   |some (j,want)=>((ops[j]?).bind (·.dst)).map λt=>⟨o.dst,s,some (t,want)⟩
  else none
def cw(P:Program)(n:Nat):Code->Option AC
 | .skip=>some .skip
 | .region _ ops e=>(ops.toList.mapM (uv P n ops)).map λd=>if e then .draw 0 d (qL ops)else .region d
 | .seq a b=>(cw P n a).bind λx=>(cw P n b).map λy=>.seq x y
 | .cond c a b=>(cw P n a).bind λx=>(cw P n b).map λy=>.cond (.of c) x y
 | .block id a=>(cw P n a).map (.block id)
 | .loop a=>(cw P n a).map .loop
 | .exit id=>some (.exit id)
 | .ret=>some .ret
 |_=>none
def bc.canon(o:bc):bc:={o with op:=o.op.canon}
def AC.canon:AC->AC
 | .region ops=>.region (ops.map bc.canon)
 | .draw _ ops af=>.draw 0 (ops.map bc.canon) af
 | .ke _ ops af=>.draw 0 (ops.map bc.canon) af
 | .seq a b=>.seq a.canon b.canon
 | .cond c a b=>.cond c a.canon b.canon
 | .block id a=>.block id a.canon
 | .loop a=>.loop a.canon
 |x=>x
def AC.okB:AC->Bool
 | .draw k ops af=>Ay af&&zZ ops (Ga af) k&&decide (k<=ops.length)
 | .ke ord ops af=>Ay af&&AU ops.length (Ga af) ord.length&&decide (ord.length<=ops.length)&&oT (Ga af) ord&&ord.all (λu=>decide (u.1<ord.length))&&decide (ord.map (·.1)).Nodup
 | .seq a b=>a.okB&&b.okB
 | .cond _ a b=>a.okB&&b.okB
 | .block _ a=>a.okB
 | .loop a=>a.okB
 |_=>true
inductive AE where
 |normal
 |exit (id:Nat)
 |ret
 |jv
def AE.then(m:Nat)(f:St->Prop)(Q:AE->St->Prop):AE->St->Prop
 | .normal,s=>W m f s
 |e,s=>Q e s
def AE.inBlock(id:Nat)(Q:AE->St->Prop):AE->St->Prop
 | .exit i,s=>if i=id then Q .normal s else Q (.exit i) s
 |e,s=>Q e s
def La(m:Nat)(body:(AE->St->Prop)->St->Prop)(Q:AE->St->Prop):Nat->St->Prop
 |0,_=>False
 |n+1,st=>body (AE.then m (La m body Q n) Q) st
def Ky(P:Program)(m:Nat):AC->(AE->St->Prop)->St->Prop
 | .skip,Q,st=>W m (Q .normal) st
 | .region d,Q,st=>j0 P m d st (Q .normal) (Q .jv)
 | .draw k d _,Q,st=>W m (λst=>y5 P m k d st (Q .normal) (Q .jv)) st
 | .ke ord d af,Q,st=>W m (λst=>rO P (λi j=> !((gw [] af).getD j []).contains i) (λst=>j0 P m (d.drop ord.length) st (Q .normal) (Q .jv)) (∀s,Q .jv s) [] (ord.map λu=>(u.1,u.2,d.getD u.1 default)) st) st
 | .seq a b,Q,st=>Ky P m a (AE.then m (Ky P m b Q) Q) st
 | .cond c a b,Q,st=>W m (λst=>aS (st.get c) λv=>zo v λv=>isBool v λt=>(t=true->Ky P m a Q st)/\(t=false->Ky P m b Q st)) st
 | .block id a,Q,st=>Ky P m a (AE.inBlock id Q) st
 | .loop a,Q,st=>W m (λs=>∃n,La m (Ky P m a) Q n s) st
 | .exit id,Q,st=>W m (Q (.exit id)) st
 | .ret,Q,st=>W m (Q .ret) st
def AE.is:AE->Exit->Prop
 | .normal,e=>e= .normal
 | .exit i,e=>e= .exit i
 | .ret,e=>e= .ret
 | .jv,e=>∃C,qH C/\e= .panic C
def X7{x:AC}(h:AC.skip=x.canon):x= .skip:=by cases x<;>simp_all[AC.canon]
def Sd{x:AC}{s:List bc}(h:AC.region s=x.canon):∃a,x= .region a/\s=a.map bc.canon:=by cases x<;>simp_all[AC.canon]
def X4{x:AC}{s:List bc}{af:List (List Nat)}(h:AC.draw 0 s af=x.canon):(∃k a,x= .draw k a af/\s=a.map bc.canon)\/∃ord a,x= .ke ord a af/\s=a.map bc.canon:=by cases x<;>simp_all[AC.canon];all_goals grind
def zab{x p q:AC}(h:AC.seq p q=x.canon):∃a b,x= .seq a b/\p=a.canon/\q=b.canon:=by cases x<;>simp_all[AC.canon];grind
def X3{x p q:AC}{s:SX}(h:AC.cond s p q=x.canon):∃a b,x= .cond s a b/\p=a.canon/\q=b.canon:=by cases x<;>simp_all[AC.canon];grind
def UN{x p:AC}{i:Nat}(h:AC.block i p=x.canon):∃a,x= .block i a/\p=a.canon:=by cases x<;>simp_all[AC.canon]
def X6{x p:AC}(h:AC.loop p=x.canon):∃a,x= .loop a/\p=a.canon:=by cases x<;>simp_all[AC.canon]
def X5{x:AC}{i:Nat}(h:AC.exit i=x.canon):x= .exit i:=by cases x<;>simp_all[AC.canon]
def zaa{x:AC}(h:AC.ret=x.canon):x= .ret:=by cases x<;>simp_all[AC.canon]
section
variable {P:Program} {c:Ctx}
def Sx(c:Ctx)(Q:AE->St->Prop):Exit->Act->World->Prop:=λe a w=>∃b st,AE.is b e/\Q b st/\i8 c st a w
theorem HA{m:Nat}(l:c.th.length<=m){f:St->Prop}{Q:AE->St->Prop}{e:Exit}{a:Act}{w:World}(h:Sx c (AE.then m f Q) e a w):Exit.then (λa w=>∃st,f st/\i8 c st a w) (Sx c Q) e a w:=by
 obtain⟨k,st,b,d,hr⟩:=h;cases k with
 |normal=>cases b;obtain⟨s',h1,h2⟩:=d;exact⟨s',h2,h1 _ _ _ l hr⟩
 |exit i=>cases b;exact⟨.exit i,st,rfl,d,hr⟩|ret=>cases b;exact⟨.ret,st,rfl,d,hr⟩|jv=>obtain⟨j,g,rfl⟩:=b;exact⟨.jv,st,⟨j,g,rfl⟩,d,hr⟩
theorem OA{id:Nat}{Q:AE->St->Prop}{e:Exit}{a:Act}{w:World}(h:Sx c (AE.inBlock id Q) e a w):Exit.inBlock id (Sx c Q) e a w:=by
 obtain⟨j,st,d,b,hr⟩:=h;cases j with
 |normal=>cases d;exact⟨.normal,st,rfl,b,hr⟩|exit i=>
  cases d;simp only[Exit.inBlock];simp only[AE.inBlock]at b;split;.rename_i h;rw[if_pos h]at b;exact⟨.normal,st,rfl,b,hr⟩
  .rename_i h;rw[if_neg h]at b;exact⟨.exit i,st,rfl,b,hr⟩
 |ret=>cases d;exact⟨.ret,st,rfl,b,hr⟩|jv=>obtain⟨g,f,rfl⟩:=d;exact⟨.jv,st,⟨g,f,rfl⟩,b,hr⟩
theorem Jb{n:Nat}{ops:Array Oper}{o:Oper}{s:bc}(h:uv P n ops o=some s.canon):td P n ops o s:=by
 unfold uv at h;simp only[g_]at h;obtain⟨a,h1,h2⟩:=h;split at h2;.grind[ZB,td,bc.canon,i_]
 grind
theorem oy{n:Nat}{ops:Array Oper}:∀{l:List Oper} {a:List bc},l.mapM (uv P n ops)=some (a.map bc.canon)->qQ P n ops l a
 |[],a,h=>by simp at h;cases a with|nil=>trivial|cons s a=>grind
 |o::l,a,h=>by simp only[o_,s_,B_,g_,b_]at h;obtain⟨s',h1,m,h2,b⟩:=h;cases a with|nil=>grind|cons s a=>simp only[l_,List.cons.injEq]at b;obtain⟨rfl,rfl⟩:=b;exact⟨Jb h1,oy h2⟩
theorem uk(N:P.follows .mixedOrders=true){n m:Nat}(hn:c.n=n)(f:c.th.length<=m):∀(code:Code) (x:AC) (Q:AE->St->Prop) (st:St) (a:Act) (w:World),cw P n code=some x.canon->x.okB=true->Ky P m x Q st->i8 c st a w->code.wp P (Sx c Q) a w:=by
 intro code;induction code with
 |skip=>intro x Q st a w hc b h hr;simp only[cw,b_]at hc;cases X7 hc;obtain⟨s',h1,h2⟩:=h;exact wp_skip ⟨.normal,s',rfl,h2,h1 _ _ _ f hr⟩
 |region id ops T=>
  intro x Q st a w hc b h hr;simp only[cw,i_]at hc;obtain⟨el,z,hc⟩:=hc;cases T;.simp only[ag_,if_false]at hc;obtain⟨I,rfl,rfl⟩:=Sd hc;exact J9 hn f (oy z) h hr (λa w ⟨d,h1,h2⟩=>⟨.normal,d,rfl,h1,h2⟩) (λv a w ⟨g,d,h1,h2⟩=>⟨.jv,d,⟨v,g,rfl⟩,h1,h2⟩)
  .simp only[if_true]at hc;rcases X4 hc with⟨k,I,rfl,rfl⟩|⟨ord,I,rfl,rfl⟩
   rotate_left
   .simp only[AC.okB,LG,NA,J3,f_,decide_eq_true_eq,p_]at b;obtain⟨⟨⟨⟨⟨o1,o2⟩,o3⟩,o4⟩,o5⟩,o6⟩:=b;obtain⟨H,r,h⟩:=h;refine LF (l:=ord.map λu=>(u.1,u.2,I.getD u.1 default)) N hn f (oy z) rfl o1 o2 o3 ?_ (λu hu=>?_) ?_ (by simp) h (r _ _ _ f hr) (λa w ⟨d,h1,h2⟩=>⟨.normal,d,rfl,h1,h2⟩) (λv a w ⟨g,d,h1,h2⟩=>⟨.jv,d,⟨v,g,rfl⟩,h1,h2⟩) λU v a w ⟨g,d,h2⟩=>⟨.jv,d,⟨v,g,rfl⟩,U d,h2⟩;.rw[aC_];have:((λu:Nat×Bool×bc=>(u.1,u.2.1))∘λu:Nat×Bool=>(u.1,u.2,I.getD u.1 default))=λu=>u:=rfl;grind[List.map_id']
    all_goals grind
   simp only[AC.okB,LG,NA,J3,f_,decide_eq_true_eq]at b;obtain⟨H,r,h⟩:=h;exact OF N hn f (oy z) rfl b.1.1 b.1.2 b.2 h (r _ _ _ f hr) (λa w ⟨d,h1,h2⟩=>⟨.normal,d,rfl,h1,h2⟩) (λv a w ⟨g,d,h1,h2⟩=>⟨.jv,d,⟨v,g,rfl⟩,h1,h2⟩)
 |seq p q j A=>intro x Q st a w hc b h hr;simp only[cw,g_,i_]at hc;obtain⟨M,h1,x2,h2,hc⟩:=hc;obtain⟨R,y2,rfl,rfl,rfl⟩:=zab hc;simp only[AC.okB,f_]at b;refine wp_seq (wp_mono (j _ _ st a w h1 b.1 h hr) λe a w E=>?_);have:=HA f E;cases e<;>first|(obtain⟨d,B,C⟩:=this;exact A _ _ d a w h2 b.2 B C)|exact this
 |cond cc p q j A=>intro x Q st a w hc b h hr;simp only[cw,g_,i_]at hc;obtain⟨M,h1,x2,h2,hc⟩:=hc;obtain⟨R,y2,rfl,rfl,rfl⟩:=X3 hc;simp only[AC.okB,f_]at b;obtain⟨H,r,av,L,Y⟩:=h;obtain⟨θ,D,J⟩:=(r _ _ _ f hr);obtain⟨t,ht,B,C⟩:=c9 (J.get L) Y;exact wp_cond_split ht (λe=>j _ _ H a w h1 b.1 (B e) ⟨θ,D,J⟩) (λe=>A _ _ H a w h2 b.2 (C e) ⟨θ,D,J⟩)
 |block id p j=>intro x Q st a w hc b h hr;simp only[cw,i_]at hc;obtain⟨M,h1,hc⟩:=hc;obtain⟨R,rfl,rfl⟩:=UN hc;exact wp_block (wp_mono (j _ _ st a w h1 b h hr) λe a w E=>OA E)
 |loop p j=>
  intro x Q st a w hc b h hr;simp only[cw,i_]at hc;obtain⟨M,h1,hc⟩:=hc;obtain⟨y,rfl,rfl⟩:=X6 hc;obtain⟨s0,hw,O,h⟩:=h;have key:∀(F:Nat) (s:St) (a:Act) (w:World),La m (Ky P m y) Q F s->i8 c s a w->Code.rounds P p (Sx c Q) F a w:=by intro F;induction F with|zero=>intro s a w h _;exact h.elim|succ F ih=>intro s a w h hr;refine wp_mono (j _ _ s a w h1 b h hr) λe a w E=>?_;have:=HA f E;cases e<;>first|(obtain⟨d,B,C⟩:=this;exact ih d a w B C)|exact this
  exact wp_loop_rounds O (key O s0 a w h (hw _ _ _ f hr))
 |exit id=>intro x Q st a w hc b h hr;simp only[cw,b_]at hc;cases X5 hc;obtain⟨s',h1,h2⟩:=h;exact wp_exit ⟨.exit id,s',rfl,h2,h1 _ _ _ f hr⟩
 |ret=>intro x Q st a w hc b h hr;simp only[cw,b_]at hc;cases zaa hc;obtain⟨s',h1,h2⟩:=h;exact wp_ret ⟨.ret,s',rfl,h2,h1 _ _ _ f hr⟩
 |rangeFunc=>intro x Q st a w hc;cases hc|scope=>intro x Q st a w hc;cases hc|label=>intro x Q st a w hc;cases hc|goto=>intro x Q st a w hc;cases hc|refuse=>intro x Q st a w hc;cases hc
end
inductive RV where
 |tm (k:Nat)
 |cell (k sz:Nat) (ag:Bool)
def ka(P:Program):ResultVar->Option RV
 | .tmp t=>some (.tm t)
 | .cell a t=>(ca P t).bind λs=>if(P.underlying t).isSome then some (.cell a s (ip P t))else none
def G4(st:St):RV->Option AV
 | .tm k=>look st.fr k
 | .cell k sz ag=>(look st.fr k).bind fun
  | .b (.ptr id off)=>match st.hp[id]? with
   |some (.box _ cs)=>if off+sz<=cs.length/\(ag=false->sz=1)then some (mJ ag ((cs.drop off).take sz))else none
   |_=>none
  |_=>none
def Md:List AV->AV->Prop
 |[x],r=>r=x
 |xs,r=>∃a:List BV,r= .dP a/\a.length=xs.length/\∀(i:Nat) (x:AV) (b:BV),xs[i]? =some x->a[i]? =some b->x= .b b\/∃p,x.bG=some p/\b= .pv p
def sU:Nat->List AV->List (Nat×AV)
 |_,[]=>[]
 |k,p::a=>(k,p)::sU (k+1) a
def wU:∀(a:List AV) (k t:Nat) (x:AV),look (sU k a) t=some x->∃i,t=k+i/\a[i]? =some x
 |[],k,t,x,h=>by cases h
 |p::a,k,t,x,h=>by
  simp only[sU,look]at h;split at h;.rename_i h1;cases h;exact⟨0,by omega,rfl⟩
  .obtain⟨i,h1,h2⟩:=wU a (k+1) t x h;exact⟨i+1,by omega,by grind⟩
def Bm(m:Nat)(c:List RV)(K:C3->Prop):AE->St->Prop
 | .exit _,_=>False
 | .jv,_=>K none
 |_,st=>W m (λst=>∃xs r,c.mapM (G4 st)=some xs/\Md xs r/\∃b a,(∀T,f8 m ⟨[(T,r)],st.hp⟩ ⟨[(T,b)],a⟩)/\K (some (b,a))/\m<=a.length) st
def AQ(tmps:Array Value)(r:ResultVar):Sem Value:=match r with
 | .tmp t=>pure (tmps.getD t undef)
 | .cell b t=>do loadVar t (<-asAddr (tmps.getD b undef))
def Fj(fn:Func)(tmps:Array Value):results fn tmps=(do let vs<-fn.results.mapM (AQ tmps);pure (if h:vs.size=1 then vs[0]else .tuple vs)):=rfl
def Ng{P:Program}{c:Ctx}{θ:List Loc}{D:Nat->Prop}{st:St}{a:Act}{w:World}(l:Inv c θ D st a w){r:ResultVar}{p:RV}{x:AV}(hc:ka P r=some p)(hr:G4 st p=some x): ∃u,(AQ a.tmps r).run P w= .ok u w/\RelA θ D w u x:=by
 cases r with
 |tmp t=>simp only[ka,b_]at hc;subst hc;exact⟨_,rfl,l.fr t x hr⟩|cell b t=>
  simp only[ka,g_]at hc;obtain⟨s,hs,hc⟩:=hc;split at hc
  .rename_i hd;obtain⟨d,hd⟩:=Option.isSome_iff_exists.1 hd;cases hc;simp only[G4,g_]at hr;obtain⟨y,B,hr⟩:=hr;split at hr
   .rename_i id off;split at hr
    .rename_i C cs A;split at hr
     .rename_i e;cases hr;obtain⟨z,f⟩:=e;obtain⟨g,hg,F⟩:=l.fr b _ B;obtain⟨k,h1,h2,E⟩:=l.ok.fO id _ _ hg A;have h:off+s<=k.size:=by omega
      have n:=Bz (P:=P) (w:=w) (b:=g) (o:=off) hd hs (k.extract off (off+s)).toList (by grind) f (λj v H=>by rw[cell_of_row w g _ k C (0,0) h1];grind)
      rw[oW _ _ _ _ f h]at n;grind[mL,AQ,asAddr,Sem.run_bind,Sem.run_pure,Result.andThen_ok]
     grind
    grind
   grind
  grind
def M8{θ:List Loc}{D:Nat->Prop}{w:World}{a:List Value}{xs:List AV}{r:AV}(hl:a.length=xs.length)(h:∀(i:Nat) (u:Value) (x:AV),a[i]? =some u->xs[i]? =some x->RelA θ D w u x)(hr:Md xs r): RelA θ D w (if h:a.toArray.size=1 then a.toArray[0]else .tuple a.toArray) r:=by
 have c:xs.length≠1->(∃e:List BV,r= .dP e/\e.length=xs.length/\∀(i:Nat) (x:AV) (b:BV),xs[i]? =some x->e[i]? =some b->x= .b b\/∃p,x.bG=some p/\b= .pv p)->RelA θ D w (if h:a.toArray.size=1 then a.toArray[0]else .tuple a.toArray) r:=by
  rintro h1 ⟨e,rfl,f,g⟩;rw[dif_neg (by grind)];refine⟨_,rfl,by grind,λi u b n j=>?_⟩;obtain⟨x,k⟩:=bC f.symm j;have d:=h i u x (by grind) k;rcases g i x b k j with rfl|⟨p,hp,rfl⟩;.exact d
  .exact cX d hp
 match xs,hl,h,hr with
 |[x],hl,h,hr=>
  subst hr
  match a,hl,h with|[u],_,h=>exact h 0 u r rfl rfl
 |[],_,_,hr=>exact c (by simp) hr|x::y::l,_,_,hr=>exact c (by simp) hr
def Sf{P:Program}{f:FuncId}{fn:Func}{code:Code}{x:AC}{M:List RV}{xs:List AV}{os:List aM}{K:C3->Prop}(hm:P.follows .mixedOrders=true)(hf:P.funcs[f]? =some fn)(N:fn.body=some code)(hc:cw P fn.ntmps code=some x.canon)(R:x.okB=true) (J:fn.results.toList.mapM (ka P)=some M) (Bx:xs.length<=fn.ntmps) (h:Ky P os.length x (Bm os.length M K) ⟨sU 0 xs,os⟩):eN P f xs os K:=by
 intro w θ D vs hG d CD CT;have B:θ.length=os.length:=d.len;have hO:∀b,D b->¬owns θ b:=λb N ⟨i,l,C,hl⟩=>(d.mX i l b C hl).2 N;refine calls_of_wp hf N (wp_mono (uk hm (m:=os.length) (c:=⟨fn.ntmps,w,D,owns θ,[],θ,λw' s=>?_⟩) rfl (by simp[B]) code x _ ⟨sU 0 xs,os⟩ {tmps:=vs.toArray++v_ (fn.ntmps - vs.toArray.size) undef,defers:=[]} w hc R h ?_) λe a w' H=>?_);.exact hG.mono s hO λ_ h=>h
 .refine⟨θ,D,by grind,rfl,d,m6.refl _ _,λ_ h=>h,λ_ h=>.inl h,λi l g C hg=>.inl ⟨i,l,C,hg⟩,λk y s=>?_,λ_ _ h _=>h⟩;obtain⟨i,rfl,hp⟩:=wU xs 0 k y s;have C:i<vs.length:=by grind
  have hv:=k_ C;have:(vs.toArray++v_ (fn.ntmps - vs.toArray.size) undef).getD (0+i) undef=vs[i]:=by simp[W_,C]
  grind
 .obtain⟨e',st,H,I,hr⟩:=H;have fin:(∀st,Bm os.length M K .normal st->True)->W os.length (λst=>∃xs r,M.mapM (G4 st)=some xs/\Md xs r/\∃E p,(∀T,f8 os.length ⟨[(T,r)],st.hp⟩ ⟨[(T,E)],p⟩)/\K (some (E,p))/\os.length<=p.length) st->a.defers=[]/\∃v,(results fn a.tmps).run P w'= .ok v w'/\Iv θ D w K (.returned v) w':=by
   rintro _ ⟨Bk,hw,ys,r,ur,L,E,p,rg,hK,BT⟩
   obtain⟨θ',D',j⟩:=hw _ _ _ (by grind) hr
   refine⟨j.defers,?_⟩
   have F:∀(l:List ResultVar) (rl:List RV) (pl:List AV),l.mapM (ka P)=some rl->rl.mapM (G4 Bk)=some pl->∃n:List Value,(l.mapM (AQ a.tmps)).run P w'= .ok n w'/\n.length=pl.length/\∀(i:Nat) (u:Value) (q:AV),n[i]? =some u->pl[i]? =some q->RelA θ' D' w' u q:=by intro l;induction l with|nil=>intro rl pl h1 h2;simp at h1;subst h1;simp at h2;subst h2;simp|cons r l ih=>intro rl pl h1 h2;simp only[o_,s_,B_,g_,b_]at h1;obtain⟨rv,qr,At,gc,rfl⟩:=h1;simp only[o_,s_,B_,g_,b_]at h2;obtain⟨q0,Y,wr,U,rfl⟩:=h2;obtain⟨u0,e1,e2⟩:=Ng j qr Y;obtain⟨n,e3,e4,e5⟩:=ih At wr gc U;refine⟨u0::n,?_,by grind,λi u q hu I=>?_⟩;all_goals grind[Sem.run_bind,Result.andThen_ok,Sem.run_pure]
   obtain⟨n,e1,e2,e3⟩:=F _ _ _ J ur
   have A:(results fn a.tmps).run P w'= .ok (if h:n.toArray.size=1 then n.toArray[0]else .tuple n.toArray) w':=by rw[Fj,Q_];simp only[Sem.run_bind,Sem.run_map];rw[e1];rfl
   have ph:=M8 e2 e3 L
   generalize hv:(if h:n.toArray.size=1 then n.toArray[0]else .tuple n.toArray)=v at A ph
   have hsz:a.tmps.size=fn.ntmps:=j.size
   obtain⟨θ2,D2,z⟩:=rg fn.ntmps ⟨fn.ntmps+1,w,D,owns θ,[],θ,λw' s=>hG.mono s hO λ_ h=>h⟩ {tmps:=a.tmps.push v,defers:=[]} w' (by grind)
    ⟨θ',D',by grind,rfl,j.ok,j.keep,j.lG,j.ng,j.jY,(λk y s=>by
     simp only[look]at s;split at s
     .rename_i Q;cases s;subst Q;have:(a.tmps.push v).getD fn.ntmps undef=v:=by rw[<-hsz];simp
      grind
     grind),j.fix⟩
   have el:RelA θ2 D2 w' v E:=by
    have:=z.fr fn.ntmps E (by simp[look]);have e:(a.tmps.push v).getD fn.ntmps undef=v:=by rw[<-hsz];simp
    grind
   exact⟨_,A,.inl ⟨_,E,p,θ2,D2,rfl,hK,el,z.ok,z.keep,z.lG,z.ng,z.jY,z.fix,by rw[z.ok.len,B];omega⟩⟩
  cases e' with|normal=>cases H;exact fin (λ_ _=>trivial) I|ret=>cases H;exact fin (λ_ _=>trivial) I|exit i=>exact I.elim|jv=>obtain⟨ch,O,rfl⟩:=H;obtain⟨θ',D',j⟩:=hr;exact⟨j.defers,.inr ⟨ch,O,rfl,I,j.keep⟩⟩
def Loc.tK(l l':Loc):Prop:=l'=l\/∃g n cap sz O C,l= .nw g n cap sz O/\l'= .nw g n cap sz C
section
variable {θ θ':List Loc} {D:Nat->Prop} {w:World}
theorem RelB.tK(E:∀(k:Nat) (l:Loc),θ[k]? =some l->∃l',θ'[k]? =some l'/\l.tK l'){v:Value}{x:BV}(h:RelB θ D w v x):RelB θ' D w v x:=by
 have same:∀(k:Nat) (l:Loc),θ[k]? =some l->l.fixed=true->θ'[k]? =some l:=λk l hl Y=>by
  obtain⟨l',h1,h2|⟨g,n,cap,sz,O,J,rfl,rfl⟩⟩:=E k l hl;.grind
  .cases Y
 cases x with
 |pv p=>exact h|om=>exact h|sl k=>
  obtain⟨l,h1,h2⟩:=h;obtain⟨l',C,rfl|⟨g,n,cap,sz,O,J,rfl,rfl⟩⟩:=E k l h1;.exact⟨l',C,h2⟩
  .exact⟨_,C,h2⟩
 |ptr k off=>obtain⟨g,h1,h2⟩:=h;exact⟨g,same _ _ h1 rfl,h2⟩
 |i6 k i off=>
  obtain⟨g,n,cap,sz,O,h1,h2⟩:=h;obtain⟨l',C,rfl|⟨g',n',I,el,O1,M,H,rfl⟩⟩:=E k _ h1;.exact⟨g,n,cap,sz,O,C,h2⟩
  .cases H;exact⟨g,n,cap,sz,M,C,h2⟩
 |kT f ids=>obtain⟨U,h1,h2,C⟩:=h;exact⟨U,h1,λk id g H N=>same _ _ (h2 k id g H N) rfl,C⟩
 |mp k=>obtain⟨g,h1,h2⟩:=h;exact⟨g,same _ _ h1 rfl,h2⟩
 |full p=>exact h|KF=>exact h
theorem RelA.tK(C:∀(k:Nat) (l:Loc),θ[k]? =some l->∃l',θ'[k]? =some l'/\l.tK l'){v:Value}{x:AV}(h:RelA θ D w v x):RelA θ' D w v x:=by
 cases x with
 |b x=>exact RelB.tK C h|agg xs=>obtain⟨vs,H,h1,h2⟩:=h;exact⟨vs,H,h1,λi u x E I=>(h2 i u x E I).tK C⟩
 |dP xs=>obtain⟨vs,H,h1,h2⟩:=h;exact⟨vs,H,h1,λi u x E I=>(h2 i u x E I).tK C⟩
theorem cJ.tK(C:∀(k:Nat) (l:Loc),θ[k]? =some l->∃l',θ'[k]? =some l'/\l.tK l'){l:Loc}{o:aM}(h:cJ θ D w l o):cJ θ' D w l o:=by
 cases l<;>cases o<;>simp only[cJ]at h⊢<;>try exact h
 case dX.box=>obtain⟨c,h1,h2,I⟩:=h;exact⟨c,h1,h2,λi u x hu J=>(I i u x hu J).tK C⟩
 case nw.tree hole=>obtain⟨h1,h2,I,U,Y,c,Os,h6,h7,h8,h9,H,E⟩:=h;refine⟨h1,h2,I,U,Y,c,Os,h6,h7,h8,h9,H,λi j x y J hy=>?_⟩;obtain⟨u,N,M⟩:=E i j x y J hy;refine⟨u,N,?_⟩;cases hq:dM hole i j with|none=>grind|some b=>rw[hq]at M;exact M.tK C
end
def I1:∀{k:K},k.Oa=true->∀j,k.at j=none
 | .e,_,_=>rfl
 | .f _,_,0=>rfl
 | .f r,h,j+1=>I1 (k:=r) h j
 | .s _ _ _ _,h,_=>by cases h
def kq(q:TypeId×Nat×K)(L:List PV):aM:=if q.2.2.Oa then .vec q.1 q.2.1 L else .tree q.1 q.2.1 q.2.2 L none
def kK.inner{D:Nat->Prop}{w:World}{q:TypeId×Nat×K}{O:Nat->Prop}{v:Value}{p:PV}{L:List PV}(h:kK D w (some q) O v p)(hp:p=kZ q.2.1 L): ∃l:Loc,l.head v/\(∀b,l.has b->O b)/\l.fixed=false/\∀θ,cJ θ D w l (kq q L):=by
 cases h with
 |nil q O a=>
  have:L=[]:=by cases L with|nil=>rfl|cons x L=>grind[kZ]
  subst this;refine⟨.nil a,rfl,λ_ h=>h.elim,rfl,λθ=>?_⟩;unfold kq;split;.rfl
  .exact⟨rfl,rfl⟩
 |nw e sz k O g cap xs p cs val Os J hcap hmax hsz hg hcs I hOs hdj hc hr=>
  have:xs=L:=Rb (J.symm.trans hp);subst this;refine⟨.nw g xs.length cap sz (λb=>O b/\b≠g),rfl,λb H=>H.elim (λe=>e▸I) λh=>h.1,rfl,λθ=>?_⟩;unfold kq;split;.rename_i M;refine⟨rfl,rfl,hcap,hmax,hsz,cs,hg,hcs,λi j x y C E=>⟨val i j,hc i j x y C E,?_⟩⟩;have:=hr i j x y C E;rw[I1 M j]at this;cases this with|flat _ _ _ h=>omega
  .exact⟨rfl,rfl,hcap,hmax,hsz,cs,Os,hg,hcs,λi j b H=>⟨hOs i j b H,(hOs i j b H).2⟩,hdj,λ_ _ _ h=>(nomatch h),λi j x y C E=>⟨val i j,hc i j x y C E,hr i j x y C E⟩⟩
def Qy{a β:Type} [Inhabited a]{p:Nat->Nat->a->Prop}{q:Nat->Nat->β->Prop}(h:∀i j y,q i j y->∃u,p i j u):∃f:Nat->Nat->a,∀i j y,q i j y->p i j (f i j):=by exact⟨λi j=>aJ_ (p i j),λi j y b=>(aB_ (h i j y b))⟩
def kK.outer{θ:List Loc}{D:Nat->Prop}{w:World}{q:TypeId×Nat×K}{L:List PV}{l:Loc}{v:Value}(hl:l.head v)(h:cJ θ D w l (kq q L)):kK D w (some q) l.has v (kZ q.2.1 L):=by
 unfold kq at h;split at h
 .rename_i hk;cases l<;>simp only[cJ]at h hl;.subst h;subst hl;exact .nil _ _ _
  .rename_i g n cap s O;obtain⟨rfl,rfl,M,N,U,cs,Y,h7,h8⟩:=h;subst hl;obtain⟨val,C⟩:=Qy (β:=PV×PV) (p:=λi j u=>∀x y,L[i]? =some x->x.cells[j]? =some y->cs[i*q.2.1+j]? =some u/\aW D w u y) (q:=λi j z=>L[i]? =some z.1/\z.1.cells[j]? =some z.2) (λi j z I=>by obtain⟨u,e1,e2⟩:=h8 i j _ _ I.1 I.2;exact⟨u,λx y E H=>by grind⟩)
   exact .nw q.1 q.2.1 q.2.2 _ g cap L _ cs val (λ_ _ _=>False) rfl M N U Y h7 (.inl rfl) (λ_ _ _ h=>h.elim) (λ_ _ _ _ _ h _=>h.elim) (λi j x y E H=>(C i j (x,y) ⟨E,H⟩ x y E H).1) λi j x y E H=>by rw[I1 hk j];exact .flat _ _ _ (C i j (x,y) ⟨E,H⟩ x y E H).2
 .cases l<;>simp only[cJ]at h hl;.obtain⟨rfl,-⟩:=h;subst hl;exact .nil _ _ _
  .rename_i g n cap s O;obtain⟨rfl,rfl,M,N,U,cs,Os,Y,h7,h9,J,-,h8⟩:=h;subst hl;obtain⟨val,C⟩:=Qy (β:=PV×PV) (p:=λi j u=>∀x y,L[i]? =some x->x.cells[j]? =some y->cs[i*q.2.1+j]? =some u/\kK D w (q.2.2.at j) (Os i j) u y) (q:=λi j z=>L[i]? =some z.1/\z.1.cells[j]? =some z.2) (λi j z I=>by obtain⟨u,e1,e2⟩:=h8 i j _ _ I.1 I.2;exact⟨u,λx y E H=>by rw[I.1]at E;cases E;rw[I.2]at H;cases H;exact⟨e1,e2⟩⟩)
   exact .nw q.1 q.2.1 q.2.2 _ g cap L _ cs val Os rfl M N U Y h7 (.inl rfl) (λi j b h=>⟨.inr (h9 i j b h).1,(h9 i j b h).2⟩) J (λi j x y E H=>(C i j (x,y) ⟨E,H⟩ x y E H).1) λi j x y E H=>(C i j (x,y) ⟨E,H⟩ x y E H).2
def P7{m:Nat}{st:St}{id i j e sz:Nat}{k:K}{xs:List PV}{x y:PV}{q:TypeId×Nat×K}{L:List PV}(ho:st.hp[id]? =some (.tree e sz k xs none))(hx:xs[i]? =some x)(hy:x.cells[j]? =some y)(hk:k.at j=some q)(hL:y=kZ q.2.1 L): f8 m st ⟨st.fr,st.hp.set id (.tree e sz k xs (some (i,j,.sl st.hp.length)))++[kq q L]⟩:=by
 rintro c a w _ ⟨θ,D,A⟩;have ur:id<st.hp.length:=(c_.1 ho).1;have rg:id<θ.length:=by rw[A.ok.len];omega
 obtain⟨l,hl⟩:∃l,θ[id]? =some l:=⟨θ[id],k_ rg⟩;have wr:=A.ok.fO id l _ hl ho;cases l<;>simp only[cJ]at wr;.grind
 rename_i g n cap s O;obtain⟨rfl,rfl,h3,h4,h5,cv,Os,h6,h7,h8,h9,-,T⟩:=wr;obtain⟨u,Dg,R⟩:=T i j x y hx hy;simp only[dM]at R;rw[hk]at R;obtain⟨li,ph,M,DE,qr⟩:=R.inner hL;let O1:Nat->Prop:=λb=>O b/\¬Os i j b;let l1:Loc:=.nw g xs.length cap s O1;let θ':=θ.set id l1++[li];have gc:(θ.set id l1).length=st.hp.length:=by simp[A.ok.len]
 have E:∀(k:Nat) (l:Loc),θ[k]? =some l->∃l',θ'[k]? =some l'/\l.tK l':=λk l el=>by
  have Y:k<(θ.set id l1).length:=by grind
  by_cases U:k=id;.subst U;rw[hl]at el;cases el;exact⟨l1,by show(θ.set k l1++[li])[k]? =_;rw[t_ Y,n_ rg],.inr ⟨g,xs.length,cap,s,O,O1,rfl,rfl⟩⟩
  .exact⟨l,by show(θ.set id l1++[li])[k]? =_;rw[t_ Y,m_ (Ne.symm U)];omega,.inl rfl⟩
 have C:∀(p:Nat) (f:Loc),θ'[p]? =some f->(p≠id/\θ[p]? =some f)\/(p=id/\f=l1)\/(p=st.hp.length/\f=li):=λp f hp=>by rcases aj_ p (θ.set id l1).length with h1|h1;all_goals grind
 have B:∀(p:Nat) (f:Loc) (b:Nat),θ'[p]? =some f->f.has b->∃I N,θ[I]? =some N/\N.has b/\((p≠id/\p<st.hp.length/\I=p)\/(I=id/\((p=id/\¬Os i j b)\/(p=st.hp.length/\Os i j b)))):=λp f b hp v=>by
  rcases C p f hp with⟨h1,h2⟩|⟨rfl,rfl⟩|⟨rfl,rfl⟩;.exact⟨p,f,h2,v,.inl ⟨h1,by grind,rfl⟩⟩
  .refine⟨_,_,hl,v.imp (λh=>h) λh=>h.1,.inr ⟨rfl,.inl ⟨rfl,λh=>?_⟩⟩⟩;rcases v with rfl|v;all_goals grind
  .exact⟨_,_,hl,.inr (h8 i j b (M b v)).1,.inr ⟨rfl,.inr ⟨rfl,M b v⟩⟩⟩
 refine⟨θ',D,A.size,A.defers,⟨?_,A.ok.pn,λp r f lr b hp hr BT CD=>?_,λp f b hp v=>?_,λp f o hp Q=>?_⟩,A.keep,A.lG,A.ng,λp f b hp v=>?_,λt z hz=>(A.fr t z hz).tK E,λt lt ht hf=>?_⟩;.simp[θ',A.ok.len]
 .obtain⟨I,N,H,J,e3⟩:=B p f b hp BT;obtain⟨r0,m0,f1,f2,f3⟩:=B r lr b hr CD;have:=A.ok.inj I r0 N m0 b H f1 J f2;grind
 .obtain⟨I,N,H,J,_⟩:=B p f b hp v;exact A.ok.mX I N b H J
 .have CT:(st.hp.set id (.tree e s k xs (some (i,j,.sl st.hp.length)))).length=st.hp.length:=by simp
  rcases C p f hp with⟨h1,h2⟩|⟨rfl,rfl⟩|⟨rfl,rfl⟩
  .have DH:p<st.hp.length:=by rw[<-A.ok.len];grind
   have d:(st.hp.set id (.tree e s k xs (some (i,j,.sl st.hp.length))))[p]? =some o:=by rw[<-Q];exact(t_ (by omega)).symm
   rw[m_ (Ne.symm h1)]at d;exact(A.ok.fO p f o h2 d).tK E
  .have d:(st.hp.set p (.tree e s k xs (some (i,j,.sl st.hp.length))))[p]? =some o:=by rw[<-Q];exact(t_ (by omega)).symm
   rw[n_ ur]at d;cases d;refine⟨rfl,rfl,h3,h4,h5,cv,λi' F b=>Os i' F b/\¬(i'=i/\F=j),h6,h7,λi' F b v=>⟨⟨(h8 i' F b v.1).1,λh=>v.2 (h9 i' F i j b v.1 h)⟩,(h8 i' F b v.1).2⟩,λi1 j1 i2 j2 b Bk Bx=>h9 i1 j1 i2 j2 b Bk.1 Bx.1,λi' F b v=>by cases v;exact⟨(c_.1 hx).1,by rw[hk];rfl⟩,λi' F x' y' DA DB=>?_⟩
   obtain⟨u',H,J⟩:=T i' F x' y' DA DB;refine⟨u',H,?_⟩;by_cases P:i=i'/\j=F;.obtain⟨rfl,rfl⟩:=P;simp only[dM,and_self,if_true];rw[Dg]at H;cases H;exact⟨li,by show(θ.set p l1++[li])[st.hp.length]? =_;rw[List.getElem?_append_right (by omega),gc];simp,ph⟩
   .simp only[dM,if_neg P];simp only[dM]at J;refine J.mono (λ_ h=>h) (λ_ _=>rfl) (λ_ _=>rfl) |>.wide λb v=>⟨v,λh=>P ⟨h.1.symm,h.2.symm⟩⟩
  .have d:([kq q L]:List aM)[st.hp.length - (st.hp.set id (.tree e s k xs (some (i,j,.sl st.hp.length)))).length]? =some o:=by rw[<-Q];simp
   rw[CT,Nat.sub_self]at d;cases d;exact qr _
 .obtain⟨I,N,H,J,_⟩:=B p f b hp v;exact A.jY I N b H J
 .have h1:=A.fix t lt ht hf;by_cases At:t=id;.subst At;rw[hl]at h1;cases h1;cases hf
  .show(θ.set id l1++[li])[t]? =_;rw[t_ (by simp;grind),m_ (Ne.symm At)];omega
def PV.Xd(x:PV)(j:Nat)(y:PV):PV:=match x with
 | .agg cs=>.agg (cs.set j y)
 |_=>y
theorem xj{x y:PV}{j:Nat}(a:j<x.cells.length)(b:y.cells=[y]):(x.Xd j y).cells=x.cells.set j y:=by
 cases x with
 |agg cs=>rfl|_=>
  simp only[PV.cells,U_,au_]at a;obtain rfl:j=0:=by omega
  exact b
theorem Az(sz:Nat)(L:List PV):(kZ sz L).cells=[kZ sz L]:=by cases L<;>rfl
def P6{m:Nat}{st:St}{id kid i j e sz:Nat}{k:K}{xs:List PV}{x:PV}{q:TypeId×Nat×K}{L:List PV}(ho:st.hp[id]? =some (.tree e sz k xs (some (i,j,.sl kid))))(hx:xs[i]? =some x)(hj:j<x.cells.length)(hk:k.at j=some q)(el:st.hp[kid]? =some (kq q L))(CT:kid≠id): f8 m st ⟨st.fr.map λx=>(x.1,x.2.kill kid),((st.hp.map (aM.kill kid)).set kid .gone).set id (.tree e sz k (xs.set i (x.Xd j (kZ q.2.1 L))) none)⟩:=by
 rintro c a w _ ⟨θ,D,v⟩;have GS:id<st.hp.length:=(c_.1 ho).1;have DQ:kid<st.hp.length:=(c_.1 el).1;have DS:id<θ.length:=by rw[v.ok.len];omega
 have Bk:kid<θ.length:=by rw[v.ok.len];omega
 obtain⟨l,hl⟩:∃l,θ[id]? =some l:=⟨θ[id],k_ DS⟩;obtain⟨l2,H⟩:∃l,θ[kid]? =some l:=⟨θ[kid],k_ Bk⟩;have DA:=v.ok.fO id l _ hl ho;have C:=v.ok.fO kid l2 _ H el;cases l<;>simp only[cJ]at DA;.grind
 rename_i g n cap s O;obtain⟨rfl,rfl,h3,h4,h5,cv,Os,h6,h7,h8,h9,JT,ph⟩:=DA;have hi:i<xs.length:=(c_.1 hx).1;obtain⟨u,MT,DB⟩:=ph i j x _ hx (k_ hj);simp only[dM,and_self,if_true]at DB;obtain⟨Nd,gc,rg⟩:=DB;rw[H]at gc;cases gc;have Hx:=kK.outer rg C;have Y:l2.fixed=false:=by unfold kq at C;split at C<;>cases l2<;>simp only[cJ]at C<;>rfl
 have CD:∀g,l2≠.dX g:=λg e=>by subst e;cases Y
 have Dg:∀g,l2≠.mp g:=λg e=>by subst e;cases Y
 let O1:Nat->Prop:=λb=>O b\/l2.has b;let l1:Loc:=.nw g xs.length cap s O1;let J:=θ.set kid .no;let θ':=J.set id l1;have Bx:J[id]? =some (.nw g xs.length cap s O):=by grind
 have BT:id<J.length:=(c_.1 Bx).1;have I:∀(k:Nat) (l:Loc),J[k]? =some l->∃l',θ'[k]? =some l'/\l.tK l':=λk l At=>by
  by_cases DP:k=id;.subst DP;rw[Bx]at At;cases At;exact⟨l1,n_ BT,.inr ⟨g,xs.length,cap,s,O,O1,rfl,rfl⟩⟩
  .exact⟨l,by grind,.inl rfl⟩
 have F:∀(p:Nat) (f:Loc),θ'[p]? =some f->(p≠id/\p≠kid/\θ[p]? =some f)\/(p=id/\f=l1)\/(p=kid/\f= .no):=λp f hp=>by grind
 have B:∀(p:Nat) (f:Loc) (b:Nat),θ'[p]? =some f->f.has b->∃N l0,θ[N]? =some l0/\l0.has b/\((p≠id/\p≠kid/\N=p)\/(p=id/\(N=id\/N=kid))):=λp f b hp A=>by
  rcases F p f hp with⟨h1,ur,h2⟩|⟨rfl,rfl⟩|⟨rfl,rfl⟩;.grind
  .rcases A with A|A|A;.exact⟨_,_,hl,.inl A,.inr ⟨rfl,.inl rfl⟩⟩
   .exact⟨_,_,hl,.inr A,.inr ⟨rfl,.inl rfl⟩⟩
   grind
  .exact A.elim
 refine⟨θ',D,v.size,v.defers,⟨?_,v.ok.pn,λp r f lr b hp hr DH DM=>?_,λp f b hp A=>?_,λp f o hp Fk=>?_⟩,v.keep,v.lG,v.ng,λp f b hp A=>?_,λt z hz=>?_,λt lt ht hf=>?_⟩;.simp[θ',J,v.ok.len]
 .obtain⟨N,l0,P,E,e3⟩:=B p f b hp DH;obtain⟨r0,m0,f1,f2,f3⟩:=B r lr b hr DM;have:=v.ok.inj N r0 l0 m0 b P f1 E f2;omega
 .obtain⟨N,l0,P,E,_⟩:=B p f b hp A;exact v.ok.mX N l0 b P E
 .have d:(((st.hp.map (aM.kill kid)).set kid .gone).set id (.tree e s k (xs.set i (x.Xd j (kZ q.2.1 L))) none))[p]? =some o:=Fk;rcases F p f hp with⟨h1,ur,h2⟩|⟨rfl,rfl⟩|⟨rfl,rfl⟩;.rw[m_ (Ne.symm h1),m_ (Ne.symm ur),ah_]at d;obtain⟨o0,qr,rfl⟩:=i_.1 d;exact((v.ok.fO p f o0 h2 qr).kill H CD Dg).tK I
  .rw[n_ (by grind)]at d;cases d;have Fr:∀b,l2.has b->¬(b=g\/O b):=λb A wr=>CT (v.ok.inj kid p l2 _ b H hl A wr);refine⟨rfl,by simp,h3,h4,λy hy=>?_,cv,λi' M b=>(i'=i/\M=j/\l2.has b)\/(¬(i'=i/\M=j)/\Os i' M b),h6,h7,λi' M b A=>?_,λi1 j1 i2 j2 b KK wr=>?_,λ_ _ _ h=>(nomatch h),λi' M x' y' T U=>?_⟩;.grind[List.mem_or_eq_of_mem_set,xj,Az,List.length_set,Y_]
   .grind
   .grind
   .simp only[dM];by_cases Q:i'=i
    .subst Q;rw[n_ hi]at T;cases T;rw[xj hj (Az _ _)]at U;by_cases R:M=j;.subst R;grind
     .rw[m_ (Ne.symm R)]at U;obtain⟨u',P,E⟩:=ph i' M x y' hx U;simp only[dM,true_and,if_neg (show ¬(j=M)from λh=>R h.symm)]at E;exact⟨u',P,E.wide λb A=>.inr ⟨λh=>R h.2,A⟩⟩
    .rw[m_ (Ne.symm Q)]at T;obtain⟨u',P,E⟩:=ph i' M x' y' T U;simp only[dM,if_neg (show ¬(i=i'/\j=M)from λh=>Q h.1.symm)]at E;exact⟨u',P,E.wide λb A=>.inr ⟨λh=>Q h.1,A⟩⟩
  .rw[m_ (Ne.symm CT),n_ (by grind)]at d;cases d;trivial
 .obtain⟨N,l0,P,E,_⟩:=B p f b hp A;exact v.jY N l0 b P E
 .have DE:look (st.fr.map λx=>(x.1,x.2.kill kid)) t=some z:=hz;rw[lQ]at DE;obtain⟨z0,qr,rfl⟩:=i_.1 DE;exact((v.fr t z0 qr).kill H CD Dg).tK I
 .have h1:=v.fix t lt ht hf;by_cases Fm:t=id;.subst Fm;rw[hl]at h1;cases h1;cases hf
  grind
section
variable {P:Program}
theorem Na{fn:Func}{rs:List RV}{K:C3->Prop}{w w':World}{D:Nat->Prop}{c:Ctx}{st:St}{a:Act}(hn:c.n=fn.ntmps)(hw:c.w0=w)(hD:c.D0=D)(hO:c.O0=owns []) (C:fn.results.toList.mapM (ka P)=some rs) (hr:i8 c st a w') {ys:List AV} {r H:AV} {s:List aM} (Y:rs.mapM (G4 st)=some ys) (E:Md ys r) (U:∀T,f8 0 ⟨[(T,r)],st.hp⟩ ⟨[(T,H)],s⟩) (hK:K (some (H,s))): ∃v,(results fn a.tmps).run P w'= .ok v w'/\Iv [] D w K (.returned v) w':=by
 obtain⟨θ',D',j⟩:=hr;have z:∀(l:List ResultVar) (rl:List RV) (pl:List AV),l.mapM (ka P)=some rl->rl.mapM (G4 st)=some pl->∃b:List Value,(l.mapM (AQ a.tmps)).run P w'= .ok b w'/\b.length=pl.length/\∀(i:Nat) (u:Value) (q:AV),b[i]? =some u->pl[i]? =some q->RelA θ' D' w' u q:=by
  intro l;induction l with
  |nil=>intro rl pl h1 h2;simp at h1;subst h1;simp at h2;subst h2;simp|cons r l ih=>
   intro rl pl h1 h2;simp only[o_,s_,B_,g_,b_]at h1;obtain⟨rv,R,gc,Q,rfl⟩:=h1;simp only[o_,s_,B_,g_,b_]at h2;obtain⟨q0,N,el,M,rfl⟩:=h2;obtain⟨u0,I,e2⟩:=Ng j R N;obtain⟨b,J,e4,e5⟩:=ih gc el Q M;refine⟨u0::b,?_,by simp[e4],λi u q hu hq=>?_⟩;.rw[o_,Sem.run_bind,I];simp only[Result.andThen_ok,Sem.run_bind,J,Sem.run_pure]
   grind
 obtain⟨b,I,e2,J⟩:=z _ _ _ C Y;have g:(results fn a.tmps).run P w'= .ok (if h:b.toArray.size=1 then b.toArray[0]else .tuple b.toArray) w':=by rw[Fj,Q_];simp only[Sem.run_bind,Sem.run_map];rw[I];rfl
 have F:=M8 e2 J E;generalize hv:(if h:b.toArray.size=1 then b.toArray[0]else .tuple b.toArray)=v at g F;have hsz:a.tmps.size=fn.ntmps:=by rw[<-hn];exact j.size
 have p:=c.gk;have d:=j.keep;have A:=j.lG;have n:=j.ng;have B:=j.jY;rw[hw,hO]at p d;rw[hD]at A n p;rw[hw,hO]at n B;obtain⟨θ2,D2,x⟩:=U fn.ntmps ⟨fn.ntmps+1,w,D,owns [],[],[],p⟩ {tmps:=a.tmps.push v,defers:=[]} w' (by simp)
  ⟨θ',D',by simp[hsz],rfl,j.ok,d,A,n,B,(λk y f=>by
   simp only[look]at f;split at f
   .rename_i L;cases f;subst L;have:(a.tmps.push v).getD fn.ntmps undef=v:=by rw[<-hsz];simp[aI_]
    rw[this];exact F
   .cases f),λk l f=>by simp at f⟩
 have O:RelA θ2 D2 w' v H:=by
  have:=x.fr fn.ntmps H (by simp[look]);have e:(a.tmps.push v).getD fn.ntmps undef=v:=by rw[<-hsz];simp[aI_]
  rw[e]at this;exact this
 exact⟨_,g,.inl ⟨_,H,s,θ2,D2,rfl,hK,O,x.ok,x.keep,x.lG,x.ng,x.jY,λk l f=>by simp at f,Nat.zero_le _⟩⟩
structure Catch(P:Program)(h:FuncId)(CH:Code):Prop where
 ex:∃hn j t1 t2 p1 p2 a1 a2,P.funcs[h]? =some hn/\hn.ntmps=5/\hn.results= #[]/\
  hn.body=some (.seq (.region j #[⟨some 2,.call {callee:=.builtin .recover,args:= #[],argTypes:= #[]},t1,p1,a1,none⟩,⟨some 3,.binOp .neq t1 (.tmp 2) (.const .nilIface) t1,t2,p2,a2,none⟩] false) (.cond (.tmp 3) CH .skip))/\
  (∃ms,P.underlying t1=some (.interface ms))/\(hn.name== "runtime.NumGoroutine")=false
theorem Catch.idle{h:FuncId}{CH:Code}(hc:Catch P h CH)(U Y:Value)(w:World):CallsD P h #[U,Y] .returning w λe u' w'=>e= .returned (.tuple #[])/\u'= .returning/\w'=w:=by obtain⟨hn,j,t1,t2,p1,p2,a1,a2,M,E,I,J,⟨ms,H⟩,_⟩:=hc.ex;refine callsD_of_wpS M J λC cs N=>?_;apply wpS_seq;apply wpS_region;simp[wpOpsS,go_sem,recoverD,N,E,Exit.thenS,H];refine wpS_cond (t:=false) (by simp[Act.eval,v_]) ?_;simp only[ag_,if_false];refine wpS_of_wp (wp_skip ?_);cases C;simp_all[bodyPostS,results]
theorem Catch.panicking{h:FuncId}{CH:Code}(hc:Catch P h CH)(Y pb:Value)(w:World)(t:TypeId)(v:Value){BK:World->Prop} (C:∀x y,CH.wp P (λe M w'=>(e= .normal\/e= .ret)/\M.defers=[]/\BK w') {tmps:= #[Y,pb,x,y,undef],defers:=[]} w): CallsD P h #[Y,pb] (.panicking [{v:=.iface t v,recovered:=false}]) w λe u' w'=>e= .returned (.tuple #[])/\u'= .panicking [{v:=.iface t v,recovered:=true}]/\BK w':=by obtain⟨hn,j,t1,t2,p1,p2,a1,a2,hf,H,U,hb,⟨ms,J⟩,_⟩:=hc.ex;refine callsD_of_wpS hf hb λN cs hu=>?_;apply wpS_seq;apply wpS_region;simp[wpOpsS,go_sem,recoverD,hu,H,Exit.thenS,J];refine wpS_cond (t:=true) (by simp[Act.eval,v_]) ?_;simp only[if_true];refine wpS_of_wp (wp_mono (C _ _) λe M w' he=>?_);obtain⟨E,el,I⟩:=he;rcases E with rfl|rfl<;>simp_all[bodyPostS,results]
theorem Inv.loose{c:Ctx}{θ:List Loc}{D:Nat->Prop}{st:St}{a:Act}{w:World}{ds:List Deferred}{th:List Loc}(h:Inv c θ D st a w)(C:∀(k:Nat) (l:Loc),th[k]? =some l->l.fixed=true->θ[k]? =some l):Inv ⟨c.n,c.w0,c.D0,c.O0,ds,th,c.gk⟩ θ D st {tmps:=a.tmps,defers:=ds} w:=⟨h.size,rfl,h.ok,h.keep,h.lG,h.ng,h.jY,h.fr,C⟩
def zbq(P:Program)(b:AC)(a:List RV)(ta tb:Nat)(K:C3->Prop):AE->St->Prop
 | .normal,st| .ret,st=>Bm 0 a K .normal st
 | .exit _,_=>False
 | .jv,st=>W 2 (λst=>look st.fr ta=some (.b (.ptr 0 0))/\look st.fr tb=some (.b (.ptr 1 0))/\
  Ky P 2 b (λe s=>(e= .normal\/e= .ret)/\Bm 0 a K .normal ⟨[(ta,.b (.ptr 0 0)),(tb,.b (.ptr 1 0))],s.hp⟩) ⟨[(0,.b (.ptr 0 0)),(1,.b (.ptr 1 0))],st.hp⟩) st
theorem N6{f h:FuncId}{fn:Func}{CA CB CH:Code}{xa xb xh:AC}{rs:List RV}{xs:List AV}{K:C3->Prop}{ta tb t8 j:Nat}{y3 y4:TypeId}{p3 p4:String}{a3 a4:Array Edge}(hm:P.follows .mixedOrders=true)(hf:P.funcs[f]? =some fn) (hb:fn.body=some (.seq CA (.seq (.region j #[⟨some t8,.makeFunc (.func h) #[] #[.tmp ta,.tmp tb],y3,p3,a3,none⟩,⟨none,.defer {callee:=.value (.tmp t8),args:= #[],argTypes:= #[]},y4,p4,a4,none⟩] false) CB))) (CT:cw P fn.ntmps CA=some xa.canon) (ur:xa.okB=true) (Dg:cw P fn.ntmps CB=some xb.canon) (wr:xb.okB=true) (DA:cw P 5 CH=some xh.canon) (At:xh.okB=true) (d:Catch P h CH) (M:fn.results.toList.mapM (ka P)=some rs) (Pc:xs.length<=fn.ntmps) (GS:t8<fn.ntmps) (h0:Ky P 0 xa (λe st=>e= .normal/\(look st.fr t8=none/\look st.fr ta=some (.b (.ptr 0 0))/\look st.fr tb=some (.b (.ptr 1 0))/\st.hp.length=2)/\Ky P 2 xb (zbq P xh rs ta tb K) st) ⟨sU 0 xs,[]⟩):eN P f xs [] K:=by
 intro w θ D vs hG E Rg RK;have Bk:θ.length=0:=E.len;obtain rfl:θ=[]:=List.eq_nil_of_length_eq_zero Bk;have hO:∀b,D b->¬owns [] b:=λb hb ⟨i,l,hi,hl⟩=>by grind
 refine calls_of_wp_defers hf hb ?_;apply wp_seq;have C:∀w',m6 (owns []) w w'->GW D w':=λw' p=>hG.mono p hO λ_ h=>h;refine wp_mono (uk hm (m:=0) (c:=⟨fn.ntmps,w,D,owns [],[],[],C⟩) rfl (by simp) CA xa _ ⟨sU 0 xs,[]⟩ {tmps:=vs.toArray++v_ (fn.ntmps - vs.toArray.size) undef,defers:=[]} w CT ur h0 ?_) λe I w1 he=>?_
 .refine⟨[],D,by grind,rfl,E,m6.refl _ _,λ_ h=>h,λ_ h=>.inl h,λi l g hi hg=>by grind,λk y p=>?_,λ_ _ h _=>h⟩;obtain⟨i,rfl,hp⟩:=wU xs 0 k y p;have hi:i<vs.length:=by grind
  have hv:=k_ hi;have:(vs.toArray++v_ (fn.ntmps - vs.toArray.size) undef).getD (0+i) undef=vs[i]:=by simp[W_,hi]
  grind
 obtain⟨e',st,B,⟨rfl,⟨h8,DQ,DS,DP⟩,h1⟩,n,D1,u⟩:=he;cases B;obtain⟨H,el,Hx⟩:∃g,n[0]? =some (Av.Loc.dX g)/\I.tmps.getD ta undef= .pointer (some ⟨g,0,none⟩):=u.fr ta _ DQ;obtain⟨gb,ph,JT⟩:∃g,n[1]? =some (Av.Loc.dX g)/\I.tmps.getD tb undef= .pointer (some ⟨g,0,none⟩):=u.fr tb _ DS;have PA:n=[Av.Loc.dX H,Av.Loc.dX gb]:=by
  have hl:=u.ok.len;rw[DP]at hl
  match n,hl,el,ph with|[x,y],_,el,ph=>grind
 show Code.wp P _ _ I w1;apply wp_seq;apply wp_region;have gc:I.tmps[ta]?.getD undef= .pointer (some ⟨H,0,none⟩):=by simpa using Hx
 have qr:I.tmps[tb]?.getD undef= .pointer (some ⟨gb,0,none⟩):=by simpa using JT
 have hsz:I.tmps.size=fn.ntmps:=u.size;simp[wpOps,go_sem,Instr.makeFunc,gc,qr,hsz,GS];refine .inl (.inl ?_);have DB:I.defers=[]:=u.defers;rw[DB];generalize PJ:(Value.func (Fn.func h) #[] #[Value.pointer (some {block:=H,off:=0}),Value.pointer (some {block:=gb,off:=0})])=v8;generalize A:({target:=Target.fn (Fn.func h) #[Value.pointer (some {block:=H,off:=0}),Value.pointer (some {block:=gb,off:=0})],args:= #[]}:Deferred)=Y;have Bx:Inv ⟨fn.ntmps,w,D,owns [],[Y],n,C⟩ n D1 st {tmps:=I.tmps.setIfInBounds t8 v8,defers:=[Y]} w1:=by
  refine⟨by grind,rfl,u.ok,u.keep,u.lG,u.ng,u.jY,λk x p=>?_,λ_ _ h _=>h⟩;have Fk:k≠t8:=λe=>by grind
  have:=u.fr k x p;simpa[Array.getD_eq_getD_getElem?,Array.getElem?_setIfInBounds,Ne.symm Fk]using this
 have N:∀w,(invoke Y.target Y.args).run P w= .ok (.enter h #[Value.pointer (some {block:=H,off:=0}),Value.pointer (some {block:=gb,off:=0})]) w:=by
  intro w;subst A;obtain⟨hn,_,_,_,_,_,_,_,DM,_,_,CD,_,PB⟩:=d.ex;have rg:¬hn.name= "runtime.NumGoroutine" :=by grind
  simp[invoke,callFunc,DM,CD,rg,go_sem]
 refine wp_mono (uk hm (m:=2) (c:=⟨fn.ntmps,w,D,owns [],[Y],n,C⟩) rfl (by grind) CB xb _ st _ w1 Dg wr h1 ⟨n,D1,Bx⟩) λe a w' he=>?_;obtain⟨e',Nd,B,hq,θ2,D2,s⟩:=he;have L:a.defers=[Y]:=s.defers;have fin:Bm 0 rs K .normal Nd->Go.Leaves P fn a.tmps (Iv [] D w K) a.defers .returning w':=by rintro⟨RM,hw,ys,r,T,F,r',MT,R,hK,_⟩;have hr:=hw _ _ _ (by simp) ⟨θ2,D2,s.loose (ds:=[]) (th:=[]) λ_ _ h _=>by grind⟩;obtain⟨v,e1,e2⟩:=Na rfl rfl rfl rfl M hr T F R hK;rw[L,<-A];refine leaves_cons (by simp) (by subst A;exact N w') ((d.idle _ _ w').mono ?_);rintro e u' Pb ⟨rfl,rfl,rfl⟩;exact⟨v,e1,e2⟩
 cases e' with
 |normal=>cases B;exact fin hq|ret=>cases B;exact fin hq|exit i=>exact hq.elim|jv=>
  obtain⟨ch,⟨t,v,rfl⟩,rfl⟩:=B;obtain⟨Pa,KK,ha,BT,hq⟩:=hq;obtain⟨θ2,D2,s⟩:=KK _ _ _ (by grind) ⟨θ2,D2,s⟩;have f1:θ2[0]? =some (Av.Loc.dX H):=s.fix 0 _ (by omega) rfl;have f2:θ2[1]? =some (Av.Loc.dX gb):=s.fix 1 _ (by omega) rfl;obtain⟨g,hg,va⟩:∃g,θ2[0]? =some (Av.Loc.dX g)/\a.tmps.getD ta undef= .pointer (some ⟨g,0,none⟩):=s.fr ta _ ha;obtain rfl:H=g:=by grind
  obtain⟨g,hg,vb⟩:∃g,θ2[1]? =some (Av.Loc.dX g)/\a.tmps.getD tb undef= .pointer (some ⟨g,0,none⟩):=s.fr tb _ BT;obtain rfl:gb=g:=by grind
  show Go.Leaves P fn a.tmps (Iv [] D w K) a.defers (.panicking _) w';rw[L,<-A];refine leaves_cons (by simp) (by subst A;exact N w') ((d.panicking (BK:=λw3=>∃v,(results fn a.tmps).run P w3= .ok v w3/\Iv [] D w K (.returned v) w3) _ _ w' t v λx y=>?_).mono ?_)
  .refine wp_mono (uk hm (m:=2) (c:=⟨5,w,D,owns [],[],n,C⟩) rfl (by grind) CH xh _ _ _ w' DA At hq ⟨θ2,D2,by simp,rfl,s.ok,s.keep,s.lG,s.ng,s.jY,λk z p=>?_,s.fix⟩) λe3 a3 w3 DE=>?_
   .simp only[look]at p;split at p;.rename_i O;cases p;subst O;exact⟨H,f1,rfl⟩
    .split at p;.rename_i Q;cases p;subst Q;exact⟨gb,f2,rfl⟩
     grind
   .obtain⟨e4,Pa,DH,⟨Fm,Fr⟩,U,D4,J⟩:=DE;refine⟨by rcases Fm with rfl|rfl<;>cases DH<;>simp,J.defers,?_⟩;obtain⟨RT,hw,ys,r,T,F,r',MT,R,hK,_⟩:=Fr;have f3:U[0]? =some (Av.Loc.dX H):=J.fix 0 _ (by omega) rfl;have f4:U[1]? =some (Av.Loc.dX gb):=J.fix 1 _ (by omega) rfl;have hr:=hw ⟨fn.ntmps,w,D,owns [],[],[],C⟩ {tmps:=a.tmps,defers:=[]} w3 (by simp) ⟨U,D4,s.size,rfl,J.ok,J.keep,J.lG,J.ng,J.jY,λk z p=>(by
     simp only[look]at p;split at p;.rename_i O;cases p;subst O;exact⟨H,f3,va⟩
     .split at p;.rename_i Q;cases p;subst Q;exact⟨gb,f4,vb⟩
      grind),λ_ _ h _=>by grind⟩
    exact Na (a:={tmps:=a.tmps,defers:=[]}) rfl rfl rfl rfl M hr T F R hK
  .rintro e u' Pb ⟨rfl,rfl,v,e1,e2⟩;exact⟨v,e1,e2⟩
end
end Go.Av
namespace Go.Ev
open Go Go.RowKit Go.Av
inductive Rx where
 |mk (kind lo hi:Int) (kids:List Rx)
 deriving Inhabited
inductive Ty where
 |int (k:IntKind)
 |bool
 |str
 |list (t:Ty)
 |unit
 |pair (a b:Ty)
 |rx
 deriving Inhabited,DecidableEq
@[reducible] def Ty.den:Ty->Type
 | .int _=>Int
 | .bool=>Bool
 | .str=>List UInt8
 | .list t=>List t.den
 | .unit=>Unit
 | .pair a b=>a.den×b.den
 | .rx=>Rx
def Ty.sz:Ty->Nat
 | .unit=>0
 | .pair a b=>a.sz+b.sz
 | .rx=>4
 |_=>1
def Ty.ag:Ty->Bool
 | .unit=>true
 | .pair _ _=>true
 | .rx=>true
 |_=>false
mutual
def Vi:Rx->PV
 | .mk k l h ks=>.agg [.sc (.int .i64 k),.sc (.int .i64 l),.sc (.int .i64 h),kZ 4 (Jf ks)]
def Jf:List Rx->List PV
 |[]=>[]
 |r::a=>Vi r::Jf a
end
def aN:(t:Ty)->t.den->PV
 | .int k,x=>.sc (.int k x)
 | .bool,x=>.sc (.bool x)
 | .str,x=>.sc (.string ⟨x.toArray⟩)
 | .list t,x=>kZ t.sz (x.map (aN t))
 | .unit,_=>.agg []
 | .pair a b,x=>.agg ((aN a x.1).cells++(aN b x.2).cells)
 | .rx,x=>Vi x
inductive V where
 |d (t:Ty) (x:t.den)
 |nil (t:Ty)
 |agg (vs:List V)
 |dP (vs:List V)
 |sl (id:Nat)
 |ptr (id off:Nat)
 |i6 (id i off:Nat)
 |dp (t:Ty) (x:t.den)
 |kT (f:FuncId) (ids:List Nat)
 |HK (f:FuncId) (cs:List ((t:Ty)×t.den))
 |mp (id:Nat)
 |full (t:Ty) (x:List t.den)
 |KG (id off n:Nat) (t:Ty) (i:Int)
 |raw (v:Value)
 |any
 |KF
 |lit (k:K) (t:Ty) (xs:List t.den)
instance:Inhabited V:=⟨.raw Go.undef⟩
inductive Ob where
 |gone
 |free
 |box (tid:TypeId) (cs:List V)
 |vec (tid:TypeId) (t:Ty) (xs:List t.den)
 |map (k e:TypeId) (a b:Ty) (kvs:List (a.den×b.den))
 |tree (tid:TypeId) (k:K) (t:Ty) (xs:List t.den) (hole:Option (Nat×Nat×V))
instance:Inhabited Ob:=⟨.gone⟩
def dL(k:K)(t:Ty)(x:t.den):PV:=match aN t x with
 | .agg cs=>.agg (cs.mapIdx λj y=>if(k.at j).isSome then vr else y)
 |y=>if(k.at 0).isSome then vr else y
def aU:V->BV
 | .d t x=>.pv (aN t x)
 | .nil _=>.om
 | .sl id=>.sl id
 | .ptr id off=>.ptr id off
 | .i6 id i off=>.i6 id i off
 | .dp t x=>.pv (.Bw (aN t x))
 | .kT f ids=>.kT (.func f) ids
 | .HK f cs=>.pv (.fn (.func f) (cs.map λc=>.Bw (aN c.1 c.2)))
 | .mp id=>.mp id
 | .full t x=>.full (kZ t.sz (x.map (aN t)))
 | .raw v=>bI v
 | .KG id off _ t i=>.ptr id (off+i.toNat*t.sz)
 | .any=>.pv .any
 | .KF=>.KF
 | .lit k t xs=>.pv (kZ t.sz (xs.map (dL k t)))
 | .agg _=>.pv .any
 | .dP _=>.pv .any
def a8:V->AV
 | .agg vs=>.agg (vs.map aU)
 | .dP vs=>.dP (vs.map aU)
 |v=>.b (aU v)
def zbs:Option (Nat×Nat×V)->Option (Nat×Nat×BV)
 |some (i,j,v)=>some (i,j,aU v)
 |none=>none
def b8:Ob->aM
 | .gone=>.gone
 | .free=>.free
 | .box t cs=>.box t (cs.map aU)
 | .vec e t xs=>.vec e t.sz (xs.map (aN t))
 | .map k e a b kvs=>.map k e (kvs.map λp=>(aN a p.1,aN b p.2))
 | .tree e k t xs h=>.tree e t.sz k (xs.map (aN t)) (zbs h)
structure S where
 fr:List (Nat×V)
 hp:List Ob
def enc(s:S):St:=⟨s.fr.map λx=>(x.1,a8 x.2),s.hp.map b8⟩
def lk:List (Nat×V)->Nat->Option V
 |[],_=>none
 |(k,a)::l,t=>bif a_ t k then some a else lk l t
def S.put(s:S)(d:Nat)(v:V):S:=⟨(d,v)::s.fr,s.hp⟩
def S.aF(s:S)(d:Option Nat)(v:V):S:=match d with
 |some d=>s.put d v
 |none=>s
def bE(t u:Ty)(x:t.den):Option u.den:=if h:t=u then some (h▸x)else none
def ci{R:Type}(b:Bool)(x:Option R):Option R:=bif b then x else none
def nv{a:Type}(xs:List a)(i:Int):Option a:=bif decide (0<=i)then xs[i.toNat]? else none
def Nh:Ty:=.pair (.int .i64) (.pair (.int .i64) (.pair (.int .i64) (.pair (.list .rx) .unit)))
def Rx.out:Rx->Nh.den
 | .mk k l h ks=>(k,l,h,ks,())
def qq:(t:Ty)->(off:Nat)->(u:Ty)->t.den->Option u.den
 | .pair a b,off,u,x=>bif (decide (Ty.pair a b=u)&&a_ off 0)then bE (.pair a b) u x else bif j_ (off+1) a.sz then qq a off u x.1 else qq b (off - a.sz) u x.2
 | .rx,off,u,x=>match off with
  |0=>bif decide (u= .rx)then bE .rx u x else bE (.int .i64) u x.out.1
  |1=>bE (.int .i64) u x.out.2.1
  |2=>bE (.int .i64) u x.out.2.2.1
  |3=>bE (.list .rx) u x.out.2.2.2.1
  |_=>none
 |t,off,u,x=>bif a_ off 0 then bE t u x else none
def kF:(t:Ty)->(off:Nat)->(u:Ty)->t.den->u.den->Option t.den
 | .pair a b,off,u,x,y=>bif (decide (Ty.pair a b=u)&&a_ off 0)then bE u (.pair a b) y else bif j_ (off+1) a.sz then(match kF a off u x.1 y with|some z=>some (z,x.2)|none=>none)else(match kF b (off - a.sz) u x.2 y with|some z=>some (x.1,z)|none=>none)
 | .rx,off,u,x,y=>bif a_ off 0&&decide (u= .rx)then bE u .rx y else none
 |t,off,u,_,y=>bif a_ off 0 then bE u t y else none
def gq:(t:Ty)->t.den->List V
 | .unit,_=>[]
 | .pair a b,x=>gq a x.1++gq b x.2
 | .rx,x=>[.d (.int .i64) x.out.1,.d (.int .i64) x.out.2.1,.d (.int .i64) x.out.2.2.1,.d (.list .rx) x.out.2.2.2.1]
 |t,x=>[.d t x]
def iw(u:Ty):V->Option u.den
 | .d t x=>bE t u x
 | .nil t=>bE (.list t) u ([]:List t.den)
 | .full t x=>bE (.list t) u x
 |_=>none
def Oe:(t:Ty)->List V->Option (t.den×List V)
 | .unit,l=>some ((),l)
 | .pair a b,l=>match Oe a l with
  |some (x,l)=>match Oe b l with
   |some (y,l)=>some ((x,y),l)
   |none=>none
  |none=>none
 | .rx,l=>match l with
  |a::b::c::e::l=>match iw (.int .i64) a,iw (.int .i64) b,iw (.int .i64) c,iw (.list .rx) e with
   |some a,some b,some c,some e=>some (.mk a b c e,l)
   |_,_,_,_=>none
  |_=>none
 |t,l=>match l with
  |v::l=>match iw t v with
   |some x=>some (x,l)
   |none=>none
  |[]=>none
def cA(t:Ty)(v:V):Option t.den:=match v with
 | .agg vs=>match t.ag with
  |true=>match Oe t vs with
   |some (x,[])=>some x
   |_=>none
  |false=>none
 |v=>iw t v
def dq:V->List V
 | .d t x=>gq t x
 | .agg vs=>vs
 |v=>[v]
def whole(t:Ty)(cs:List V):V:=match t.ag with
 |true=>.agg cs
 |false=>match cs.headD default with
  | .agg _=>.any
  | .dP _=>.any
  |v=>v
def V.Bh:V->Bool
 | .d t _=> !t.ag
 | .agg _=>false
 | .dP _=>false
 | .any=>false
 | .lit _ _ _=>false
 | .raw v=>v.oneCell'
 |_=>true
def V.okB:V->Bool
 | .d _ _=>true
 | .agg vs=>vs.all V.Bh
 | .dP _=>false
 |v=>v.Bh
def V.Qx:V->Bool
 | .d _ _=>true
 | .nil _=>true
 | .full _ _=>true
 |_=>false
def gI:(t:Ty)->t.den->t.den->Bool
 | .int _,x,y=>x==y
 | .bool,x,y=>x==y
 | .str,x,y=>x==y
 | .unit,_,_=>true
 | .pair a b,x,y=>gI a x.1 y.1&&gI b x.2 y.2
 |_,_,_=>false
def Ty.Dw:Ty->Bool
 | .int _=>true
 | .bool=>true
 | .str=>true
 | .unit=>true
 | .pair a b=>a.Dw&&b.Dw
 |_=>false
def dA(a b:Ty):List (a.den×b.den)->a.den->Option b.den
 |[],_=>none
 |(k,v)::l,x=>bif gI a x k then some v else dA a b l x
def fh(a b:Ty):List (a.den×b.den)->a.den->b.den->List (a.den×b.den)
 |[],x,y=>[(x,y)]
 |(k,v)::l,x,y=>bif gI a x k then(x,y)::l else(k,v)::fh a b l x y
def Ty.zero:(t:Ty)->t.den
 | .int _=>(0:Int)
 | .bool=>false
 | .str=>[]
 | .list _=>[]
 | .unit=>()
 | .pair a b=>(a.zero,b.zero)
 | .rx=>.mk 0 0 0 []
def Ty.flat:Ty->Bool
 | .list _=>false
 | .rx=>false
 | .pair a b=>a.flat&&b.flat
 |_=>true
inductive X where
 |tm (k:Nat)
 |k (t:Ty) (x:t.den)
 |nil (t:Ty)
 |ag (vs:List V)
 |f (n:Nat)
 |raw (v:Value)
 deriving Inhabited
def S.get(s:S):X->Option V
 | .tm k=>lk s.fr k
 | .k t x=>some (.d t x)
 | .nil t=>some (.nil t)
 | .ag vs=>some (.agg vs)
 | .f n=>some (.HK n [])
 | .raw v=>some (.raw v)
inductive Slot where
 |tm (k:Nat) (t:Ty)
 |cell (id j:Nat) (t:Ty)
 |vec (id:Nat) (e:TypeId) (t:Ty)
 |map (id:Nat) (k e:TypeId) (a b:Ty)
 |tree (id:Nat) (e:TypeId) (k:K) (t:Ty)
 |iE (id:Nat) (e:TypeId) (k:K) (t:Ty) (j kid:Nat)
@[reducible] def Slot.ty:Slot->Ty
 | .tm _ t=>t
 | .cell _ _ t=>t
 | .vec _ _ t=>.list t
 | .map _ _ _ a b=>.list (.pair a b)
 | .tree _ _ _ t=>.list t
 | .iE _ _ _ t _ _=>.pair (.list t) (.int .i64)
@[reducible] def HL:List Slot->Type
 |[]=>Unit
 |s::l=>s.ty.den×HL l
structure Sh where
 keep:List Nat
 sk:S
 sl:List Slot
def V.ri:V->Bool
 | .d _ _=>true
 | .dp _ _=>true
 | .HK _ _=>true
 |_=>false
def ei(fr:List (Nat×V)):List Nat->List (Nat×V)
 |[]=>[]
 |k::l=>match lk fr k with
  |some v=>bif v.ri then(k,v)::ei fr l else ei fr l
  |none=>ei fr l
def VB(fr:List (Nat×V))(k:Nat):Bool:=match lk fr k with
 |some v=>v.ri
 |none=>false
def Sh.base(sh:Sh)(s:S):S:=⟨ei s.fr sh.keep++sh.sk.fr,sh.sk.hp⟩
def setAt{a:Type}:List a->Nat->a->List a
 |[],_,_=>[]
 |_::l,0,y=>y::l
 |x::l,n+1,y=>x::setAt l n y
def setCell(hp:List Ob)(id j:Nat)(v:V):List Ob:=match hp[id]? with
 |some (.box t cs)=>setAt hp id (.box t (setAt cs j v))
 |_=>hp
def unpack:(sl:List Slot)->HL sl->S->S
 |[],_,s=>s
 | .tm k t::l,c,s=>unpack l c.2 ⟨(k,.d t c.1)::s.fr,s.hp⟩
 | .cell id j t::l,c,s=>unpack l c.2 ⟨s.fr,setCell s.hp id j (.d t c.1)⟩
 | .vec id e t::l,c,s=>unpack l c.2 ⟨s.fr,setAt s.hp id (.vec e t c.1)⟩
 | .map id k e a b::l,c,s=>unpack l c.2 ⟨s.fr,setAt s.hp id (.map k e a b c.1)⟩
 | .tree id e k t::l,c,s=>unpack l c.2 ⟨s.fr,setAt s.hp id (.tree e k t c.1 none)⟩
 | .iE id e k t j kid::l,c,s=>unpack l c.2 ⟨s.fr,setAt s.hp id (.tree e k t c.1.1 (some (Int.toNat c.1.2,j,.sl kid)))⟩
def V.same:V->V->Bool
 | .sl i,.sl j=>a_ i j
 | .ptr i o,.ptr j p=>a_ i j&&a_ o p
 | .mp i,.mp j=>a_ i j
 | .kT f C,.kT g E=>a_ f g&&decide (C=E)
 | .nil t,.nil u=>decide (t=u)
 | .raw (.pointer none),.raw (.pointer none)=>true
 | .raw (.map none),.raw (.map none)=>true
 | .raw .nilFunc,.raw .nilFunc=>true
 | .raw .nilIface,.raw .nilIface=>true
 |_,_=>false
def j7:List V->List V->Bool
 |[],[]=>true
 | .any::l,_::m=>j7 l m
 | .agg xs::l,.agg ys::m=>(xs.length==ys.length)&&j7 l m
 |x::l,y::m=>V.same x y&&j7 l m
 |_,_=>false
def Rf:Ob->Ob->Bool
 | .gone,_=>true
 | .box t cs,.box u ds=>a_ t u&&j7 cs ds
 | .vec e t _,.vec c g _=>a_ e c&&decide (t=g)
 | .map k e a b _,.map f c d b' _=>a_ k f&&a_ e c&&decide (a=d)&&decide (b=b')
 | .tree e k t _ h,.tree c f g _ h'=>a_ e c&&decide (k=f)&&decide (t=g)&&(match h,h' with
  |none,none=>true
  |some (_,j,.sl a),some (_,l,.sl d)=>a_ j l&&a_ a d
  |_,_=>false)
 |_,_=>false
def AH:List Ob->List Ob->Bool
 |[],[]=>true
 |a::l,b::m=>Rf a b&&AH l m
 |_,_=>false
def Em(fr:List (Nat×V)):List (Nat×V)->Bool
 |[]=>true
 |(k,v)::l=>(match lk fr k with|some w=>V.same v w|none=>false)&&Em fr l
def S.fits(sk s:S):Bool:=Em s.fr sk.fr&&AH sk.hp s.hp
def gC(s:S):(x:Slot)->Option x.ty.den
 | .tm k t=>match lk s.fr k with
  |some v=>cA t v
  |none=>none
 | .cell id j t=>match s.hp[id]? with
  |some (.box _ cs)=>match cs[j]? with
   |some v=>iw t v
   |none=>none
  |_=>none
 | .vec id _ t=>match s.hp[id]? with
  |some (.vec _ u xs)=>bE (.list u) (.list t) xs
  |_=>none
 | .map id _ _ a b=>match s.hp[id]? with
  |some (.map _ _ c b' kvs)=>bE (.list (.pair c b')) (.list (.pair a b)) kvs
  |_=>none
 | .tree id _ _ t=>match s.hp[id]? with
  |some (.tree _ _ u xs none)=>bE (.list u) (.list t) xs
  |_=>none
 | .iE id _ _ t _ _=>match s.hp[id]? with
  |some (.tree _ _ u xs (some (i,_,_)))=>match bE (.list u) (.list t) xs with
   |some xs=>some (xs,(i:Int))
   |none=>none
  |_=>none
def EW(s:S):(sl:List Slot)->Option (HL sl)
 |[]=>some ()
 |x::l=>match gC s x with
  |some c=>match EW s l with
   |some r=>some (c,r)
   |none=>none
  |none=>none
def pack(sh:Sh)(s:S):Option (HL sh.sl):=match S.fits sh.sk s&&sh.keep.all (VB s.fr)with
 |true=>EW s sh.sl
 |false=>none
def Io(hp:List Ob):Slot->Bool
 | .vec id e t=>match hp[id]? with
  |some (.vec c g _)=>a_ e c&&decide (t=g)
  |_=>false
 | .map id k e a b=>match hp[id]? with
  |some (.map d c h b' _)=>a_ k d&&a_ e c&&decide (a=h)&&decide (b=b')
  |_=>false
 | .tree id e k t=>match hp[id]? with
  |some (.tree c d g _ none)=>a_ e c&&decide (k=d)&&decide (t=g)
  |_=>false
 | .iE id e k t j kid=>match hp[id]? with
  |some (.tree c d g _ (some (_,l,.sl f)))=>a_ e c&&decide (k=d)&&decide (t=g)&&a_ j l&&a_ kid f
  |_=>false
 |_=>true
def YY(sl:List Slot):Nat->List Ob->Bool
 |_,[]=>true
 |i,o::l=>(match o with
  | .vec _ _ _=>sl.any λx=>match x with
   | .vec j _ _=>a_ j i
   |_=>false
  | .map _ _ _ _ _=>sl.any λx=>match x with
   | .map j _ _ _ _=>a_ j i
   |_=>false
  | .tree _ _ _ _ _=>sl.any λx=>match x with
   | .tree j _ _ _=>a_ j i
   | .iE j _ _ _ _ _=>a_ j i
   |_=>false
  |_=>true)&&YY sl (i+1) l
def Sh.zp(sh:Sh):Bool:=sh.sl.all (Io sh.sk.hp)&&YY sh.sl 0 sh.sk.hp
@[reducible] def XT:List (Nat×Sh)->Type
 |[]=>Empty
 |[(_,sh)]=>HL sh.sl
 |(_,sh)::l=>HL sh.sl⊕XT l
def inj:(xs:List (Nat×Sh))->Nat->S->Option (XT xs)
 |[],_,_=>none
 |[(k,sh)],key,s=>bif a_ k key then pack sh s else none
 |(k,sh)::a::l,key,s=>bif a_ k key then(match pack sh s with|some c=>some (.inl c)|none=>none)else(match inj (a::l) key s with|some c=>some (.inr c)|none=>none)
def jb{R:Type}(s:S)(κ:Nat->S->Option R):(xs:List (Nat×Sh))->XT xs->Option R
 |[],_=>none
 |[(k,sh)],c=>κ k (unpack sh.sl c (sh.base s))
 |(k,sh)::a::l,c=>aH_ (λc=>κ k (unpack sh.sl c (sh.base s))) (λc=>jb s κ (a::l) c) c
inductive BE where
 |freeze (id:Nat)
 |UR (k:Nat) (e:TypeId) (t:Ty)
 |N8 (id j:Nat) (e:TypeId) (t:Ty)
 |sel (ids:List Nat) (ks:List Nat)
 |drop (ks:List Nat)
 |focus (id k j:Nat) (u:Ty)
 |close (id:Nat)
 |N9 (k:Nat) (e:TypeId) (kk:K) (t:Ty)
 |I0 (id j:Nat) (e:TypeId) (kk:K) (t:Ty)
def V.eV(ρ:Nat->Nat):V->V
 | .sl id=>.sl (ρ id)
 | .ptr id off=>.ptr (ρ id) off
 | .KG id off n t i=>.KG (ρ id) off n t i
 | .i6 id i off=>.i6 (ρ id) i off
 | .kT f ids=>.kT f (ids.map ρ)
 | .mp id=>.mp (ρ id)
 |x=>x
def V.Cb:V->List Nat
 | .sl id=>[id]
 | .ptr id _=>[id]
 | .KG id _ _ _ _=>[id]
 | .i6 id _ _=>[id]
 | .kT _ ids=>ids
 | .mp id=>[id]
 |_=>[]
def ju(g:V->V):V->V
 | .agg vs=>.agg (vs.map g)
 | .dP vs=>.dP (vs.map g)
 |v=>g v
def zbA(g:V->V):Option (Nat×Nat×V)->Option (Nat×Nat×V)
 |some (i,j,v)=>some (i,j,g v)
 |none=>none
def rz(g:V->V):Ob->Ob
 | .box t cs=>.box t (cs.map g)
 | .tree e k t xs h=>.tree e k t xs (zbA g h)
 |o=>o
def V.ids:V->List Nat
 | .agg vs=>vs.flatMap V.Cb
 | .dP vs=>vs.flatMap V.Cb
 |v=>v.Cb
def V.Bp:V->List Nat
 | .sl id=>[id]
 | .i6 id _ _=>[id]
 |_=>[]
def V.kids:V->List Nat
 | .agg vs=>vs.flatMap V.Bp
 | .dP vs=>vs.flatMap V.Bp
 |v=>v.Bp
def Ob.kids:Ob->List Nat
 | .box _ cs=>cs.flatMap V.Bp
 | .tree _ _ _ _ (some (_,_,v))=>v.Bp
 |_=>[]
def Ob.ids:Ob->List Nat
 | .box _ cs=>cs.flatMap V.Cb
 | .tree _ _ _ _ (some (_,_,v))=>v.Cb
 |_=>[]
def S.map(g:V->V)(s:S):S:=⟨s.fr.map λx=>(x.1,ju g x.2),s.hp.map (rz g)⟩
def V.ym(id:Nat):V->V
 | .sl k=>bif a_ k id then .any else .sl k
 | .i6 k i o=>bif a_ k id then .any else .i6 k i o
 |v=>v
def S.fD(s:S)(id:Nat)(o:Ob):S:=⟨s.fr.map λx=>(x.1,ju (V.ym id) x.2),setAt (s.hp.map (rz (V.ym id))) id o⟩
def Es(l:List Nat)(x:Nat):Nat:=l.idxOf x
def kJ(l:List Nat)(x:Nat):Bool:=l.any (a_ x)
def allIn(l m:List Nat):Bool:=m.all (kJ l)
def TX(id:Nat)(t:Ty)(x:List t.den):V->V
 | .sl k=>bif a_ k id then .d (.list t) x else .sl k
 | .i6 k i o=>bif a_ k id then .any else .i6 k i o
 |v=>v
def rh(e:TypeId)(k:K)(u:Ty)(L:List u.den):Ob:=bif k.Oa then .vec e u L else .tree e k u L none
def yx(e:TypeId)(k:K)(u:Ty):Ob->Option (List u.den)
 | .vec a t xs=>bif k.Oa&&a_ e a then bE (.list t) (.list u) xs else none
 | .tree a b t xs none=>bif !k.Oa&&a_ e a&&decide (k=b)then bE (.list t) (.list u) xs else none
 |_=>none
def Vf:Ty->Nat->Option Ty
 | .list u,0=>some u
 | .pair a b,off=>bif j_ (off+1) a.sz then Vf a off else Vf b (off - a.sz)
 |_,_=>none
def lZ:BE->S->Option S
 | .freeze id,s=>match s.hp[id]? with
  |some (.vec _ t xs)=>some (let s':=s.map (TX id t xs);⟨s'.fr,setAt s'.hp id .gone⟩)
  |some (.tree _ _ t xs none)=>some (let s':=s.map (TX id t xs);⟨s'.fr,setAt s'.hp id .gone⟩)
  |_=>none
 | .focus id k j u,s=>match lk s.fr k,s.hp[id]? with
  |some (.d (.int _) n),some (.tree e kk t xs none)=>match kk.at j with
   |some (b,a,c)=>bif a_ a u.sz&&decide (0<=n)then e_ xs[n.toNat]? λx=>(match qq t j (.list u) x with
    |some L=>some ⟨s.fr,setAt s.hp id (.tree e kk t xs (some (n.toNat,j,.sl s.hp.length)))++[rh b c u L]⟩
    |none=>none)else none
   |none=>none
  |_,_=>none
 | .close id,s=>match s.hp[id]? with
  |some (.tree e kk t xs (some (i,j,.sl kid)))=>bif a_ kid id then none else(match kk.at j,s.hp[kid]?,Vf t j with
   |some (b,a,c),some o,some u=>match yx b c u o with
    |some L=>bif a_ a u.sz then e_ xs[i]? λx=>(match kF t j (.list u) x L with
     |some y=>some (let s':=s.fD kid .gone;⟨s'.fr,setAt s'.hp id (.tree e kk t (xs.set i y) none)⟩)
     |none=>none)else none
    |none=>none
   |_,_,_=>none)
  |_=>none
 | .UR k e t,s=>match lk s.fr k with
  |some (.nil _)=>some ⟨(k,.sl s.hp.length)::s.fr,s.hp++[.vec e t []]⟩
  |_=>none
 | .N8 id j e t,s=>match s.hp[id]? with
  |some (.box u cs)=>match cs[j]? with
   |some (.nil _)=>some ⟨s.fr,setAt s.hp id (.box u (setAt cs j (.sl s.hp.length)))++[.vec e t []]⟩
   |_=>none
  |_=>none
 | .N9 k e kk t,s=>match lk s.fr k with
  |some (.nil _)=>some ⟨(k,.sl s.hp.length)::s.fr,s.hp++[.tree e kk t [] none]⟩
  |_=>none
 | .I0 id j e kk t,s=>match s.hp[id]? with
  |some (.box u cs)=>match cs[j]? with
   |some (.nil _)=>some ⟨s.fr,setAt s.hp id (.box u (setAt cs j (.sl s.hp.length)))++[.tree e kk t [] none]⟩
   |_=>none
  |_=>none
 | .sel ids ks,s=>match ids.mapM (λi=>s.hp[i]?),ks.mapM (λk=>(lk s.fr k).map λv=>(k,v))with
  |some os,some fr=>bif decide ids.Nodup&&os.all (λo=>allIn ids o.ids)&&fr.all (λx=>allIn ids x.2.ids)then
   some ⟨fr.map λx=>(x.1,ju (V.eV (Es ids)) x.2),os.map (rz (V.eV (Es ids)))⟩else none
  |_,_=>none
 | .drop ks,s=>some ⟨s.fr.filter λx=> !kJ ks x.1,s.hp⟩
def UQ:List BE->S->Option S
 |[],s=>some s
 |a::l,s=>match lZ a s with
  |some s=>UQ l s
  |none=>none
def UP{R:Type}:BE->S->(S->Option R)->Option R
 | .focus id k j u,s,κ=>match lk s.fr k,s.hp[id]? with
  |some (.d (.int _) n),some (.tree e kk t xs none)=>match kk.at j with
   |some (c,b,d)=>bif a_ b u.sz then ci (decide (0<=n)) (e_ xs[n.toNat]? λx=>(match qq t j (.list u) x with
    |some L=>κ ⟨s.fr,setAt s.hp id (.tree e kk t xs (some (n.toNat,j,.sl s.hp.length)))++[rh c d u L]⟩
    |none=>none))else none
   |none=>none
  |_,_=>none
 | .close id,s,κ=>match s.hp[id]? with
  |some (.tree e kk t xs (some (i,j,.sl kid)))=>bif a_ kid id then none else(match kk.at j,s.hp[kid]?,Vf t j with
   |some (c,b,d),some o,some u=>match yx c d u o with
    |some L=>bif a_ b u.sz then e_ xs[i]? λx=>(match kF t j (.list u) x L with
     |some y=>κ (let s':=s.fD kid .gone;⟨s'.fr,setAt s'.hp id (.tree e kk t (xs.set i y) none)⟩)
     |none=>none)else none
    |none=>none
   |_,_,_=>none)
  |_=>none
 |a,s,κ=>match lZ a s with
  |some s=>κ s
  |none=>none
def vJ{R:Type}:List BE->S->(S->Option R)->Option R
 |[],s,κ=>κ s
 |a::l,s,κ=>UP a s λs=>vJ l s κ
inductive Arg where
 |d (t:Ty)
 |x
inductive lz where
 |mv (x:X)
 |pick (c a b:X)
 |bin (op:BinOp) (x y:X)
 |Gf (neg:Bool) (x y:X)
 |sy (neg:Bool) (tid:TypeId) (t:Ty) (x y:X)
 |un (op:UnOp) (x:X)
 |len (str:Bool) (x:X)
 |ol (k e:TypeId) (x:X)
 |ql (x i:X)
 |pB (n:Nat) (t:Ty) (x i:X)
 |qj (t:Ty) (x i:X)
 |qk (n:Nat) (t:Ty) (x i:X)
 |oj (off:Nat) (t:Ty) (x:X)
 |HJ (off:Nat) (t:Ty) (x:X)
 |load (t:Ty) (x:X)
 |store (t:Ty) (x v:X)
 |alloc (tid:TypeId) (zero:List V)
 |box (tid:TypeId) (x:X)
 |pW (tid:TypeId) (t:Ty) (x:X)
 |build (zero:List V) (parts:List (Nat×Nat×X))
 |bQ (own:Bool) (tid:TypeId) (t:Ty) (len:Nat) (parts:List X)
 |cU (tid:TypeId) (t:Ty) (bytes:Nat) (l c:X)
 |append (tid:TypeId) (t:Ty) (bytes:Nat) (x y:X)
 |pY (k:IntKind) (x:X)
 |Im (full:Bool) (t:Ty) (x:X) (lo hi mx:Option X)
 |qw (x:X) (lo hi:Option X)
 |ext (x:X) (i:Nat)
 |rC (x:X)
 |call (bor:Bool) (f:FuncId) (args:List (Arg×X)) (sh:Sh)
 |gF (jv bor:Bool) (B:List Nat) (f:FuncId) (args:List (Arg×X)) (sh:Sh)
 |fz (jv bor:Bool) (B:List Nat) (num:Nat) (x:X) (args:List (Arg×X)) (sh:Sh)
 |Gb (x:X)
 |rB (f:FuncId) (caps:List X)
 |ik (k e:TypeId) (a b:Ty)
 |lookup (k e:TypeId) (ok:Bool) (a b:Ty) (m x:X)
 |gY (k e:TypeId) (a b:Ty) (m x v:X)
 |copy (tid:TypeId) (t:Ty) (x y:X)
 |mb (mx:Bool) (k:IntKind) (x:X) (ys:List X)
 |panic (x:X)
 |iface (tid:TypeId) (x:X)
 |ow (tid:TypeId) (t:Ty) (len:Nat) (parts:List X)
 |pi (tid:TypeId) (t:Ty) (bytes:Nat) (x y:X)
 |eE (tid:TypeId) (k:K) (t:Ty) (len:Nat) (parts:List X)
 |d6 (tid:TypeId) (k:K) (u:Ty) (bytes:Nat) (l c:X)
 |pj (tid:TypeId) (k:K) (t:Ty) (bytes:Nat) (x y:X)
 |hZ (bor:Bool) (num:Nat) (x:X) (args:List (Arg×X)) (sh:Sh)
 |uj (k:Nat) (op:lz)
abbrev bi:=FuncId->List V->List Ob->Option (Option S)
section
variable {R:Type}
def Yc(op:BinOp)(k c:IntKind)(a b:Int)(κ:V->Option R):Option R:=
 match op with
 | .shl=>ci (decide (0<=b)) (κ (.d (.int k) (k.wrap (a*2^(min b.toNat k.bits)))))
 | .shr=>ci (decide (0<=b)) (κ (.d (.int k) (a.fdiv (2^(min b.toNat k.bits)))))
 |op=>bif decide (k=c)then(match op with
  | .add=>κ (.d (.int k) (k.wrap (a+b)))
  | .sub=>κ (.d (.int k) (k.wrap (a - b)))
  | .mul=>κ (.d (.int k) (k.wrap (a*b)))
  | .quo=>ci (b != 0) (κ (.d (.int k) (k.wrap (a.tdiv b))))
  | .rem=>ci (b != 0) (κ (.d (.int k) (a.tmod b)))
  | .and=>κ (.d (.int k) (lE k .and a b))
  | .or=>κ (.d (.int k) (lE k .or a b))
  | .xor=>κ (.d (.int k) (lE k .xor a b))
  | .andNot=>κ (.d (.int k) (lE k .andNot a b))
  | .eql=>κ (.d .bool (a==b))
  | .neq=>κ (.d .bool (a != b))
  | .lss=>κ (.d .bool (decide (a<b)))
  | .leq=>κ (.d .bool (decide (a<=b)))
  | .gtr=>κ (.d .bool (decide (a>b)))
  | .geq=>κ (.d .bool (decide (a>=b)))
  |_=>none)else none
def Yd(op:BinOp)(a b:List UInt8)(κ:V->Option R):Option R:=
 match op with
 | .add=>ci (decide (a.length+b.length<=9223372036854775807)) (κ (.d .str (a++b)))
 | .eql=>κ (.d .bool (a==b))
 | .neq=>κ (.d .bool (!(a==b)))
 | .lss=>κ (.d .bool (Op.bytesLess a b))
 | .leq=>κ (.d .bool (Op.bytesLess a b||a==b))
 | .gtr=>κ (.d .bool (!(Op.bytesLess a b||a==b)))
 | .geq=>κ (.d .bool (!(Op.bytesLess a b)))
 |_=>none
def intOf(v:Option V)(κ:Int->Option R):Option R:=match v with
 |some (.d (.int _) n)=>κ n
 |_=>none
def iV(hp:List Ob)(t:Ty)(v:Option V)(κ:List t.den->Option R):Option R:=match v with
 |some (.sl id)=>match hp[id]? with
  |some (.vec _ u xs)=>match bE (.list u) (.list t) xs with
   |some xs=>κ xs
   |none=>none
  |_=>none
 |some v=>match iw (.list t) v with
  |some xs=>κ xs
  |none=>none
 |none=>none
def vL(s:S)(x:Option X)(a:Nat)(κ:Nat->Option R):Option R:=match x with
 |none=>κ a
 |some x=>intOf (s.get x) λn=>ci (decide (0<=n)) (κ n.toNat)
def rowAt(t:Ty):Nat->V->Int->Option t.den
 |n+1,.d (.pair a b) x,m=>match bE a t x.1 with
  |some y=>bif decide (m=0)then some y else rowAt t n (.d b x.2) (m - 1)
  |none=>none
 |n+1,.agg vs,m=>match Oe t vs with
  |some (x,l)=>bif decide (m=0)then some x else rowAt t n (.agg l) (m - 1)
  |none=>none
 |_,_,_=>none
def xf(t:Ty)(y:t.den):Nat->List V->Int->Option (List V)
 |n+1,vs,m=>match Oe t vs with
  |some (x,l)=>match xf t y n l (m - 1)with
   |some r=>some (gq t (bif decide (m=0)then y else x)++r)
   |none=>none
  |none=>none
 |0,vs,_=>some vs
def loadT(hp:List Ob)(t:Ty)(v:Option V)(κ:V->Option R):Option R:=match v with
 |some (.dp u x)=>match bE u t x with
  |some x=>κ (.d t x)
  |none=>none
 |some (.ptr id off)=>match hp[id]? with
  |some (.box _ cs)=>bif j_ (off+t.sz) cs.length then κ (whole t ((cs.drop off).take t.sz))else none
  |_=>none
 |some (.KG id off n u m)=>match hp[id]? with
  |some (.box _ cs)=>bif j_ (off+n*u.sz) cs.length&&decide (u=t)then e_ (rowAt t n (.agg ((cs.drop off).take (n*u.sz))) m) λx=>κ (.d t x)else none
  |_=>none
 |some (.i6 id i off)=>match hp[id]? with
  |some (.vec _ u xs)=>bif decide (u=t)|| !a_ t.sz u.sz then e_ xs[i]? λx=>(match qq u off t x with
   |some y=>κ (.d t y)
   |none=>none)else none
  |some (.tree _ k u xs hole)=>bif k.mh off t.sz then e_ xs[i]? λx=>(match qq u off t x with
   |some y=>κ (.d t y)
   |none=>none)else(match hole with
    |some (a,b,v)=>bif a_ b off&& !t.ag&&j_ (off+1) u.sz&&(match v with| .sl _=>true|_=>false)then e_ xs[i]? λ_=>ci (a_ a i) (κ v)else none
    |none=>none)
  |_=>none
 |_=>none
def fP(cs:List V)(off:Nat)(vs:List V):List V:=cs.take off++vs++cs.drop (off+vs.length)
def storeT(s:S)(t:Ty)(a:Option V)(v:Option V)(κ:S->Option R):Option R:=match a,v with
 |some (.ptr id off),some v=>match s.hp[id]? with
  |some (.box tid cs)=>bif a_ (dq v).length t.sz&&j_ (off+t.sz) cs.length&&v.okB then κ ⟨s.fr,setAt s.hp id (.box tid (fP cs off (dq v)))⟩else none
  |_=>none
 |some (.KG id off n u m),some v=>match s.hp[id]?,cA t v with
  |some (.box tid cs),some y=>bif j_ (off+n*u.sz) cs.length&&decide (u=t)&&j_ 1 t.sz then(match xf t y n ((cs.drop off).take (n*u.sz)) m with
   |some vs=>ci (decide (0<=m)&&decide (m<n)) (κ ⟨s.fr,setAt s.hp id (.box tid (fP cs off vs))⟩)
   |none=>none)else none
  |_,_=>none
 |some (.i6 id i off),some v=>match s.hp[id]?,cA t v with
  |some (.vec e u xs),some y=>bif decide (u=t)|| !a_ t.sz u.sz then e_ xs[i]? λx=>(match kF u off t x y with
   |some z=>κ ⟨s.fr,setAt s.hp id (.vec e u (xs.set i z))⟩
   |none=>none)else none
  |some (.tree e k u xs hole),some y=>bif k.mh off t.sz&&u.ag then e_ xs[i]? λx=>(match kF u off t x y with
   |some z=>κ ⟨s.fr,setAt s.hp id (.tree e k u (xs.set i z) hole)⟩
   |none=>none)else none
  |some (.tree e k u xs (some (b,c,_))),none=>(match v with
   | .sl kid=>bif a_ c off&&a_ t.sz 1&&j_ (off+1) u.sz then e_ xs[i]? λ_=>ci (a_ b i) (κ ⟨s.fr,setAt s.hp id (.tree e k u xs (some (b,c,.sl kid)))⟩)else none
   |_=>none)
  |_,_=>none
 |_,_=>none
def V.isRef:V->Bool
 | .sl _=>true
 | .ptr _ _=>true
 | .KG _ _ _ _ _=>true
 | .i6 _ _ _=>true
 | .kT _ _=>true
 | .mp _=>true
 |_=>false
def Hn(s:S)(bor:Bool)(B:List Nat)(a:Arg×X):Option V:=match a.1,s.get a.2 with
 | .d (.list t),some (.sl id)=>bif bor&& !kJ B id then(match s.hp[id]? with
  |some (.vec _ u xs)=>match bE (.list u) (.list t) xs with
   |some xs=>some (.d (.list t) xs)
   |none=>none
  |some (.tree _ _ u xs none)=>match bE (.list u) (.list t) xs with
   |some xs=>some (.d (.list t) xs)
   |none=>none
  |_=>none)else none
 | .d t,some v=>match cA t v with
  |some x=>some (.d t x)
  |none=>none
 | .x,some v=>match v with
  | .d _ _=>none
  | .nil _=>none
  | .full _ _=>none
  | .raw (.slice _ _ _)=>none
  | .agg vs=>bif vs.any V.isRef then some (.agg vs)else none
  |v=>some v
 |_,none=>none
def kQ(s:S)(bor:Bool)(B:List Nat):List (Arg×X)->Option (List V)
 |[]=>some []
 |a::l=>match Hn s bor B a with
  |some v=>match kQ s bor B l with
   |some vs=>some (v::vs)
   |none=>none
  |none=>none
def zau(hp:List Ob):V->V
 | .sl id=>match hp[id]? with
  |some (.vec _ u xs)=>.d (.list u) xs
  |some (.tree _ _ u xs none)=>.d (.list u) xs
  |_=>.sl id
 |v=>v
def zad(s:S)(bor:Bool)(a:Arg×X):Option V:=match Hn s bor [] a with
 |some v=>some v
 |none=>match a.1,s.get a.2 with
  | .d t,some (.agg vs)=>bif bor then(match cA t (.agg (vs.map (zau s.hp)))with
   |some x=>some (.d t x)
   |none=>none)else none
  |_,_=>none
def Ho(s:S)(bor:Bool):List (Arg×X)->Option (List V)
 |[]=>some []
 |a::l=>match zad s bor a with
  |some v=>match Ho s bor l with
   |some vs=>some (v::vs)
   |none=>none
  |none=>none
def ii:Ty->List Ty
 | .unit=>[]
 | .pair a b=>ii a++ii b
 | .rx=>[.int .i64,.int .i64,.int .i64,.list .rx]
 |t=>[t]
def flatK:K->List Ty->Bool
 | .e,ts=>ts.all Ty.flat
 | .f r,t::ts=>t.flat&&flatK r ts
 | .s _ sz sub r,.list u::ts=>a_ sz u.sz&&flatK sub (ii u)&&flatK r ts
 |_,_=>false
def Slot.flat:Slot->Bool
 | .tm _ t=>t.flat
 | .cell _ _ t=>t.flat
 | .vec _ _ t=>t.flat
 | .map _ _ _ a b=>a.flat&&b.flat
 | .tree _ _ k t=>flatK k (ii t)
 | .iE _ _ k t _ _=>flatK k (ii t)
def vz(fr:List (Nat×V))(n:Nat):List V:=(L_ n).map λi=>(lk fr i).getD .any
def res(n:Nat)(fr:List (Nat×V)):V:=bif a_ n 1 then(lk fr 0).getD .any else .dP (vz fr n)
def V.HR:V->Bool
 | .agg _=>true
 | .dP _=>true
 |_=>false
def MP(n:Nat)(fr:List (Nat×V)):Bool:=a_ n 1||fr.all λx=> !x.2.HR
def Hr(B:List Nat)(n k:Nat):Nat:=bif j_ (k+1) B.length then B.getD k 0 else n+(k - B.length)
def rk(B:List Nat):V->V
 | .sl k=>bif kJ B k then .any else .sl k
 | .i6 k i o=>bif kJ B k then .any else .i6 k i o
 |v=>v
def Qs(B:List Nat)(os:List Ob)(n:Nat):Nat->List Ob->List Ob
 |_,[]=>[]
 |i,o::l=>(bif kJ B i then rz (V.eV (Hr B n)) (os.getD (Es B i) .gone)else rz (rk B) o)::Qs B os n (i+1) l
def S.back(s:S)(B:List Nat)(os:List Ob):S:=
 ⟨s.fr.map λx=>(x.1,ju (rk B) x.2),Qs B os s.hp.length 0 s.hp++(os.drop B.length).map (rz (V.eV (Hr B s.hp.length)))⟩
def Sh.n(sh:Sh):Nat:=(sh.sk.fr.length)+(sh.sl.filter λx=>match x with| .tm _ _=>true|_=>false).length
def gm(O:bi)(f:FuncId)(ars:List V)(os:List Ob)(sh:Sh):Option (HL sh.sl):=match O f ars os with
 |some (some s)=>bif a_ s.fr.length sh.n&&MP sh.n s.fr then pack sh s else none
 |_=>none
def pX(O:bi)(f:FuncId)(ars:List V)(os:List Ob)(sh:Sh):Option (Option (HL sh.sl)):=match O f ars os with
 |some (some s)=>bif a_ s.fr.length sh.n&&MP sh.n s.fr then(match pack sh s with|some c=>some (some c)|none=>none)else none
 |some none=>some none
 |none=>none
end
def V.isNil:V->Bool
 | .nil _=>true
 |_=>false
def V.ZL:V->Bool
 | .raw _=>true
 |_=>false
def V5(k:K)(v:V):Bool:=(match v with| .agg _=>true| .nil _=>true|_=>false)&&(L_ (dq v).length).all λj=>(((dq v).getD j .any).isNil==(k.at j).isSome)&& !((dq v).getD j .any).ZL
def zaH(k:K)(cs:List V):Bool:=(L_ cs.length).all λj=>match k.at j with
 |some _=>(match cs.getD j .any with| .d (.list _) l=>l.isEmpty|_=>false)
 |none=>true
section
variable {R:Type}
def zL(s:S)(d:Option Nat)(B:List Nat)(n:Nat)(sh:Sh)(κ:S->Option R)(c:HL sh.sl):Option R:=
 let r:=unpack sh.sl c (sh.base ⟨[],[]⟩)
 κ ((s.back B r.hp).aF d (ju (V.eV (Hr B s.hp.length)) (res n r.fr)))
def MM(s:S)(B:List Nat):Option (List Ob):=match B with
 |[]=>some []
 |i::B=>match s.hp[i]? with
  |some o=>match MM s B with
   |some os=>some (o::os)
   |none=>none
  |none=>none
def wl(jv:Bool)(O:bi)(s:S)(d:Option Nat)(bor:Bool)(B:List Nat)(f:FuncId)(ars:List V)(sh:Sh)(κ kp:S->Option R):Option R:=match MM s B with
 |some os=>bif decide B.Nodup&&ars.all (λa=>allIn B a.ids)&&os.all (λo=>allIn B o.ids)&&(!bor||sh.sl.all Slot.flat)then
  (match jv with
  |false=>e_ (gm O f (ars.map (ju (V.eV (Es B)))) (os.map (rz (V.eV (Es B)))) sh) (zL s d B sh.n sh κ)
  |true=>e_ (pX O f (ars.map (ju (V.eV (Es B)))) (os.map (rz (V.eV (Es B)))) sh) λo=>match o with
   |some c=>zL s d B sh.n sh κ c
   |none=>kp (s.back B (os.map λ_=>.gone)))else none
 |none=>none
def aX(O:bi)(d:Option Nat)(op:lz)(s:S)(κ kp:S->Option R):Option R:=
 match op with
 | .mv x=>match s.get x with
  |some v=>κ (s.aF d v)
  |none=>none
 | .pick c a b=>match s.get c,s.get a,s.get b with
  |some (.d .bool c),some (.d t x),some (.d u y)=>match bE u t y with
   |some y=>κ (s.aF d (.d t (bif c then x else y)))
   |none=>none
  |some (.d .bool c),some (.raw _),some (.d u y)=>bif c then none else κ (s.aF d (.d u y))
  |some (.d .bool c),some (.d t x),some (.raw _)=>bif c then κ (s.aF d (.d t x))else none
  |_,_,_=>none
 | .bin op x y=>match s.get x,s.get y with
  |some (.d (.int k) a),some (.d (.int g) b)=>Yc op k g a b λv=>κ (s.aF d v)
  |some (.d .str a),some (.d .str b)=>Yd op a b λv=>κ (s.aF d v)
  |_,_=>none
 | .Gf neg x y=>match s.get x,s.get y with
  |some (.d .bool a),some (.d .bool b)=>κ (s.aF d (.d .bool (neg ^^ (a==b))))
  |_,_=>none
 | .sy neg _ t x y=>match s.get x,s.get y with
  |some v,some u=>match cA t v,cA t u with
   |some a,some b=>bif t.Dw then κ (s.aF d (.d .bool (neg ^^ gI t a b)))else none
   |_,_=>none
  |_,_=>none
 | .un op x=>match op,s.get x with
  | .not,some (.d .bool a)=>κ (s.aF d (.d .bool (!a)))
  | .neg,some (.d (.int k) a)=>κ (s.aF d (.d (.int k) (k.wrap (0 - a))))
  |_,_=>none
 | .len str x=>match str,s.get x with
  |true,some (.d .str a)=>κ (s.aF d (.d (.int .i64) a.length))
  |false,some (.d (.list _) a)=>κ (s.aF d (.d (.int .i64) a.length))
  |false,some (.nil _)=>κ (s.aF d (.d (.int .i64) 0))
  |false,some (.sl id)=>match s.hp[id]? with
   |some (.vec _ _ xs)=>κ (s.aF d (.d (.int .i64) xs.length))
   |some (.tree _ _ _ xs _)=>κ (s.aF d (.d (.int .i64) xs.length))
   |_=>none
  |_,_=>none
 | .ol k e x=>match s.get x with
  |some (.mp id)=>match s.hp[id]? with
   |some (.map g r _ _ kvs)=>bif a_ k g&&a_ e r then κ (s.aF d (.d (.int .i64) kvs.length))else none
   |_=>none
  |_=>none
 | .ql x i=>match s.get x with
  |some (.d .str a)=>intOf (s.get i) λn=>e_ (nv a n) λc=>κ (s.aF d (.d (.int .u8) c.toNat))
  |_=>none
 | .pB n t x i=>match s.get x with
  |some v=>bif a_ (dq v).length (n*t.sz)&&(match v with| .agg vs=>vs.all V.Qx|_=>true)then intOf (s.get i) λm=>e_ (rowAt t n v m) λc=>κ (s.aF d (.d t c))else none
  |none=>none
 | .qj t x i=>match s.get x with
  |some (.sl id)=>match s.hp[id]? with
   |some (.vec _ u xs)=>bif decide (u=t)then intOf (s.get i) λn=>e_ (nv xs n) λ_=>κ (s.aF d (.i6 id n.toNat 0))else none
   |some (.tree _ _ u xs _)=>bif decide (u=t)then intOf (s.get i) λn=>e_ (nv xs n) λ_=>κ (s.aF d (.i6 id n.toNat 0))else none
   |_=>none
  |some (.d (.list u) xs)=>match bE (.list u) (.list t) xs with
   |some xs=>intOf (s.get i) λn=>e_ (nv xs n) λx=>κ (s.aF d (.dp t x))
   |none=>none
  |_=>none
 | .qk n t x i=>match s.get x,i with
  |some (.ptr id off),.k (.int _) m=>ci (decide (0<=m)&&decide (m<n)) (κ (s.aF d (.ptr id (off+m.toNat*t.sz))))
  |some (.ptr id off),i=>intOf (s.get i) λm=>ci (decide (0<=m)&&decide (m<n)) (κ (s.aF d (.KG id off n t m)))
  |some (.dp u y),i=>bif a_ u.sz (n*t.sz)&&u.ag then intOf (s.get i) λm=>e_ (rowAt t n (.d u y) m) λc=>κ (s.aF d (.dp t c))else none
  |_,_=>none
 | .oj off t x=>match s.get x with
  |some (.dp u y)=>match qq u off t y with
   |some z=>κ (s.aF d (.dp t z))
   |none=>none
  |some (.ptr id o)=>κ (s.aF d (.ptr id (o+off)))
  |some (.i6 id i o)=>κ (s.aF d (.i6 id i (o+off)))
  |_=>none
 | .HJ off t x=>match s.get x with
  |some (.d u y)=>bif u.ag then(match qq u off t y with
   |some z=>κ (s.aF d (.d t z))
   |none=>none)else none
  |some (.agg vs)=>bif j_ (off+t.sz) vs.length then κ (s.aF d (whole t ((vs.drop off).take t.sz)))else none
  |_=>none
 | .load t x=>loadT s.hp t (s.get x) λv=>κ (s.aF d v)
 | .store t x v=>match d with
  |none=>storeT s t (s.get x) (s.get v) κ
  |some _=>none
 | .alloc tid zero=>κ (S.aF ⟨s.fr,s.hp++[.box tid zero]⟩ d (.ptr s.hp.length 0))
 | .box tid x=>match s.get x with
  |some v=>bif v.okB then κ (S.aF ⟨s.fr,s.hp++[.box tid (dq v)]⟩ d (.ptr s.hp.length 0))else none
  |none=>none
 | .pW _ t x=>match s.get x with
  |some (.full _ _)=>none
  |some v=>match cA t v with
   |some y=>κ (s.aF d (.dp t y))
   |none=>none
  |none=>none
 | .build zero parts=>buildT s zero parts λcs=>κ (s.aF d (.agg cs))
 | .bQ own tid t len parts=>bif a_ parts.length len&&j_ 1 t.sz&&j_ (len*t.sz) 16777216 then listT s t parts λxs=>(match own with
  |true=>κ (S.aF ⟨s.fr,s.hp++[.vec tid t xs]⟩ d (.sl s.hp.length))
  |false=>κ (s.aF d (.d (.list t) xs)))else none
 | .cU tid t bytes l c=>bif j_ 1 t.sz then intOf (s.get l) λl=>intOf (s.get c) λc=>
  ci (decide (0<=l)&&decide (l<=c)&&decide (c<=9223372036854775807)&&decide (bytes*c<=281474976710656)) (κ (S.aF ⟨s.fr,s.hp++[.vec tid t (K_ l.toNat t.zero)]⟩ d (.sl s.hp.length)))else none
 | .append tid t bytes x y=>iV s.hp t (s.get y) λys=>match s.get x with
  |some (.sl id)=>match s.hp[id]? with
   |some (.vec e u xs)=>match bE (.list u) (.list t) xs with
    |some xs=>bif a_ e tid then ci (decide ((xs.length+ys.length)*bytes<=140737488355328)) (κ ((s.fD id (.vec e t (xs++ys))).aF d (.sl id)))else none
    |none=>none
   |_=>none
  |some (.nil _)=>ci (decide (ys.length*bytes<=140737488355328)) (κ (S.aF ⟨s.fr,s.hp++[.vec tid t ys]⟩ d (.sl s.hp.length)))
  |some (.full _ [])=>ci (decide (ys.length*bytes<=140737488355328)) (κ (S.aF ⟨s.fr,s.hp++[.vec tid t ys]⟩ d (.sl s.hp.length)))
  |_=>none
 | .pY k x=>match s.get x with
  |some (.d (.int _) n)=>κ (s.aF d (.d (.int k) (k.wrap n)))
  |_=>none
 | .Im full t x lo p mx=>match s.get x with
  |some (.sl id)=>match s.hp[id]? with
   |some (.tree _ _ u xs _)=>bif a_ u.sz t.sz&& !full then vL s lo 0 λl=>vL s p xs.length λh=>vL s mx xs.length λm=>
    bif !(mx.isSome&& !p.isSome)then ci (decide (l<=h)&&decide (h<=m)&&decide (m<=xs.length)) (ci (a_ h l) (κ (s.aF d (.d (.list t) []))))else none else none
   |_=>none
  |v=>iV s.hp t v λxs=>vL s lo 0 λl=>vL s p xs.length λh=>vL s mx xs.length λm=>
   bif !(mx.isSome&& !p.isSome)then ci (decide (l<=h)&&decide (h<=m)&&decide (m<=xs.length)) (match full with
    |false=>κ (s.aF d (.d (.list t) ((xs.take h).drop l)))
    |true=>ci (mx.isSome&&decide (h=m)) (κ (s.aF d (.full t ((xs.take h).drop l)))))else none
 | .qw x lo p=>match s.get x with
  |some (.d .str a)=>vL s lo 0 λl=>vL s p a.length λh=>ci (decide (l<=h)&&decide (h<=a.length)) (κ (s.aF d (.d .str ((a.take h).drop l))))
  |_=>none
 | .ext x i=>match s.get x with
  |some (.dP vs)=>match vs[i]? with
   |some v=>bif (match v with| .agg _=>false| .dP _=>false|_=>true)then κ (s.aF d v)else none
   |none=>none
  |_=>none
 | .rC x=>match s.get x with
  |some v=>(match v with
   | .dp _ _=>κ (s.aF d v)
   | .ptr _ _=>κ (s.aF d v)
   | .KG _ _ _ _ _=>κ (s.aF d v)
   | .i6 _ _ _=>κ (s.aF d v)
   | .kT _ _=>κ (s.aF d v)
   | .HK _ _=>κ (s.aF d v)
   |_=>none)
  |none=>none
 | .call bor f args sh=>match Ho s bor args with
  |some ars=>bif ars.all V.ri&&sh.sk.fr.isEmpty&&(!bor||sh.sl.all Slot.flat)then
   e_ (gm O f ars [] sh) λc=>κ (s.aF d (res sh.n (unpack sh.sl c (sh.base ⟨[],[]⟩)).fr))else none
  |none=>none
 | .gF jv bor B f args sh=>match kQ s bor B args with
  |some ars=>wl jv O s d bor B f ars sh κ kp
  |none=>none
 | .fz jv bor B num x args sh=>match s.get x,kQ s bor B args with
  |some (.kT f ids),some ars=>bif a_ (num%10000) f then wl jv O s d bor B num (ars++ids.map λi=>.ptr i 0) sh κ kp else none
  |some (.HK f cs),some ars=>bif a_ (num%10000) f then wl jv O s d bor B num (ars++cs.map λc=>.dp c.1 c.2) sh κ kp else none
  |_,_=>none
 | .hZ bor num x args sh=>match s.get x,kQ s bor [] args with
  |some (.HK f cs),some ars=>bif a_ (num%10000) f&&ars.all V.ri&&sh.sk.fr.isEmpty&&(!bor||sh.sl.all Slot.flat)then
   e_ (gm O num (ars++cs.map λc=>.dp c.1 c.2) [] sh) λc=>κ (s.aF d (res sh.n (unpack sh.sl c (sh.base ⟨[],[]⟩)).fr))else none
  |_,_=>none
 | .Gb x=>iV s.hp (.int .u8) (s.get x) λl=>κ (s.aF d (.d .str (l.map fun(n:Int)=>UInt8.ofNat n.toNat)))
 | .rB f caps=>match capsOf s caps with
  |some ids=>κ (s.aF d (.kT f ids))
  |none=>match capsD s caps with
   |some cs=>κ (s.aF d (.HK f cs))
   |none=>none
 | .ik k e a b=>κ (S.aF ⟨s.fr,s.hp++[.map k e a b []]⟩ d (.mp s.hp.length))
 | .lookup k e ok a b m x=>match s.get m,s.get x with
  |some (.mp id),some v=>match s.hp[id]?,cA a v with
   |some (.map g r A b' kvs),some y=>match bE (.list (.pair A b')) (.list (.pair a b)) kvs with
    |some kvs=>bif a_ k g&&a_ e r&&a.Dw then(match ok with
     |true=>κ (s.aF d (.dP [.d b ((dA a b kvs y).getD b.zero),.d .bool (dA a b kvs y).isSome]))
     |false=>κ (s.aF d (.d b ((dA a b kvs y).getD b.zero))))else none
    |none=>none
   |_,_=>none
  |_,_=>none
 | .gY k e a b m x v=>match d,s.get m,s.get x,s.get v with
  |none,some (.mp id),some u,some w=>match s.hp[id]?,cA a u,cA b w with
   |some (.map g r A b' kvs),some y,some z=>match bE (.list (.pair A b')) (.list (.pair a b)) kvs with
    |some kvs=>bif a_ k g&&a_ e r&&a.Dw&& !b.ag then ci (decide (kvs.length<maxLen)) (κ ⟨s.fr,setAt s.hp id (.map k e a b (fh a b kvs y z))⟩)else none
    |none=>none
   |_,_,_=>none
  |_,_,_,_=>none
 | .copy tid t x y=>match s.get x,s.get y with
  |some (.sl id),some v=>bif (match v with| .sl j=> !a_ id j|_=>true)then(iV s.hp t (some v) λys=>match s.hp[id]? with
   |some (.vec e u xs)=>match bE (.list u) (.list t) xs with
    |some xs=>bif a_ e tid then κ (S.aF ⟨s.fr,setAt s.hp id (.vec e t (ys.take xs.length++xs.drop ys.length))⟩ d (.d (.int .i64) (min xs.length ys.length:Nat)))else none
    |none=>none
   |_=>none)else none
  |_,_=>none
 | .mb mx k x ys=>match s.get x with
  |some (.d (.int g) n)=>bif decide (g=k)then intsOf s k ys λC=>κ (s.aF d (.d (.int k) (C.foldl (fun(a b:Int)=>bif mx then max a b else min a b) n)))else none
  |_=>none
 | .panic x=>match s.get x with
  |some .KF=>kp s
  |_=>none
 | .iface _ x=>match s.get x with
  |some _=>κ (s.aF d .KF)
  |none=>none
 | .ow _ t len parts=>bif a_ parts.length len&&j_ 1 t.sz&&j_ (len*t.sz) 16777216 then listT s t parts λxs=>κ (s.aF d (.full t xs))else none
 | .pi _ t bytes x y=>iV s.hp t (s.get y) λys=>match s.get x with
  |some (.nil _)=>ci (decide (ys.length*bytes<=140737488355328)) (κ (s.aF d (.d (.list t) ys)))
  |some (.full u xs)=>match bE (.list u) (.list t) xs with
   |some xs=>ci (decide ((xs.length+ys.length)*bytes<=140737488355328)) (κ (s.aF d (.d (.list t) (xs++ys))))
   |none=>none
  |_=>none
 | .eE _ k t len parts=>bif a_ parts.length len&&j_ 1 t.sz&&j_ (len*t.sz) 16777216 then listN s k t parts λxs=>κ (s.aF d (.lit k t xs))else none
 | .d6 tid k u bytes l c=>bif (k.at 0).isSome then intOf (s.get l) λl=>intOf (s.get c) λc=>
  ci (decide (0<=l)&&decide (l<=c)&&decide (c<=9223372036854775807)&&decide (bytes*c<=281474976710656)) (κ (S.aF ⟨s.fr,s.hp++[.tree tid k (.list u) (K_ l.toNat []) none]⟩ d (.sl s.hp.length)))else none
 | .pj tid k t bytes x y=>match s.get y with
  |some (.lit g u ys)=>bif decide (k=g)then(match bE (.list u) (.list t) ys with
   |some ys=>bif ys.all (λy=>zaH k (gq t y))then(match s.get x with
    |some (.sl id)=>match s.hp[id]? with
     |some (.tree e D E xs none)=>match bE (.list E) (.list t) xs with
      |some xs=>bif a_ e tid&&decide (k=D)then ci (decide ((xs.length+ys.length)*bytes<=140737488355328)) (κ ((s.fD id (.tree e k t (xs++ys) none)).aF d (.sl id)))else none
      |none=>none
     |_=>none
    |some (.nil _)=>ci (decide (ys.length*bytes<=140737488355328)) (κ (S.aF ⟨s.fr,s.hp++[.tree tid k t ys none]⟩ d (.sl s.hp.length)))
    |_=>none)else none
   |none=>none)else none
  |_=>none
 | .uj k op=>match s.hp[k]? with
  |some .free=>mkT s op λo v=>κ (S.aF ⟨s.fr,setAt s.hp k o⟩ d (v k))
  |_=>none
where
 mkT (s:S) (op:lz) (κ:Ob->(Nat->V)->Option R):Option R:=match op with
  | .alloc tid zero=>κ (.box tid zero) λn=>.ptr n 0
  | .box tid x=>match s.get x with
   |some v=>bif v.okB then κ (.box tid (dq v)) (λn=>.ptr n 0)else none
   |none=>none
  | .bQ true tid t len parts=>bif a_ parts.length len&&j_ 1 t.sz&&j_ (len*t.sz) 16777216 then listT s t parts λxs=>κ (.vec tid t xs) .sl else none
  | .cU tid t bytes l c=>bif j_ 1 t.sz then intOf (s.get l) λl=>intOf (s.get c) λc=>
   ci (decide (0<=l)&&decide (l<=c)&&decide (c<=9223372036854775807)&&decide (bytes*c<=281474976710656)) (κ (.vec tid t (K_ l.toNat t.zero)) .sl)else none
  | .append tid t bytes x y=>iV s.hp t (s.get y) λys=>match s.get x with
   |some (.nil _)=>ci (decide (ys.length*bytes<=140737488355328)) (κ (.vec tid t ys) .sl)
   |some (.full _ [])=>ci (decide (ys.length*bytes<=140737488355328)) (κ (.vec tid t ys) .sl)
   |_=>none
  | .ik k e a b=>κ (.map k e a b []) .mp
  |_=>none
 buildT (s:S) (cs:List V):List (Nat×Nat×X)->(List V->Option R)->Option R
  |[],κ=>κ cs
  |(off,sz,x)::l,κ=>match s.get x with
   |some v=>bif a_ (dq v).length sz&&j_ (off+sz) cs.length&&v.okB then buildT s (fP cs off (dq v)) l κ else none
   |none=>none
 listT (s:S) (t:Ty):List X->(List t.den->Option R)->Option R
  |[],κ=>κ []
  |x::l,κ=>match s.get x with
   |some v=>match cA t v with
    |some y=>listT s t l λys=>κ (y::ys)
    |none=>none
   |none=>none
 listN (s:S) (k:K) (t:Ty):List X->(List t.den->Option R)->Option R
  |[],κ=>κ []
  |x::l,κ=>match s.get x with
   |some v=>match cA t v with
    |some y=>bif V5 k v then listN s k t l λys=>κ (y::ys)else none
    |none=>none
   |none=>none
 capsOf (s:S):List X->Option (List Nat)
  |[]=>some []
  |x::l=>match s.get x with
   |some (.ptr i 0)=>match capsOf s l with
    |some ids=>some (i::ids)
    |none=>none
   |_=>none
 capsD (s:S):List X->Option (List ((t:Ty)×t.den))
  |[]=>some []
  |x::l=>match s.get x with
   |some (.dp t y)=>match capsD s l with
    |some cs=>some (⟨t,y⟩::cs)
    |none=>none
   |_=>none
 intsOf (s:S) (k:IntKind):List X->(List Int->Option R)->Option R
  |[],κ=>κ []
  |x::l,κ=>match s.get x with
   |some (.d (.int g) n)=>bif decide (g=k)then intsOf s k l λC=>κ (n::C)else none
   |_=>none
inductive RC where
 |nil
 |op (d:Option Nat) (o:lz) (rest:RC)
 |lZ (l:List BE) (rest:RC)
 |gb (t:Nat) (want:Bool) (dX:RC) (ty:Ty) (r alt:X) (dst:Nat) (rest:RC)
def RC.fx:RC->List Nat
 | .nil=>[]
 | .op d _ rest=>(match d with|some d=>[d]|none=>[])++rest.fx
 | .lZ _ rest=>rest.fx
 | .gb _ _ dX _ _ _ dst rest=>dX.fx++dst::rest.fx
def Dz(O:bi):(R:Type)->RC->S->(S->Option R)->(S->Option R)->Option R
 |_,.nil,s,κ,_=>κ s
 |R,.op d o rest,s,κ,kp=>aX O d o s (λs'=>Dz O R rest s' κ kp) kp
 |R,.lZ l rest,s,κ,kp=>vJ l s λs=>Dz O R rest s κ kp
 |R,.gb t want dX ty r alt dst rest,s,κ,kp=>match lk s.fr t,s.get alt with
  |some (.d .bool b),some a=>match(bif dX.fx.all (λk=>(lk s.fr k).isNone)then cA ty a else none)with
   |some alt=>e_ (match want with
    |true=>bif b then Dz O ty.den dX s (λs'=>match s'.get r with|some v=>cA ty v|none=>none) (λ_=>none)else some alt
    |false=>bif b then some alt else Dz O ty.den dX s (λs'=>match s'.get r with|some v=>cA ty v|none=>none) (λ_=>none))
    λc=>Dz O R rest (s.put dst (.d ty c)) κ kp
   |none=>none
  |_,_=>none
end
structure PO where
 j:Nat
 b:Bool
 us:List Nat
 rd:List Nat
 kY:List Nat
 d:Option Nat
 o:lz
 g:Option (Nat×Bool)
def FE(s:S)(rd kY:List Nat):List Nat:=(rd.flatMap λk=>match lk s.fr k with|some v=>v.ids|none=>[])++kY
def me(s:S)(p:PO):List Nat:=match p.b,p.o,p.g with
 |true,.mv _,none=>[]
 |_,_,_=>FE s p.rd p.kY
def Vb(r:Av.Rec)(T rd kY:List Nat)(d:Option Nat)(b:Bool):Bool:=
 (match r.d with
  |some t=> !kJ rd t&&(match d with|some u=> !a_ u t|none=>true)
  |none=>true)&&
 (match d with
  |some t=> !kJ r.rd t
  |none=>true)&&
 (match r.s with
  |some t=> !kJ T t
  |none=>true)&&
 (match b with
  |true=>kY.all λt=> !kJ r.F t
  |false=>T.all λt=> !kJ r.G t)
def Eo(s:S)(i:Nat):List Nat:=match s.hp[i]? with
 |some o=>o.kids
 |none=>[]
def xk:lz->Option Nat
 | .uj k _=>some k
 |_=>none
def QV(s:S)(d:Option Nat):List Nat:=match d with
 |some k=>(match lk s.fr k with
  |some v=>v.kids
  |none=>[])
 |none=>[]
def M4(s s':S)(d:Option Nat)(T:List Nat):List Nat:=T++T.flatMap (Eo s)++QV s' d
def Tp(s s':S)(rd:List Nat)(d:Option Nat):List Nat:=(rd.flatMap λk=>match lk s.fr k with|some v=>v.kids|none=>[])++QV s' d
structure qI where
 r:Av.Rec
 ld:Option (Ty×Nat×Nat×V)
def JO(s s':S)(p:PO):Option (Ty×Nat×Nat×V):=match p.o,p.g,p.d with
 | .load t x,none,some d=>(match s.get x,lk s'.fr d with
  |some (.ptr id off),some v=>some (t,id,off,v)
  |_,_=>none)
 |_,_,_=>none
def Fb(hp:List Ob)(t:Ty)(id off:Nat):Option V:=match hp[id]? with
 |some (.box _ cs)=>bif j_ (off+t.sz) cs.length then some (whole t ((cs.drop off).take t.sz))else none
 |_=>none
def W8{R:Type}(k:Option R):V->V->Option R
 | .d t x,.d u y=>(match bE u t y with
  |some z=>bif t.Dw then(bif gI t x z then k else none)else none
  |none=>none)
 | .ptr i o,.ptr j q=>bif a_ i j&&a_ o q then k else none
 | .mp i,.mp j=>bif a_ i j then k else none
 |_,_=>none
def reL{R:Type}(T us:List Nat)(s':S)(k:Option R):List qI->Option R
 |[]=>k
 |a::A=>bif !kJ us a.r.i||T.all (λt=> !kJ a.r.F t)then reL T us s' k A else(match a.ld with
  |some (t,id,off,v)=>(match Fb s'.hp t id off with
   |some b=>bif (Eo s' id).all (kJ a.r.F)then W8 (reL T us s' k A) v b else none
   |none=>none)
  |none=>none)
def To{R:Type}(A:List qI)(s s':S)(p:PO)(k:Option R):Option R:=bif p.b then k else reL (FE s p.rd p.kY) p.us s' k A
def Xk(s:S):lz->Bool
 | .store _ x _=>(match s.get x with
  |some (.ptr _ _)=>true
  |some (.i6 id _ _)=>(match s.hp[id]? with
   |some (.vec _ _ _)=>true
   |_=>false)
  |_=>false)
 |_=>true
def ZW(A:List qI)(o:lz):Bool:=match xk o with
 |some k=>A.all λa=>(match a.ld with
  |some (_,id,_,_)=> !a_ id k
  |none=>true)
 |none=>true
def zP(A:List qI)(s:S)(p:PO):Bool:=A.all (λa=> !kJ p.us a.r.i||Vb a.r (me s p) p.rd p.kY p.d p.b)&&(!p.b||(me s p).all λi=>Nat.blt i s.hp.length)&&Xk s p.o&&ZW A p.o
def vu(A:List qI)(s s':S)(p:PO):List qI:=bif p.b then A++[⟨⟨p.j,p.d,p.rd,xk p.o,M4 s s' p.d (me s p),Tp s s' p.rd p.d⟩,JO s s' p⟩]else A
def TU{R:Type}(O:bi):List qI->List PO->S->(S->Option R)->(S->Option R)->Option R
 |_,[],s,κ,_=>κ s
 |A,p::l,s,κ,kp=>match p.g with
  |none=>bif zP A s p then aX O p.d p.o s (λs'=>To A s s' p (TU O (vu A s s' p) l s' κ kp)) kp else none
  |some (t,want)=>match lk s.fr t with
   |some (.d .bool b)=>bif want==b
    then(bif zP A (s.put t (.d .bool want)) p then aX O p.d p.o (s.put t (.d .bool want)) (λs'=>To A (s.put t (.d .bool want)) s' p (TU O (vu A (s.put t (.d .bool want)) s' p) l s' κ kp)) kp else none)
    else(bif zP A (s.put t (.d .bool (!want))) p then To A (s.put t (.d .bool (!want))) ((s.put t (.d .bool (!want))).aF p.d (.raw Go.undef)) p (TU O (vu A (s.put t (.d .bool (!want))) ((s.put t (.d .bool (!want))).aF p.d (.raw Go.undef)) p) l ((s.put t (.d .bool (!want))).aF p.d (.raw Go.undef)) κ kp)else none)
   |_=>none
def TT{R:Type}(O:bi):List PO->S->(S->Option R)->(S->Option R)->Option R
 |[],s,κ,_=>κ s
 |p::l,s,κ,kp=>match p.g with
  |none=>aX O p.d p.o s (λs'=>TT O l s' κ kp) kp
  |some (t,want)=>match lk s.fr t with
   |some (.d .bool b)=>bif b
    then(match want with
     |true=>aX O p.d p.o (s.put t (.d .bool true)) (λs'=>TT O l s' κ kp) kp
     |false=>TT O l ((s.put t (.d .bool true)).aF p.d (.raw Go.undef)) κ kp)
    else(match want with
     |true=>TT O l ((s.put t (.d .bool false)).aF p.d (.raw Go.undef)) κ kp
     |false=>aX O p.d p.o (s.put t (.d .bool false)) (λs'=>TT O l s' κ kp) kp)
   |_=>none
inductive TC where
 |skip
 |region (ops:RC)
 |draw (k:Nat) (ops:RC) (af:List (List Nat))
 |ke (r:Nat) (pre:List PO) (tl:RC) (af:List (List Nat))
 |G3 (pre:List PO)
 |seq (a b:TC)
 |cond (x:X) (a b:TC)
 |block (id:Nat) (a:TC)
 |loop (sh:Sh) (xs:List (Nat×Sh)) (a:TC)
 |exit (id:Nat)
 |ret
 |lZ (l:List BE) (a:TC)
 |after (a:TC) (l:List BE)
 |cut (xs:List (Nat×Sh)) (a:TC)
def TC.fx:TC->List Nat
 | .region ops=>ops.fx
 | .draw _ ops _=>ops.fx
 | .G3 pre=>pre.flatMap λp=>match p.d with|some d=>[d]|none=>[]
 | .ke _ pre tl _=>(pre.flatMap λp=>match p.d with|some d=>[d]|none=>[])++tl.fx
 | .seq a b=>a.fx++b.fx
 | .cond _ a b=>a.fx++b.fx
 | .block _ a=>a.fx
 | .loop _ _ a=>a.fx
 | .lZ _ a=>a.fx
 | .after a _=>a.fx
 | .cut _ a=>a.fx
 |_=>[]
def TC.wV:TC->Bool
 | .ke _ _ _ _=>false
 | .seq a b=>a.wV&&b.wV
 | .cond _ a b=>a.wV&&b.wV
 | .block _ a=>a.wV
 | .loop _ _ a=>a.wV
 | .lZ _ a=>a.wV
 | .after a _=>a.wV
 | .cut _ a=>a.wV
 |_=>true
def mI(A:List Nat)(fr:List (Nat×V))(k:Nat):Bool:=kJ A k||(match lk fr k with
 |some v=> !v.ri
 |none=>false)
def Slot.zcM(A:List Nat)(fr:List (Nat×V)):Slot->Bool
 | .tm k _=>mI A fr k
 |_=>true
def Sh.MN(sh:Sh)(A:List Nat)(s:S):Bool:=sh.keep.all (λk=> !kJ A k)&&sh.sl.all (Slot.zcM A s.fr)&&sh.sk.fr.all (λx=>mI A s.fr x.1)
def gr{σ a:Type}:Nat->(σ->Option (σ⊕a))->σ->Option a
 |0,_,_=>none
 |n+1,f,s=>e_ (f s) (aH_ (λs'=>gr n f s') some)
def BM(O:bi)(n:Nat):(R:Type)->TC->S->(kn:S->Option R)->(kx:Nat->S->Option R)->(kr kp:S->Option R)->Option R
 |_,.skip,s,kn,_,_,_=>kn s
 |R,.region ops,s,kn,_,_,kp=>Dz O R ops s kn kp
 |R,.draw _ ops _,s,kn,_,_,kp=>Dz O R ops s kn kp
 |_,.G3 pre,s,kn,_,_,kp=>TT O pre s kn kp
 |R,.ke r pre tl _,s,kn,_,_,kp=>TU O [] pre ⟨s.fr,s.hp++K_ r .free⟩ (λs=>Dz O R tl s kn kp) kp
 |R,.seq a b,s,kn,kx,kr,kp=>BM O n R a s (λs=>BM O n R b s kn kx kr kp) kx kr kp
 |R,.cond x a b,s,kn,kx,kr,kp=>match s.get x with
  |some (.d .bool t)=>bif t then BM O n R a s kn kx kr kp else BM O n R b s kn kx kr kp
  |_=>none
 |R,.block id a,s,kn,kx,kr,kp=>BM O n R a s kn (λi s=>bif a_ i id then kn s else kx i s) kr kp
 |_,.exit id,s,_,kx,_,_=>kx id s
 |_,.ret,s,_,_,kr,_=>kr s
 |R,.lZ l a,s,kn,kx,kr,kp=>vJ l s λs=>BM O n R a s kn kx kr kp
 |R,.cut xs a,s,kn,kx,kr,kp=>bif xs.all (λx=>x.2.MN a.fx s)then
  e_ (BM O n (XT xs) a s (λs=>inj xs 0 s) (λi s=>inj xs (i+3) s) (λs=>inj xs 1 s) (λs=>inj xs 2 s))
   (jb s (λkey s=>match key with|0=>kn s|1=>kr s|2=>kp s|i+3=>kx i s) xs)else none
 |R,.loop sh xs a,s,kn,kx,kr,kp=>match pack sh s with
  |some c=>bif sh.MN a.fx s&&xs.all (λx=>x.2.MN a.fx s)then e_ (gr n (λc=>BM O n (HL sh.sl⊕XT xs) a (unpack sh.sl c (sh.base s)) (λs=>match pack sh s with|some c=>some (.inl c)|none=>none)
   (λi s=>match inj xs (i+3) s with|some c=>some (.inr c)|none=>none) (λs=>match inj xs 1 s with|some c=>some (.inr c)|none=>none) (λs=>match inj xs 2 s with|some c=>some (.inr c)|none=>none)) c)
   (jb s (λkey s=>match key with|0=>kn s|1=>kr s|2=>kp s|i+3=>kx i s) xs)else none
  |none=>none
 |R,.after a l,s,kn,kx,kr,kp=>BM O n R a s (λs=>vJ l s kn) kx kr kp
inductive RX where
 |tm (t:Nat)
 |cell (a:Nat) (t:Ty)
structure TF where
 code:TC
 res:List RX
 ntmps:Nat
 sh:Sh
 m:Nat
def Fi(s:S):List RX->Option (List V)
 |[]=>some []
 | .tm t::l=>match lk s.fr t with
  |some v=>match Fi s l with
   |some vs=>some (v::vs)
   |none=>none
  |none=>none
 | .cell a t::l=>match lk s.fr a with
  |some (.ptr id off)=>match s.hp[id]? with
   |some (.box _ cs)=>bif j_ (off+t.sz) cs.length then(match Fi s l with
    |some vs=>some (whole t ((cs.drop off).take t.sz)::vs)
    |none=>none)else none
   |_=>none
  |_=>none
def dR:Nat->List V->List (Nat×V)
 |_,[]=>[]
 |i,v::vs=>(i,v)::dR (i+1) vs
def fW(sh:Sh)(c:HL sh.sl):S:=unpack sh.sl c (sh.base ⟨[],[]⟩)
def pL(sh:Sh)(c:HL sh.sl):Option (Option S):=some (some (fW sh c))
def V.one:V->Bool
 | .agg vs=>vs.all V.Qx
 | .dP _=>false
 |_=>true
def Eg(c:TF)(s:S):Option (Option S):=match Fi s c.res with
 |some vs=>bif j_ c.sh.sk.hp.length s.hp.length&&(s.hp.take c.sh.sk.hp.length).all (λo=>o.ids.all λi=>j_ (i+1) c.sh.sk.hp.length)&&vs.all (λv=>v.ids.all λi=>j_ (i+1) c.sh.sk.hp.length)&&a_ c.sh.n vs.length&&(a_ vs.length 1||vs.all V.one)then
  (match pack c.sh ⟨dR 0 vs,s.hp.take c.sh.sk.hp.length⟩with
  |some x=>pL c.sh x
  |none=>none)else none
 |none=>none
def OJ(O:bi)(n:Nat)(c:TF)(ars:List V)(os:List Ob):Option (Option S):=
 BM O n (Option S) c.code ⟨dR 0 ars,os⟩ (Eg c) (λ_ _=>none) (Eg c) (λ_=>some none)
structure TD where
 c:TF
 a:TC
 h:TC
 ta:Nat
 tb:Nat
 t8:Nat
def vM(s:S)(t i:Nat):Bool:=match lk s.fr t with
 |some (.ptr j o)=>a_ j i&&a_ o 0
 |_=>false
def noT(s:S)(t:Nat):Bool:=match lk s.fr t with
 |some _=>false
 |none=>true
def Yx(d:TD)(s:S):Option (Option S):=Eg d.c ⟨[(d.ta,.ptr 0 0),(d.tb,.ptr 1 0)],s.hp⟩
def Vq(O:bi)(n:Nat)(d:TD)(ars:List V):Option (Option S):=
 BM O n (Option S) d.a ⟨dR 0 ars,[]⟩ (λs=>bif vM s d.ta 0&&vM s d.tb 1&&noT s d.t8&&a_ s.hp.length 2 then
  BM O n (Option S) d.c.code s (Eg d.c) (λ_ _=>none) (Eg d.c) (λs=>bif vM s d.ta 0&&vM s d.tb 1 then
   BM O n (Option S) d.h ⟨[(0,.ptr 0 0),(1,.ptr 1 0)],s.hp⟩ (Yx d) (λ_ _=>none) (Yx d) (λ_=>none)else none)else none) (λ_ _=>none) (λ_=>none) (λ_=>none)
inductive gv where
 |code (c:TF)
 |Yq (d:TD)
 |nat (g:List V->Option S)
def rY(tbl:Nat->Option gv):Nat->bi
 |0=>λ_ _ _=>none
 |n+1=>λf ars os=>match tbl f with
  |some (.code c)=>bif a_ os.length c.m&&j_ ars.length c.ntmps then OJ (rY tbl n) n c ars os else none
  |some (.Yq d)=>bif a_ os.length 0&&j_ ars.length d.c.ntmps then Vq (rY tbl n) n d ars else none
  |some (.nat g)=>(match os with
   |[]=>(match g ars with
    |some s=>some (some s)
    |none=>none)
   |_=>none)
  |none=>none
def zbM{a R:Type}(o:Option a)(p:Option R)(k:a->Option R):Option R:=match o with
 |some c=>k c
 |none=>p
abbrev tI:Ty:=.int .i64
abbrev tW:Ty:=.int .u32
abbrev tQ:Ty:=.int .u64
abbrev tY:Ty:=.int .u8
abbrev tB:Ty:=.bool
abbrev tS:Ty:=.str
@[reducible] def pr:List Ty->Ty
 |[]=>.unit
 |t::l=>.pair t (pr l)
abbrev aO(t:Ty)(x:t.den):List PV:=(aN t x).cells
theorem aR:∀(t:Ty) (x:t.den),(aO t x).length=t.sz
 | .int _,_=>rfl
 | .bool,_=>rfl
 | .str,_=>rfl
 | .list t,x=>by cases h:x.map (aN t)<;>simp[aO,aN,h,kZ,PV.cells,Ty.sz]
 | .unit,_=>rfl
 | .pair a b,x=>by have h1:=aR a x.1;have h2:=aR b x.2;simp only[aO,aN,PV.cells,H_,Ty.sz]at h1 h2⊢;omega
 | .rx,.mk k l h ks=>rfl
theorem lA:∀(t:Ty) (x:t.den),(aN t x).isAgg=t.ag
 | .int _,_=>rfl
 | .bool,_=>rfl
 | .str,_=>rfl
 | .list t,x=>by cases h:x.map (aN t)<;>simp[aN,h,kZ,PV.isAgg,Ty.ag]
 | .unit,_=>rfl
 | .pair a b,x=>rfl
 | .rx,.mk k l h ks=>rfl
theorem eY{t:Ty}(x:t.den)(h:t.ag=true):aN t x= .agg (aO t x):=by have:=lA t x;rw[h]at this;cases a:aN t x<;>rw[a]at this<;>simp[PV.isAgg]at this;simp[aO,a,PV.cells]
theorem eZ{t:Ty}(x:t.den)(h:t.ag=false):aO t x=[aN t x]:=by have:=lA t x;rw[h]at this;cases a:aN t x<;>rw[a]at this<;>simp_all[aO,PV.cells,PV.isAgg]
theorem fL{t:Ty}(h:t.ag=false):t.sz=1:=by cases t<;>simp_all[Ty.ag,Ty.sz]
def bV{t u:Ty}{x:t.den}{y:u.den}(h:bE t u x=some y):∃e:t=u,y=e▸x:=by unfold bE at h;grind
def bR{t u:Ty}{x:t.den}{y:u.den}(h:bE t u x=some y):aN u y=aN t x/\t=u:=by obtain⟨rfl,rfl⟩:=bV h;exact⟨rfl,rfl⟩
def Dv:∀(ks:List Rx),Jf ks=ks.map Vi
 |[]=>rfl
 |k::ks=>by rw[Jf,Dv ks];rfl
def qv(r:Rx):aO .rx r=[aN (.int .i64) r.out.1,aN (.int .i64) r.out.2.1,aN (.int .i64) r.out.2.2.1,aN (.list .rx) r.out.2.2.2.1]:=by cases r with|mk k l h ks=>show [_,_,_,_]=[_,_,_,_];simp only[aN,Rx.out,Dv];rfl
def nG:∀(t:Ty) (off:Nat) (u:Ty) (x:t.den) (y:u.den),qq t off u x=some y->off+u.sz<=t.sz/\((aO t x).drop off).take u.sz=aO u y
 | .pair a b,off,u,x,y,h=>by
  have l:=aR a x.1
  have s:=aR b x.2
  have hc:aO (.pair a b) x=aO a x.1++aO b x.2:=rfl
  unfold qq at h
  cases d:(decide (Ty.pair a b=u)&&a_ off 0)
  .rw[d]at h
   simp only[cond_false]at h
   cases f:j_ (off+1) a.sz
   .rw[f]at h
    simp only[cond_false]at h
    have p:a.sz<=off:=by
     have:=Nat.not_le_of_not_ble_eq_true (by rw[f];simp)
     omega
    obtain⟨h1,h2⟩:=nG b (off - a.sz) u x.2 y h
    refine⟨by simp only[Ty.sz];omega,?_⟩
    rw[hc,am_,l,List.drop_eq_nil_of_le (by omega),aw_]
    omega
   .rw[f]at h
    simp only[cond_true]at h
    have v:=y_ f
    obtain⟨h1,h2⟩:=nG a off u x.1 y h
    refine⟨by simp only[Ty.sz];omega,?_⟩
    grind
  .rw[d]at h
   simp only[cond_true]at h
   simp only[f_,decide_eq_true_eq]at d
   have j:off=0:=h_ d.2
   subst j
   obtain⟨e,rfl⟩:=bR h
   refine⟨by simp,?_⟩
   rw[I_,w_ (by rw[aR];simp)]
   grind
 | .rx,off,u,x,y,h=>by
  have hc:=qv x
  have one:∀{t:Ty} {z:t.den},t.ag=false->bE t u z=some y->aO u y=[aN t z]/\u.sz=1:=fun{t z} ht r=>by
   obtain⟨e,rfl⟩:=bR r
   exact⟨by rw[eZ _ ht,e],fL ht⟩
  unfold qq at h
  split at h
  .by_cases n:u= .rx
   .subst n
    simp only[decide_true,cond_true]at h
    obtain⟨e,_⟩:=bR h
    refine⟨by simp,?_⟩
    rw[I_,w_ (by rw[aR];simp)]
    grind
   .simp only[n,decide_false,cond_false]at h
    obtain⟨e,g⟩:=one rfl h
    rw[e,g,hc]
    exact⟨by simp[Ty.sz],rfl⟩
  .obtain⟨e,g⟩:=one rfl h
   rw[e,g,hc]
   exact⟨by simp[Ty.sz],rfl⟩
  .obtain⟨e,g⟩:=one rfl h
   rw[e,g,hc]
   exact⟨by simp[Ty.sz],rfl⟩
  .obtain⟨e,g⟩:=one rfl h
   rw[e,g,hc]
   exact⟨by simp[Ty.sz],rfl⟩
  grind
 | .int k,off,u,x,y,h=>c (.int k) off u x y h
 | .bool,off,u,x,y,h=>c .bool off u x y h
 | .str,off,u,x,y,h=>c .str off u x y h
 | .list t,off,u,x,y,h=>c (.list t) off u x y h
 | .unit,off,u,x,y,h=>c .unit off u x y h
where
 c (t:Ty) (off:Nat) (u:Ty) (x:t.den) (y:u.den) (h:(bif a_ off 0 then bE t u x else none)=some y):off+u.sz<=t.sz/\((aO t x).drop off).take u.sz=aO u y:=by
  cases j:a_ off 0
  .grind
  .rw[j]at h
   simp only[cond_true]at h
   have:=h_ j
   subst this
   obtain⟨e,rfl⟩:=bR h
   refine⟨by simp,?_⟩
   rw[I_,w_ (by rw[aR];simp)]
   grind
def yB{t:Ty}{off:Nat}{u:Ty}{x:t.den}{y:u.den}(h:qq t off u x=some y):off+u.sz<=(aN t x).cells.length/\(u.ag=false->u.sz=1)/\(aN t x).sub off u.sz u.ag=aN u y:=by
 obtain⟨h1,h2⟩:=nG t off u x y h;refine⟨by rw[aR];omega,fL,?_⟩;cases b:u.ag
 .have hs:=fL b;rw[hs,eZ y b]at h2;have a:off<(aO t x).length:=by rw[aR];omega
  rw[F_ a]at h2;simp only[aa_,az_,List.cons.injEq,and_true]at h2;simp only[PV.sub,P_,k_ a,D_];omega
 .simp only[PV.sub];rw[eY y b,<-h2]
theorem dY:∀(t:Ty) (x:t.den),(gq t x).map aU=(aO t x).map BV.pv/\(gq t x).length=t.sz
 | .int _,_=>⟨rfl,rfl⟩
 | .bool,_=>⟨rfl,rfl⟩
 | .str,_=>⟨rfl,rfl⟩
 | .list t,x=>⟨by rw[eZ (t:=.list t) x rfl];rfl,rfl⟩
 | .unit,_=>⟨rfl,rfl⟩
 | .pair a b,x=>by obtain⟨h1,h2⟩:=dY a x.1;obtain⟨c,d⟩:=dY b x.2;have hc:aO (.pair a b) x=aO a x.1++aO b x.2:=rfl;refine⟨?_,by simp only[gq,H_,h2,d,Ty.sz]⟩;rw[hc];simp only[gq,q_,h1,c]
 | .rx,x=>⟨by rw[qv x];rfl,rfl⟩
def lN{u:Ty}{v:V}{x:u.den}(h:iw u v=some x):(aU v).bG=some (aN u x):=by
 cases v<;>simp only[iw]at h<;>try cases h
 .obtain⟨a,rfl⟩:=bR h;rw[a];rfl
 .obtain⟨rfl,rfl⟩:=bV h;rfl
 .obtain⟨a,rfl⟩:=bR h;rw[a];rfl
def HU{u:Ty}{v:V}{x:u.den}(h:iw u v=some x):a8 v= .b (aU v):=by cases v<;>simp only[iw]at h<;>first|rfl|cases h
def ui:∀(t:Ty) (l:List V) (x:t.den) (m:List V),Oe t l=some (x,m)->∃f,l=f++m/\(f.map aU).mapM BV.bG=some (aO t x)
 | .unit,l,x,m,h=>by simp only[Oe,b_,aE_.injEq]at h;obtain⟨_,rfl⟩:=h;exact⟨[],rfl,rfl⟩
 | .pair a b,l,x,m,h=>by
  simp only[Oe]at h
  split at h
  .rename_i y l1 h1
   split at h
   .rename_i z l2 h2
    simp only[b_,aE_.injEq]at h
    obtain⟨rfl,rfl⟩:=h
    obtain⟨p,rfl,hp⟩:=ui a l y l1 h1
    obtain⟨q,rfl,u⟩:=ui b l1 z l2 h2
    refine⟨p++q,by simp,?_⟩
    have hc:aO (.pair a b) (y,z)=aO a y++aO b z:=rfl
    grind
   grind
  grind
 | .rx,l,x,m,h=>by
  unfold Oe at h
  split at h
  .rename_i a b c e l'
   split at h
   .rename_i n b' r s h1 h2 g j
    simp only[b_,aE_.injEq]at h
    obtain⟨rfl,rfl⟩:=h
    refine⟨[a,b,c,e],rfl,?_⟩
    rw[qv]
    simp only[l_,N_,o_,ab_,lN h1,lN h2,lN g,lN j]
    rfl
   grind
  grind
 | .int k,l,x,m,h=>d (.int k) l x m rfl h
 | .bool,l,x,m,h=>d .bool l x m rfl h
 | .str,l,x,m,h=>d .str l x m rfl h
 | .list t,l,x,m,h=>d (.list t) l x m rfl h
where
 d (t:Ty) (l:List V) (x:t.den) (m:List V) (ht:t.ag=false) (h:(match l with
  |v::l=>match iw t v with
   |some x=>some (x,l)
   |none=>none
  |[]=>none)=some (x,m)):∃f,l=f++m/\(f.map aU).mapM BV.bG=some (aO t x):=by
  split at h
  .rename_i v l'
   split at h
   .rename_i y h1
    simp only[b_,aE_.injEq]at h
    obtain⟨rfl,rfl⟩:=h
    refine⟨[v],rfl,?_⟩
    rw[eZ _ ht]
    simp only[l_,N_,o_,ab_,lN h1]
    rfl
   grind
  grind
theorem eJ{t:Ty}{v:V}{x:t.den}(h:cA t v=some x):(a8 v).bG=some (aN t x):=by
 unfold cA at h;split at h
 .rename_i vs;split at h
  .rename_i ht;split at h;.rename_i y h1;cases h;obtain⟨b,h2,a⟩:=ui t vs x [] h1;rw[List.append_nil]at h2;subst h2;show((vs.map aU).mapM BV.bG).map PV.agg=_;rw[a,eY x ht];rfl
   grind
  grind
 .rw[HU h];exact lN h
def Ou(v:V)(a:∀vs,v≠.dP vs):(dq v).map aU=(a8 v).cells:=by
 cases v with
 |d t x=>exact(dY t x).1|agg vs=>rfl|dP vs=>grind|nil t=>rfl|raw v=>
  show [bI v]=_;unfold a8;simp only[aU];cases hc:bI v<;>first|rfl|skip
  rename_i p;unfold bI at hc;split at hc;.grind
  .cases hc;rfl
 |full t x=>rfl|any=>rfl|dp t x=>rfl|HK f cs=>rfl|lit k t xs=>cases xs<;>rfl|_=>rfl
def zay(sz:Nat)(xs:List PV):(kZ sz xs).cells=[kZ sz xs]/\(kZ sz xs).dh=true:=by cases xs<;>exact⟨rfl,rfl⟩
def JP(t:Ty)(x:List t.den):(aN (.list t) x).cells=[aN (.list t) x]/\(aN (.list t) x).dh=true:=zay _ _
def yo:∀(t:Ty) (x:t.den),((aO t x).all PV.dh)=true
 | .int _,_=>rfl
 | .bool,_=>rfl
 | .str,_=>rfl
 | .list t,x=>by have h:=JP t x;grind
 | .unit,_=>rfl
 | .pair a b,x=>by show(((aN a x.1).cells++(aN b x.2).cells).all PV.dh)=true;rw[List.all_append,yo a x.1,yo b x.2];rfl
 | .rx,r=>by rw[qv];have h:=(JP .rx r.out.2.2.2.1).2;simp only[aA_,List.all_nil,Bool.and_true,h];rfl
def ws(t:Ty)(x:t.den):(aN t x).ok=true:=yo t x
def kj:∀(t:Ty) (x:t.den),t.flat=true->(aN t x).Flat/\∀y∈aO t x,y.Flat
 | .int _,_,_=>⟨.sc _,λy c=>by rw[u_.1 c];exact .sc _⟩
 | .bool,_,_=>⟨.sc _,λy c=>by rw[u_.1 c];exact .sc _⟩
 | .str,_,_=>⟨.sc _,λy c=>by rw[u_.1 c];exact .sc _⟩
 | .unit,_,_=>⟨.agg [] (by simp),λy c=>by cases c⟩
 | .pair a b,x,h=>by
  simp only[Ty.flat,f_]at h;have h1:=(kj a x.1 h.1).2;have h2:=(kj b x.2 h.2).2;have hc:∀y∈aO (.pair a b) x,y.Flat:=λy c=>by have:aO (.pair a b) x=aO a x.1++aO b x.2:=rfl;grind
  exact⟨.agg _ λi y c=>hc y (Y_ c),hc⟩
def valOf:(t:Ty)->t.den->Value
 | .int k,x=>.int k x
 | .bool,x=>.bool x
 | .str,x=>.string ⟨x.toArray⟩
 |_,_=>.slice none 0 0
def yK:V->Value
 | .d t x=>valOf t x
 | .nil _=>.slice none 0 0
 | .raw v=>v
 |_=>Go.undef
def Ty.sc:Ty->Bool
 | .int _=>true
 | .bool=>true
 | .str=>true
 |_=>false
def V.Ey:V->Bool
 | .d t _=>t.sc
 | .nil _=>true
 | .raw _=>true
 |_=>false
def X.er:X->SX
 | .tm j=>.tm j
 | .k t x=>.c (valOf t x)
 | .nil _=>.c (.slice none 0 0)
 | .ag vs=>.c (.agg (vs.map yK).toArray)
 | .f n=>.f n
 | .raw v=>.c v
def X.wf:X->Bool
 | .k t _=>t.sc
 | .ag vs=>vs.all V.Ey
 | .raw v=>match v with
  | .agg _=>false
  | .slice _ _ _=>false
  |_=>true
 |_=>true
def mR(t:Ty):Value:=match t.ag with
 |true=>.agg (((gq t t.zero).map λv=>match v with
  | .d (.list _) _=>Value.slice none 0 0
  |v=>yK v).toArray)
 |false=>match t with
  | .list _=>.slice none 0 0
  |t=>valOf t t.zero
def O8(x:Option X):Option SX:=x.map X.er
def lz.er:lz->fv
 | .mv x=>.mv x.er
 | .pick c a b=>.pick c.er a.er b.er
 | .bin op x y=>.bin op x.er y.er
 | .Gf neg x y=>.Gf neg x.er y.er
 | .sy neg tid _ x y=>.sy neg tid x.er y.er
 | .un op x=>.un op x.er
 | .len str x=>.len str x.er
 | .ol k e x=>.ol k e x.er
 | .ql x i=>.ql x.er i.er
 | .pB n t x i=>.pB n t.sz t.ag x.er i.er
 | .qj t x i=>.qj t.sz x.er i.er
 | .qk n t x i=>.qk n t.sz t.ag x.er i.er
 | .oj off t x=>.oj off t.sz t.ag x.er
 | .HJ off t x=>.HJ off t.sz t.ag x.er
 | .load t x=>.load t.sz t.ag x.er
 | .store t x v=>.store t.sz x.er v.er
 | .alloc tid zero=>.alloc tid (zero.map yK)
 | .box tid x=>.box tid x.er
 | .pW tid _ x=>.pW tid x.er
 | .build zero parts=>.build (zero.map yK) (parts.map λq=>(q.1,q.2.1,q.2.2.er))
 | .bQ own tid t ln parts=>.bQ own tid t.sz ln (parts.map X.er)
 | .cU tid t bytes l c=>.cU tid t.sz bytes (mR t) l.er c.er
 | .append tid t bytes x y=>.append tid t.sz bytes x.er y.er
 | .pY k x=>.pY k x.er
 | .Im _ t x lo C mx=>.Im t.sz x.er (O8 lo) (O8 C) (O8 mx)
 | .qw x lo C=>.qw x.er (O8 lo) (O8 C)
 | .ext x i=>.ext x.er i
 | .rC x=>.rC x.er
 | .call bor f args _=>.call bor (f%10000) (args.map λa=>a.2.er)
 | .gF _ bor B f args _=>.gF bor B (f%10000) (args.map λa=>a.2.er)
 | .fz _ bor B _ x args _=>.fz bor B x.er (args.map λa=>a.2.er)
 | .hZ bor _ x args _=>.hZ bor x.er (args.map λa=>a.2.er)
 | .Gb x=>.Gb x.er
 | .rB f caps=>.rB f (caps.map X.er)
 | .ik k e _ _=>.ik k e
 | .lookup k e ok _ b m x=>.lookup k e ok (mR b) m.er x.er
 | .gY k e _ _ m x v=>.gY k e m.er x.er v.er
 | .copy tid t x y=>.copy tid t.sz x.er y.er
 | .mb mx k x ys=>.mb mx k x.er (ys.map X.er)
 | .panic x=>.panic x.er
 | .iface tid x=>.iface tid x.er
 | .ow tid t ln parts=>.bQ false tid t.sz ln (parts.map X.er)
 | .pi tid t bytes x y=>.pi tid t.sz bytes x.er y.er
 | .eE tid _ t ln parts=>.eE tid t.sz ln (parts.map X.er)
 | .d6 tid k _ bytes l c=>.d6 k tid 1 bytes (.slice none 0 0) l.er c.er
 | .pj tid k t bytes x y=>.pj k tid t.sz bytes x.er y.er
 | .uj k op=>.uj k op.er
def YB(P:Program)(c:TypeId->Ty->Bool):List Field->Nat->Ty->Bool
 |[],_,.unit=>true
 |f::l,off,.pair a b=>(f.name != "_")&&a_ f.offset off&&(match P.info? f.type with
  |some i=>a_ i.size a.sz&&(P.underlying f.type).isSome&&(ip P f.type==a.ag)
  |none=>false)&&c f.type a&&YB P c l (off+a.sz) b
 |_,_,_=>false
def wH(P:Program):Nat->TypeId->Ty->Bool
 |0,_,_=>false
 |d+1,t,u=>match P.underlying t,u with
  |some .bool,.bool=>true
  |some (.int k),.int b=>decide (k=b)
  |some .string,.str=>true
  |some (.struct a),u=> !P.stoodInHeld t&&YB P (wH P d) a.toList 0 u
  |_,_=>false
def iT(l:List (Arg×X)):Bool:=l.all λa=>a.2.wf
def Wd(x:Option X):Bool:=match x with
 |some x=>x.wf
 |none=>true
def lz.wf(P:Program):lz->Bool
 | .mv x=>x.wf
 | .pick c a b=>c.wf&&a.wf&&b.wf
 | .bin _ x y=>x.wf&&y.wf
 | .Gf _ x y=>x.wf&&y.wf
 | .sy _ tid t x y=>x.wf&&y.wf&&wH P 64 tid t
 | .un _ x=>x.wf
 | .len _ x=>x.wf
 | .ol _ _ x=>x.wf
 | .ql x i=>x.wf&&i.wf
 | .pB _ _ x i=>x.wf&&i.wf
 | .qj _ x i=>x.wf&&i.wf
 | .qk _ _ x i=>x.wf&&i.wf
 | .oj _ _ x=>x.wf
 | .HJ _ _ x=>x.wf
 | .load _ x=>x.wf
 | .store _ x v=>x.wf&&v.wf
 | .alloc _ zero=>zero.all V.Ey
 | .box _ x=>x.wf
 | .pW _ _ x=>x.wf
 | .build zero parts=>zero.all V.Ey&&parts.all λq=>q.2.2.wf
 | .bQ _ _ _ _ parts=>parts.all X.wf
 | .cU _ t _ l c=>l.wf&&c.wf&&decide (t≠.rx)
 | .append _ _ _ x y=>x.wf&&y.wf
 | .pY _ x=>x.wf
 | .Im _ _ x lo C mx=>x.wf&&Wd lo&&Wd C&&Wd mx
 | .qw x lo C=>x.wf&&Wd lo&&Wd C
 | .ext x _=>x.wf
 | .rC x=>x.wf
 | .call _ _ args sh=>iT args&&sh.zp
 | .gF _ _ _ _ args sh=>iT args&&sh.zp
 | .fz _ _ _ num x args sh=>x.wf&&iT args&&eI P (num%10000)&&sh.zp
 | .hZ _ num x args sh=>x.wf&&iT args&&eI P (num%10000)&&sh.zp
 | .Gb x=>x.wf
 | .rB _ caps=>caps.all X.wf
 | .ik _ _ _ _=>true
 | .lookup k _ _ a b m x=>m.wf&&x.wf&&wH P 64 k a&&b.sc
 | .gY k _ a _ m x v=>m.wf&&x.wf&&v.wf&&wH P 64 k a
 | .copy _ _ x y=>x.wf&&y.wf
 | .mb _ _ x ys=>x.wf&&ys.all X.wf
 | .panic x=>x.wf
 | .iface _ x=>x.wf
 | .ow _ _ _ parts=>parts.all X.wf
 | .pi _ _ _ x y=>x.wf&&y.wf
 | .eE _ _ _ _ parts=>parts.all X.wf
 | .d6 _ _ _ _ l c=>l.wf&&c.wf
 | .pj _ _ _ _ x y=>x.wf&&y.wf
 | .uj _ op=>op.wf P
def EZ(t:Nat)(want:Bool)(r alt:SX):fv:=match want with
 |true=>.pick (.tm t) r alt
 |false=>.pick (.tm t) alt r
def RC.er:Option (Nat×Bool)->RC->List bc
 |_,.nil=>[]
 |g,.op d o rest=>⟨d,o.er,g⟩::rest.er g
 |g,.lZ _ rest=>rest.er g
 |g,.gb t want dX _ r alt dst rest=>dX.er (some (t,want))++(⟨some dst,EZ t want r.er alt.er,g⟩::rest.er g)
def lz.lU:lz->Bool
 | .store .. =>false
 | .alloc .. =>false
 | .box .. =>false
 | .bQ own .. => !own
 | .cU .. =>false
 | .append .. =>false
 | .gF .. =>false
 | .fz .. =>false
 | .ik .. =>false
 | .gY .. =>false
 | .copy .. =>false
 | .panic .. =>false
 | .uj .. =>false
 | .d6 .. =>false
 | .pj .. =>false
 |_=>true
def lz.exB:lz->Bool
 | .append .. =>true
 | .pj .. =>true
 | .gF .. =>true
 | .fz .. =>true
 | .store .. =>true
 |o=>o.lU
def lz.zcr:lz->Bool
 | .uj .. =>true
 |_=>false
def RC.lU:RC->Bool
 | .nil=>true
 | .op _ o rest=>o.lU&&rest.lU
 | .lZ _ _=>false
 | .gb _ _ dX _ _ _ _ rest=>dX.lU&&rest.lU
def RC.wf(P:Program):RC->Bool
 | .nil=>true
 | .op _ o rest=>o.wf P&&rest.wf P
 | .lZ _ rest=>rest.wf P
 | .gb _ _ dX _ r alt _ rest=>dX.wf P&&dX.lU&&r.wf&&alt.wf&&rest.wf P
def zcv(j:Nat)(b:Bool)(us:List Nat)(d:Option Nat)(o:lz):PO:=⟨j,b,us,o.er.rd,o.er.kY,d,o,none⟩
def zcu(j:Nat)(b:Bool)(us:List Nat)(t:Nat)(want:Bool)(d:Option Nat)(o:lz):PO:=⟨j,b,us,o.er.rd++[t],o.er.kY,d,o,some (t,want)⟩
def PO.so(p:PO):bc:=⟨p.d,p.o.er,p.g⟩
def GZ(pre:List PO):List bc:=(L_ pre.length).map λj=>match pre.find? λp=>a_ p.j j with
 |some p=>p.so
 |none=>default
def TC.er:TC->AC
 | .skip=>.skip
 | .region ops=>.region (ops.er none)
 | .draw k ops af=>.draw k (ops.er none) af
 | .G3 pre=>.region (pre.map PO.so)
 | .ke _ pre tl af=>.ke (pre.map λp=>(p.j,p.b)) (GZ pre++tl.er none) af
 | .seq a b=>.seq a.er b.er
 | .cond x a b=>.cond x.er a.er b.er
 | .block id a=>.block id a.er
 | .loop _ _ a=>.loop a.er
 | .exit id=>.exit id
 | .ret=>.ret
 | .lZ _ a=>a.er
 | .after a _=>a.er
 | .cut _ a=>a.er
theorem mH(fr:List (Nat×V))(k:Nat):Av.look (fr.map λx=>(x.1,a8 x.2)) k=(lk fr k).map a8:=by
 induction fr with
 |nil=>rfl|cons x fr b=>
  obtain⟨j,v⟩:=x;simp only[l_,Av.look,lk];by_cases h:k=j;.subst h;simp
  .rw[if_neg h,b];have:a_ k j=false:=by
    cases a:a_ k j;.rfl
    .exact absurd (h_ a) h
   grind
theorem uF{v:V}(h:v.Ey=true):bI (yK v)=aU v:=by
 cases v<;>simp only[V.Ey]at h<;>try cases h
 .rename_i t x;cases t<;>simp only[Ty.sc]at h<;>first|rfl|grind
 .rfl
 .rfl
theorem aH{s:S}{x:X}{v:V}(a:x.wf=true)(h:s.get x=some v):(enc s).get x.er=some (a8 v):=by
 cases x with
 |tm k=>simp only[S.get]at h;show Av.look (s.fr.map λx=>(x.1,a8 x.2)) k=_;rw[mH,h];rfl|k t x=>simp only[S.get,b_]at h;subst h;simp only[X.wf]at a;cases t<;>simp only[Ty.sc]at a<;>first|rfl|grind
 |nil t=>simp only[S.get,b_]at h;subst h;rfl|ag vs=>simp only[S.get,b_]at h;subst h;simp only[X.wf,p_]at a;show some (AV.agg (((vs.map yK).toArray).toList.map bI))=some (.agg (vs.map aU));simp only[aC_];congr 2;exact List.map_congr_left λv b=>uF (a v b)|f n=>simp only[S.get,b_]at h;subst h;rfl|raw v=>simp only[S.get,b_]at h;subst h;simp only[X.wf]at a;cases v<;>simp only at a<;>first|rfl|grind
theorem gx(s:S)(d:Option Nat)(v:V):enc (s.aF d v)=(enc s).aF d (a8 v):=by cases d<;>rfl
theorem bT(s:S)(i:Nat):(enc s).hp[i]? =(s.hp[i]?).map b8:=by simp[enc]
def fc{a:Type}:∀(l:List a) (n:Nat) (y:a),setAt l n y=l.set n y
 |[],_,_=>rfl
 |_::_,0,_=>rfl
 |x::l,n+1,y=>by simp[setAt,fc l n y]
def NJ(t:Ty)(ht:t≠.rx):(fT (mR t)).bG=some (aN t t.zero)/\(fT (mR t)).cells.length=t.sz:=by
 have c:∀(t:Ty),(((gq t t.zero).map λv=>match v with
  | .d (.list _) _=>Value.slice none 0 0
  |v=>yK v).map bI).mapM BV.bG=some (aO t t.zero)/\(gq t t.zero).length=t.sz:=by
  intro t
  refine⟨?_,(dY t t.zero).2⟩
  induction t with|pair a b d e=>have hc:aO (.pair a b) (Ty.zero (.pair a b))=aO a a.zero++aO b b.zero:=rfl;rw[hc];simp only[gq,Ty.zero,q_,an_];grind|rx=>rfl|list t=>rfl|_=>rfl
 cases h:t.ag;.cases t<;>simp[Ty.ag]at h<;>exact⟨rfl,rfl⟩
 .have:=c t;simp only[mR,h];simp only[fT];refine⟨?_,?_⟩
  .show((((((gq t t.zero).map λv=>match v with| .d (.list _) _=>Value.slice none 0 0|v=>yK v).toArray).toList).map bI).mapM BV.bG).map PV.agg=_
   rw[List.toList_toArray,this.1,eY _ h];rfl
  .show(((((gq t t.zero).map λv=>match v with| .d (.list _) _=>Value.slice none 0 0|v=>yK v).toArray).toList).map bI).length=_
   grind
structure Zt where
 ty:List Ty
 kk:List K
 sh:List Sh
 zs:List (List V)
 fq:List (List (List Nat))
structure Zx where
 o:List lz
def yu{a:Type}(d:a):List a->Nat->a
 |[],_=>d
 |x::l,n=>bif a_ n 0 then x else yu d l (n - 1)
def zf:Nat->Nat->Nat×Nat
 |0,n=>(0,n)
 |f+1,n=>bif j_ 8 (n%16)then(match zf f (n/16)with|(v,r)=>(n%16 - 8+8*v,r))else(n%16,n/16)
def zu:List Nat->Nat->Nat->Nat->Nat->Nat×Nat
 |[],_,s,m,q=>zf 24 (m*q+s)
 |f::l,v,s,m,q=>bif j_ 256 f then zu l (v+f - 256) s m q else bif j_ (s+1) f then(v,f*q+s)else zu l (v+1) (s - f) (m - f) q
def zy{a:Type}(n:Nat)(f:Nat->a):a:=match n with
 |0=>f 0
 |n+1=>f (n+1)
def zyT{c:Type}(t:Ty)(f:Ty->c):c:=match t with
 | .int k=>f (.int k)
 | .bool=>f .bool
 | .str=>f .str
 | .list t=>f (.list t)
 | .unit=>f .unit
 | .pair a b=>f (.pair a b)
 | .rx=>f .rx
def zn(T:Zt)(k n:Nat):Nat×Nat:=match zu (yu [] (yu [] T.fq (k/16)) (k%16)) 0 (n%256) 256 (n/256)with
 |(a,r)=>zy a λa=>zy r λr=>(a,r)
def zl{b:Type}(p:Nat->b×Nat):Nat->Nat->List b×Nat
 |0,n=>([],n)
 |k+1,n=>match p n with
  |(a,r)=>match zl p k r with
   |(l,r)=>(a::l,r)
def FP{a:Type}(T:Zt)(k:Nat)(p:Nat->a×Nat)(n:Nat):List a×Nat:=match zn T k n with
 |(k,r)=>zl p k r
def zm{b β:Type}(f:b->β)(p:b×Nat):β×Nat:=match p with
 |(a,r)=>(f a,r)
def zb{b β:Type}(p:b×Nat)(f:b->Nat->β×Nat):β×Nat:=match p with
 |(a,r)=>f a r
def Zo(v:Nat):Int:=bif a_ (v%2) 0 then Int.ofNat (v/2)else Int.negSucc (v/2)
def zbh(T:Zt)(c:Nat):Nat->Nat->Nat->List Nat×Nat
 |0,_,n=>([],n)
 |k+1,b,n=>match zn T c n with
  |(v,r)=>match zbh T c k (b+v) r with
   |(l,r)=>((b+v)::l,r)
def zas(T:Zt)(n:Nat):List Nat×Nat:=match zn T 79 n with
 |(k,r)=>zbh T 78 k 0 r
def zcp{a:Type}(T:Zt)(p:Nat->Nat->a×Nat)(g:a->Nat)(c:Nat):Nat->Nat->Nat->List a->Nat->List a×Nat
 |0,_,_,_,n=>([],n)
 |f+1,q,b,l,n=>match zn T (c+q) n with
  |(0,r)=>([],r)
  |(1,r)=>match l with
   |[]=>([],r)
   |x::l=>zm (List.cons x) (zcp T p g c f 1 (g x) l r)
  |(2,r)=>zcp T p g c f 2 b l.tail r
  |(_,r)=>zb (p b r) λx r=>zm (List.cons x) (zcp T p g c f 3 (g x) l r)
def zcg(b c:Nat):Nat:=bif a_ (c%2) 0 then b+c/2 else b - (c/2+1)
def zbi(b c:Nat):Nat:=bif j_ 4 c then c - 4 else b - 1 - c
def zbj(b c:Nat):Nat:=bif j_ 2 c then c - 2 else b+c
def zt(T:Zt)(k b n:Nat):Nat×Nat:=match zn T k n with
 |(c,r)=>(zbi b c,r)
def zd(T:Zt)(k b n:Nat):Option Nat×Nat:=match zn T k n with
 |(c,r)=>(bif a_ c 0 then none else some (zbj b (c - 1)),r)
section
variable (T:Zt)
def qB(k n:Nat):Ty×Nat:=match zn T k n with
 |(i,r)=>zyT (yu .unit T.ty i) λt=>(t,r)
def zk(n:Nat):K×Nat:=match zn T 80 n with
 |(i,r)=>(yu .e T.kk i,r)
def zsh(n:Nat):Sh×Nat:=match zn T 81 n with
 |(i,r)=>match yu ⟨[],⟨[],[]⟩,[]⟩ T.sh i with
  |⟨a,b,c⟩=>(⟨a,b,c⟩,r)
def zce(n:Nat):V×Nat:=zb (zn T 82 n) λk r=>zm (λv=>match yu .unit T.ty k with| .int k=>V.d (.int k) (Zo v)|_=>.any) (zn T 83 r)
def zV:Nat->Nat->V×Nat
 |0,n=>(.any,n)
 |f+1,n=>match zn T 84 n with
  |(o,r)=>match o with
   |0=>(.any,r)
   |1=>zm V.sl (zn T 85 r)
   |2=>zb (zn T 85 r) λi r=>zm (V.ptr i) (zn T 86 r)
   |3=>zm V.mp (zn T 85 r)
   |4=>zm V.nil (qB T 87 r)
   |5=>(.raw (.pointer none),r)
   |6=>(.raw (.slice none 0 0),r)
   |7=>zm V.agg (FP T 88 (zV f) r)
   |8=>zm V.dP (FP T 88 (zV f) r)
   |9=>zm (λv=>V.d tI (Zo v)) (zn T 83 r)
   |10=>zm (λv=>V.d tB (a_ v 1)) (zn T 89 r)
   |11=>zb (zn T 90 r) λi r=>zm (V.kT i) (FP T 88 (zn T 86) r)
   |12=>(.raw .nilIface,r)
   |13=>(.raw (.map none),r)
   |14=>(.KF,r)
   |15=>zce T r
   |16=>zm (λl=>V.d tS (l.map UInt8.ofNat)) (FP T 91 (zn T 92) r)
   |_=>zm (λi=>(yu [] T.zs i).headD .any) (zn T 93 r)
def zX(k b n:Nat):X×Nat:=match zn T k n with
 |(c,r)=>match c%4 with
  |0=>(.tm (zbi b (c/4)),r)
  |1=>(.k tI (Zo (c/4)),r)
  |_=>match c/4 with
   |0=>(.k tB false,r)
   |1=>(.k tB true,r)
   |2=>zm X.nil (qB T 87 r)
   |3=>zb (zn T 82 r) λk r=>zm (λv=>match yu .unit T.ty k with| .int k=>X.k (.int k) (Zo v)|_=>.f 0) (zn T 83 r)
   |4=>zm (λl=>X.k tS (l.map UInt8.ofNat)) (FP T 91 (zn T 92) r)
   |5=>zm X.ag (FP T 88 (zV T 9) r)
   |6=>zm X.f (zn T 90 r)
   |7=>(.raw (.pointer none),r)
   |8=>(.raw (.slice none 0 0),r)
   |9=>(.raw .nilIface,r)
   |10=>(.raw (.map none),r)
   |_=>zm (λi=>match(yu [] T.zs i).headD .any with| .raw v=>X.raw v|_=>.f 0) (zn T 93 r)
def Zn(b n:Nat):(Arg×X)×Nat:=match zn T 94 n with
 |(c,r)=>bif a_ c 0 then zm (λx=>(Arg.x,x)) (zX T 95 b r)else zyT (yu .unit T.ty (c - 1)) λt=>zm (λx=>(.d t,x)) (zX T 96 b r)
def zcO:Nat->BinOp
 |0=>.add|1=>.sub|2=>.mul|3=>.quo|4=>.rem|5=>.and|6=>.or|7=>.xor|8=>.andNot|9=>.shl|10=>.shr
 |11=>.eql|12=>.neq|13=>.lss|14=>.leq|15=>.gtr|_=>.geq
def zox(b n:Nat):Option X×Nat:=match zn T 89 n with
 |(0,r)=>(none,r)
 |(_,r)=>zm some (zX T 97 b r)
def zXs(b n:Nat):List X×Nat:=FP T 125 (zX T 196 b) n
def zcP(x:Zx)(b o r:Nat):lz×Nat:=match o with
 |0=>zm (λi=>yu (.mv (.tm 0)) x.o i) (zn T 188 r)
 |1=>zb (qB T 189 r) λt r=>zm (.pY (match t with| .int k=>k|_=>.i64)) (zX T 196 b r)
 |2=>zb (zn T 133 r) λm r=>zb (FP T 125 (zn T 86) r) λB r=>zb (zn T 198 r) λf r=>zb (zX T 196 b r) λx r=>zb (FP T 115 (Zn T b) r) λl r=>zm (.fz (j_ 2 m) (a_ (m%2) 1) B f x l) (zsh T r)
 |12=>zb (zX T 196 b r) λx r=>zb (zX T 196 b r) λy r=>zm (.pick x y) (zX T 196 b r)
 |o=>zb (zn T 198 r) λk r=>match o with
  |3=>zm (.rB k) (zXs T b r)
  |4=>zb (qB T 197 r) λt r=>zb (zX T 196 b r) λx r=>zm (.qk k t x) (zX T 196 b r)
  |10=>zb (zk T r) λc r=>zb (qB T 197 r) λt r=>zb (zn T 198 r) λl r=>zm (.eE k c t l) (zXs T b r)
  |11=>zb (zk T r) λc r=>zb (qB T 197 r) λt r=>zb (zn T 198 r) λl r=>zb (zX T 196 b r) λx r=>zm (.pj k c t l x) (zX T 196 b r)
  |8=>zb (qB T 197 r) λt r=>zb (zn T 198 r) λl r=>zb (zX T 196 b r) λx r=>zm (.pi k t l x) (zX T 196 b r)
  |9=>zb (qB T 197 r) λt r=>zb (zn T 198 r) λl r=>zm (.ow k t l) (zXs T b r)
  |o=>zb (zn T 198 r) λe r=>zb (qB T 197 r) λs r=>zb (qB T 197 r) λt r=>match o with
   |7=>(.ik k e s t,r)
   |o=>zb (zX T 196 b r) λm r=>zb (zX T 196 b r) λx r=>match o with
    |6=>(.lookup k e true s t m x,r)
    |_=>zm (.gY k e s t m x) (zX T 196 b r)
def zcf(x:Zx)(b:Nat)(o:Nat)(r:Nat):lz×Nat:=
 match o with
 |1=>zm (λt=>.mv (.tm t)) (zt T 98 b r)
 |2=>zb (qB T 99 r) λt r=>zm (λx=>.load t (.tm x)) (zt T 100 b r)
 |3=>zb (zn T 101 r) λj r=>zb (qB T 102 r) λt r=>zm (λx=>.oj j t (.tm x)) (zt T 103 b r)
 |5=>zb (zn T 104 r) λk r=>zb (zX T 105 b r) λx r=>zm (λy=>.bin (zcO k) x y) (zX T 106 b r)
 |6=>zm .mv (zX T 107 b r)
 |7=>zb (qB T 108 r) λt r=>zb (zX T 109 b r) λx r=>zm (λi=>.qj t x i) (zX T 110 b r)
 |8=>zb (qB T 111 r) λt r=>zb (zX T 112 b r) λx r=>zm (λi=>.store t x i) (zX T 113 b r)
 |9=>zm (.len false) (zX T 114 b r)
 |10=>zb (zn T 90 r) λf r=>zb (FP T 115 (Zn T b) r) λl r=>zm (λq=>.call false f l q) (zsh T r)
 |12=>zm .rC (zX T 116 b r)
 |13=>zb (zX T 117 b r) λx r=>zm (.ext x) (zn T 118 r)
 |14=>zm (.un .not) (zX T 119 b r)
 |15=>zb (zn T 120 r) λo r=>zcP T x b o r
 |17=>zb (zn T 121 r) λt r=>zm (λi=>.alloc t (yu [] T.zs i)) (zn T 93 r)
 |18=>zb (zn T 122 r) λt r=>zb (qB T 123 r) λu r=>zm (.pW t u) (zX T 124 b r)
 |19=>zb (zn T 93 r) λi r=>zm (.build (yu [] T.zs i)) (FP T 125 (λr=>zb (zn T 126 r) λa r=>zb (zn T 126 r) λc r=>zm (λx=>(a,c,x)) (zX T 127 b r)) r)
 |20=>zb (zn T 89 r) λo r=>zb (zn T 128 r) λt r=>zb (qB T 123 r) λu r=>zb (zn T 128 r) λl r=>zm (λp=>.bQ (a_ o 1) t u l p) (FP T 125 (zX T 124 b) r)
 |21=>zb (zn T 129 r) λt r=>zb (qB T 130 r) λu r=>zb (zn T 129 r) λs r=>zb (zX T 131 b r) λx r=>zm (.append t u s x) (zX T 132 b r)
 |22=>zb (zn T 133 r) λm r=>zb (FP T 125 (zn T 86) r) λB r=>zb (zn T 90 r) λf r=>zb (FP T 115 (Zn T b) r) λl r=>zm (λq=>.gF (j_ 2 m) (a_ (m%2) 1) B f l q) (zsh T r)
 |23=>zb (zn T 128 r) λt r=>zb (qB T 123 r) λu r=>zb (zn T 128 r) λs r=>zb (zX T 124 b r) λx r=>zm (.cU t u s x) (zX T 124 b r)
 |24=>zb (zn T 101 r) λj r=>zb (qB T 134 r) λt r=>zm (.HJ j t) (zX T 135 b r)
 |25=>zb (zn T 136 r) λt r=>zm (.box t) (zX T 124 b r)
 |26=>zb (zn T 89 r) λm r=>zb (zX T 137 b r) λx r=>zm (.Gf (a_ m 1) x) (zX T 137 b r)
 |27=>zb (zX T 138 b r) λx r=>zm (.ql x) (zX T 139 b r)
 |28=>zm (.len true) (zX T 114 b r)
 |29=>zb (zn T 89 r) λm r=>zb (zn T 128 r) λt r=>zb (qB T 123 r) λu r=>zb (zX T 137 b r) λx r=>zm (.sy (a_ m 1) t u x) (zX T 137 b r)
 |30=>zb (zn T 90 r) λf r=>zb (FP T 115 (Zn T b) r) λl r=>zm (λq=>.call true f l q) (zsh T r)
 |31=>zb (zX T 140 b r) λx r=>zb (zox T b r) λl r=>zm (.qw x l) (zox T b r)
 |_=>zb (zn T 89 r) λm r=>zb (qB T 141 r) λt r=>zb (zX T 142 b r) λx r=>zb (zox T b r) λl r=>zb (zox T b r) λh r=>zm (.Im (a_ m 1) t x l h) (zox T b r)
def zop(x:Zx)(b:Nat)(o:Nat)(r:Nat):lz×Nat:=match o with
 |33=>zb (zn T 143 r) λs r=>zb (zn T 33 r) λo r=>zm (.uj s) (zcf T x b o r)
 |o=>zcf T x b o r
def zbg(n:Nat):BE×Nat:=match zn T 144 n with
 |(o,r)=>match o with
  |0=>zm BE.freeze (zn T 145 r)
  |1=>zb (zn T 145 r) λk r=>zb (zn T 145 r) λty r=>zm (.UR k ty) (qB T 146 r)
  |2=>zb (zn T 145 r) λi r=>zb (zn T 145 r) λj r=>zb (zn T 145 r) λty r=>zm (.N8 i j ty) (qB T 146 r)
  |3=>zb (FP T 125 (zn T 145) r) λa r=>zm (.sel a) (zas T r)
  |4=>zm BE.drop (FP T 125 (zn T 145) r)
  |5=>zb (zn T 145 r) λi r=>zb (zn T 145 r) λk r=>zb (zn T 145 r) λj r=>zm (.focus i k j) (qB T 146 r)
  |6=>zm BE.close (zn T 145 r)
  |7=>zb (zn T 145 r) λk r=>zb (zn T 145 r) λty r=>zb (zk T r) λkk r=>zm (.N9 k ty kk) (qB T 146 r)
  |_=>zb (zn T 145 r) λi r=>zb (zn T 145 r) λj r=>zb (zn T 145 r) λty r=>zb (zk T r) λkk r=>zm (.I0 i j ty kk) (qB T 146 r)
def zR(x:Zx):Nat->Nat->Nat->Nat->RC×Nat×Nat
 |0,_,b,n=>(.nil,b,n)
 |f+1,p,b,n=>match zn T p n with
  |(o,r)=>match o with
   |0=>(.nil,b,r)
   |4=>match zn T 38 r with
    |(c,r)=>match zn T 101 r with
     |(j,r)=>match qB T 102 r with
      |(t,r)=>match zt T 103 b r with
       |(k,r)=>zy (zbj b c) λc=>match zR x f 4 (c+2) r with
        |(l,e,r)=>(.op (some c) (.oj j t (.tm k)) (.op (some (c+1)) (.load t (.tm c)) l),e,r)
   |11=>match zn T 89 r with
    |(m,r)=>match zt T 147 b r with
     |(t,r)=>match qB T 148 r with
      |(ty,r)=>match zR x f 0 b r with
       |(k,b,r)=>match zX T 149 b r with
        |(u,r)=>match zX T 150 b r with
         |(al,r)=>match zn T 45 r with
          |(d,r)=>zy (zbj b d) λd=>match zR x f 11 (d+1) r with
           |(l,e,r)=>(.gb t (a_ m 1) k ty u al d l,e,r)
   |16=>match FP T 125 (zbg T) r with
    |(a,r)=>match zR x f 16 b r with
     |(l,e,r)=>(.lZ a l,e,r)
   |o=>match zd T (34+o) b r with
    |(d,r)=>match zop T x b o r with
     |(op,r)=>zy (match d with|none=>b|some d=>d+1) λb=>match zR x f o b r with
      |(l,e,r)=>(.op d op l,e,r)
def zob(n:Nat):Ob×Nat:=match zn T 151 n with
 |(o,r)=>match o with
  |0=>(.gone,r)
  |1=>zb (zn T 152 r) λt r=>zm (.box t) (FP T 88 (zV T 9) r)
  |2=>zb (zn T 152 r) λt r=>zm (λu=>.vec t u []) (qB T 153 r)
  |3=>zb (zn T 152 r) λt r=>zb (zk T r) λk r=>zm (λu=>.tree t k u [] none) (qB T 153 r)
  |4=>zb (zn T 152 r) λt r=>zb (zk T r) λk r=>zb (qB T 153 r) λu r=>zb (zn T 86 r) λj r=>zm (λs=>.tree t k u [] (some (0,j,.sl s))) (zn T 86 r)
  |5=>zb (zn T 152 r) λk r=>zb (zn T 152 r) λty r=>zb (qB T 153 r) λa r=>zm (λc=>.map k ty a c []) (qB T 153 r)
  |_=>(.free,r)
def zch(n:Nat):Slot×Nat:=match zn T 154 n with
 |(o,r)=>match o with
  |0=>zb (zn T 155 r) λk r=>zm (.tm k) (qB T 156 r)
  |1=>zb (zn T 86 r) λk r=>zb (zn T 86 r) λj r=>zm (.cell k j) (qB T 156 r)
  |2=>zb (zn T 86 r) λk r=>zb (zn T 86 r) λj r=>zm (.vec k j) (qB T 156 r)
  |3=>zb (zn T 86 r) λk r=>zb (zn T 86 r) λj r=>zb (zn T 86 r) λty r=>zb (qB T 156 r) λa r=>zm (.map k j ty a) (qB T 156 r)
  |4=>zb (zn T 86 r) λk r=>zb (zn T 86 r) λj r=>zb (zk T r) λty r=>zm (.tree k j ty) (qB T 156 r)
  |_=>zb (zn T 86 r) λk r=>zb (zn T 86 r) λj r=>zb (zk T r) λty r=>zb (qB T 156 r) λu r=>zb (zn T 86 r) λi r=>zm (.iE k j ty u i) (zn T 86 r)
def zfr(b n:Nat):(Nat×V)×Nat:=zb (zn T 157 n) λc r=>zm (λv=>(zcg b c,v)) (zV T 9 r)
def zSh(h:Sh)(n:Nat):Sh×Nat:=
 zb (zas T n) λks r=>zb (zcp T (zfr T) (λx=>x.1+1) 174 200 0 0 h.sk.fr r) λfr r=>zb (zcp T (λ_=>zob T) (λ_=>0) 178 200 0 0 h.sk.hp r) λhp r=>zm (λsl=>⟨ks,⟨fr,hp⟩,sl⟩) (zcp T (λ_=>zch T) (λ_=>0) 182 200 0 0 h.sl r)
def zxs:Nat->Sh->Nat->List (Nat×Sh)×Sh×Nat
 |0,h,n=>([],h,n)
 |k+1,h,n=>match zn T 162 n with
  |(i,r)=>match zSh T h r with
   |(s,r)=>match zxs k s r with
    |(l,h,r)=>((i,s)::l,h,r)
def zPO(x:Zx)(b:Nat)(u:List Nat)(n:Nat):(PO×Option Nat×List Nat)×Nat:=
 zb (zn T 163 n) λj r=>zb (zn T 164 r) λc r=>zb (zn T 165 r) λm r=>zb (bif a_ m 0 then(u,r)else zbh T 166 (m - 1) 0 r) λus r=>zb (zn T 167 r) λo r=>zb (zd T (34+o) b r) λd r=>zb (zn T 168 r) λg r=>zm (λop=>(bif a_ g 0 then zcv j (a_ (c%2) 1) us d op else zcu j (a_ (c%2) 1) us (zbi b (g - 1)) (j_ 2 c) d op,d,us)) (zop T x b o r)
def zPs(x:Zx):Nat->Nat->List Nat->Nat->List PO×Nat×Nat
 |0,b,_,n=>([],b,n)
 |k+1,b,u,n=>match zPO T x b u n with
  |((p,d,u),r)=>zy (match d with|none=>b|some d=>d+1) λb=>match zPs x k b u r with
   |(l,b,r)=>(p::l,b,r)
def zaf:Nat->Nat->Nat->List (List Nat)×Nat
 |0,_,n=>([],n)
 |k+1,p,n=>zb (zn T 169 n) λc r=>zb (zl (λn=>zb (zn T 170 n) λv r=>zy (p - 1 - v) λv=>(v,r)) (c/2) r) λl r=>zb (bif a_ (c%2) 0 then(l,r)else zm (λm=>l++L_ (p - m)) (zn T 186 r)) λl r=>zm (List.cons l) (zaf k (p+1) r)
def zG(x:Zx):Nat->Nat->Sh->Nat->Nat->TC×Nat×Nat×Sh
 |0,_,h,b,n=>(.skip,b,n,h)
 |f+1,p,h,b,n=>match zn T p n with
  |(o,r)=>match o with
   |0=>(.skip,b,r,h)
   |1=>match zR T x 400 0 b r with
    |(l,b,r)=>(.region l,b,r,h)
   |2=>match zG x f 69 h b r with
    |(l,b,r,h)=>match zG x f 76 h b r with
     |(k,b,r,h)=>(.seq l k,b,r,h)
   |3=>match zX T 172 b r with
    |(c,r)=>match zG x f 70 h b r with
     |(l,b,r,h)=>match zG x f 77 h b r with
      |(k,b,r,h)=>(.cond c l k,b,r,h)
   |4=>match zn T 171 r with
    |(i,r)=>match zG x f 71 h b r with
     |(l,b,r,h)=>(.block i l,b,r,h)
   |5=>match zSh T h r with
    |(sh,r)=>match zn T 161 r with
     |(m,r)=>match zxs T m sh r with
      |(xs,h,r)=>match zG x f 72 h b r with
      |(l,b,r,h)=>(.loop sh xs l,b,r,h)
   |6=>match zn T 171 r with
    |(i,r)=>(.exit i,b,r,h)
   |7=>(.ret,b,r,h)
   |8=>match zn T 128 r with
    |(k,r)=>match(zb (zn T 187 r) λm r=>zaf T m 0 r)with
     |(af,r)=>match zR T x 400 0 b r with
      |(l,b,r)=>(.draw k l af,b,r,h)
   |9=>match FP T 125 (zbg T) r with
    |(a,r)=>match zG x f 73 h b r with
     |(l,b,r,h)=>(.lZ a l,b,r,h)
   |10=>match FP T 125 (zbg T) r with
    |(a,r)=>match zG x f 74 h b r with
     |(l,b,r,h)=>(.after l a,b,r,h)
   |11=>match zn T 161 r with
    |(m,r)=>match zxs T m h r with
     |(xs,h,r)=>match zG x f 75 h b r with
     |(l,b,r,h)=>(.cut xs l,b,r,h)
   |12=>match zn T 128 r with
    |(k,r)=>match(zb (zn T 187 r) λm r=>zaf T m 0 r)with
     |(af,r)=>match zn T 173 r with
      |(m,r)=>match zPs T x m b [] r with
       |(pre,b,r)=>match zR T x 400 0 b r with
        |(l,b,r)=>(.ke k pre l af,b,r,h)
   |_=>match zn T 173 r with
    |(m,r)=>match zPs T x m b [] r with
     |(pre,b,r)=>(.G3 pre,b,r,h)
def zrx(n:Nat):RX×Nat:=zb (zn T 193 n) λc r=>bif a_ (c%2) 0 then(.tm (c/2),r)else zm (λt=>.cell (c/2) t) (qB T 194 r)
def zE(l:List lz)(n:Nat)(q:Sh):TF:=match zn T 190 n with
 |(m,r)=>match zn T 191 r with
  |(k,r)=>match FP T 192 (zrx T) r with
   |(s,r)=>⟨(zG T ⟨l⟩ 400 68 ⟨[],⟨[],[]⟩,[]⟩ 0 r).1,s,k,q,m⟩
end
noncomputable def FO(l:List (Nat×V))(t:Nat):Option V:=List.rec (motive:=λ_=>Option V) none (λx _ a=>E_ (motive:=λ_=>Option V) a (some x.2) (a_ t x.1)) l
def pF(t:Nat):∀l:List (Nat×V),FO l t=lk l t
 |[]=>rfl
 |(k,a)::l=>by show(E_ (motive:=λ_=>Option V) (FO l t) (some a) (a_ t k))=bif a_ t k then some a else lk l t;rw[pF t l];cases a_ t k<;>rfl
noncomputable def S.lL(s:S)(x:X):Option V:=X.casesOn (motive:=λ_=>Option V) x (λk=>FO s.fr k) (λt x=>some (.d t x)) (λt=>some (.nil t)) (λvs=>some (.agg vs)) (λn=>some (.HK n [])) (λv=>some (.raw v))
theorem iO(s:S)(x:X):s.lL x=s.get x:=by cases x<;>first|exact pF _ _|rfl
def mq(m k:Nat):Bool:=a_ (V_ (Nat.shiftRight m k) 1) 1
def kH(m k:Nat):mq m k=m.testBit k:=by show a_ ((m>>>k)&&&1) 1=((1&&&(m>>>k)) != 0);rw[aD_ 1,aD_,Nat.one_and_eq_mod_two];rcases Nat.mod_two_eq_zero_or_one (m>>>k)with h|h<;>rw[h]<;>rfl
theorem rf(a b:List Nat)(k:Nat):kJ (a++b) k=(kJ a k||kJ b k):=by simp[kJ]
theorem nU(a b k:Nat):mq (O_ a b) k=(mq a k||mq b k):=by rw[kH,kH,kH];exact Nat.testBit_or a b k
def AW(d k:Nat):mq (2^d) k=kJ [d] k:=by
 rw[kH,Nat.testBit_two_pow];show decide (d=k)=(a_ k d||false);by_cases h:d=k;.subst h;simp
 grind[h_]
def jD(k:Nat):mq 0 k=kJ [] k:=by rw[kH];simp[kJ]
def zak:Option Nat->Nat
 |some d=>2^d
 |none=>0
def QI(d:Option Nat)(k:Nat):mq (zak d) k=kJ (match d with|some d=>[d]|none=>[]) k:=by cases d with|none=>exact jD k|some d=>exact AW d k
def RC.r6:RC->Nat
 | .nil=>0
 | .op d _ rest=>O_ (zak d) rest.r6
 | .lZ _ rest=>rest.r6
 | .gb _ _ dX _ _ _ dst rest=>O_ dX.r6 (O_ (2^dst) rest.r6)
theorem RC.fH(k:Nat):∀r:RC,mq r.r6 k=kJ r.fx k
 | .nil=>jD k
 | .op d o rest=>by simp only[RC.r6,RC.fx,nU,rf,QI,RC.fH k rest]<;>rfl
 | .lZ l rest=>by simp only[RC.r6,RC.fx,RC.fH k rest]
 | .gb a b dX c d e dst rest=>by simp only[RC.r6,RC.fx,nU,rf,RC.fH k rest,RC.fH k dX,AW];rw[show dst::rest.fx=[dst]++rest.fx from rfl,rf]
def Ww:List PO->Nat
 |[]=>0
 |p::l=>O_ (zak p.d) (Ww l)
theorem J6(k:Nat):∀l:List PO,mq (Ww l) k=kJ (l.flatMap λp=>match p.d with|some d=>[d]|none=>[]) k
 |[]=>jD k
 |p::l=>by simp only[Ww,S_,nU,rf,QI,J6 k l]<;>rfl
def TC.r6:TC->Nat
 | .region ops=>ops.r6
 | .draw _ ops _=>ops.r6
 | .ke _ pre tl _=>O_ (Ww pre) tl.r6
 | .G3 pre=>Ww pre
 | .seq a b=>O_ a.r6 b.r6
 | .cond _ a b=>O_ a.r6 b.r6
 | .block _ a=>a.r6
 | .loop _ _ a=>a.r6
 | .lZ _ a=>a.r6
 | .after a _=>a.r6
 | .cut _ a=>a.r6
 |_=>0
theorem TC.fH(k:Nat):∀c:TC,mq c.r6 k=kJ c.fx k
 | .region ops=>RC.fH k ops
 | .draw _ ops _=>RC.fH k ops
 | .G3 pre=>J6 k pre
 | .ke _ pre tl _=>by grind[TC.r6,TC.fx,nU,rf,RC.fH,J6]
 | .seq a b=>by simp only[TC.r6,TC.fx,nU,rf,TC.fH k a,TC.fH k b]
 | .cond _ a b=>by simp only[TC.r6,TC.fx,nU,rf,TC.fH k a,TC.fH k b]
 | .block _ a=>TC.fH k a
 | .loop _ _ a=>TC.fH k a
 | .lZ _ a=>TC.fH k a
 | .after a _=>TC.fH k a
 | .cut _ a=>TC.fH k a
 | .skip=>jD k
 | .exit _=>jD k
 | .ret=>jD k
noncomputable def YT(m:Nat)(fr:List (Nat×V))(k:Nat):Bool:=mq m k||(match FO fr k with
 |some v=> !v.ri
 |none=>false)
def tmQ(m:Nat->Bool):Slot->Bool
 | .tm k _=>m k
 |_=>true
noncomputable def okQ(sh:Sh)(m:Nat)(s:S):Bool:=sh.keep.all (λk=> !mq m k)&&sh.sl.all (tmQ (YT m s.fr))&&sh.sk.fr.all (λx=>YT m s.fr x.1)
theorem Re{m:Nat}{A:List Nat}(h:∀k,mq m k=kJ A k)(fr:List (Nat×V))(k:Nat):YT m fr k=mI A fr k:=by unfold YT mI;rw[h,pF];all_goals rfl
def Wn{m:Nat}{A:List Nat}(h:∀k,mq m k=kJ A k)(sh:Sh)(s:S):okQ sh m s=sh.MN A s:=by
 unfold okQ Sh.MN;congr 1
 .congr 1;.grind
  .congr 1;funext x;cases x<;>first|exact Re h _ _|rfl
 grind[Re]
noncomputable def TW(fr:List (Nat×V)):Nat:=List.rec (motive:=λ_=>Nat) 0 (λx _ a=>O_ (2^x.1) a) fr
def OS(k:Nat):∀fr:List (Nat×V),mq (TW fr) k=(lk fr k).isSome
 |[]=>jD k
 |(j,v)::l=>by show mq (O_ (2^j) (TW l)) k=(bif a_ k j then some v else lk l k).isSome;rw[nU,OS k l,AW];show((a_ k j||false)||_)=_;grind
def V6(r:RC)(fr:List (Nat×V)):a_ (V_ r.r6 (TW fr)) 0=r.fx.all (λk=>(lk fr k).isNone):=by
 cases b:r.fx.all (λk=>(lk fr k).isNone)
 .cases a:a_ (V_ r.r6 (TW fr)) 0;.rfl
  .have a:=h_ a;rw[List.all_eq_false]at b;obtain⟨k,c,hn⟩:=b;have h1:(V_ r.r6 (TW fr)).testBit k=(r.r6.testBit k&&(TW fr).testBit k):=ay_ _ _ _;rw[a,<-kH r.r6,<-kH (TW fr),RC.fH,OS,ap_]at h1;have h2:kJ r.fx k=true:=ak_.2 ⟨k,c,Nat.beq_refl k⟩;rw[h2]at h1;simp at h1;grind
 .have:V_ r.r6 (TW fr)=0:=by refine Nat.eq_of_testBit_eq λk=>?_;have h1:(V_ r.r6 (TW fr)).testBit k=(r.r6.testBit k&&(TW fr).testBit k):=ay_ _ _ _;rw[h1,<-kH r.r6,<-kH (TW fr),RC.fH,OS,ap_];grind[kJ,ak_,h_,p_,Option.isNone_iff_eq_none]
  rw[this];rfl
noncomputable def OR(fr l:List (Nat×V)):Bool:=List.rec (motive:=λ_=>Bool) true (λx _ a=>x_ (motive:=λ_=>Bool) false (λw=>E_ (motive:=λ_=>Bool) false a (V.same x.2 w)) (FO fr x.1)) l
def HM(fr:List (Nat×V)):∀l,OR fr l=Em fr l
 |[]=>rfl
 |(k,v)::l=>by
  show x_ (motive:=λ_=>Bool) false (λw=>E_ (motive:=λ_=>Bool) false (OR fr l) (V.same v w)) (FO fr k)=((match lk fr k with|some w=>V.same v w|none=>false)&&Em fr l)
  rw[pF,HM fr l];cases lk fr k with|none=>rfl|some w=>show E_ (motive:=λ_=>Bool) false _ (V.same v w)=(V.same v w&&_);cases V.same v w<;>rfl
noncomputable def R0(s:S)(x:Slot):Option x.ty.den:=Slot.casesOn (motive:=λx=>Option x.ty.den) x (λk t=>x_ (motive:=λ_=>Option t.den) none (λv=>cA t v) (FO s.fr k)) (λa b c=>gC s (.cell a b c)) (λa b c=>gC s (.vec a b c)) (λa b c d e=>gC s (.map a b c d e)) (λa b c d=>gC s (.tree a b c d)) (λa b c d e f=>gC s (.iE a b c d e f))
def Xf(s:S)(x:Slot):R0 s x=gC s x:=by
 cases x<;>try rfl
 rename_i k t;show x_ none (λv=>cA t v) (FO s.fr k)=match lk s.fr k with|some v=>cA t v|none=>none
 rw[pF];cases lk s.fr k<;>rfl
noncomputable def Pd(s:S)(sl:List Slot):Option (HL sl):=List.rec (motive:=λsl=>Option (HL sl)) (some ()) (λx l a=>x_ (motive:=λ_=>Option (HL (x::l))) none (λc=>x_ (motive:=λ_=>Option (HL (x::l))) none (λr=>some (c,r)) a) (R0 s x)) sl
def H7(s:S):∀sl,Pd s sl=EW s sl
 |[]=>rfl
 |x::l=>by
  show x_ (motive:=λ_=>Option (HL (x::l))) none (λc=>x_ (motive:=λ_=>Option (HL (x::l))) none (λr=>some (c,r)) (Pd s l)) (R0 s x)=match gC s x with
   |some c=>match EW s l with
    |some r=>some (c,r)
    |none=>none
   |none=>none
  rw[Xf,H7 s l];cases gC s x with|none=>rfl|some c=>cases EW s l<;>rfl
noncomputable def US(fr:List (Nat×V))(ks:List Nat):Bool:=List.rec (motive:=λ_=>Bool) true (λk _ a=>x_ (motive:=λ_=>Bool) false (λv=>E_ (motive:=λ_=>Bool) false a v.ri) (FO fr k)) ks
def K6(fr:List (Nat×V)):∀ks,US fr ks=ks.all (VB fr)
 |[]=>rfl
 |k::l=>by
  show x_ (motive:=λ_=>Bool) false (λv=>E_ (motive:=λ_=>Bool) false (US fr l) v.ri) (FO fr k)=((match lk fr k with|some v=>v.ri|none=>false)&&l.all (VB fr))
  rw[pF,K6 fr l];cases lk fr k with|none=>rfl|some v=>show E_ (motive:=λ_=>Bool) false _ v.ri=(v.ri&&_);cases v.ri<;>rfl
noncomputable def H8(sh:Sh)(s:S):Option (HL sh.sl):=E_ (motive:=λ_=>Option (HL sh.sl)) none (Pd s sh.sl) (OR s.fr sh.sk.fr&&AH sh.sk.hp s.hp&&US s.fr sh.keep)
def EX(sh:Sh)(s:S):H8 sh s=pack sh s:=by unfold H8 pack S.fits;rw[HM,K6,H7];cases Em s.fr sh.sk.fr&&AH sh.sk.hp s.hp&&sh.keep.all (VB s.fr)<;>rfl
noncomputable def Mg(fr:List (Nat×V))(ks:List Nat):List (Nat×V):=List.rec (motive:=λ_=>List (Nat×V)) [] (λk _ a=>x_ (motive:=λ_=>List (Nat×V)) a (λv=>E_ (motive:=λ_=>List (Nat×V)) a ((k,v)::a) v.ri) (FO fr k)) ks
def Mh(fr:List (Nat×V)):∀ks,Mg fr ks=ei fr ks
 |[]=>rfl
 |k::l=>by
  show x_ (motive:=λ_=>List (Nat×V)) (Mg fr l) (λv=>E_ (motive:=λ_=>List (Nat×V)) (Mg fr l) ((k,v)::Mg fr l) v.ri) (FO fr k)=match lk fr k with
   |some v=>bif v.ri then(k,v)::ei fr l else ei fr l
   |none=>ei fr l
  rw[pF,Mh fr l];cases lk fr k with|none=>rfl|some v=>show E_ (motive:=λ_=>List (Nat×V)) _ _ v.ri=bif v.ri then _ else _;cases v.ri<;>rfl
noncomputable def Sh.sW(sh:Sh)(s:S):S:=⟨Mg s.fr sh.keep++sh.sk.fr,sh.sk.hp⟩
def Dc(sh:Sh)(s:S):sh.sW s=sh.base s:=by unfold Sh.sW Sh.base;rw[Mh]
noncomputable def Et:(xs:List (Nat×Sh))->Nat->S->Option (XT xs)
 |[],_,_=>none
 |[(k,sh)],key,s=>bif a_ k key then H8 sh s else none
 |(k,sh)::a::l,key,s=>bif a_ k key then(match H8 sh s with|some c=>some (.inl c)|none=>none)else(match Et (a::l) key s with|some c=>some (.inr c)|none=>none)
def JJ(key:Nat)(s:S):∀xs,Et xs key s=inj xs key s
 |[]=>rfl
 |[(k,sh)]=>by simp[Et,inj,EX]
 |(k,sh)::a::l=>by simp only[Et,inj,EX,JJ key s (a::l)]<;>rfl
noncomputable def jN{R:Type}(s:S)(κ:Nat->S->Option R):(xs:List (Nat×Sh))->XT xs->Option R
 |[],_=>none
 |[(k,sh)],c=>κ k (unpack sh.sl c (sh.sW s))
 |(k,sh)::a::l,c=>aH_ (λc=>κ k (unpack sh.sl c (sh.sW s))) (λc=>jN s κ (a::l) c) c
def qR{R:Type}(s:S)(κ:Nat->S->Option R):∀xs c,jN s κ xs c=jb s κ xs c
 |[],_=>rfl
 |[(k,sh)],c=>by simp[jN,jb,Dc]
 |(k,sh)::a::l,c=>by simp only[jN,jb,Dc,qR s κ (a::l)]
abbrev MQ(R:Type):Type:=bi->Option Nat->S->(S->Option R)->(S->Option R)->Option R
section
variable {R:Type}
noncomputable def zbT(x:X):MQ R:=λO d s κ kp=>match s.lL x with
 |some v=>κ (s.aF d v)
 |none=>none
def zaV(c:X)(a:X)(b:X):MQ R:=λO d s κ kp=>aX O d (.pick c a b) s κ kp
noncomputable def ZR(op:BinOp)(x:X)(y:X):MQ R:=λO d s κ kp=>match s.lL x,s.lL y with
 |some (.d (.int k) a),some (.d (.int c) b)=>Yc op k c a b λv=>κ (s.aF d v)
 |some (.d .str a),some (.d .str b)=>Yd op a b λv=>κ (s.aF d v)
 |_,_=>none
noncomputable def ZS(neg:Bool)(x:X)(y:X):MQ R:=λO d s κ kp=>match s.lL x,s.lL y with
 |some (.d .bool a),some (.d .bool b)=>κ (s.aF d (.d .bool (neg ^^ (a==b))))
 |_,_=>none
def zbR(neg:Bool)(tid:TypeId)(t:Ty)(x:X)(y:X):MQ R:=λO d s κ kp=>aX O d (.sy neg tid t x y) s κ kp
noncomputable def zbV(op:UnOp)(x:X):MQ R:=λO d s κ kp=>match op,s.lL x with
 | .not,some (.d .bool a)=>κ (s.aF d (.d .bool (!a)))
 | .neg,some (.d (.int k) a)=>κ (s.aF d (.d (.int k) (k.wrap (0 - a))))
 |_,_=>none
noncomputable def q_len(str:Bool)(x:X):MQ R:=λO d s κ kp=>match str,s.lL x with
 |true,some (.d .str a)=>κ (s.aF d (.d (.int .i64) a.length))
 |false,some (.d (.list _) a)=>κ (s.aF d (.d (.int .i64) a.length))
 |false,some (.nil _)=>κ (s.aF d (.d (.int .i64) 0))
 |false,some (.sl id)=>match s.hp[id]? with
  |some (.vec _ _ xs)=>κ (s.aF d (.d (.int .i64) xs.length))
  |some (.tree _ _ _ xs _)=>κ (s.aF d (.d (.int .i64) xs.length))
  |_=>none
 |_,_=>none
def zaS(k:TypeId)(e:TypeId)(x:X):MQ R:=λO d s κ kp=>aX O d (.ol k e x) s κ kp
def zaQ(x:X)(i:X):MQ R:=λO d s κ kp=>aX O d (.ql x i) s κ kp
def zaR(n:Nat)(t:Ty)(x:X)(i:X):MQ R:=λO d s κ kp=>aX O d (.pB n t x i) s κ kp
noncomputable def WP(t:Ty)(x:X)(i:X):MQ R:=λO d s κ kp=>match s.lL x with
 |some (.sl id)=>match s.hp[id]? with
  |some (.vec _ u xs)=>bif decide (u=t)then intOf (s.lL i) λn=>e_ (nv xs n) λ_=>κ (s.aF d (.i6 id n.toNat 0))else none
  |some (.tree _ _ u xs _)=>bif decide (u=t)then intOf (s.lL i) λn=>e_ (nv xs n) λ_=>κ (s.aF d (.i6 id n.toNat 0))else none
  |_=>none
 |some (.d (.list u) xs)=>match bE (.list u) (.list t) xs with
  |some xs=>intOf (s.lL i) λn=>e_ (nv xs n) λx=>κ (s.aF d (.dp t x))
  |none=>none
 |_=>none
def zaP(n:Nat)(t:Ty)(x:X)(i:X):MQ R:=λO d s κ kp=>aX O d (.qk n t x i) s κ kp
noncomputable def WO(off:Nat)(t:Ty)(x:X):MQ R:=λO d s κ kp=>match s.lL x with
 |some (.dp u y)=>match qq u off t y with
  |some z=>κ (s.aF d (.dp t z))
  |none=>none
 |some (.ptr id o)=>κ (s.aF d (.ptr id (o+off)))
 |some (.i6 id i o)=>κ (s.aF d (.i6 id i (o+off)))
 |_=>none
def zbS(off:Nat)(t:Ty)(x:X):MQ R:=λO d s κ kp=>aX O d (.HJ off t x) s κ kp
noncomputable def WQ(t:Ty)(x:X):MQ R:=λO d s κ kp=>loadT s.hp t (s.lL x) λv=>κ (s.aF d v)
noncomputable def RI(t:Ty)(x:X)(v:X):MQ R:=λO d s κ kp=>match d with
 |none=>storeT s t (s.lL x) (s.lL v) κ
 |some _=>none
def Y1(tid:TypeId)(zero:List V):MQ R:=λO d s κ kp=>aX O d (.alloc tid zero) s κ kp
def zbQ(tid:TypeId)(x:X):MQ R:=λO d s κ kp=>aX O d (.box tid x) s κ kp
def zaL(tid:TypeId)(t:Ty)(x:X):MQ R:=λO d s κ kp=>aX O d (.pW tid t x) s κ kp
def Y2(zero:List V)(parts:List (Nat×Nat×X)):MQ R:=λO d s κ kp=>aX O d (.build zero parts) s κ kp
def WN(own:Bool)(tid:TypeId)(t:Ty)(len:Nat)(parts:List X):MQ R:=λO d s κ kp=>aX O d (.bQ own tid t len parts) s κ kp
def WT(tid:TypeId)(t:Ty)(bytes:Nat)(l:X)(c:X):MQ R:=λO d s κ kp=>aX O d (.cU tid t bytes l c) s κ kp
def WM(tid:TypeId)(t:Ty)(bytes:Nat)(x:X)(y:X):MQ R:=λO d s κ kp=>aX O d (.append tid t bytes x y) s κ kp
def zaO(k:IntKind)(x:X):MQ R:=λO d s κ kp=>aX O d (.pY k x) s κ kp
def zbU(full:Bool)(t:Ty)(x:X)(lo:Option X)(a:Option X)(mx:Option X):MQ R:=λO d s κ kp=>aX O d (.Im full t x lo a mx) s κ kp
def zaW(x:X)(lo:Option X)(a:Option X):MQ R:=λO d s κ kp=>aX O d (.qw x lo a) s κ kp
noncomputable def ZT(x:X)(i:Nat):MQ R:=λO d s κ kp=>match s.lL x with
 |some (.dP vs)=>match vs[i]? with
  |some v=>bif (match v with| .agg _=>false| .dP _=>false|_=>true)then κ (s.aF d v)else none
  |none=>none
 |_=>none
noncomputable def WU(x:X):MQ R:=λO d s κ kp=>match s.lL x with
 |some v=>(match v with
  | .dp _ _=>κ (s.aF d v)
  | .ptr _ _=>κ (s.aF d v)
  | .KG _ _ _ _ _=>κ (s.aF d v)
  | .i6 _ _ _=>κ (s.aF d v)
  | .kT _ _=>κ (s.aF d v)
  | .HK _ _=>κ (s.aF d v)
  |_=>none)
 |none=>none
noncomputable def zaM(bor:Bool)(f:FuncId)(args:List (Arg×X))(sh:Sh):MQ R:=λO d s κ kp=>match Ho s bor args with
 |some ars=>bif ars.all V.ri&&sh.sk.fr.isEmpty&&(!bor||sh.sl.all Slot.flat)then
  e_ (gm O f ars [] sh) λc=>κ (s.aF d (res sh.n (unpack sh.sl c (sh.base ⟨[],[]⟩)).fr))else none
 |none=>none
noncomputable def Y3(jv:Bool)(bor:Bool)(B:List Nat)(f:FuncId)(args:List (Arg×X))(sh:Sh):MQ R:=λO d s κ kp=>match kQ s bor B args with
 |some ars=>wl jv O s d bor B f ars sh κ kp
 |none=>none
def Y5(jv:Bool)(bor:Bool)(B:List Nat)(num:Nat)(x:X)(args:List (Arg×X))(sh:Sh):MQ R:=λO d s κ kp=>aX O d (.fz jv bor B num x args sh) s κ kp
def zbP(x:X):MQ R:=λO d s κ kp=>aX O d (.Gb x) s κ kp
def zaT(f:FuncId)(caps:List X):MQ R:=λO d s κ kp=>aX O d (.rB f caps) s κ kp
def Y7(k:TypeId)(e:TypeId)(a:Ty)(b:Ty):MQ R:=λO d s κ kp=>aX O d (.ik k e a b) s κ kp
def WR(k:TypeId)(e:TypeId)(ok:Bool)(a:Ty)(b:Ty)(m:X)(x:X):MQ R:=λO d s κ kp=>aX O d (.lookup k e ok a b m x) s κ kp
def WS(k:TypeId)(e:TypeId)(a:Ty)(b:Ty)(m:X)(x:X)(v:X):MQ R:=λO d s κ kp=>aX O d (.gY k e a b m x v) s κ kp
def zaN(tid:TypeId)(t:Ty)(x:X)(y:X):MQ R:=λO d s κ kp=>aX O d (.copy tid t x y) s κ kp
def zaU(mx:Bool)(k:IntKind)(x:X)(ys:List X):MQ R:=λO d s κ kp=>aX O d (.mb mx k x ys) s κ kp
def Y8(x:X):MQ R:=λO d s κ kp=>aX O d (.panic x) s κ kp
def Y6(tid:TypeId)(x:X):MQ R:=λO d s κ kp=>aX O d (.iface tid x) s κ kp
def Tk(tid:TypeId)(t:Ty)(len:Nat)(parts:List X):MQ R:=λO d s κ kp=>aX O d (.ow tid t len parts) s κ kp
def zaJ(tid:TypeId)(t:Ty)(bytes:Nat)(x:X)(y:X):MQ R:=λO d s κ kp=>aX O d (.pi tid t bytes x y) s κ kp
def Tl(tid:TypeId)(k:K)(t:Ty)(len:Nat)(parts:List X):MQ R:=λO d s κ kp=>aX O d (.eE tid k t len parts) s κ kp
def Tm(tid:TypeId)(k:K)(u:Ty)(bytes:Nat)(l:X)(c:X):MQ R:=λO d s κ kp=>aX O d (.d6 tid k u bytes l c) s κ kp
def zaK(tid:TypeId)(k:K)(t:Ty)(bytes:Nat)(x:X)(y:X):MQ R:=λO d s κ kp=>aX O d (.pj tid k t bytes x y) s κ kp
def Y4(bor:Bool)(num:Nat)(x:X)(args:List (Arg×X))(sh:Sh):MQ R:=λO d s κ kp=>aX O d (.hZ bor num x args sh) s κ kp
def zcG(k:Nat)(op:lz):MQ R:=λO d s κ kp=>aX O d (.uj k op) s κ kp
noncomputable def ic(op:lz):MQ R:=lz.casesOn (motive:=λ_=>MQ R) op zbT zaV ZR ZS zbR zbV q_len zaS zaQ zaR WP zaP WO zbS WQ RI Y1 zbQ zaL Y2 WN WT WM zaO zbU zaW ZT WU zaM Y3 Y5 zbP zaT Y7 WR WS zaN zaU Y8 Y6 Tk zaJ Tl Tm zaK Y4 zcG
theorem Dx(op:lz)(O:bi)(d:Option Nat)(s:S)(κ kp:S->Option R):ic op O d s κ kp=aX O d op s κ kp:=by
 cases op;case mv=>simp only[ic,zbT,aX,iO]<;>rfl
 case bin=>simp only[ic,ZR,aX,iO]<;>rfl
 case Gf=>simp only[ic,ZS,aX,iO]<;>rfl
 case un=>simp only[ic,zbV,aX,iO]<;>rfl
 case len=>simp only[ic,q_len,aX,iO]<;>rfl
 case qj=>simp only[ic,WP,aX,iO]<;>rfl
 case oj=>simp only[ic,WO,aX,iO]<;>rfl
 case load=>simp[ic,WQ,aX,iO]
 case store=>simp only[ic,RI,aX,iO]<;>rfl
 case ext=>simp only[ic,ZT,iO]<;>rfl
 case rC=>simp only[ic,WU,iO]<;>rfl
 case call=>rfl
 case gF=>rfl
 all_goals rfl
abbrev RQ:Type 1:=(R:Type)->S->(S->Option R)->(S->Option R)->Option R
def zbX:RQ:=λ_ s κ _=>κ s
noncomputable def zcH(O:bi)(d:Option Nat)(o:lz)(_:RC)(a:RQ):RQ:=λR s κ kp=>ic o O d s (λs'=>a R s' κ kp) kp
def zbW(l:List BE)(_:RC)(a:RQ):RQ:=λR s κ kp=>vJ l s λs=>a R s κ kp
noncomputable def zaX(t:Nat)(want:Bool)(dX:RC)(ty:Ty)(r alt:X)(dst:Nat)(_:RC)(a d:RQ):RQ:=λR s κ kp=>match FO s.fr t,s.lL alt with
 |some (.d .bool b),some e=>match(bif a_ (V_ dX.r6 (TW s.fr)) 0 then cA ty e else none)with
  |some alt=>e_ (match want with
   |true=>bif b then a ty.den s (λs'=>match s'.lL r with|some v=>cA ty v|none=>none) (λ_=>none)else some alt
   |false=>bif b then some alt else a ty.den s (λs'=>match s'.lL r with|some v=>cA ty v|none=>none) (λ_=>none))
   λc=>d R (s.put dst (.d ty c)) κ kp
  |none=>none
 |_,_=>none
noncomputable def DC(O:bi)(r:RC):RQ:=RC.rec (motive:=λ_=>RQ) zbX (zcH O) zbW zaX r
theorem Jj(O:bi)(r:RC):∀(R:Type) (s:S) (κ kp:S->Option R),DC O r R s κ kp=Dz O R r s κ kp:=by
 induction r with
 |nil=>intro R s κ kp;rfl|op d o rest a=>intro R s κ kp;show ic o O d s (λs'=>DC O rest R s' κ kp) kp=aX O d o s (λs'=>Dz O R rest s' κ kp) kp;rw[Dx];grind|lZ l rest a=>intro R s κ kp;show vJ l s (λs=>DC O rest R s κ kp)=vJ l s λs=>Dz O R rest s κ kp;grind|gb t want dX ty r alt dst rest e a=>
  intro R s κ kp;have b:DC O dX=λR s κ kp=>Dz O R dX s κ kp:=by grind
  have c:DC O rest=λR s κ kp=>Dz O R rest s κ kp:=by grind
  show zaX t want dX ty r alt dst rest (DC O dX) (DC O rest) R s κ kp=_;rw[b,c];simp only[zaX,iO,pF,V6]<;>rfl
noncomputable def SC{R:Type}(O:bi)(l:List PO):List qI->S->(S->Option R)->(S->Option R)->Option R:=List.rec (motive:=λ_=>List qI->S->(S->Option R)->(S->Option R)->Option R) (λ_ s κ _=>κ s) (λp _ a A s κ kp=>
 match p.g with
 |none=>bif zP A s p then ic p.o O p.d s (λs'=>To A s s' p (a (vu A s s' p) s' κ kp)) kp else none
 |some (t,want)=>match FO s.fr t with
  |some (.d .bool b)=>bif want==b
   then(bif zP A (s.put t (.d .bool want)) p then ic p.o O p.d (s.put t (.d .bool want)) (λs'=>To A (s.put t (.d .bool want)) s' p (a (vu A (s.put t (.d .bool want)) s' p) s' κ kp)) kp else none)
   else(bif zP A (s.put t (.d .bool (!want))) p then To A (s.put t (.d .bool (!want))) ((s.put t (.d .bool (!want))).aF p.d (.raw Go.undef)) p (a (vu A (s.put t (.d .bool (!want))) ((s.put t (.d .bool (!want))).aF p.d (.raw Go.undef)) p) ((s.put t (.d .bool (!want))).aF p.d (.raw Go.undef)) κ kp)else none)
  |_=>none) l
theorem QR{R:Type}(O:bi):∀(l:List PO) (A:List qI) (s:S) (κ kp:S->Option R),SC O l A s κ kp=TU O A l s κ kp
 |[],_,_,_,_=>rfl
 |p::l,A,s,κ,kp=>by
  show(match p.g with
  |none=>bif zP A s p then ic p.o O p.d s (λs'=>To A s s' p (SC O l (vu A s s' p) s' κ kp)) kp else none|some (t,want)=>match FO s.fr t with
   |some (.d .bool b)=>bif want==b then(bif zP A (s.put t (.d .bool want)) p then ic p.o O p.d (s.put t (.d .bool want)) (λs'=>To A (s.put t (.d .bool want)) s' p (SC O l (vu A (s.put t (.d .bool want)) s' p) s' κ kp)) kp else none) else(bif zP A (s.put t (.d .bool (!want))) p then To A (s.put t (.d .bool (!want))) ((s.put t (.d .bool (!want))).aF p.d (.raw Go.undef)) p (SC O l (vu A (s.put t (.d .bool (!want))) ((s.put t (.d .bool (!want))).aF p.d (.raw Go.undef)) p) ((s.put t (.d .bool (!want))).aF p.d (.raw Go.undef)) κ kp)else none)
   |_=>none)=_
  simp only[QR O l,Dx,TU,pF]<;>rfl
noncomputable def OM{R:Type}(O:bi)(l:List PO):S->(S->Option R)->(S->Option R)->Option R:=List.rec (motive:=λ_=>S->(S->Option R)->(S->Option R)->Option R) (λs κ _=>κ s) (λp _ a s κ kp=>
 match p.g with
 |none=>ic p.o O p.d s (λs'=>a s' κ kp) kp
 |some (t,want)=>match FO s.fr t with
  |some (.d .bool b)=>bif b
   then(match want with
    |true=>ic p.o O p.d (s.put t (.d .bool true)) (λs'=>a s' κ kp) kp
    |false=>a ((s.put t (.d .bool true)).aF p.d (.raw Go.undef)) κ kp)
   else(match want with
    |true=>a ((s.put t (.d .bool false)).aF p.d (.raw Go.undef)) κ kp
    |false=>ic p.o O p.d (s.put t (.d .bool false)) (λs'=>a s' κ kp) kp)
  |_=>none) l
theorem QQ{R:Type}(O:bi):∀(l:List PO) (s:S) (κ kp:S->Option R),OM O l s κ kp=TT O l s κ kp
 |[],_,_,_=>rfl
 |p::l,s,κ,kp=>by
  show(match p.g with
  |none=>ic p.o O p.d s (λs'=>OM O l s' κ kp) kp|some (t,want)=>match FO s.fr t with
   |some (.d .bool b)=>bif b
    then(match want with
     |true=>ic p.o O p.d (s.put t (.d .bool true)) (λs'=>OM O l s' κ kp) kp
     |false=>OM O l ((s.put t (.d .bool true)).aF p.d (.raw Go.undef)) κ kp)
    else(match want with
     |true=>OM O l ((s.put t (.d .bool false)).aF p.d (.raw Go.undef)) κ kp
     |false=>ic p.o O p.d (s.put t (.d .bool false)) (λs'=>OM O l s' κ kp) kp)
   |_=>none)=_
  simp only[QQ O l,Dx,TT,pF]<;>rfl
abbrev CQ:Type 1:=(R:Type)->S->(S->Option R)->(Nat->S->Option R)->(S->Option R)->(S->Option R)->Option R
def zaj:CQ:=λ_ s kn _ _ _=>kn s
noncomputable def U6(O:bi)(ops:RC):CQ:=λR s kn _ _ kp=>DC O ops R s kn kp
noncomputable def zag(O:bi)(_:Nat)(ops:RC)(_:List (List Nat)):CQ:=λR s kn _ _ kp=>DC O ops R s kn kp
noncomputable def Yl(O:bi)(r:Nat)(pre:List PO)(tl:RC)(_:List (List Nat)):CQ:=λR s kn _ _ kp=>SC O pre [] ⟨s.fr,s.hp++K_ r .free⟩ (λs=>DC O tl R s kn kp) kp
noncomputable def zai(O:bi)(pre:List PO):CQ:=λ_ s kn _ _ kp=>OM O pre s kn kp
def ZA(_ _:TC)(a b:CQ):CQ:=λR s kn kx kr kp=>a R s (λs=>b R s kn kx kr kp) kx kr kp
noncomputable def Oo(x:X)(_ _:TC)(a b:CQ):CQ:=λR s kn kx kr kp=>match s.lL x with
 |some (.d .bool t)=>bif t then a R s kn kx kr kp else b R s kn kx kr kp
 |_=>none
def Qv(id:Nat)(_:TC)(a:CQ):CQ:=λR s kn kx kr kp=>a R s kn (λi s=>bif a_ i id then kn s else kx i s) kr kp
def zah(id:Nat):CQ:=λ_ s _ kx _ _=>kx id s
def zbo:CQ:=λ_ s _ _ kr _=>kr s
def Zz(l:List BE)(_:TC)(a:CQ):CQ:=λR s kn kx kr kp=>vJ l s λs=>a R s kn kx kr kp
def Qu(_:TC)(l:List BE)(a:CQ):CQ:=λR s kn kx kr kp=>a R s (λs=>vJ l s kn) kx kr kp
noncomputable def U5(xs:List (Nat×Sh))(a:TC)(b:CQ):CQ:=λR s kn kx kr kp=>bif xs.all (λx=>okQ x.2 a.r6 s)then
 e_ (b (XT xs) s (λs=>Et xs 0 s) (λi s=>Et xs (i+3) s) (λs=>Et xs 1 s) (λs=>Et xs 2 s))
  (jN s (λkey s=>match key with|0=>kn s|1=>kr s|2=>kp s|i+3=>kx i s) xs)else none
noncomputable def Oq(n:Nat)(sh:Sh)(xs:List (Nat×Sh))(a:TC)(b:CQ):CQ:=λR s kn kx kr kp=>match H8 sh s with
 |some c=>bif okQ sh a.r6 s&&xs.all (λx=>okQ x.2 a.r6 s)then e_ (gr n (λc=>b (HL sh.sl⊕XT xs) (unpack sh.sl c (sh.sW s)) (λs=>match H8 sh s with|some c=>some (.inl c)|none=>none)
  (λi s=>match Et xs (i+3) s with|some c=>some (.inr c)|none=>none) (λs=>match Et xs 1 s with|some c=>some (.inr c)|none=>none) (λs=>match Et xs 2 s with|some c=>some (.inr c)|none=>none)) c)
  (jN s (λkey s=>match key with|0=>kn s|1=>kr s|2=>kp s|i+3=>kx i s) xs)else none
 |none=>none
noncomputable def uZ(O:bi)(n:Nat)(c:TC):CQ:=TC.rec (motive:=λ_=>CQ) zaj (U6 O) (zag O) (Yl O) (zai O) ZA Oo Qv (Oq n) zah zbo Zz Qu U5 c
theorem QN(O:bi)(n:Nat)(c:TC):∀(R:Type) (s:S) (kn:S->Option R) (kx:Nat->S->Option R) (kr kp:S->Option R),uZ O n c R s kn kx kr kp=BM O n R c s kn kx kr kp:=by
 have e:∀a:TC,(∀(R:Type) (s:S) (kn:S->Option R) (kx:Nat->S->Option R) (kr kp:S->Option R),uZ O n a R s kn kx kr kp=BM O n R a s kn kx kr kp)->uZ O n a=λR s kn kx kr kp=>BM O n R a s kn kx kr kp:=λa h=>by grind
 induction c with|skip=>intro R s kn kx kr kp;rfl|region ops=>intro R s kn kx kr kp;exact Jj O ops R s kn kp|draw k ops af=>intro R s kn kx kr kp;exact Jj O ops R s kn kp|ke r pre tl af=>intro R s kn kx kr kp;show SC O pre [] _ (λs=>DC O tl R s kn kp) kp=TU O [] pre _ (λs=>Dz O R tl s kn kp) kp;simp[QR,Jj]|G3 pre=>intro R s kn kx kr kp;exact QQ O pre s kn kp|seq a b d f=>intro R s kn kx kr kp;show ZA a b (uZ O n a) (uZ O n b) R s kn kx kr kp=_;rw[e a d,e b f];rfl|cond x a b d f=>intro R s kn kx kr kp;show Oo x a b (uZ O n a) (uZ O n b) R s kn kx kr kp=_;grind[Oo,iO,BM]|block id a d=>intro R s kn kx kr kp;show Qv id a (uZ O n a) R s kn kx kr kp=_;rw[e a d];rfl|loop sh xs a d=>intro R s kn kx kr kp;show Oq n sh xs a (uZ O n a) R s kn kx kr kp=_;rw[e a d];have hd:∀(κ:Nat->S->Option R),jN s κ xs=jb s κ xs:=λκ=>funext λc=>qR s κ xs c;simp only[Oq,BM,Wn λk=>TC.fH k a,EX,Dc,JJ,hd]<;>rfl|exit id=>intro R s kn kx kr kp;rfl|ret=>intro R s kn kx kr kp;rfl|lZ l a d=>intro R s kn kx kr kp;show Zz l a (uZ O n a) R s kn kx kr kp=_;rw[e a d];rfl|after a l d=>intro R s kn kx kr kp;show Qu a l (uZ O n a) R s kn kx kr kp=_;rw[e a d];rfl|cut xs a d=>intro R s kn kx kr kp;show U5 xs a (uZ O n a) R s kn kx kr kp=_;rw[e a d];have hd:∀(κ:Nat->S->Option R),jN s κ xs=jb s κ xs:=λκ=>funext λc=>qR s κ xs c;simp only[U5,BM,Wn λk=>TC.fH k a,JJ,hd]<;>rfl
end
noncomputable def Vo(O:bi)(n:Nat)(c:TF)(ars:List V)(os:List Ob):Option (Option S):=
 uZ O n c.code (Option S) ⟨dR 0 ars,os⟩ (Eg c) (λ_ _=>none) (Eg c) (λ_=>some none)
noncomputable def QO(O:bi)(n:Nat)(d:TD)(ars:List V):Option (Option S):=
 uZ O n d.a (Option S) ⟨dR 0 ars,[]⟩ (λs=>bif vM s d.ta 0&&vM s d.tb 1&&noT s d.t8&&a_ s.hp.length 2 then
  uZ O n d.c.code (Option S) s (Eg d.c) (λ_ _=>none) (Eg d.c) (λs=>bif vM s d.ta 0&&vM s d.tb 1 then
   uZ O n d.h (Option S) ⟨[(0,.ptr 0 0),(1,.ptr 1 0)],s.hp⟩ (Yx d) (λ_ _=>none) (Yx d) (λ_=>none)else none)else none) (λ_ _=>none) (λ_=>none) (λ_=>none)
noncomputable def Yu(tbl:Nat->Option gv)(n:Nat):bi:=Nat.rec (motive:=λ_=>bi) (λ_ _ _=>none) (λn a f ars os=>match tbl f with
 |some (.code c)=>bif a_ os.length c.m&&j_ ars.length c.ntmps then Vo a n c ars os else none
 |some (.Yq d)=>bif a_ os.length 0&&j_ ars.length d.c.ntmps then QO a n d ars else none
 |some (.nat g)=>(match os with
  |[]=>(match g ars with
   |some s=>some (some s)
   |none=>none)
  |_=>none)
 |none=>none) n
theorem Vp(O:bi)(n:Nat)(c:TF)(ars:List V)(os:List Ob):Vo O n c ars os=OJ O n c ars os:=QN O n c.code _ _ _ _ _ _
theorem Vr(O:bi)(n:Nat)(d:TD)(ars:List V):QO O n d ars=Vq O n d ars:=by simp only[QO,Vq,QN]
theorem QP(tbl:Nat->Option gv):∀n,Yu tbl n=rY tbl n
 |0=>rfl
 |n+1=>by funext f ars os;have a:=QP tbl n;grind[rY,a_,j_,Vo,Yu,QO,Vp,Vr]
theorem Ym{tbl:Nat->Option gv}{n f:Nat}{ars:List V}{os:List Ob}{sh:Sh}{c:HL sh.sl}(h:gm (Yu tbl n) f ars os sh=some c):gm (rY tbl n) f ars os sh=some c:=by grind[QP]
def jk{tbl:Nat->Option gv}{f:Nat}{ars:List V}{os:List Ob}{sh:Sh}{c:HL sh.sl}{m:Nat}(h:∀k,gm (Yu tbl (k+m)) f ars os sh=some c):∃a,∀n,a<=n->gm (rY tbl n) f ars os sh=some c:=⟨m,λn hn=>by obtain⟨k,rfl⟩:∃k,n=k+m:=⟨n - m,by omega⟩;grind[Ym]⟩
inductive K0:BV->BV->Prop
 |refl (x:BV):K0 x x
 |data (x:BV) (p:PV) (h:x.bG=some p):K0 x (.pv p)
 |any (x:BV):K0 x (.pv .any)
inductive IQ:AV->AV->Prop
 |refl (x:AV):IQ x x
 |data (x:AV) (p:PV) (h:x.bG=some p):IQ x (.b (.pv p))
 |any (x:AV):IQ x (.b (.pv .any))
 |agg (xs ys:List BV) (hl:xs.length=ys.length) (h:∀(i:Nat) (x y:BV),xs[i]? =some x->ys[i]? =some y->K0 x y):IQ (.agg xs) (.agg ys)
 |dP (xs ys:List BV) (hl:xs.length=ys.length) (h:∀(i:Nat) (x y:BV),xs[i]? =some x->ys[i]? =some y->K0 x y):IQ (.dP xs) (.dP ys)
inductive UH:aM->aM->Prop
 |refl (x:aM):UH x x
 |gone (x:aM):UH x .gone
 |box (t:TypeId) (xs ys:List BV) (hl:xs.length=ys.length) (h:∀(i:Nat) (x y:BV),xs[i]? =some x->ys[i]? =some y->K0 x y):UH (.box t xs) (.box t ys)
section
variable {θ:List Av.Loc} {D:Nat->Prop} {w:World}
theorem K0.rel{x y:BV}(h:K0 x y){v:Value}(hr:RelB θ D w v x):RelB θ D w v y:=by cases h with|refl=>omega|data p h=>exact lm hr h|any=>exact aW.any v
theorem Pm{vs:Array Value}{xs ys:List BV}(hl:xs.length=ys.length)(h:∀(i:Nat) (x y:BV),xs[i]? =some x->ys[i]? =some y->K0 x y)(h1:vs.size=xs.length)(h2:∀(i:Nat) (u:Value) (x:BV),vs[i]? =some u->xs[i]? =some x->RelB θ D w u x): vs.size=ys.length/\∀(i:Nat) (u:Value) (x:BV),vs[i]? =some u->ys[i]? =some x->RelB θ D w u x:=⟨by omega,λi u y c b=>by obtain⟨x,a⟩:=bC (l:=xs) hl b;exact(h i x y a b).rel (h2 i u x c a)⟩
theorem IQ.rel{x y:AV}(h:IQ x y){v:Value}(hr:RelA θ D w v x):RelA θ D w v y:=by
 cases h with
 |refl=>omega|data _ p h=>exact cX hr h|any=>exact aW.any v|agg xs ys hl h=>obtain⟨vs,H,h1,h2⟩:=hr;obtain⟨C,E⟩:=Pm hl h h1 h2;exact⟨vs,H,C,E⟩
 |dP xs ys hl h=>obtain⟨vs,H,h1,h2⟩:=hr;obtain⟨C,E⟩:=Pm hl h h1 h2;exact⟨vs,H,C,E⟩
theorem UH.rel{x y:aM}(h:UH x y){l:Av.Loc}(hr:cJ θ D w l x):cJ θ D w l y:=by
 cases h with
 |refl=>omega|gone=>cases l<;>trivial|box t xs ys hl h=>
  cases l<;>simp only[cJ]at hr⊢<;>try exact hr.elim
  obtain⟨H,I,C,E⟩:=hr;obtain⟨J,M⟩:=Pm hl h C E;grind
end
structure NP(a b:St):Prop where
 fr:∀k y,Av.look b.fr k=some y->∃x,Av.look a.fr k=some x/\IQ x y
 len:a.hp.length=b.hp.length
 hp:∀(i:Nat) (x y:aM),a.hp[i]? =some x->b.hp[i]? =some y->UH x y
def NP.rS{m:Nat}{a b:St}(h:NP a b):f8 m a b:=by
 rintro c ac w _ ⟨θ,D,C⟩;refine⟨θ,D,C.size,C.defers,⟨by rw[C.ok.len,h.len],C.ok.pn,C.ok.inj,C.ok.mX,λi l o J I=>?_⟩,C.keep,C.lG,C.ng,C.jY,λk y M=>?_,C.fix⟩;.obtain⟨x,E⟩:=bC (l:=a.hp) h.len I;exact(h.hp i x o E I).rel (C.ok.fO i l x J E)
 .obtain⟨x,E,H⟩:=h.fr k y M;exact H.rel (C.fr k x E)
def NP.frame{fr fr':List (Nat×AV)}{hp:List aM}(h:∀k y,Av.look fr' k=some y->Av.look fr k=some y):NP ⟨fr,hp⟩ ⟨fr',hp⟩:=⟨λk y E=>⟨y,h k y E,.refl y⟩,rfl,λi x y H C=>by rw[H]at C;cases C;exact .refl x⟩
def aP(A:List Nat)(s s':S):Prop:=∀k,k∉A->(∀v,lk s.fr k=some v->v.ri=true->lk s'.fr k=some v\/lk s'.fr k=none)/\(lk s.fr k=none->lk s'.fr k=none)
def EI(g:V->V):∀(fr:List (Nat×V)) (k:Nat),lk (fr.map λx=>(x.1,g x.2)) k=(lk fr k).map g
 |[],_=>rfl
 |(j,v)::fr,k=>by
  simp only[l_,lk];cases a_ k j;.exact EI g fr k
  simp
def aP.refl(A:List Nat)(s:S):aP A s s:=λ_ _=>⟨λ_ h _=>.inl h,id⟩
def aP.trans{A:List Nat}{a b c:S}(h:aP A a b)(k:aP A b c):aP A a c:=λi C=>by
 refine⟨λv E hd=>?_,λhn=>(k i C).2 ((h i C).2 hn)⟩;rcases(h i C).1 v E hd with h1|h1;.exact(k i C).1 v h1 hd
 .exact .inr ((k i C).2 h1)
theorem aP.sub{A B:List Nat}{a b:S}(h:aP A a b)(hs:∀x∈A,x∈B):aP B a b:=λi C=>h i λE=>C (hs i E)
def f9(d:Option Nat):List Nat:=match d with
 |some d=>[d]
 |none=>[]
def YQ(s:S)(d:Option Nat)(v:V)(k:Nat)(h:k∉f9 d):lk (s.aF d v).fr k=lk s.fr k:=by
 cases d with
 |none=>rfl|some j=>
  have a:k≠j:=λe=>h (by simp[f9,e]);have:a_ k j=false:=by
   cases b:a_ k j;.rfl
   .exact absurd (h_ b) a
  show(bif a_ k j then some v else lk s.fr k)=_;grind
theorem aP.put(s:S)(d:Option Nat)(v:V):aP (f9 d) s (s.aF d v):=λk C=>by rw[YQ s d v k C];exact⟨λ_ h _=>.inl h,id⟩
def aP.map(A:List Nat)(s s':S)(g:V->V)(hg:∀v,v.ri=true->ju g v=v)(C:s'.fr=s.fr.map λx=>(x.1,ju g x.2)):aP A s s':=λk _=>by
 have:lk s'.fr k=(lk s.fr k).map (ju g):=by rw[C];exact EI (ju g) s.fr k
 grind
def aP.fr{A:List Nat}{s s':S}(h:s'.fr=s.fr):aP A s s':=λk _=>by rw[h];exact⟨λ_ h _=>.inl h,id⟩
section
variable {R:Type} {P:Program} {O:bi} {d:Option Nat} {s:S} {κ kp:S->Option R} {r:R}
def Pu(P:Program)(s:S)(op:fv)(d:Option Nat)(κ:S->Option R)(r:R):Prop:=∃v,jh P (enc s) op (λy=>y=a8 v)/\κ (s.aF d v)=some r
theorem cW{c β:Type}{o:Option c}{f:c->Option β}{b:β}(h:e_ o f=some b):∃a,o=some a/\f a=some b:=by cases o with|none=>grind|some a=>grind
theorem bF{c:Type}{b:Bool}{x:Option c}{a:c}(h:ci b x=some a):b=true/\x=some a:=by
 cases b;.cases h
 .exact⟨rfl,h⟩
theorem aY{c:Type}{b:Bool}{x:Option c}{a:c}(h:(bif b then x else none)=some a):b=true/\x=some a:=by
 cases b;.cases h
 .exact⟨rfl,h⟩
theorem Cs{a:Type}{xs:List a}{i:Int}{x:a}(h:nv xs i=some x):0<=i/\xs[i.toNat]? =some x:=by unfold nv at h;grind
theorem ZP{x:X}(b:x.wf=true)(h:aX O d (.mv x) s κ kp=some r):Pu P s (.mv x.er) d κ r:=by
 simp only[aX]at h;split at h;.rename_i v a;exact⟨v,⟨_,aH b a,rfl⟩,h⟩
 grind
theorem Hv(a:List UInt8):(⟨a.toArray⟩:ByteArray).toList=a:=by rw[ByteArray.toList_eq]
theorem xB(a:List UInt8):(⟨a.toArray⟩:ByteArray).size=a.length:=by show a.toArray.size=a.length;simp
theorem Sr(a b:List UInt8):(⟨a.toArray⟩:ByteArray)++(⟨b.toArray⟩:ByteArray)=⟨(a++b).toArray⟩:=by apply ByteArray.ext;simp
theorem Oi{op:BinOp}{k e:IntKind}{a b:Int}{c:V->Option R}(h:Yc op k e a b c=some r):∃v,I3 op (.int k a) (.int e b) (λu=>AV.v u=a8 v)/\c v=some r:=by
 cases op<;>simp only[Yc]at h;case shl=>obtain⟨h1,h2⟩:=bF h;exact⟨_,⟨by grind,rfl⟩,h2⟩
 case shr=>obtain⟨h1,h2⟩:=bF h;exact⟨_,⟨by grind,rfl⟩,h2⟩
 case quo=>obtain⟨h1,h2⟩:=aY h;obtain⟨f,d⟩:=bF h2;exact⟨_,⟨by grind,by grind,rfl⟩,d⟩
 case rem=>obtain⟨h1,h2⟩:=aY h;obtain⟨f,d⟩:=bF h2;exact⟨_,⟨by grind,by grind,rfl⟩,d⟩
 all_goals (obtain⟨h1,h2⟩:=aY h;exact⟨_,⟨by grind,rfl⟩,h2⟩)
theorem Oj{op:BinOp}{a b:List UInt8}{c:V->Option R}(h:Yd op a b c=some r):∃v,I3 op (.string ⟨a.toArray⟩) (.string ⟨b.toArray⟩) (λu=>AV.v u=a8 v)/\c v=some r:=by
 cases op<;>simp only[Yd]at h;case add=>obtain⟨h1,h2⟩:=bF h;refine⟨_,⟨by rw[xB,xB];grind,?_⟩,h2⟩;rw[Sr];rfl
 all_goals first
  |(cases h;done)
  |exact⟨_,by simp only[I3,Hv];rfl,h⟩
theorem WC{op:BinOp}{x y:X}(c:x.wf=true/\y.wf=true)(h:aX O d (.bin op x y) s κ kp=some r):Pu P s (.bin op x.er y.er) d κ r:=by
 simp only[aX]at h;split at h;.rename_i k a g b e f;obtain⟨v,h1,h2⟩:=Oi h;exact⟨v,⟨_,aH c.1 e,_,aH c.2 f,_,rfl,_,rfl,h1⟩,h2⟩
 .rename_i a b e f;obtain⟨v,h1,h2⟩:=Oj h;exact⟨v,⟨_,aH c.1 e,_,aH c.2 f,_,rfl,_,rfl,h1⟩,h2⟩
 grind
theorem RG{c a b:X}(f:c.wf=true/\a.wf=true/\b.wf=true)(h:aX O d (.pick c a b) s κ kp=some r):Pu P s (.pick c.er a.er b.er) d κ r:=by
 simp only[aX]at h;split at h
 .rename_i t x y u z hc g j;split at h
  .rename_i l k;obtain⟨n,rfl⟩:=bR k;refine⟨_,⟨_,aH f.1 hc,_,rfl,t,rfl,λht=>⟨_,aH f.2.1 g,?_⟩,λht=>⟨_,aH f.2.2 j,?_⟩⟩,h⟩;.grind
   .subst ht;show AV.b (.pv (aN _ z))=AV.b (.pv (aN _ l));grind
  grind
 .rename_i t x u z hc g j;obtain⟨ht,h⟩:t=false/\κ (s.aF d (.d u z))=some r:=by grind
  exact⟨_,⟨_,aH f.1 hc,_,rfl,t,rfl,λe=>(by grind),λ_=>⟨_,aH f.2.2 j,rfl⟩⟩,h⟩
 .rename_i t u z x hc g j;obtain⟨ht,h⟩:t=true/\κ (s.aF d (.d u z))=some r:=by grind
  exact⟨_,⟨_,aH f.1 hc,_,rfl,t,rfl,λ_=>⟨_,aH f.2.1 g,rfl⟩,λe=>(by grind)⟩,h⟩
 grind
theorem WE{neg:Bool}{x y:X}(c:x.wf=true/\y.wf=true)(h:aX O d (.Gf neg x y) s κ kp=some r):Pu P s (.Gf neg x.er y.er) d κ r:=by
 simp only[aX]at h;split at h;.rename_i a b e f;exact⟨_,⟨_,aH c.1 e,_,aH c.2 f,_,rfl,_,rfl,_,rfl,_,rfl,rfl⟩,h⟩
 grind
theorem ZQ{op:UnOp}{x:X}(c:x.wf=true)(h:aX O d (.un op x) s κ kp=some r):Pu P s (.un op x.er) d κ r:=by
 simp only[aX]at h;split at h;.rename_i a b;exact⟨_,⟨_,aH c b,_,rfl,show _=_ from rfl⟩,h⟩
 .rename_i k a b;exact⟨_,⟨_,aH c b,_,rfl,show _=_ from rfl⟩,h⟩
 grind
theorem WJ{str:Bool}{x:X}(c:x.wf=true)(h:aX O d (.len str x) s κ kp=some r):Pu P s (.len str x.er) d κ r:=by
 simp only[aX]at h;split at h;.rename_i a b;refine⟨_,⟨_,aH c b,_,rfl,_,rfl,?_⟩,h⟩;show AV.v (.int .i64 ((⟨a.toArray⟩:ByteArray).size:Nat))=_;rw[xB];rfl
 .rename_i t a b;refine⟨_,⟨_,aH c b,.inr (.inl ⟨_,_,rfl,?_⟩)⟩,h⟩;show AV.v (.int .i64 ((a.map _).length:Nat))=_;rw[G_];rfl
 .rename_i t b;exact⟨_,⟨_,aH c b,.inl ⟨rfl,rfl⟩⟩,h⟩
 .rename_i id b;split at h;.rename_i e t xs f;refine⟨_,⟨_,aH c b,.inr (.inr (.inl ⟨id,e,_,_,rfl,by rw[bT,f];rfl,?_⟩))⟩,h⟩;show AV.v (.int .i64 ((xs.map _).length:Nat))=_;rw[G_];rfl
  .rename_i e k t xs hole f;refine⟨_,⟨_,aH c b,.inr (.inr (.inr (.inr ⟨id,e,_,k,_,_,rfl,by rw[bT,f];rfl,?_⟩)))⟩,h⟩;show AV.v (.int .i64 ((xs.map _).length:Nat))=_;rw[G_];rfl
  grind
 grind
theorem RA{k e:TypeId}{x:X}(j:x.wf=true)(h:aX O d (.ol k e x) s κ kp=some r):Pu P s (.ol k e x.er) d κ r:=by
 simp only[aX]at h;split at h
 .rename_i id l;split at h;.rename_i p n a b kvs g;obtain⟨h1,h2⟩:=aY h;rw[f_]at h1;have c:=h_ h1.1;have f:=h_ h1.2;subst c;subst f;refine⟨_,⟨_,aH j l,id,_,rfl,by rw[bT,g];rfl,?_⟩,h2⟩;show AV.v (.int .i64 ((kvs.map _).length:Nat))=_;rw[G_];rfl
  grind
 grind
theorem fB{o:Option V}{f:Int->Option R}(h:intOf o f=some r):∃k n,o=some (.d (.int k) n)/\f n=some r:=by unfold intOf at h;grind
theorem Ry{x i:X}(b:x.wf=true/\i.wf=true)(h:aX O d (.ql x i) s κ kp=some r):Pu P s (.ql x.er i.er) d κ r:=by
 simp only[aX]at h;split at h;.rename_i a j;obtain⟨k,n,f,h⟩:=fB h;obtain⟨c,hc,h⟩:=cW h;obtain⟨e,h1⟩:=Cs hc;have g:=(c_.1 h1).1;refine⟨_,⟨_,aH b.1 j,_,aH b.2 f,_,rfl,_,rfl,_,_,rfl,_,rfl,e,by rw[xB];omega,?_⟩,h⟩;rw[Hv];simp only[P_,h1,D_];rfl
 grind
theorem Rt{k:IntKind}{x:X}(a:x.wf=true)(h:aX O d (.pY k x) s κ kp=some r):Pu P s (.pY k x.er) d κ r:=by
 simp only[aX]at h;split at h;.rename_i c n b;exact⟨_,⟨_,aH a b,_,rfl,_,_,rfl,rfl⟩,h⟩
 grind
theorem WH{x:X}{i:Nat}(a:x.wf=true)(h:aX O d (.ext x i) s κ kp=some r):Pu P s (.ext x.er i) d κ r:=by
 simp only[aX]at h;split at h
 .rename_i vs b;split at h;.rename_i v c;obtain⟨h1,h2⟩:=aY h;refine⟨v,⟨_,aH a b,.inr ⟨_,rfl,aU v,by grind,?_⟩⟩,h2⟩;cases v<;>first|rfl|grind
  grind
 grind
end
section
variable {R:Type} {P:Program} {O:bi} {d:Option Nat} {s:S} {κ kp:S->Option R} {r:R}
theorem Kq{p:PV}{off:Nat}{u:Ty}{y:u.den}(h2:((p.cells).drop off).take u.sz=aO u y)(h1:off+u.sz<=p.cells.length):p.sub off u.sz u.ag=aN u y:=by
 cases b:u.ag
 .have hs:=fL b;rw[hs,eZ y b]at h2;have a:off<p.cells.length:=by omega
  rw[F_ a]at h2;simp only[aa_,az_,List.cons.injEq,and_true]at h2;simp only[PV.sub,P_,k_ a,D_];omega
 .simp only[PV.sub];rw[eY y b,<-h2]
theorem yI(l:List PV):(l.map BV.pv).mapM BV.bG=some l:=by induction l with|nil=>rfl|cons x l a=>rw[l_,o_,a];rfl
theorem xM{a:Type}(l m:List a)(k n:Nat)(h:l.length=n):(l++m).drop (k+n)=m.drop k:=by rw[<-h,Nat.add_comm,am_];simp
def UL(t:Ty)(n:Nat)(m:Int)(c:t.den)(cs:List PV):Prop:=∃k:Nat,m=(k:Int)/\k<n/\(cs.drop (k*t.sz)).take t.sz=aO t c/\k*t.sz+t.sz<=cs.length
theorem Fl{t:Ty}{n:Nat}{m:Int}{c x:t.den}{cs:List PV}{o:Option t.den}(h:(bif decide (m=0)then some x else o)=some c)(hr:o=some c->UL t n (m - 1) c cs):UL t (n+1) m c (aO t x++cs):=by
 by_cases a:m=0
 .subst a;simp only[decide_true,cond_true,b_]at h;subst h;refine⟨0,rfl,by simp,?_,?_⟩;.rw[Nat.zero_mul,I_,List.take_append_of_le_length (by rw[aR];simp),w_ (by rw[aR];simp)]
  .simp[aR]
 .simp only[a,decide_false,cond_false]at h;obtain⟨k,d,b,h1,h2⟩:=hr h;refine⟨k+1,by omega,by omega,?_,?_⟩;.rw[ar_,aG_,xM _ _ _ _ (aR t x),h1]
  .rw[H_,aR t x,ar_];omega
theorem If(t:Ty):∀(n:Nat) (v:V) (m:Int) (c:t.den) (cs:List PV),rowAt t n v m=some c->((dq v).map aU).mapM BV.bG=some cs->UL t n m c cs:=by
 intro n;induction n with
 |zero=>intro v m c cs h;simp[rowAt]at h|succ n g=>
  intro v m c cs h hcs;cases v with
  |d u x=>
   cases u with
   |pair a b=>
    simp only[rowAt]at h;have hc:cs=aO a x.1++aO b x.2:=by rw[show dq (V.d (.pair a b) x)=gq (.pair a b) x from rfl,(dY (.pair a b) x).1,yI]at hcs;cases hcs;rfl
    split at h
    .rename_i y p;obtain⟨r,rfl⟩:=bR p;have:aO a x.1=aO a y:=by grind
     rw[hc,this];exact Fl h λh=>g (.d b x.2) (m - 1) c _ h (by rw[show dq (V.d b x.2)=gq b x.2 from rfl,(dY b x.2).1,yI])
    grind
   |_=>simp[rowAt]at h
  |agg vs=>
   simp only[rowAt]at h;split at h;.rename_i x l k;obtain⟨j,rfl,f⟩:=ui t vs x l k;rw[show dq (V.agg (j++l))=j++l from rfl,q_,an_,f]at hcs;simp only[s_,aq_]at hcs;cases hl:(l.map aU).mapM BV.bG with|none=>grind|some e=>rw[hl]at hcs;simp only[aq_,B_,b_]at hcs;rw[<-hcs];exact Fl h λh=>g (.agg l) (m - 1) c e h hl
   grind
  |_=>simp[rowAt]at h
theorem mapM_len{a β:Type}{f:a->Option β}:∀{l:List a} {m:List β},l.mapM f=some m->m.length=l.length
 |[],m,h=>by grind
 |x::l,m,h=>by rw[o_]at h;cases b:f x with|none=>grind|some y=>cases hl:l.mapM f with|none=>grind|some m'=>rw[b,hl]at h;cases h;simp[mapM_len hl]
theorem Ps(t:Ty):∀(n:Nat) (vs:List V) (m:Int) (c:t.den),rowAt t n (.agg vs) m=some c->∃j:Nat,m=(j:Int)/\j<n/\(((vs.drop (j*t.sz)).take t.sz).map aU).mapM BV.bG=some (aO t c)/\j*t.sz+t.sz<=vs.length:=by
 intro n;induction n with
 |zero=>intro vs m c h;simp[rowAt]at h|succ n g=>
  intro vs m c h;simp only[rowAt]at h;split at h
  .rename_i x l f;obtain⟨k,rfl,b⟩:=ui t vs x l f;have a:k.length=t.sz:=by have:=mapM_len b;rw[aR,G_]at this;omega
   by_cases d:m=0;.grind
   .simp only[d,decide_false,cond_false]at h;obtain⟨j,p,e,h1,h2⟩:=g l (m - 1) c h;refine⟨j+1,by omega,by omega,?_,?_⟩;.rw[ar_,aG_,xM _ _ _ _ a];omega
    grind
  grind
theorem AZ(t:Ty)(cs:List V)(h:t.ag=false->cs≠[]):a8 (whole t cs)=mJ t.ag (cs.map aU):=by
 unfold whole;cases ht:t.ag;.cases cs with|nil=>grind|cons v cs=>cases v<;>rfl
 .rfl
theorem uq:∀(vs:List V),vs.all V.Qx=true->∃cs,(vs.map aU).mapM BV.bG=some cs
 |[],_=>⟨[],rfl⟩
 |v::vs,h=>by
  simp only[aA_,f_]at h;obtain⟨cs,hcs⟩:=uq vs h.2;have:∃p,(aU v).bG=some p:=by cases v<;>first|exact⟨_,rfl⟩|(have:=h.1;simp[V.Qx]at this)
  obtain⟨p,hp⟩:=this;exact⟨p::cs,by grind⟩
theorem zac{v:V}{cs:List PV}(h:((dq v).map aU).mapM BV.bG=some cs)(c:(∃a b x,v= .d (.pair a b) x)\/∃vs,v= .agg vs):∃p,(a8 v).bG=some p/\p.cells=cs/\p.isAgg=true:=by
 rcases c with⟨a,b,x,rfl⟩|⟨vs,rfl⟩;.rw[show dq (V.d (.pair a b) x)=gq (.pair a b) x from rfl,(dY (.pair a b) x).1,yI]at h;cases h;exact⟨_,rfl,rfl,rfl⟩
 .refine⟨.agg cs,?_,rfl,rfl⟩;show((vs.map aU).mapM BV.bG).map PV.agg=_;rw[show dq (V.agg vs)=vs from rfl]at h;grind
theorem Pr{t:Ty}{n:Nat}{v:V}{m:Int}{c:t.den}(h:rowAt t n v m=some c):(∃a b x,v= .d (.pair a b) x)\/∃vs,v= .agg vs:=by
 cases n with
 |zero=>simp[rowAt]at h|succ n=>
  cases v with
  |d u x=>cases u with
   |pair a b=>grind
   |_=>simp[rowAt]at h
  |agg vs=>simp|_=>simp[rowAt]at h
theorem Rz{n:Nat}{t:Ty}{x i:X}(z:x.wf=true/\i.wf=true)(h:aX O d (.pB n t x i) s κ kp=some r):Pu P s (.pB n t.sz t.ag x.er i.er) d κ r:=by
 simp only[aX]at h;split at h
 .rename_i v B;obtain⟨h1,h⟩:=aY h;rw[f_]at h1;obtain⟨k,m,A,h⟩:=fB h;obtain⟨c,hc,e⟩:=cW h;have l:=Pr hc;obtain⟨cs,hcs⟩:∃cs,((dq v).map aU).mapM BV.bG=some cs:=by
   rcases l with⟨a,b,y,rfl⟩|⟨vs,rfl⟩;.exact⟨_,by rw[show dq (V.d (.pair a b) y)=gq (.pair a b) y from rfl,(dY (.pair a b) y).1,yI]⟩
   .exact uq vs h1.2
  obtain⟨p,hp,g,f⟩:=zac hcs l;obtain⟨j,rfl,E,C,D⟩:=If t n v m c cs hc hcs;have w:cs.length=n*t.sz:=by have:=h_ h1.1;have h2:=congrArg aF_ g;have F:cs.length=((dq v).map aU).length:=mapM_len hcs;grind
  refine⟨_,⟨_,aH z.1 B,_,aH z.2 A,_,rfl,_,_,rfl,p,hp,by simp,by omega,fL,by grind,f,?_⟩,e⟩;show AV.p (p.sub ((j:Int).toNat*t.sz) t.sz t.ag)=AV.p (aN t c);rw[Kq (u:=t) (y:=c)];all_goals grind
 grind
theorem Rv{t:Ty}{x i:X}(b:x.wf=true/\i.wf=true)(h:aX O d (.qj t x i) s κ kp=some r):Pu P s (.qj t.sz x.er i.er) d κ r:=by
 simp only[aX]at h;split at h
 .rename_i id n;split at h
  .rename_i e u xs v;obtain⟨h1,f⟩:=aY h;have w:u=t:=by grind
   obtain⟨k,m,j,g⟩:=fB f;obtain⟨c,hc,p⟩:=cW g;clear h h1 f g;subst w;obtain⟨h2,a⟩:=Cs hc;have l:=(c_.1 a).1;refine⟨_,⟨_,aH b.1 n,_,aH b.2 j,_,rfl,_,_,rfl,.inr ⟨id,rfl,_,by rw[bT,v];rfl,.inl ⟨e,_,rfl,h2,?_,show _=_ from rfl⟩⟩⟩,p⟩;grind
  .rename_i e kk u xs hole v;obtain⟨h1,f⟩:=aY h;have w:u=t:=by grind
   obtain⟨k,m,j,g⟩:=fB f;obtain⟨c,hc,p⟩:=cW g;clear h h1 f g;subst w;obtain⟨h2,a⟩:=Cs hc;have l:=(c_.1 a).1;refine⟨_,⟨_,aH b.1 n,_,aH b.2 j,_,rfl,_,_,rfl,.inr ⟨id,rfl,_,by rw[bT,v];rfl,.inr ⟨e,kk,_,_,rfl,h2,?_,show _=_ from rfl⟩⟩⟩,p⟩;grind
  grind
 .rename_i u xs n;split at h
  .rename_i ys z;obtain⟨y,A⟩:=bR z;obtain⟨k,m,j,h⟩:=fB h;obtain⟨c,hc,h⟩:=cW h;obtain⟨h2,a⟩:=Cs hc;have l:=(c_.1 a).1;refine⟨_,⟨_,aH b.1 n,_,aH b.2 j,_,rfl,_,_,rfl,.inl ⟨ys.map (aN t),?_,h2,?_,?_⟩⟩,h⟩;.show AV.p (aN _ _)=_;rw[<-y];rfl
   .grind
   .show AV.p (.Bw ((ys.map (aN t)).getD m.toNat .any))=_;simp only[P_,ah_,a,M_,D_];rfl
  grind
 grind
theorem Rw{n:Nat}{t:Ty}{x i:X}(b:x.wf=true/\i.wf=true)(h:aX O d (.qk n t x i) s κ kp=some r):Pu P s (.qk n t.sz t.ag x.er i.er) d κ r:=by
 simp only[aX]at h;split at h;.rename_i id off k m f;obtain⟨h1,h⟩:=bF h;simp only[f_,decide_eq_true_eq]at h1;exact⟨_,⟨_,aH b.1 f,_,aH (s:=s) b.2 rfl,_,rfl,k,_,rfl,h1.1,h1.2,.inl ⟨id,off,rfl,rfl⟩⟩,h⟩
 .rename_i id off f v;obtain⟨k,m,g,h⟩:=fB h;obtain⟨h1,h⟩:=bF h;simp only[f_,decide_eq_true_eq]at h1;exact⟨_,⟨_,aH b.1 f,_,aH b.2 g,_,rfl,k,_,rfl,h1.1,h1.2,.inl ⟨id,off,rfl,rfl⟩⟩,h⟩
 .rename_i u y f;obtain⟨h1,h⟩:=aY h;simp only[f_]at h1;have hsz:=h_ h1.1;obtain⟨k,m,g,h⟩:=fB h;obtain⟨c,hc,e⟩:=cW h;have hcs:((dq (.d u y)).map aU).mapM BV.bG=some (aO u y):=by rw[show dq (V.d u y)=gq u y from rfl,(dY u y).1,yI]
  obtain⟨j,rfl,w,l,p⟩:=If t n _ m c _ hc hcs;have a:(aN u y).sub ((j:Int).toNat*t.sz) t.sz t.ag=aN t c:=Kq l p;refine⟨_,⟨_,aH b.1 f,_,aH b.2 g,_,rfl,k,_,rfl,by simp,by omega,.inr ⟨aN u y,rfl,?_,fL,?_,?_⟩⟩,e⟩;.show(aO u y).length=_;rw[aR,hsz]
  .rw[a,lA]
  .rw[a];rfl
 grind
theorem Ru{off:Nat}{t:Ty}{x:X}(b:x.wf=true)(h:aX O d (.oj off t x) s κ kp=some r):Pu P s (.oj off t.sz t.ag x.er) d κ r:=by
 simp only[aX]at h;split at h
 .rename_i u y a;split at h
  .rename_i z e;obtain⟨h1,h2,c⟩:=yB e;refine⟨_,⟨_,aH b a,.inl ⟨aN u y,rfl,h1,h2,?_,?_⟩⟩,h⟩;.rw[c,lA]
   .rw[c];rfl
  grind
 .rename_i id o a;exact⟨_,⟨_,aH b a,.inr (.inl ⟨id,o,rfl,rfl⟩)⟩,h⟩
 .rename_i id i o a;exact⟨_,⟨_,aH b a,.inr (.inr ⟨id,i,o,rfl,rfl⟩)⟩,h⟩
 grind
theorem AD{a:Type}{l:List a}{n off:Nat}(h:off+n<=l.length)(hn:n=1):(l.drop off).take n≠[]:=by intro e;have:=congrArg aF_ e;grind
theorem WI{off:Nat}{t:Ty}{x:X}(c:x.wf=true)(h:aX O d (.HJ off t x) s κ kp=some r):Pu P s (.HJ off t.sz t.ag x.er) d κ r:=by
 simp only[aX]at h;split at h
 .rename_i u y b;obtain⟨f,h⟩:=aY h;split at h
  .rename_i z g;obtain⟨h1,h2,e⟩:=yB g;refine⟨_,⟨_,aH c b,.inl ⟨aN u y,rfl,?_,h1,h2,?_⟩⟩,h⟩;.rw[lA,f]
   .rw[e];rfl
  grind
 .rename_i vs b;obtain⟨h1,h⟩:=aY h;have a:=y_ h1;refine⟨_,⟨_,aH c b,.inr ⟨_,rfl,by grind,fL,?_⟩⟩,h⟩;rw[AZ t _ λht=>AD a (fL ht),ad_,ac_]
 grind
theorem RB{t:Ty}{x:X}(B:x.wf=true)(h:aX O d (.load t x) s κ kp=some r):Pu P s (.load t.sz t.ag x.er) d κ r:=by
 simp only[aX,loadT]at h;split at h
 .rename_i u y f;split at h;.rename_i z C;obtain⟨Y,rfl⟩:=bR C;refine⟨_,⟨_,aH B f,?_⟩,h⟩;show(aN u y).isAgg=_/\_/\AV.p (aN u y)=AV.p (aN u z);exact⟨lA u y,aR u y,by grind⟩
  grind
 .rename_i id off f;split at h;.rename_i tid cs g;obtain⟨h1,h⟩:=aY h;have E:=y_ h1;refine⟨_,⟨_,aH B f,?_⟩,h⟩;show aS _ _;refine⟨_,by rw[bT,g];rfl,tid,_,rfl,by grind,fL,.inl ?_⟩;rw[AZ t _ λht=>AD E (fL ht),ad_,ac_]
  grind
 .rename_i id off n u m f;split at h
  .rename_i tid cs g;obtain⟨h1,h⟩:=aY h;simp only[f_,decide_eq_true_eq]at h1;obtain⟨h1,rfl⟩:=h1;have E:=y_ h1;obtain⟨c,hc,D⟩:=cW h;obtain⟨j,rfl,hj,a,_⟩:=Ps u n _ m c hc;have el:j*u.sz+u.sz<=n*u.sz:=by grind
   have Q:((((cs.drop off).take (n*u.sz)).drop (j*u.sz)).take u.sz)=(cs.drop (off+j*u.sz)).take u.sz:=by rw[List.drop_take,List.take_take,List.drop_drop];grind
   rw[Q]at a;generalize R:(cs.drop (off+j*u.sz)).take u.sz=l0 at a;refine⟨_,⟨_,aH B f,?_⟩,D⟩;show aS _ _;refine⟨_,by rw[bT,g];rfl,tid,_,rfl,?_,fL,.inr ⟨aN u c,?_,rfl⟩⟩;.grind
   .show(mJ u.ag (((cs.map aU).drop (off+(j:Int).toNat*u.sz)).take u.sz)).bG=_;rw[<-ac_,<-ad_,Int.toNat_natCast,R];cases hu:u.ag
    .rw[eZ c hu]at a
     match l0,a with
     |[v],a=>simp only[l_,N_,o_,ab_]at a;cases hv:(aU v).bG with|none=>grind|some p=>rw[hv]at a;cases a;exact hv
     |[],a=>grind|v::w::l,a=>have:=mapM_len a;grind
    .show(((l0.map aU).mapM BV.bG).map PV.agg)=_;rw[a,eY c hu];rfl
  grind
 .rename_i id i off f;split at h
  .rename_i e u xs g;obtain⟨T,h⟩:=aY h;obtain⟨y,I,h⟩:=cW h;split at h
   .rename_i z C;obtain⟨h1,h2,A⟩:=yB C;have F:=(c_.1 I).1;have b:(xs.map (aN u)).getD i .any=aN u y:=by grind
    refine⟨_,⟨_,aH B f,?_⟩,h⟩;show aS _ _;refine⟨_,by rw[bT,g];rfl,.inl ⟨e,u.sz,_,rfl,by grind,by have:=h1;rw[show(aN u y).cells.length=u.sz from aR u y]at this;omega,fL,?_⟩⟩;by_cases hs:t.sz=u.sz
    .obtain⟨g1,g2⟩:=nG u off t y z C;have H:off=0:=by omega
     subst H;have M:a_ t.sz u.sz=true:=by rw[hs];simp
     rw[M]at T;have U:u=t:=by grind
     subst U;have gc:aN u z=aN u y:=by rw[<-A];refine Kq ?_ (by omega);rw[I_,w_ (by rw[aR];simp)]
     refine .inl ⟨rfl,rfl,?_,?_⟩;.rw[b,lA]
     .rw[b];show AV.p (aN u y)=AV.p (aN u z);grind
    .refine .inr ⟨hs,?_⟩;rw[b,A];rfl
   grind
  .rename_i e k u xs hole g;cases N:k.mh off t.sz
   .rw[N]at h;simp only[cond_false]at h;split at h
    .rename_i hi hj v;obtain⟨h1,J⟩:=aY h;simp only[f_,R_]at h1;obtain⟨⟨⟨h1,h2⟩,h5⟩,A⟩:=h1;obtain⟨y,I,L⟩:=cW J;obtain⟨h4,hb⟩:=bF L;have Y:=h_ h1;have e2:=h_ h4;have h6:=y_ h5;clear h h1 h4 h5;subst Y;subst e2;have F:=(c_.1 I).1;split at A;.refine⟨_,⟨_,aH B f,?_⟩,hb⟩;show aS _ _;refine⟨_,by rw[bT,g];rfl,.inr ⟨e,u.sz,k,_,_,rfl,by grind,?_,fL,.inr ⟨_,rfl,fL h2,h2,rfl⟩⟩⟩;rw[fL h2];omega
     grind
    grind
   .rw[N]at h;simp only[cond_true]at h;obtain⟨y,I,h⟩:=cW h;split at h
    .rename_i z C;obtain⟨h1,h2,A⟩:=yB C;have F:=(c_.1 I).1;have b:(xs.map (aN u)).getD i .any=aN u y:=by grind
     refine⟨_,⟨_,aH B f,?_⟩,h⟩;show aS _ _;refine⟨_,by rw[bT,g];rfl,.inr ⟨e,u.sz,k,_,_,rfl,by grind,by have:=h1;rw[show(aN u y).cells.length=u.sz from aR u y]at this;omega,fL,.inl ⟨N,?_⟩⟩⟩;rw[b,A];rfl
    grind
  grind
 grind
end
end Go.Ev
