import Derived.Test.YtdgiglmmpbndmaaGreatDoorNL1
import Derived.Recover
import Derived.Tactics
import Derived.Tactics2
import Derived.Laws.Pointers
set_option linter.all false
open Array renaming replicate->v_,getElem?_eq_getElem->z_,mapM_eq_mapM_toList->Q_,getElem?_append->W_,getElem?_toList->X_,all_eq_true'->af_,getD->aI_
open Bool renaming and_eq_true->f_,rec->E_,not_eq_true'->R_,false_eq_true->ag_,or_eq_true->as_
open Classical renaming byContradiction->A_,epsilon_spec->aB_,epsilon->aJ_
open List renaming getElem?_eq_some_iff->c_,mem_flatMap->d_,getElem?_eq_getElem->k_,map_cons->l_,getElem?_set_ne->m_,getElem?_set_self->n_,mapM_cons->o_,all_eq_true->p_,map_append->q_,mem_append->r_,getElem?_append_left->t_,mem_singleton->u_,take_of_length_le->w_,mem_map->C_,drop_eq_getElem_cons->F_,length_map->G_,length_append->H_,drop_zero->I_,mem_range->J_,replicate->K_,range->L_,map_nil->N_,getD->P_,flatMap_cons->S_,mem_cons->T_,length_cons->U_,mem_of_getElem?->Y_,take_succ_cons->aa_,mapM_nil->ab_,map_drop->ac_,map_take->ad_,set_comm->ae_,getElem?_map->ah_,nodup_append->ai_,any_eq_true->ak_,cons_append->al_,drop_append->am_,mapM_append->an_,not_mem_nil->ao_,length_nil->au_,mem_filter->av_,nil_append->aw_,nodup_cons->ax_,take_zero->az_,all_cons->aA_,map_map->aC_,length->aF_
open Nat renaming beq->a_,eq_of_beq_eq_true->h_,ble->j_,le_of_ble_eq_true->y_,lor->O_,land->V_,le_refl->Z_,lt_or_ge->aj_,zero_testBit->ap_,add_mul->ar_,testBit_and->ay_,and_comm->aD_,one_mul->aG_
open Option renaming bind->e_,bind_eq_some_iff->g_,map_eq_some_iff->i_,bind_eq_bind->s_,rec->x_,pure_def->B_,getD_some->D_,map_some->M_,bind_some->aq_
open Option.some renaming injEq->b_
open Prod renaming mk->aE_
open Sum renaming elim->aH_
namespace Go.Av
open Go Go.RowKit
theorem ET(v:Value):(bG v).ids=[]:=by unfold bG;split<;>rfl
theorem AF(v:Value):(fV v).ids=[]:=by unfold fV;grind[AV.ids,List.flatMap_eq_nil_iff,ET]
structure uZ(rd:List Nat)(a b:St):Prop where
 fr:∀k∈rd,∀y,look b.fr k=some y->look a.fr k=some y
 hp:∀k∈rd,∀y,look b.fr k=some y->∀i∈y.ids,∀ob,b.hp[i]? =some ob->a.hp[i]? =some ob
def L4(y:AV)(h h':List aL):Prop:=∀i∈y.ids,∀ob,h[i]? =some ob->h'[i]? =some ob
section
variable {P:Program} {rd:List Nat} {a b:St}
theorem uZ.get(h:uZ rd a b){x:SX}(I:∀t∈x.rd,t∈rd){y:AV}(E:b.get x=some y):a.get x=some y/\L4 y b.hp a.hp:=by cases x with|tm k=>exact⟨h.fr k (I k (by simp[SX.rd])) y E,h.hp k (I k (by simp[SX.rd])) y E⟩|c v=>simp only[St.get,b_]at E⊢;subst E;exact⟨rfl,λi H=>by grind[AF]⟩|g n=>simp only[St.get,b_]at E⊢;subst E;exact⟨rfl,λi H=>by cases H⟩|f n=>simp only[St.get,b_]at E⊢;subst E;exact⟨rfl,λi H=>by cases H⟩
theorem uZ.bind(h:uZ rd a b){x:SX}(N:∀t∈x.rd,t∈rd){K E:AV->Prop}(hs:aR (b.get x) K)(J:∀y,L4 y b.hp a.hp->K y->E y):aR (a.get x) E:=by obtain⟨y,h1,h2⟩:=hs;obtain⟨H,I⟩:=h.get N h1;exact⟨y,H,J y I h2⟩
theorem uZ.qd(h:uZ rd a b){x:Option SX}(N:∀t∈(x.map SX.rd).getD [],t∈rd){d:Nat}{K E:Nat->Prop}(hs:qd b x d K)(H:∀n,K n->E n):qd a x d E:=by cases x with|none=>exact H _ hs|some x=>exact h.bind (by grind) hs λy _ J=>bq J λv I=>bQ I λ_ n hn=>⟨hn.1,H _ hn.2⟩
theorem nU{b β:Type}{f g:b->Option β}:∀{l:List b} {m:List β},(∀x∈l,∀y,f x=some y->g x=some y)->l.mapM f=some m->l.mapM g=some m
 |[],m,_,a=>a
 |x::l,m,h,a=>by simp only[o_,s_,B_,g_,b_]at a⊢;obtain⟨z,h1,m',h2,rfl⟩:=a;exact⟨z,h x (by simp) _ h1,m',nU (λy c=>h y (by grind)) h2,rfl⟩
theorem uZ.bindM(h:uZ rd a b){β:Type}{l:List SX}(hl:∀x∈l,∀t∈x.rd,t∈rd){g g':AV->Option β}(hg:∀y z,L4 y b.hp a.hp->g y=some z->g' y=some z){K:List β->Prop}(hs:aR (l.mapM λx=>(b.get x).bind g) K):aR (l.mapM λx=>(a.get x).bind g') K:=by obtain⟨ys,h1,h2⟩:=hs;refine⟨ys,nU (λx H y I=>?_) h1,h2⟩;obtain⟨u,E,J⟩:=g_.1 I;obtain⟨N,U⟩:=h.get (hl x H) E;grind
theorem ni{h h':List aL}{sz:Nat}{y:AV}{K b:List PV->Prop}(c:L4 y h h')(hs:mC h sz y K)(a:∀L,K L->b L):mC h' sz y b:=by
 rcases hs with⟨rfl,hs⟩|⟨L,rfl,hs⟩|⟨id,e,L,rfl,d,hs⟩|⟨L,rfl,hs⟩;.exact .inl ⟨rfl,a _ hs⟩
 .exact .inr (.inl ⟨L,rfl,a _ hs⟩)
 .exact .inr (.inr (.inl ⟨id,e,L,rfl,c id (by simp[AV.ids,BV.ids]) _ d,a _ hs⟩))
 .exact .inr (.inr (.inr ⟨L,rfl,a _ hs⟩))
theorem W9{h h':List aL}{y:AV}{K c:Nat->Prop}(d:L4 y h h')(hs:isLen h y K)(a:∀L,K L->c L):isLen h' y c:=by
 rcases hs with⟨rfl,hs⟩|⟨sz,L,rfl,hs⟩|⟨id,e,sz,L,rfl,b,hs⟩|⟨sz,L,rfl,hs⟩|⟨id,e,sz,k,L,hole,rfl,b,hs⟩;.exact .inl ⟨rfl,a _ hs⟩
 .exact .inr (.inl ⟨sz,L,rfl,a _ hs⟩)
 .exact .inr (.inr (.inl ⟨id,e,sz,L,rfl,d id (by simp[AV.ids,BV.ids]) _ b,a _ hs⟩))
 .exact .inr (.inr (.inr (.inl ⟨sz,L,rfl,a _ hs⟩)))
 .exact .inr (.inr (.inr (.inr ⟨id,e,sz,k,L,hole,rfl,d id (by simp[AV.ids,BV.ids]) _ b,a _ hs⟩)))
theorem Nu{h h':List aL}{k e:TypeId}{y:AV}{K a:Nat->List (PV×PV)->Prop}(b:L4 y h h')(hs:isMap h k e y K)(c:∀i L,K i L->a i L):isMap h' k e y a:=by obtain⟨id,kvs,rfl,d,hs⟩:=hs;exact⟨id,kvs,rfl,b id (by simp[AV.ids,BV.ids]) _ d,c _ _ hs⟩
theorem Xm{h h':List aL}{sz:Nat}{ag:Bool}{y:AV}{K a:AV->Prop}(b:L4 y h h')(hs:BQ h sz ag y K)(c:∀L,K L->a L):BQ h' sz ag y a:=by
 have h2:=Fh hs c;revert h2;unfold BQ;split;.simp
 .rename_i id off;rintro⟨o,h1,h2⟩;exact⟨o,b id (by simp[AV.ids,BV.ids]) _ h1,h2⟩
 .rename_i id i off;rintro⟨o,h1,h2⟩;exact⟨o,b id (by simp[AV.ids,BV.ids]) _ h1,h2⟩
 simp
theorem RB{h h':List aL}{bor:Bool}{y:BV}{p:PV}(a:∀i∈y.ids,∀ob,h[i]? =some ob->h'[i]? =some ob)(hs:su h bor y=some p):su h' bor y=some p:=by
 cases y with
 |sl id=>
  simp only[su]at hs⊢;cases bor;.grind
  .simp only[Lg]at hs⊢;grind[BV.ids]
 |_=>exact hs
theorem Mq{h h':List aL}{bor:Bool}{y:AV}{p:PV}(d:L4 y h h')(hs:je h bor y=some p):je h' bor y=some p:=by
 cases y with
 |b x=>exact RB (λi a ob c=>d i a ob c) hs|agg xs=>simp only[je,i_]at hs⊢;obtain⟨g,h1,rfl⟩:=hs;refine⟨g,nU (λx e y f=>RB (λi a ob c=>d i (d_.2 ⟨x,e,a⟩) ob c) f) h1,rfl⟩
 |dC xs=>exact hs
theorem zh{s:fh}{K:AV->Prop}(h:uZ s.rd a b)(hs:jp P b s K):jp P a s K:=by
 cases s<;>simp only[fh.rd]at h<;>simp only[jp]at hs⊢;case mv=>exact h.bind (λ_ h=>h) hs λ_ _ h=>h
 case pick x y z=>exact h.bind (λt ht=>by grind) hs λ_ _ hs=>bq hs λ_ hs=>l7 hs λ_ hs=>⟨λe=>h.bind (λt ht=>by grind) (hs.1 e) λ_ _ h=>h,λe=>h.bind (λt ht=>by grind) (hs.2 e) λ_ _ h=>h⟩
 case bin=>exact h.bind (λt ht=>by grind) hs λ_ _ hs=>h.bind (λt ht=>by grind) hs λ_ _ h=>h
 case G8=>exact h.bind (λt ht=>by grind) hs λ_ _ hs=>h.bind (λt ht=>by grind) hs λ_ _ h=>h
 case un=>exact h.bind (λ_ h=>h) hs λ_ _ h=>h
 case len str x=>refine h.bind (λ_ h=>h) hs λ_ c hs=>?_;grind[W9]
 case oY=>exact h.bind (λ_ h=>h) hs λ_ c hs=>Nu c hs λ_ _ h=>h
 case qC=>exact h.bind (λt ht=>by grind) hs λ_ _ hs=>h.bind (λt ht=>by grind) hs λ_ _ h=>h
 case pX=>exact h.bind (λt ht=>by grind) hs λ_ _ hs=>h.bind (λt ht=>by grind) hs λ_ _ h=>h
 case qA=>
  exact h.bind (λt ht=>by grind) hs λx c hs=>h.bind (λt ht=>by grind) hs λ_ _ hs=>bq hs λ_ hs=>bQ hs λ_ _ hs=>by
   rcases hs with hs|⟨id,rfl,ob,w,hs⟩;.grind
   .exact .inr ⟨id,rfl,ob,c id (by simp[AV.ids,BV.ids]) _ w,hs⟩
 case qB=>exact h.bind (λt ht=>by grind) hs λ_ _ hs=>h.bind (λt ht=>by grind) hs λ_ _ h=>h
 case oW=>exact h.bind (λ_ h=>h) hs λ_ _ h=>h
 case Iy=>exact h.bind (λ_ h=>h) hs λ_ _ h=>h
 case load=>exact h.bind (λ_ h=>h) hs λ_ c hs=>Xm c hs λ_ h=>h
 case qm=>exact h.bind (λ_ h=>h) hs λ_ _ h=>h
 case Je sz x lo C mx=>refine h.bind (λt ht=>by grind) hs λ_ c hs=>hs.imp (λhs=>aC hs λq ⟨L,h2,p⟩=>⟨L,h2,h.qd (λt ht=>by grind) p λ_ r=>h.qd (λt ht=>by grind) r λ_ v=>h.qd (λt ht=>by grind) v λ_ h=>h⟩) ?_;rintro⟨id,rfl,ob,w,e,k,L,g,h2,p⟩;exact⟨id,rfl,ob,c id (by simp[AV.ids,BV.ids]) _ w,e,k,L,g,h2,h.qd (λt ht=>by grind) p λ_ r=>h.qd (λt ht=>by grind) r λ_ v=>h.qd (λt ht=>by grind) v λ_ h=>h⟩
 case qJ x lo C=>exact h.bind (λt ht=>by grind) hs λ_ _ hs=>bq hs λ_ hs=>nQ hs λ_ hs=>h.qd (λt ht=>by grind) hs λ_ hs=>h.qd (λt ht=>by grind) hs λ_ h=>h
 case ext=>exact h.bind (λ_ h=>h) hs λ_ _ h=>h
 case rR=>exact h.bind (λ_ h=>h) hs λ_ _ h=>h
 case build z n=>obtain⟨ys,h1,h2⟩:=hs;refine⟨ys,nU (λq d y l=>?_) h1,h2⟩;obtain⟨u,A,B⟩:=i_.1 l;rw[(h.get (λt ht=>d_.2 ⟨q,d,ht⟩) A).1,<-B];rfl
 case call=>exact h.bindM (λq d t ht=>d_.2 ⟨q,d,ht⟩) (λy z c j=>Mq c j) hs
 case im=>exact h.bind (λt ht=>by grind) hs λ_ _ ⟨f,cs,h1,h2,hs⟩=>⟨f,cs,h1,h2,h.bindM (λq d t ht=>r_.2 (.inr (d_.2 ⟨q,d,ht⟩))) (λy z c j=>Mq c j) hs⟩
 case qj=>exact h.bind (λ_ h=>h) hs λ_ _ h=>h
 case G3=>exact h.bind (λ_ h=>h) hs λ_ c hs=>ni c hs λ_ h=>h
 case bI own e sz len n=>
  cases own;.exact h.bindM (λq d t ht=>d_.2 ⟨q,d,ht⟩) (λy z _ j=>j) hs
  omega
 case eo e sz len n=>exact h.bindM (λq d t ht=>d_.2 ⟨q,d,ht⟩) (λy z _ j=>j) hs
 case rQ f n=>obtain⟨ys,h1,h2⟩:=hs;exact⟨ys,nU (λq d y l=>(h.get (λt ht=>d_.2 ⟨q,d,ht⟩) l).1) h1,h2⟩
 case lookup=>exact h.bind (λt ht=>by grind) hs λ_ c hs=>h.bind (λt ht=>by grind) hs λ_ _ hs=>Nu c hs λ_ _ h=>h
 case sL=>exact h.bind (λt ht=>by grind) hs λ_ _ hs=>h.bind (λt ht=>by grind) hs λ_ _ h=>h
 case mX mx k x n=>refine h.bind (λt ht=>by grind) hs λ_ _ hs=>bq hs λ_ hs=>bQ hs λ_ _ hs=>?_;obtain⟨ys,h1,h2⟩:=hs;exact⟨ys,nU (λq d y l=>(h.get (λt ht=>r_.2 (.inr (d_.2 ⟨q,d,ht⟩))) l).1) h1,h2⟩
 case iface=>exact h.bind (λ_ h=>h) hs λ_ _ h=>h
 case pM=>exact h.bind (λt ht=>by grind) hs λ_ _ hs=>h.bind (λt ht=>by grind) hs λ_ c hs=>ni c hs λ_ h=>h
theorem oq{st:St}{s:fh}{R c:aL->(Nat->BV)->Prop}(hs:Gd st s R)(d:∀o m,R o m->c o m):Gd st s c:=by
 cases s<;>simp only[Gd]at hs⊢;case alloc=>grind
 case box=>grind[aC]
 case bI own e sz len k=>cases own;all_goals grind[aC]
 case cO=>exact aC hs λ_ hs=>aC hs λ_ hs=>bq hs λ_ hs=>bq hs λ_ hs=>bQ hs λ_ _ hs=>bQ hs λ_ _ ⟨h1,h2,a,b,f,g,j⟩=>⟨h1,h2,a,b,f,g,aC j λ_ h=>⟨h.1,d _ _ h.2⟩⟩
 case append=>exact aC hs λ_ hs=>aC hs λ_ hs=>fB hs λ_ ⟨h1,h2,a,b⟩=>⟨h1,h2,a,d _ _ b⟩
 grind
theorem OE{s:fh}{R:aL->(Nat->BV)->Prop}(h:uZ s.rd a b)(hs:Gd b s R):Gd a s R:=by
 cases s<;>simp only[fh.rd]at h<;>simp only[Gd]at hs⊢;case alloc=>omega
 case box=>exact h.bind (λ_ h=>h) hs λ_ _ h=>h
 case bI own e sz len g=>
  cases own;.omega
  .exact h.bindM (λq d t ht=>d_.2 ⟨q,d,ht⟩) (λy z _ f=>f) hs
 case cO=>exact h.bind (λt ht=>by grind) hs λ_ _ hs=>h.bind (λt ht=>by grind) hs λ_ _ h=>h
 case append=>exact h.bind (λt ht=>by grind) hs λ_ _ hs=>h.bind (λt ht=>by grind) hs λ_ c hs=>ni c hs λ_ h=>h
 omega
theorem OU{o:be}{x:AV}(h:uZ o.rd a b)(hs:fM P o b x):fM P o a x:=by
 have hr:uZ o.op.rd a b:=⟨λk d=>h.fr k (by grind[be.rd]),λk d=>h.hp k (by grind[be.rd])⟩;unfold fM at hs⊢;split at hs;.grind[zh]
 .rename_i t want hg;obtain⟨g,h1,v,rfl,h2,c⟩:=hs;exact⟨_,h.fr t (by grind[be.rd]) _ h1,v,rfl,λe=>zh hr (h2 e),c⟩
theorem OR{hp:List aL}{sz:Nat}{a v:AV}{K r:List aL->Prop}(h:Bj hp sz a v K)(u:∀x,K x->r x):Bj hp sz a v r:=by
 unfold Bj at h⊢;split at h;.grind[aC]
 .refine aC h λ_ h=>h.imp (fun⟨e,s,xs,h1,h2,g⟩=>⟨e,s,xs,h1,h2,aC g λ_ ⟨j,c,d⟩=>⟨j,c,?_⟩⟩) fun⟨e,s,k,xs,w,h1,h2,g,j⟩=>⟨e,s,k,xs,w,h1,h2,g,j.imp (fun⟨c,d,l⟩=>⟨c,d,aC l λ_ ⟨n,p,f⟩=>⟨n,p,u _ f⟩⟩) fun⟨b,b',c,d,l,n,p⟩=>⟨b,b',c,d,l,n,u _ p⟩⟩;grind
 omega
theorem DX{st:St}{d:Option Nat}{bor:Bool}{B:List Nat}{f:FuncId}{ars:List AV}{os:List aL}{K e KP b:St->Prop}(h:cH.callK P st d bor B f ars os K KP)(k:∀x,K x->e x)(c:∀x,KP x->b x):cH.callK P st d bor B f ars os e b:=by
 obtain⟨h1,h2,g,j⟩:=h;refine⟨h1,h2,g,j.mono λo a=>?_⟩
 match o,a with|some (_,_),a=>exact⟨a.1,k _ a.2⟩|none,a=>exact c _ a
theorem oo{d:Option Nat}{op:fh}{st:St}{K s KP n:St->Prop}(h:cH P d op st K KP)(j:∀x,K x->s x)(r:∀x,KP x->n x):cH P d op st s n:=by
 have p:(jp P st op λa=>K (st.aE d a))->jp P st op λa=>s (st.aE d a):=λh=>zi h λ_ h=>j _ h;cases op<;>simp only[cH]at h⊢<;>try exact p h
 case store=>exact aC h λ_ h=>aC h λ_ h=>⟨h.1,OR h.2 λ_ h=>j _ h⟩
 case alloc=>exact j _ h
 case box=>exact aC h λ_ h=>⟨h.1,j _ h.2⟩
 case bI own e sz len v=>cases own;all_goals grind[aC]
 case cO=>exact aC h λ_ h=>aC h λ_ h=>bq h λ_ h=>bq h λ_ h=>bQ h λ_ _ h=>bQ h λ_ _ ⟨h1,h2,b,c,g,k,l⟩=>⟨h1,h2,b,c,g,k,aC l λ_ h=>⟨h.1,j _ h.2⟩⟩
 case append=>
  refine aC h λ_ h=>aC h λ_ h=>fB h λ_ ⟨h1,h2⟩=>⟨h1,?_⟩;rcases h2 with⟨id,b,c⟩|⟨b,c,g⟩;.exact .inl ⟨id,b,aC c λ_ ⟨xs,g,k,l⟩=>⟨xs,g,k,j _ l⟩⟩
  .exact .inr ⟨b,c,j _ g⟩
 case dE=>exact aC h λ_ h=>aC h λ_ h=>bq h λ_ h=>bq h λ_ h=>bQ h λ_ _ h=>bQ h λ_ _ ⟨h1,h2,b,c,g,k,l⟩=>⟨h1,h2,b,c,g,k,aC l λ_ h=>⟨h.1,h.2.1,j _ h.2.2⟩⟩
 case pN=>
  refine aC h λ_ h=>aC h λ_ h=>fB h λ_ ⟨h1,h2⟩=>⟨h1,?_⟩;rcases h2 with⟨id,b,c⟩|⟨b,c,g⟩;.exact .inl ⟨id,b,aC c λ_ ⟨xs,g,k,l⟩=>⟨xs,g,k,j _ l⟩⟩
  .exact .inr ⟨b,c,j _ g⟩
 case gP=>exact aC h λ_ h=>aC h λ_ h=>DX h j r
 case fw=>exact aC h λ_ ⟨f,caps,h1,h2,b⟩=>⟨f,caps,h1,h2,aC b λ_ h=>aC h λ_ h=>DX h j r⟩
 case ir=>exact j _ h
 case ic=>exact aC h λ_ h=>aC h λ_ h=>aC h λ_ h=>wM h λ_ _ h=>aC h λ_ h=>aC h λ_ ⟨h1,h2,b,c,g,k⟩=>⟨h1,h2,b,c,g,aC k λ_ ⟨l,u⟩=>⟨l,j _ u⟩⟩
 case copy=>exact aC h λ_ h=>aC h λ_ h=>fB h λ_ ⟨h1,id,h2,b,c⟩=>⟨h1,id,h2,b,aC c λ_ ⟨xs,g,k⟩=>⟨xs,g,j _ k⟩⟩
 all_goals grind[panic,aC,oq]
theorem rZ{o:be}{st:St}{K b KP a:St->Prop}(h:iL P o st K KP)(d:∀x,K x->b x)(c:∀x,KP x->a x):iL P o st b a:=by unfold iL at h⊢;split at h;all_goals grind[oo,aC,bq]
end
def rP{a:Type}{f:a->a}:∀{l:List a},(∀x∈l,f x=x)->l.map f=l
 |[],_=>rfl
 |x::l,h=>by rw[l_,h x (by simp),rP λy b=>h y (by grind)]
def BV.kids:BV->List Nat
 | .sl id=>[id]
 | .jb id _ _=>[id]
 |_=>[]
def AV.kids:AV->List Nat
 | .b x=>x.kids
 | .agg xs=>xs.flatMap BV.kids
 | .dC xs=>xs.flatMap BV.kids
def aL.kids:aL->List Nat
 | .box _ cs=>cs.flatMap BV.kids
 | .tree _ _ _ _ (some (_,_,b))=>b.kids
 |_=>[]
theorem BV.qD{x:BV}{i:Nat}(h:i∈x.kids):i∈x.ids:=by cases x<;>first|exact h|cases h
theorem AV.qD{x:AV}{i:Nat}(h:i∈x.kids):i∈x.ids:=by
 have E:∀xs:List BV,i∈xs.flatMap BV.kids->i∈xs.flatMap BV.ids:=λxs h=>by grind[BV.qD]
 cases x with|b x=>exact BV.qD h|agg xs=>exact E xs h|dC xs=>exact E xs h
theorem BV.iC{id:Nat}{x:BV}(h:id∉x.kids):x.kill id=x:=by cases x<;>simp only[BV.kill]<;>simp only[BV.kids,u_]at h;all_goals grind
theorem AV.iC{id:Nat}{x:AV}(h:id∉x.kids):x.kill id=x:=by cases x with|b x=>simp only[AV.kill,BV.iC h]|agg xs=>simp only[AV.kill,AV.agg.injEq];exact rP (λy H=>BV.iC λE=>h (d_.2 ⟨y,H,E⟩))|dC xs=>simp only[AV.kill,AV.dC.injEq];exact rP (λy H=>BV.iC λE=>h (d_.2 ⟨y,H,E⟩))
theorem aL.iC{id:Nat}{o:aL}(h:id∉o.kids):o.kill id=o:=by
 cases o<;>simp only[aL.kill];case tree e sz k xs hole=>cases hole with|none=>rfl|some q=>obtain⟨i,j,b⟩:=q;simp only[KX,BV.iC (h)]
 simp;exact rP (λy H=>BV.iC λE=>h (d_.2 ⟨y,H,E⟩))
theorem BV.fY{B:List Nat}{x:BV}(h:∀i∈x.kids,i∉B):x.cA B=x:=by cases x<;>simp only[BV.cA];all_goals grind[BV.kids]
theorem AV.fY{B:List Nat}{x:AV}(h:∀i∈x.kids,i∉B):x.cA B=x:=by cases x with|b x=>simp only[AV.cA,BV.fY h]|agg xs=>simp only[AV.cA,AV.agg.injEq];exact rP (λy H=>BV.fY λi E=>h i (d_.2 ⟨y,H,E⟩))|dC xs=>simp only[AV.cA,AV.dC.injEq];exact rP (λy H=>BV.fY λi E=>h i (d_.2 ⟨y,H,E⟩))
theorem aL.fY{B:List Nat}{o:aL}(h:∀i∈o.kids,i∉B):o.cA B=o:=by
 cases o<;>simp only[aL.cA];case tree e sz k xs hole=>cases hole with|none=>rfl|some q=>obtain⟨i,j,b⟩:=q;simp only[KX,BV.fY (h)]
 simp;exact rP (λy H=>BV.fY λi E=>h i (d_.2 ⟨y,H,E⟩))
def fh.lA:fh->List Nat
 | .gP _ B _ _=>B
 | .fw _ B _ _=>B
 | .uq s op=>s::op.lA
 |_=>[]
def touch(st:St)(o:be):List Nat:=(o.rd.flatMap λk=>match look st.fr k with|some a=>a.ids|none=>[])++o.op.lA
def zg(q:Option (Nat×aL))(hp:List aL):List aL:=match q with
 |none=>hp
 |some (s,ob)=>hp.set s ob
structure Over(T:List Nat)(d:Option Nat)(x:AV)(q:Option (Nat×aL))(st st1:St):Prop where
 hp:st1.hp=zg q st.hp
 fr:∀t,look st1.fr t=if d=some t then some x else look st.fr t
 sl:∀s ob,q=some (s,ob)->st.hp[s]? =some .free/\s∉T/\∀j∈ob.kids,j∉T
structure zex(T:List Nat)(d:Option Nat)(st st':St):Prop where
 fr:∀t,d≠some t->(∀y,look st.fr t=some y->∀i∈y.kids,i∉T)->look st'.fr t=look st.fr t
 hp:∀i ob,st.hp[i]? =some ob->i∉T->(∀j∈ob.kids,j∉T)->st'.hp[i]? =some ob
def KO(T:List Nat)(e:Option Nat)(d:Option Nat)(x:AV)(q:Option (Nat×aL))(st:St)(K:St->Prop):St->Prop:=λb=>zex T e st b/\∃a,Over T d x q b a/\K a
def YN(q:Option (Nat×aL))(hp:List aL):(zg q hp).length=hp.length:=by unfold zg;split<;>simp
theorem PM(B:List Nat)(hp os:List aL):(kg B hp os).length=hp.length+(os.length - B.length):=by unfold kg;simp
def DL{B:List Nat}{hp os:List aL}{i:Nat}{ob:aL}(b:hp[i]? =some ob)(a:i∉B):(kg B hp os)[i]? =some (ob.cA B):=by unfold kg;grind
section
variable {P:Program} {T:List Nat} {e d:Option Nat} {x:AV} {q:Option (Nat×aL)} {st st1:St} {K:St->Prop} {KP:Prop}
theorem Over.get(hO:Over T d x q st st1){i:Nat}(E:i∈T):st1.hp[i]? =st.hp[i]? :=by
 rw[hO.hp];unfold zg;split;.rfl
 .rename_i s ob;exact m_ fun(h:s=i)=>(hO.sl s ob rfl).2.1 (h▸E)
theorem Over.len(hO:Over T d x q st st1):st1.hp.length=st.hp.length:=by rw[hO.hp,YN]
theorem Over.app(hO:Over T d x q st st1)(l:List aL):zg q (st.hp++l)=st1.hp++l:=by
 rw[hO.hp];unfold zg;split;.rfl
 .rename_i s ob;have h:=(c_.1 (hO.sl s ob rfl).1).1;grind
theorem Over.set(hO:Over T d x q st st1){i:Nat}(E:i∈T)(o:aL):zg q (st.hp.set i o)=st1.hp.set i o:=by
 rw[hO.hp];unfold zg;split;.rfl
 .rename_i s ob;exact ae_ _ _ fun(h:i=s)=>(hO.sl s ob rfl).2.1 (h▸E)
theorem Over.fC(hO:Over T d x q st st1){id:Nat}(H:id∈T)(o:aL):zg q ((st.hp.map (aL.kill id)).set id o)=(st1.hp.map (aL.kill id)).set id o:=by
 rw[hO.hp];unfold zg;split;.rfl
 .rename_i s ob;obtain⟨h1,h2,E⟩:=hO.sl s ob rfl;grind[List.map_set,aL.iC,ae_]
theorem Over.back(hO:Over T d x q st st1){B:List Nat}(E:∀i∈B,i∈T)(os:List aL):zg q (kg B st.hp os)=kg B st1.hp os:=by
 rw[hO.hp];unfold zg;split;.rfl
 .rename_i s ob;obtain⟨h1,h2,H⟩:=hO.sl s ob rfl;refine List.ext_getElem? λi=>?_;by_cases J:i=s;.subst J;rw[n_ (by grind[PM]),DL (n_ ((c_.1 h1).1)) (λh=>h2 (E _ h)),aL.fY λj N I=>H j N (E j I)]
  .grind[kg]
theorem FE(hO:Over T d x q st st1)(hd:∀t,d=some t->e≠some t)(y:AV):Over T d x q (st.aE e y) (st1.aE e y):=by refine⟨by cases e<;>exact hO.hp,λt=>?_,λs ob h=>by cases e<;>exact hO.sl s ob h⟩;rw[fk,fk,hO.fr];grind
theorem Rw(hO:Over T d x q st st1)(hd:∀t,d=some t->e≠some t){h':List aL}{y:AV}(hc:∀i ob,st.hp[i]? =some ob->i∉T->(∀j∈ob.kids,j∉T)->h'[i]? =some ob) (c:K (St.aE {st1 with hp:=zg q h'} e y)):KO T e d x q st K (St.aE {st with hp:=h'} e y):=by
 refine⟨⟨λt ht _=>?_,λi ob f h1 h2=>?_⟩,_,FE (st:={st with hp:=h'}) (st1:={st1 with hp:=zg q h'}) ⟨rfl,hO.fr,λs ob h=>?_⟩ hd y,c⟩;.rw[fk,if_neg ht]
 .have:(St.aE {st with hp:=h'} e y).hp=h':=by cases e<;>rfl
  grind
 .obtain⟨h1,h2,a⟩:=hO.sl s ob h;exact⟨hc s _ h1 h2 (λj b=>by cases b),h2,a⟩
theorem L5(hO:Over T d x q st st1)(hd:∀t,d=some t->e≠some t){id:Nat}{o:aL}{y:AV}(b:id∈T)(l:∀i∈x.kids,i∉T)(g:K ((st1.fC id o).aE e y)):KO T e d x q st K ((st.fC id o).aE e y):=by
 have k:∀s:St,((s.fC id o).aE e y).hp=(s.hp.map (aL.kill id)).set id o:=λs=>by cases e<;>rfl
 have hc:∀i ob,st.hp[i]? =some ob->i∉T->(∀j∈ob.kids,j∉T)->((st.hp.map (aL.kill id)).set id o)[i]? =some ob:=λi ob c h1 h2=>by grind[aL.iC]
 refine⟨⟨λt ht n=>?_,λi ob c h1 h2=>by grind⟩,_,FE ⟨(hO.fC b o).symm,λt=>?_,λs ob h=>?_⟩ hd y,g⟩;.rw[fk,if_neg ht];simp only[St.fC,mc];cases hl:look st.fr t with|none=>rfl|some z=>grind[AV.iC]
 .simp only[St.fC,mc,hO.fr];by_cases h:d=some t;.grind[AV.iC]
  grind
 .obtain⟨h1,h2,a⟩:=hO.sl s ob h;exact⟨hc s _ h1 h2 (λj f=>by cases f),h2,a⟩
theorem ZM(hO:Over T d x q st st1)(hd:∀t,d=some t->e≠some t){B:List Nat}{os:List aL}{y:AV}(a:∀i∈B,i∈T)(n:∀i∈x.kids,i∉T)(k:K ((st1.back B os).aE e y)):KO T e d x q st K ((st.back B os).aE e y):=by
 have l:∀s:St,((s.back B os).aE e y).hp=kg B s.hp os:=λs=>by cases e<;>rfl
 have hc:∀i ob,st.hp[i]? =some ob->i∉T->(∀j∈ob.kids,j∉T)->(kg B st.hp os)[i]? =some ob:=λi ob f h1 h2=>by rw[DL f (λb=>h1 (a i b)),aL.fY λj c b=>h2 j c (a j b)]
 refine⟨⟨λt ht p=>?_,λi ob f h1 h2=>by grind⟩,_,FE ⟨(hO.back a os).symm,λt=>?_,λs ob h=>?_⟩ hd y,k⟩;.rw[fk,if_neg ht];simp only[St.back,mc];cases hl:look st.fr t with|none=>rfl|some z=>grind[AV.fY]
 .simp only[St.back,mc,hO.fr];by_cases h:d=some t;.grind[AV.fY]
  grind
 .obtain⟨h1,h2,g⟩:=hO.sl s ob h;exact⟨hc s _ h1 h2 (λj c=>by cases c),h2,g⟩
theorem Ml{h h':List aL}{bor:Bool}{z:BV}(a:∀i∈z.ids,h[i]? =h'[i]?):su h bor z=su h' bor z:=by
 cases z<;>try rfl
 grind[su,Lg,BV.ids]
theorem TP{h h':List aL}{bor:Bool}{y:AV}(a:∀i∈y.ids,h[i]? =h'[i]?):je h bor y=je h' bor y:=by cases y with|b z=>exact Ml a|agg zs=>show(zs.mapM (su h bor)).map PV.agg=_;rw[c9 λz d=>Ml λi c=>a i (d_.2 ⟨z,d,c⟩)];rfl|dC zs=>rfl
theorem TO{h h':List aL}{bor:Bool}{B:List Nat}{y:AV}(a:∀i∈y.ids,h[i]? =h'[i]?):ny h bor B y=ny h' bor B y:=by
 cases y with
 |b z=>
  cases z<;>try rfl
  grind[ny,TP]
 |agg zs=>rfl|dC zs=>rfl
theorem m6{op:fh}{st:St}{b:St->Prop}(hs:jp P st op λa=>K (st.aE e a)):cH P e op st K b:=by unfold cH;split<;>first|exact hs|exact hs.elim
theorem QS{op:fh}(hO:Over T d x q st st1)(wr:∀t,d=some t->t∉op.rd)(hd:∀t,d=some t->e≠some t)(hT:∀t∈op.rd,∀y,look st.fr t=some y->∀i∈y.ids,i∈T)(N:∀i∈op.lA,i∈T) (hx:∀i∈x.kids,i∉T) (h:cH P e op st1 K λ_=>KP):cH P e op st (KO T e d x q st K) (λ_=>KP):=by
 have hl:∀t∈op.rd,look st1.fr t=look st.fr t:=λt ht=>by rw[hO.fr,if_neg λh=>wr t h ht]
 have hF:uZ op.rd st st1:=⟨λk j y hy=>by grind,λk j y hy i z ob O=>by rw[<-hO.get (hT k j y (by grind) i z)];omega⟩;have hg:∀q:SX,(∀t∈q.rd,t∈op.rd)->st1.get q=st.get q:=λq w=>bg λt ht=>hl t (w t ht);have hid:∀(q:SX) (y:AV),(∀t∈q.rd,t∈op.rd)->st.get q=some y->∀i∈y.ids,i∈T:=λq y w hy=>by cases q with|tm k=>exact hT k (w k (by simp[SX.rd])) y hy|c v=>grind[St.get,b_,AF]|g n=>simp only[St.get,b_]at hy;subst hy;intro i z;cases z|f n=>simp only[St.get,b_]at hy;subst hy;intro i z;cases z
 have el:jp P st1 op (λa=>K (st1.aE e a))->cH P e op st (KO T e d x q st K) (λ_=>KP):=λhs=>m6 (zi (zh hF hs) λa ha=>Rw (h':=st.hp) hO hd (λi ob z _ _=>z) (by rw[<-hO.hp];omega));have fin:∀(o:aL) (y:AV),K (St.aE {st1 with hp:=st1.hp++[o]} e y)->KO T e d x q st K (St.aE {st with hp:=st.hp++[o]} e y):=λo y j=>Rw hO hd (λi ob z _ _=>get_append z) (by rw[hO.app];omega);have A:∀(id:Nat) (o:aL) (y:AV),id∈T->K (St.aE {st1 with hp:=st1.hp.set id o} e y)->KO T e d x q st K (St.aE {st with hp:=st.hp.set id o} e y):=λid o y hid j=>Rw hO hd (λi ob z h1 _=>by grind) (by rw[hO.set hid];omega);have Q:∀(bor:Bool) (B:List Nat) (l:List SX),(∀q∈l,∀t∈q.rd,t∈op.rd)->(l.mapM λx=>(st1.get x).bind (ny st1.hp bor B))=(l.mapM λx=>(st.get x).bind (ny st.hp bor B)):=λbor B l hl=>c9 λq w=>by rw[hg q (hl q w)];cases hy:st.get q with|none=>rfl|some y=>exact TO λi z=>hO.get (hid q y (hl q w) hy i z)
 have R:∀(bor:Bool) (B:List Nat) (f:FuncId) (ars:List AV) (os:List aL),(∀i∈B,i∈T)->cH.callK P st1 e bor B f ars os K (λ_=>KP)->cH.callK P st e bor B f ars os (KO T e d x q st K) (λ_=>KP):=λbor B f ars os hB ⟨h1,h2,F,H⟩=>by refine⟨h1,h2,F,H.mono λo O=>?_⟩;cases o with|none=>omega|some r=>refine⟨O.1,ZM hO hd hB hx ?_⟩;have:=O.2;rw[hO.len]at this;omega
 cases op with
 |store sz q v=>
  obtain⟨D,w,E,I,he,hs⟩:=h;have At:=w;rw[hg q (λt ht=>by grind[fh.rd])]at w;rw[hg v (λt ht=>by grind[fh.rd])]at I;have C:=hid q D (λt ht=>by grind[fh.rd]) w;refine⟨D,w,E,I,he,?_⟩;subst he;revert hs;unfold Bj;split;.rename_i id off;rintro⟨o,h1,t,cs,h2,F,H,J,j⟩;rw[hO.get (C id (by simp[AV.ids,BV.ids]))]at h1;have:=A id (.box t (splice cs off E.cells)) E (C id (by simp[AV.ids,BV.ids])) j;exact⟨o,h1,t,cs,h2,F,H,J,this⟩
  .rename_i id i off;have z:=C id (by simp[AV.ids,BV.ids]);rintro⟨o,h1,⟨t,s,xs,h2,F,p,H,J,U,j⟩|⟨t,s,k,xs,O,h2,F,H,j⟩⟩<;>rw[hO.get z]at h1
   .refine⟨o,h1,.inl ⟨t,s,xs,h2,F,p,H,J,U,?_⟩⟩;rcases j with⟨M,h8,j⟩|⟨M,h8,j⟩;.exact .inl ⟨M,h8,A id _ E z j⟩
    .exact .inr ⟨M,h8,A id _ E z j⟩
   .refine⟨o,h1,.inr ⟨t,s,k,xs,O,h2,F,H,?_⟩⟩;rcases j with⟨J,U,p,M,h8,h9,j⟩|⟨b,b',J,U,M,h8,j⟩;.exact .inl ⟨J,U,p,M,h8,h9,A id _ E z j⟩
    .exact .inr ⟨b,b',J,U,M,h8,A id _ E z j⟩
  simp
 |alloc t zero=>exact fin _ _ (by have:=h;simp only[cH,hO.len]at this⊢;omega)|box t q=>obtain⟨D,w,h1,j⟩:=h;rw[hg q (λt ht=>by grind[fh.rd])]at w;exact⟨D,w,h1,fin _ _ (by rw[hO.len]at j;omega)⟩
 |bI own t sz len ps=>cases own with|false=>exact el h|true=>obtain⟨qs,w,h1,h2,F,H,j⟩:=h;rw[c9 (g:=λx=>(st.get x).bind AV.bF) λq w=>by rw[hg q (λt ht=>d_.2 ⟨q,w,ht⟩)]]at w;exact⟨qs,w,h1,h2,F,H,fin _ _ (by rw[hO.len]at j;omega)⟩
 |cO t sz gc zero l c=>obtain⟨al,w,ac,hc,j⟩:=h;rw[hg l (λt ht=>by grind[fh.rd])]at w;rw[hg c (λt ht=>by grind[fh.rd])]at hc;exact⟨al,w,ac,hc,bq j λ_ j=>bq j λ_ j=>bQ j λ_ _ j=>bQ j λ_ _ ⟨h1,h2,F,H,J,U,M⟩=>⟨h1,h2,F,H,J,U,aC M λ_ h=>⟨h.1,fin _ _ (by have:=h.2;rw[hO.len]at this;omega)⟩⟩⟩
 |append t sz gc q v=>
  obtain⟨D,w,E,I,hs⟩:=h;rw[hg q (λt ht=>by grind[fh.rd])]at w;rw[hg v (λt ht=>by grind[fh.rd])]at I;have C:=hid q D (λt ht=>by grind[fh.rd]) w;have Y:=hid v E (λt ht=>by grind[fh.rd]) I;refine⟨D,w,E,I,?_⟩;refine fB (ni (h:=st1.hp) (λi z ob O=>by rw[<-hO.get (Y i z)];omega) hs λL h=>h) λL hs=>⟨hs.1,?_⟩;rcases hs.2 with⟨id,rfl,o,O,xs,rfl,h1,j⟩|⟨h1,h2,j⟩;.exact .inl ⟨id,rfl,_,by rw[<-hO.get (C id (by simp[AV.ids,BV.ids]))];omega,xs,rfl,h1,L5 hO hd (C id (by simp[AV.ids,BV.ids])) hx j⟩
  .exact .inr ⟨h1,h2,fin _ _ (by rw[hO.len]at j;omega)⟩
 |dE kk t sz gc zero l c=>obtain⟨al,w,ac,hc,j⟩:=h;rw[hg l (λt ht=>by grind[fh.rd])]at w;rw[hg c (λt ht=>by grind[fh.rd])]at hc;exact⟨al,w,ac,hc,bq j λ_ j=>bq j λ_ j=>bQ j λ_ _ j=>bQ j λ_ _ ⟨h1,h2,F,H,J,U,M⟩=>⟨h1,h2,F,H,J,U,aC M λ_ h=>⟨h.1,h.2.1,fin _ _ (by have:=h.2.2;rw[hO.len]at this;omega)⟩⟩⟩
 |pN kk t sz gc q v=>
  obtain⟨D,w,E,I,hs⟩:=h;rw[hg q (λt ht=>by grind[fh.rd])]at w;rw[hg v (λt ht=>by grind[fh.rd])]at I;have C:=hid q D (λt ht=>by grind[fh.rd]) w;have Y:=hid v E (λt ht=>by grind[fh.rd]) I;refine⟨D,w,E,I,?_⟩;refine fB (ni (h:=st1.hp) (λi z ob O=>by rw[<-hO.get (Y i z)];omega) hs λL h=>h) λL hs=>⟨hs.1,?_⟩;rcases hs.2 with⟨id,rfl,o,O,xs,rfl,h1,j⟩|⟨h1,h2,j⟩;.exact .inl ⟨id,rfl,_,by rw[<-hO.get (C id (by simp[AV.ids,BV.ids]))];omega,xs,rfl,h1,L5 hO hd (C id (by simp[AV.ids,BV.ids])) hx j⟩
  .exact .inr ⟨h1,h2,fin _ _ (by rw[hO.len]at j;omega)⟩
 |gP bor B f args=>obtain⟨ars,h1,os,h2,j⟩:=h;rw[Q bor B args (λq w t ht=>d_.2 ⟨q,w,ht⟩)]at h1;rw[c9 (l:=B) (g:=(st.hp[·]?)) λi z=>hO.get (N i z)]at h2;exact⟨ars,h1,os,h2,R bor B f ars os N j⟩
 |fw bor B q args=>obtain⟨D,w,f,caps,h0,qr,ars,h1,os,h2,j⟩:=h;rw[hg q (λt ht=>by grind[fh.rd])]at w;rw[Q bor B args (λq w t ht=>r_.2 (.inr (d_.2 ⟨q,w,ht⟩)))]at h1;rw[c9 (l:=B) (g:=(st.hp[·]?)) λi z=>hO.get (N i z)]at h2;exact⟨D,w,f,caps,h0,qr,ars,h1,os,h2,R bor B f _ os N j⟩
 |ir k t=>exact fin _ _ (by have:=h;simp only[cH,hO.len]at this⊢;omega)|ic k t m q v=>obtain⟨am,hm,D,w,E,I,hs⟩:=h;rw[hg m (λt ht=>by grind[fh.rd])]at hm;rw[hg q (λt ht=>by grind[fh.rd])]at w;rw[hg v (λt ht=>by grind[fh.rd])]at I;have ph:=hid m am (λt ht=>by grind[fh.rd]) hm;refine⟨am,hm,D,w,E,I,?_⟩;obtain⟨id,kvs,rfl,O,p,h1,r,h2,he,F,H,J,U,u,M,h8,j⟩:=hs;refine⟨id,kvs,rfl,by rw[<-hO.get (ph id (by simp[AV.ids,BV.ids]))];omega,p,h1,r,h2,he,F,H,J,U,u,M,h8,?_⟩;subst he;exact A id _ E (ph id (by simp[AV.ids,BV.ids])) j
 |copy t sz q v=>obtain⟨D,w,E,I,hs⟩:=h;rw[hg q (λt ht=>by grind[fh.rd])]at w;rw[hg v (λt ht=>by grind[fh.rd])]at I;have C:=hid q D (λt ht=>by grind[fh.rd]) w;have Y:=hid v E (λt ht=>by grind[fh.rd]) I;refine⟨D,w,E,I,?_⟩;refine fB (ni (h:=st1.hp) (λi z ob O=>by rw[<-hO.get (Y i z)];omega) hs λL h=>h) λL ⟨h1,id,h2,F,o,O,xs,H,j⟩=>?_;subst h2;exact⟨h1,id,rfl,F,o,by rw[<-hO.get (C id (by simp[AV.ids,BV.ids]))];omega,xs,H,A id _ _ (C id (by simp[AV.ids,BV.ids])) j⟩
 |panic q=>obtain⟨D,w,h1,j⟩:=h;rw[hg q (λt ht=>by grind[fh.rd])]at w;exact⟨D,w,h1,j⟩
 |uq s u=>
  have ur:uZ u.rd st st1:=hF;have h':Gd st1 u λo m=>yY st1 (some s)/\K ((st1.new (some s) o).aE e (.b (m s))):=h;show Gd st u λo m=>yY st (some s)/\KO T e d x q st K ((st.new (some s) o).aE e (.b (m s)));refine oq (OE ur h') λo m ⟨h1,j⟩=>⟨?_,?_⟩;.simp only[yY]at h1⊢;rw[<-hO.get (N s (by simp[fh.lA]))];omega
  .exact A s o _ (N s (by simp[fh.lA])) j
 |_=>exact el h
end
structure Eff where
 x:AV
 slot:Option (Nat×aL)
def St.app(st:St)(d:Option Nat)(E:Eff):St:=St.aE ⟨st.fr,match E.slot with|none=>st.hp|some (s,ob)=>st.hp.set s ob⟩ d E.x
def rM(P:Program)(o:be)(st:St)(E:Eff):Prop:=match E.slot with
 |none=>fM P o st E.x
 |some (s,ob)=>o.gd=none/\∃q,o.op= .uq s q/\Gd st q λa mk=>a=ob/\E.x= .b (mk s)/\st.hp[s]? =some .free
def L3(a b:St):Prop:=a.hp=b.hp/\∀t,look a.fr t=look b.fr t
def L3.refl(a:St):L3 a a:=⟨rfl,λ_=>rfl⟩
def L3.symm{a b:St}(h:L3 a b):L3 b a:=⟨h.1.symm,λt=>(h.2 t).symm⟩
def L3.trans{a b c:St}(h:L3 a b)(k:L3 b c):L3 a c:=⟨h.1.trans k.1,λt=>(h.2 t).trans (k.2 t)⟩
def comm(r:Rec)(T:List Nat)(o:be)(b:Bool):Prop:=
 (∀t,r.d=some t->t∉o.rd/\o.dst≠some t)/\(∀t,o.dst=some t->t∉r.rd)/\(∀s,r.s=some s->s∉T)/\(b=true->∀s∈o.op.lA,s∉r.F)/\(b=false->∀i∈T,i∉r.G)
def fh.hf:fh->Bool
 | .mv _=>true
 |_=>false
def d7(st:St)(o:be):List Nat:=if o.op.hf=true/\o.gd=none then []else touch st o
def zbZ(F:List Nat)(st:St)(o:be)(E:Eff):Prop:=
 (∀i∈d7 st o,i∈F/\∃ob,st.hp[i]? =some ob/\∀j∈ob.kids,j∈F)/\∀i∈E.x.kids,i∈F
def ZL(G:List Nat)(st:St)(o:be)(E:Eff):Prop:=(∀i∈E.x.kids,i∈G)/\∀t∈o.rd,∀y,look st.fr t=some y->∀i∈y.kids,i∈G
def Sok(P:Program)(S:List aL->Prop)(F:List Nat)(st:St)(o:be)(E:Eff):Prop:=∀a:St,S a.hp->(∀t∈o.rd,look a.fr t=look st.fr t)->rM P o a E/\zbZ F a o E
def zdn(R:List (Rec×(List aL->Prop)))(S:List aL->Prop)(G:List Nat)(E:Eff):Prop:=∀s ob,E.slot=some (s,ob)->(∀j∈ob.kids,j∈G)/\(∀hp,¬S hp)/\∀r∈R,∀hp:List aL,hp[s]? =some .free->r.2 (hp.set s ob)->r.2 hp
def V6(un:Nat->Nat->Bool)(R:List (Rec×(List aL->Prop)))(j:Nat)(T:List Nat)(hp:List aL):Prop:=∀r∈R,un r.1.i j=true->(∀i∈T,i∉r.1.F)\/r.2 hp
def rY(P:Program)(un:Nat->Nat->Bool)(K:St->Prop)(KP:Prop):List (Rec×(List aL->Prop))->List (Nat×Bool×be)->St->Prop
 |_,[],st=>∃b,L3 b st/\K b
 |R,(j,true,o)::l,st=>(∀r∈R,un r.1.i j=true->comm r.1 (d7 st o) o true)/\∃E F G S,rM P o st E/\zbZ F st o E/\ZL G st o E/\Sok P S F st o E/\zdn R S G E/\rY P un K KP (R++[(⟨j,o.dst,o.rd,E.slot.map (·.1),F,G⟩,S)]) l (st.app o.dst E)
 |R,(j,false,o)::l,st=>(∀r∈R,un r.1.i j=true->comm r.1 (touch st o) o false)/\iL P o st (λa=>V6 un R j (touch st o) a.hp/\rY P un K KP R l a) λ_=>KP
section
variable {P:Program} {un:Nat->Nat->Bool} {K:St->Prop} {KP:Prop}
theorem BF{a β:Type}{f g:a->List β}:∀{l:List a},(∀x∈l,f x=g x)->l.flatMap f=l.flatMap g
 |[],_=>rfl
 |x::l,h=>by rw[S_,S_,h x (by simp),BF λy b=>h y (by grind)]
theorem Gq{a b:St}{o:be}(h:∀t∈o.rd,look a.fr t=look b.fr t):touch a o=touch b o:=by unfold touch;congr 1;exact BF λk c=>by grind
theorem qM{a b:St}{o:be}(h:∀t∈o.rd,look a.fr t=look b.fr t):d7 a o=d7 b o:=by unfold d7;rw[Gq h]
theorem OW{st:St}{o:be}{t:Nat}{y:AV}{i:Nat}(ht:t∈o.rd)(b:look st.fr t=some y)(a:i∈y.ids):i∈touch st o:=r_.2 (.inl (d_.2 ⟨t,ht,by grind⟩))
theorem xj{st:St}{o:be}{i:Nat}(a:i∈o.op.lA):i∈touch st o:=r_.2 (.inr a)
theorem nT(st:St)(d:Option Nat)(E:Eff)(t:Nat):look (st.app d E).fr t=if d=some t then some E.x else look st.fr t:=fk _ _ _ _
theorem rG(st:St)(d:Option Nat)(E:Eff):(st.app d E).hp=match E.slot with|none=>st.hp|some (s,ob)=>st.hp.set s ob:=by unfold St.app;cases d<;>rfl
theorem uF{st:St}{d:Option Nat}{E:Eff}{i:Nat}(h:∀s,E.slot.map (·.1)=some s->i≠s):(st.app d E).hp[i]? =st.hp[i]? :=by rw[rG];grind
theorem Gf{o:be}{T:List Nat}{d:Option Nat}{x:AV}{q:Option (Nat×aL)}{st st1:St}(hO:Over T d x q st st1)(a:∀t,d=some t->t∉o.rd/\o.dst≠some t)(c:∀i∈touch st o,i∈T)(j:∀i∈x.kids,i∉T) (h:iL P o st1 K λ_=>KP):iL P o st (KO T o.dst d x q st K) (λ_=>KP):=by
 have ex:cH P o.dst o.op st1 K (λ_=>KP)->cH P o.dst o.op st (KO T o.dst d x q st K) (λ_=>KP):=λh=>QS hO (λt ht hr=>(a t ht).1 (by grind[be.rd])) (λt ht=>(a t ht).2) (λt ht y k i b=>c i (OW (by grind[be.rd]) k b)) (λi b=>c i (xj b)) j h;unfold iL at h⊢;split at h;.grind
 .rename_i t want hg;obtain⟨g,h1,v,rfl,h2,f⟩:=h;have ht:look st1.fr t=look st.fr t:=by rw[hO.fr,if_neg λe=>(a t e).1 (by grind[be.rd])]
  refine⟨_,by grind,v,rfl,λe=>ex (h2 e),λe=>Rw (h':=st.hp) hO (λt ht=>(a t ht).2) (λi ob b _ _=>b) (by rw[<-hO.hp];exact f e)⟩
theorem IH{o:be}{a b:St}{E:Eff}(h:uZ o.rd a b)(d:∀s,E.slot.map (·.1)=some s->b.hp[s]? =some .free->a.hp[s]? =some .free)(c:rM P o b E):rM P o a E:=by unfold rM at c⊢;cases hs:E.slot with|none=>grind[OU]|some q=>grind[oq,OE,be.rd,fh.rd]
theorem wN{o:be}{a b:St}{E:Eff}(d:∀k∈o.rd,∀y,look b.fr k=some y->look a.fr k=some y)(f:∀i∈d7 b o,∀ob,b.hp[i]? =some ob->a.hp[i]? =some ob) (n:∀s,E.slot.map (·.1)=some s->b.hp[s]? =some .free->a.hp[s]? =some .free) (c:rM P o b E):rM P o a E:=by
 by_cases h:o.op.hf=true/\o.gd=none
 .obtain⟨h1,h2⟩:=h;unfold rM at c⊢;cases hs:E.slot with
  |none=>
   rw[hs]at c;cases e:o.op<;>rw[e]at h1<;>try (cases h1;done)
   rename_i x;simp only[fM,h2,e]at c⊢;obtain⟨y,g,j⟩:=c;refine⟨y,?_,j⟩;cases x with|tm k=>exact d k (by grind[be.rd,fh.rd,SX.rd]) y g|_=>exact g
  |some q=>rw[hs]at c;obtain⟨_,p,l,_⟩:=c;rw[l]at h1;cases h1
 .have ht:d7 b o=touch b o:=if_neg h;exact IH ⟨d,λk u y v i r ob e=>f i (by grind[OW]) ob e⟩ n c
theorem II{o:be}{a:St}{E:Eff}(c:rM P o a E):∀s,E.slot.map (·.1)=some s->a.hp[s]? =some .free/\s∈o.op.lA:=by
 intro s hs;unfold rM at c;cases d:E.slot with
 |none=>grind|some q=>
  rw[d]at c hs;simp only[M_,b_]at hs;obtain⟨h1,p,h2,b⟩:=c;rw[h2,<-hs];refine⟨?_,by simp[fh.lA]⟩;cases p<;>simp only[Gd]at b;case alloc=>grind
  case box=>obtain⟨_,_,_,h⟩:=b;grind
  case bI own _ _ _ _=>
   cases own;.grind
   .obtain⟨_,_,_,_,_,_,h⟩:=b;grind
  case cO=>obtain⟨_,_,_,_,_,_,_,_,_,_,_,_,_,_,_,_,_,_,_,_,_,_,_,h⟩:=b;grind
  case append=>obtain⟨_,_,_,_,h⟩:=b;rcases h with⟨_,_,_,_,h⟩|⟨_,_,_,_,_,h⟩|⟨_,_,_,_,_,_,_,_,h⟩|⟨_,_,_,_,_,h⟩<;>exact h.2.2
  grind
theorem H0{o:be}{st:St}{E:Eff}{K a:St->Prop}(h:rM P o st E)(f:K (st.app o.dst E)):iL P o st K a:=by
 unfold rM at h;cases hs:E.slot with
 |none=>
  rw[hs]at h;refine mD h ?_;have:st.app o.dst E=st.aE o.dst E.x:=by unfold St.app;rw[hs]
  grind
 |some q=>
  rw[hs]at h;obtain⟨h1,p,h2,e⟩:=h;unfold iL;rw[h1,h2];show Gd st p λo' mk=>yY st (some q.1)/\K ((st.new (some q.1) o').aE o.dst (.b (mk q.1)));refine oq e λob m ⟨b,c,d⟩=>⟨d,?_⟩;have:st.app o.dst E=(st.new (some q.1) ob).aE o.dst (.b (m q.1)):=by unfold St.app;rw[hs,b,c];rfl
  grind
theorem WO{a b:St}{T:List Nat}(h:L3 a b):Over T none (.v undef) none b a:=⟨h.1,λt=>by rw[h.2 t];simp,λ_ _ h=>by cases h⟩
theorem WN{a b:St}(h:L3 a b)(rd:List Nat):uZ rd b a:=⟨λk _ y d=>by rw[<-h.2];omega,λk _ y _ i _ ob c=>by rw[<-h.1];omega⟩
theorem zak{a b:St}(h:L3 a b)(d:Option Nat)(E:Eff):L3 (a.app d E) (b.app d E):=⟨by rw[rG,rG,h.1],λt=>by rw[nT,nT,h.2 t]⟩
theorem Li{S:List aL->Prop}{F:List Nat}{a b:St}{o:be}{E:Eff}(h:∀t∈o.rd,look b.fr t=look a.fr t)(hs:Sok P S F a o E):Sok P S F b o E:=λc h1 h2=>hs c h1 λt ht=>(h2 t ht).trans (h t ht)
theorem Kz{G:List Nat}{a b:St}{o:be}{E:Eff}(h:∀t∈o.rd,look b.fr t=look a.fr t)(hs:ZL G a o E):ZL G b o E:=⟨hs.1,λt ht y c=>hs.2 t ht y (by grind)⟩
theorem qK:∀(l:List (Nat×Bool×be)) (R:List (Rec×(List aL->Prop))) (a b:St),L3 a b->rY P un K KP R l a->rY P un K KP R l b
 |[],R,a,b,h,hs=>by obtain⟨g,h1,h2⟩:=hs;exact⟨g,h1.trans h,h2⟩
 |(j,true,o)::l,R,a,b,h,hs=>by obtain⟨h1,E,F,G,S,h2,d,hg,p,n,k⟩:=hs;have ht:d7 b o=d7 a o:=qM λt _=>(h.2 t).symm;refine⟨λr hr v=>by grind,E,F,G,S,IH (WN h _) (λs _ w=>by rw[<-h.1];omega) h2,⟨λi c=>?_,d.2⟩,Kz (λt _=>(h.2 t).symm) hg,Li (λt _=>(h.2 t).symm) p,n,qK l _ _ _ (zak h _ _) k⟩;rw[ht]at c;exact⟨(d.1 i c).1,by rw[<-h.1];exact(d.1 i c).2⟩
 |(j,false,o)::l,R,a,b,h,hs=>by obtain⟨h1,h2⟩:=hs;have ht:touch b o=touch a o:=Gq λt _=>(h.2 t).symm;refine⟨λr hr v=>by grind,?_⟩;refine rZ (Gf (T:=touch b o) (WO h) (λt e=>by grind) (λi c=>c) (λi c=>by cases c) h2) (λf ⟨_,st1,hO,u⟩=>?_) λ_ h=>h;have e:st1.hp=f.hp:=hO.hp;exact⟨by grind,qK l _ _ _ ⟨e,λt=>by rw[hO.fr];simp⟩ u.2⟩
theorem Bi:∀(l:List (Nat×Bool×be)) (R b:List (Rec×(List aL->Prop))) (a:St),(∀r∈b,r∈R)->rY P un K KP R l a->rY P un K KP b l a
 |[],R,b,a,_,hs=>hs
 |(j,true,o)::l,R,b,a,h,hs=>by obtain⟨h1,E,F,G,S,h2,f,hg,k,c,g⟩:=hs;refine⟨λr hr=>h1 r (h r hr),E,F,G,S,h2,f,hg,k,λs ob e=>⟨(c s ob e).1,(c s ob e).2.1,λr hr=>(c s ob e).2.2 r (h r hr)⟩,Bi l _ _ _ (λr hr=>?_) g⟩;grind
 |(j,false,o)::l,R,b,a,h,hs=>⟨λr hr=>hs.1 r (h r hr),rZ hs.2 (λn d=>⟨λr hr=>d.1 r (h r hr),Bi l _ _ _ h d.2⟩) λ_ h=>h⟩
def Hd(P:Program)(un:Nat->Nat->Bool)(K:St->Prop)(KP:Prop)(R:List (Rec×(List aL->Prop)))(l:List (Nat×Bool×be))(st:St)(j:Nat)(o:be):Bool->Prop
 |true=>∃G,rM P o st G/\rY P un K KP R l (st.app o.dst G)
 |false=>iL P o st (λa=>V6 un R j (touch st o) a.hp/\rY P un K KP R l a) λ_=>KP
theorem zdM{l2:List (Nat×Bool×be)}{j:Nat}{b:Bool}{o:be}:∀(l1:List (Nat×Bool×be)) (R:List (Rec×(List aL->Prop))) (st:St),rY P un K KP R (l1++(j,b,o)::l2) st->(∀u∈l1,u.2.1=true/\un u.1 j=true)->(∀r∈R,un r.1.i j=true->comm r.1 (match b with|true=>d7 st o|false=>touch st o) o b)/\Hd P un K KP R (l1++l2) st j o b:=by
 intro l1;induction l1 with
 |nil=>
  intro R st h _;cases b with
  |true=>obtain⟨h1,E,F,G,S,h2,_,_,_,_,h4⟩:=h;exact⟨h1,E,h2,Bi l2 _ _ _ (λr hr=>r_.2 (.inl hr)) h4⟩
  |false=>exact h
 |cons q l1 ih=>
  intro R st h hu;obtain⟨i,bu,u⟩:=q;obtain⟨hb,O⟩:=hu _ (List.mem_cons_self ..);simp only at hb O;subst hb;obtain⟨h1,E,F,G0,S,h2,w,hg,hS,Q,h4⟩:=h;obtain⟨hA,hB⟩:=ih _ _ h4 λv hv=>hu v (List.mem_cons_of_mem _ hv);obtain⟨c1,c2,C,c4,c5⟩:=hA (⟨i,u.dst,u.rd,E.slot.map (·.1),F,G0⟩,S) (by simp) O;simp only at c1 c2 C c4 c5;have Y:∀t∈o.rd,look (st.app u.dst E).fr t=look st.fr t:=λt ht=>by rw[nT,if_neg λe=>(c1 t e).1 ht]
  have M:touch (st.app u.dst E) o=touch st o:=Gq Y;have el:d7 (st.app u.dst E) o=d7 st o:=qM Y;have U:=II h2;cases b with
  |true=>
   refine⟨λr hr n=>by grind,?_⟩;simp only at C c5;rw[el]at C;obtain⟨G,g1,g2⟩:=hB;have z:=II g1;have gc:rM P o st G:=by
    refine wN (λk hk y hy=>by grind) (λi a ob B=>?_) (λs hs hf=>?_) g1;.grind[uF]
    .rw[<-uF (d:=u.dst) (E:=E) λs' A e=>?_];.omega
     .have D:=(z s hs).2;by_cases H:o.op.hf=true/\o.gd=none
      .cases B:o.op<;>rw[B]at H<;>try (cases H.1;done)
       rw[B]at D;cases D
      .refine C s' A (e▸?_);rw[show d7 st o=touch st o from if_neg H];exact xj D
   have c:∀t∈u.rd,look (st.app o.dst G).fr t=look st.fr t:=λt ht=>by rw[nT,if_neg λe=>c2 t e ht]
   have N:d7 (st.app o.dst G) u=d7 st u:=qM c;have I:∀i∈d7 st u,(st.app o.dst G).hp[i]? =st.hp[i]? :=λi a=>uF λs hs e=>c4 rfl s (z s hs).2 (e▸(w.1 i a).1);have f:∀s,E.slot.map (·.1)=some s->s∈F:=λs hs=>by
    have D:=(U s hs).2;by_cases H:u.op.hf=true/\u.gd=none
    .cases B:u.op<;>rw[B]at H<;>try (cases H.1;done)
     rw[B]at D;cases D
    .exact(w.1 s (by rw[show d7 st u=touch st u from if_neg H];exact xj D)).1
   refine⟨G,gc,λr hr n=>by grind,E,F,G0,S,?_,⟨λi a=>?_,w.2⟩,Kz c hg,Li c hS,Q,qK _ _ _ _ ⟨?_,λt=>?_⟩ g2⟩;.refine wN (λk hk y hy=>by grind) (λi a ob B=>by grind) (λs hs hf=>?_) h2;rw[uF λs' A e=>c4 rfl s' (z s' A).2 (e▸f s hs)];omega
   .rw[N]at a;exact⟨(w.1 i a).1,by rw[I i a];exact(w.1 i a).2⟩
   .rw[rG,rG,rG,rG];cases hs:E.slot with|none=>rfl|some p=>cases A:G.slot with|none=>rfl|some p'=>simp only;exact ae_ _ _ λe=>c4 rfl p'.1 (z p'.1 (by grind)).2 (e▸f p.1 (by grind))
   grind[nT]
  |false=>
   refine⟨λr hr n=>by grind,?_⟩;have c7:=c5 rfl;rw[M]at c7;simp only at C;rw[M]at C;have hO:Over (touch st o) u.dst E.x E.slot st (st.app u.dst E):=⟨by rw[rG];rfl,λt=>nT _ _ _ t,λs ob e=>⟨(U s (by rw[e];rfl)).1,C s (by rw[e];rfl),λj hj x=>c7 j x ((Q s ob e).1 j hj)⟩⟩;refine rZ (Gf (T:=touch st o) hO c1 (λi a=>a) (λi a x=>c7 i x (hg.1 i a)) hB) (λg ⟨hC,st1,l,L,hk⟩=>?_) λ_ h=>h;rw[M,l.hp]at L;have c:∀t∈u.rd,look g.fr t=look st.fr t:=λt ht=>hC.fr t (λe=>c2 t e ht) λy hy i a x=>c7 i x (hg.2 t ht y hy i a);have N:d7 g u=d7 st u:=qM c;have key:rM P u g E/\zbZ F g u E:=by
    rcases L (⟨i,u.dst,u.rd,E.slot.map (·.1),F,G0⟩,S) (by simp) O with hdj|hs
    .have I:∀i∈d7 st u,g.hp[i]? =st.hp[i]? :=λi a=>by obtain⟨h5,ob,h6,h7⟩:=w.1 i a;rw[h6];exact hC.hp i ob h6 (λx=>hdj i x h5) λj hj x=>hdj j x (h7 j hj)
     refine⟨wN (λk hk y hy=>by grind) (λi a ob B=>by grind) (λs hs _=>by obtain⟨p,hp,rfl⟩:=i_.1 hs;exact(l.sl p.1 p.2 hp).1) h2,⟨λi a=>?_,w.2⟩⟩
     rw[N]at a;exact⟨(w.1 i a).1,by rw[I i a];exact(w.1 i a).2⟩
    .cases J:E.slot with|none=>rw[J]at hs;exact hS g hs c|some p=>exact absurd hs ((Q p.1 p.2 J).2.1 _)
   refine⟨λr hr n=>?_,λr hr n=>by grind,E,F,G0,S,key.1,key.2,Kz c hg,Li c hS,Q,?_⟩
   .rcases L r (r_.2 (.inl hr)) n with h|h;.exact .inl h
    .refine .inr ?_;cases J:E.slot with|none=>rw[J]at h;exact h|some p=>rw[J]at h;exact(Q p.1 p.2 J).2.2 r hr _ (l.sl p.1 p.2 J).1 h
   refine qK _ _ _ _ ⟨?_,λt=>?_⟩ hk;.rw[rG];exact l.hp
   .rw[nT,l.fr]
theorem YR{u:fh}{ob:aL}{R:aL->(Nat->BV)->Prop}{st:St}(h:Gd st u λo m=>o=ob/\R o m):∀j∈ob.kids,∃t∈u.rd,∃y,look st.fr t=some y/\j∈y.kids:=by
 intro j l;cases u<;>simp only[Gd]at h<;>try exact h.elim
 case alloc t zero=>obtain⟨rfl,_⟩:=h;obtain⟨b,r,d⟩:=d_.1 l;have:=BV.qD d;grind[ET]
 case box t x=>
  obtain⟨a,w,_,rfl,_⟩:=h;obtain⟨b,r,d⟩:=d_.1 l;have s:j∈a.kids:=by
   cases a with
   |b z=>
    cases z with
    |pv p=>obtain⟨A,_,rfl⟩:=C_.1 r;cases d
    |_=>rw[u_.1 r]at d;exact d
   |agg xs=>exact d_.2 ⟨b,r,d⟩|dC xs=>rw[u_.1 r]at d;cases d
  cases x with|tm k=>exact⟨k,u_.2 rfl,a,w,s⟩|c v=>cases w;have:=AV.qD s;grind[AF]|g n=>cases w;cases s|f n=>cases w;cases s
 case bI own e sz len B=>
  cases own;.grind
  .obtain⟨_,_,_,_,_,_,rfl,_⟩:=h;cases l
 case cO=>obtain⟨_,_,_,_,_,_,_,_,_,_,_,_,_,_,_,_,_,_,_,_,_,_,_,rfl,_⟩:=h;cases l
 case append=>obtain⟨_,_,_,_,h⟩:=h;rcases h with⟨_,_,_,_,rfl,_⟩|⟨_,_,_,_,_,rfl,_⟩|⟨_,_,_,_,_,_,_,_,rfl,_⟩|⟨_,_,_,_,_,rfl,_⟩<;>cases l
 case ir=>obtain⟨rfl,_⟩:=h;cases l
end
def Bl(n:Nat)(a:List (List Nat))(k:Nat):Bool:=(L_ n).all λj=>decide (j<k)||(L_ j).all λi=>(a.getD j []).contains i
def py(a:List (List Nat)):List (Nat×Bool)->Bool
 |[]=>true
 |u::l=>l.all (λo=> !(a.getD u.1 []).contains o.1&&((a.getD o.1 []).contains u.1||u.2))&&py a l
def OV(n:Nat)(after:List (List Nat))(k:Nat):Bl n (G2 after) k=Bl n (gD [] after) k:=by simp only[Bl,C1]
def K3(after:List (List Nat)):∀l,py (G2 after) l=py (gD [] after) l
 |[]=>rfl
 |u::l=>by simp only[py,C1,K3 after l]
def tP:∀(k:Nat) (L:List Nat),L.Nodup->(∀x∈L,x<k)->L.length<=k
 |0,L,_,h=>by cases L with|nil=>simp|cons x L=>exact absurd (h x (by simp)) (Nat.not_lt_zero _)
 |k+1,L,hn,h=>by
  by_cases b:k∈L
  .have:=tP k (L.erase k) (hn.erase k) λx a=>by grind
   grind
  .have:=tP k L hn λx a=>by grind
   omega
section
variable {P:Program} {c:Ctx} {w:World} {a:Act}
theorem IV{a:List (List Nat)}:∀{l1 l2:List (Nat×Bool)} {o:Nat×Bool},py a (l1++o::l2)=true->∀u∈l1,((a.getD o.1 []).contains u.1=true\/u.2=true)
 |[],_,_,_,u,b=>by grind
 |v::l1,l2,o,h,u,b=>by
  simp only[al_,py,f_,p_,as_]at h;rcases T_.1 b with rfl|b;.grind
  .exact IV h.2 u b
theorem FD{a:List (List Nat)}:∀{l1 l2:List (Nat×Bool)} {o:Nat×Bool},py a (l1++o::l2)=true->py a (l1++l2)=true
 |[],l2,o,h=>by simp only[aw_,py,f_]at h⊢;grind
 |v::l1,l2,o,h=>by simp only[al_,py,f_,p_]at h⊢;exact⟨λx b=>h.1 x (by grind),FD h.2⟩
theorem MN{id n k ml:Nat}{ops:Array Oper}{s:List be}{after:List (List Nat)}{l:List (Nat×Bool×be)}(hm:P.follows .mixedOrders=true)(hn:c.n=n)(Fr:c.th.length<=ml)(hc:rb P n ops ops.toList s)(Vc:after=qY ops)(H:AK after=true) (RM:Bl s.length (gD [] after) k=true) (DS:k<=s.length) (A:py (gD [] after) (l.map λu=>(u.1,u.2.1))=true) (Fm:∀u∈l,u.1<k/\s[u.1]? =some u.2.2) (Hx:(l.map (·.1)).Nodup) (Th:l.length=k) {st:St} {K KP:St->Prop} {KC:Prop} {Q:Exit->Act->World->Prop} (h:rY P (λi j=> !((gD [] after).getD j []).contains i) (λst=>j6 P ml (s.drop k) st K KP) KC [] l st) (hr:oK c st a w) (hQ:∀a w,(∃f,K f/\oK c f a w)->Q .normal a w) (hP:∀Y a w,(qU Y/\∃f,KP f/\oK c f a w)->Q (.panic Y) a w) (PA:KC->∀Y a w,(qU Y/\∃f,oK c f a w)->Q (.panic Y) a w):(Code.region id ops true).wp P Q a w:=by
 obtain⟨RK,At⟩:=tt hc;have hsz:ops.size=s.length:=by omega
 have Wf:after.length=s.length:=by grind[qY]
 have ur:∀(i:Nat) (o:Oper),ops[i]? =some o->after[i]? =some ((o.after.toList.filter (Region.binds .any)).map (·.on)):=λi o ho=>by grind[qY]
 have y:∀(d:Array Bool) (i:Nat),d.size=s.length->(i∈Region.ready .any ops d↔i<s.length/\d.getD i true=false/\∀l:List Nat,after[i]? =some l->∀e∈l,d.getD e false=true):=by
  intro d i p;unfold Region.ready;simp only[av_,J_,f_,R_,hsz];constructor;.rintro⟨h1,h2,h3⟩;refine⟨h1,h2,λl hl e B=>?_⟩;have ho:ops[i]? =some ops[i]:=z_ (by omega);rw[ur i _ ho]at hl;cases hl;rw[ho]at h3;simp only[M_,D_,af_]at h3;grind
  .rintro⟨h1,h2,h3⟩;refine⟨h1,h2,?_⟩;have ho:ops[i]? =some ops[i]:=z_ (by omega);rw[ho];simp only[M_,D_,af_];intro ed WD;by_cases O:Region.binds .any ed=true;.have:=h3 _ (ur i _ ho) ed.on (C_.2 ⟨ed,av_.2 ⟨by grind,O⟩,rfl⟩);grind
   grind
 have Bk:∀i j,i<j->j<s.length->k<=j->((gD [] after).getD j []).contains i=true:=by intro i j n7 hj Rg;simp only[Bl,p_,J_,as_,decide_eq_true_eq]at RM;grind
 have N:∀(m j:Nat) (d:Array Bool) (f:St) (a:Act) (w:World),j<=s.length->s.length<=j+m->k<=j->d.size=s.length->(∀i,i<s.length->d.getD i false=decide (i<j))->j6 P ml (s.drop j) f K KP->oK c f a w->wpAny P .any ops Q m d a w:=by
  have fin:∀(d:Array Bool) (f:St) (a:Act) (w:World),d.size=s.length->(∀i,i<s.length->d.getD i false=decide (i<s.length))->j6 P ml (s.drop s.length) f K KP->oK c f a w->Region.ready .any ops d=[]/\Q .normal a w:=by intro d f a w p r hs hr;rw[List.drop_length]at hs;simp only[j6]at hs;obtain⟨st1,Dg,hs⟩:=hs;refine⟨?_,hQ a w ⟨st1,hs,Dg _ _ _ Fr hr⟩⟩;apply List.eq_nil_iff_forall_not_mem.2;grind
  intro m
  induction m with
  |zero=>
   intro j d f a w hj hm _ p r hs hr;have BT:j=s.length:=by omega
   subst BT;exact fin d f a w p r hs hr
  |succ m ih=>
   intro j d f a w hj hm Rg p r hs hr;rcases aj_ j s.length with E|E;case inr=>
    have BT:j=s.length:=by omega
    subst BT;obtain⟨f1,f2⟩:=fin d f a w p r hs hr;exact⟨λ_=>f2,λi C=>by rw[f1]at C;cases C⟩
   have DP:∀i,i<s.length->d.getD i true=decide (i<j):=λi C=>by
    have h4:i<d.size:=by omega
    have:=r i C;simp[h4]at this⊢;omega
   have KK:∀i,i∈Region.ready .any ops d↔i=j:=by
    intro i;rw[y d i p];constructor
    .rintro⟨h1,h2,h3⟩;rw[DP i h1]at h2;simp only[decide_eq_false_iff_not,Nat.not_lt]at h2;rcases aj_ j i with h4|h4
     .rcases(Or.inl (Bk j i h4 h1 (by omega)):_\/False)with h5|h5
      .have el:=nB H (S:=λx=>x<j\/x=i) (λx l hl R e B=>by
        have g:=H;simp only[AK,p_,J_,decide_eq_true_eq]at g;have DA:=(c_.1 hl).1;have DM:=g x DA e (by simpa[P_,hl]using B);rcases R with R|rfl;.omega
        .have:=h3 l hl e B;rw[r e (by omega)]at this;exact .inl (by simpa using this)) i i j (Z_ _) (.inr rfl) h5 (by omega)
       omega
      .exact h5.elim
     omega
    .rintro rfl;refine⟨E,by rw[DP _ E];simp,λl hl e B=>?_⟩;have g:=H;simp only[AK,p_,J_,decide_eq_true_eq]at g;have DA:=(c_.1 hl).1;have DM:=g i DA e (by simpa[P_,hl]using B);rw[r e (by omega)];simpa using DM
   refine⟨λh0=>?_,λi C=>?_⟩;.have:=(KK j).2 rfl;rw[h0]at this;cases this
   .have:=(KK i).1 C;subst this;have ho:ops[i]? =some ops[i]:=z_ (by omega);have So:=k_ E;have Bx:=At i _ _ (by rw[X_];omega) So;rw[F_ E]at hs;simp only[j6]at hs;obtain⟨st1,Dg,hs⟩:=hs;obtain⟨θ,D,hI⟩:=Dg _ _ _ Fr hr;have:=ou hI hn Bx hs (λa' w'=>wpAny P .any ops Q m (d.setIfInBounds i true) a' w') Q (λa' w' ⟨I,h1,h2⟩=>
     ih (i+1) _ I a' w' (by omega) (by omega) (by omega) (by simpa using p) (λx R=>by
      rw[dW p (by omega),r x R];by_cases Pc:x=i;.subst Pc;simp
      .rw[if_neg Pc];apply decide_eq_decide.2;omega) h1 h2) (λY w' hp=>hP Y a w' hp)
    unfold wpOp;grind
 have DE:∀i,i<k->i∈l.map (·.1):=by
  intro i C;refine A_ λhn=>?_;have:=tP k (i::l.map (·.1)) (ax_.2 ⟨hn,Hx⟩) λx R=>by
   rcases T_.1 R with rfl|R;.omega
   .obtain⟨u,U,rfl⟩:=C_.1 R;grind
  grind
 have g:=H;simp only[AK,p_,J_,decide_eq_true_eq]at g;have qr:∀(m:Nat) (l':List (Nat×Bool×be)) (d:Array Bool) (f:St) (a:Act) (w:World),d.size=s.length->(∀i,i<s.length->(d.getD i false=true↔i<k/\i∉l'.map (·.1)))->l'.Sublist l->py (gD [] after) (l'.map λu=>(u.1,u.2.1))=true->(∀(i:Nat) (l:List Nat),after[i]? =some l->d.getD i false=true->∀e∈l,d.getD e false=true)->s.length+l'.length<=k+m->rY P (λi j=> !((gD [] after).getD j []).contains i) (λst=>j6 P ml (s.drop k) st K KP) KC [] l' f->oK c f a w->wpAny P .any ops Q m d a w:=by
  intro m
  induction m with
  |zero=>
   intro l' d f a w p r M A el J hs hr;cases l' with
   |cons u l'=>simp only[U_]at J;omega|nil=>
    obtain⟨DB,B,hk⟩:=hs;refine N 0 k d DB a w DS (by omega) (Z_ _) p (λi C=>?_) hk (oK.congr B.1 B.2 hr);have:=r i C;simp only[N_,ao_,not_false_eq_true,and_true]at this;cases O:d.getD i false with
    |true=>simp[this.1 O]|false=>
     have:¬i<k:=λh=>by have:=this.2 h;rw[O]at this;cases this
     omega
  |succ m ih=>
   intro l' d f a w p r M A el J hs hr;cases gc:l' with
   |nil=>
    subst gc;obtain⟨DB,B,hk⟩:=hs;refine N (m+1) k d DB a w DS (by omega) (Z_ _) p (λi C=>?_) hk (oK.congr B.1 B.2 hr);have:=r i C;simp only[N_,ao_,not_false_eq_true,and_true]at this;cases O:d.getD i false with
    |true=>simp[this.1 O]|false=>
     have:¬i<k:=λh=>by have:=this.2 h;rw[O]at this;cases this
     simp[this]
   |cons q l0=>
    have Pa:∀i,i<s.length->d.getD i true=d.getD i false:=λi C=>by
     have h4:i<d.size:=by omega
     simp[h4]
    have F:∀u∈l',u.1<k/\s[u.1]? =some u.2.2:=λu U=>Fm u (M.subset U);have CT:∀u∈l',d.getD u.1 false=false:=λu U=>by cases O:d.getD u.1 false with|false=>rfl|true=>exact absurd (C_.2 ⟨u,U,rfl⟩) ((r u.1 (by have:=(F u U).1;omega)).1 O).2
    have hq:q∈l':=by rw[gc];simp
    have wr:∀i,i<s.length->(∀l:List Nat,after[i]? =some l->∀e∈l,d.getD e false=true)->∀j,((gD [] after).getD i []).contains j=true->j=i\/d.getD j false=true:=λi C h3 j hj=>
     nB H (S:=λx=>x=i\/d.getD x false=true) (λx l hl R e B=>by
      rcases R with rfl|R;.exact .inr (h3 l hl e B)
      .exact .inr (el x l hl R e B)) i i j (Z_ _) (.inl rfl) hj (by omega)
    refine⟨λh0=>?_,λi C=>?_⟩
    .have RT:=(F q hq).1;have:q.1∈Region.ready .any ops d:=(y d q.1 p).2 ⟨by omega,by rw[Pa _ (by omega)];exact CT q hq,λlq Fk e B=>by
      have n6:=g q.1 (by omega) e (by simpa[P_,Fk]using B);cases O:d.getD e false with
      |true=>rfl|false=>
       exfalso;have DH:e∈l'.map (·.1):=A_ λhn=>by have:=(r e (by omega)).2 ⟨by omega,hn⟩;rw[O]at this;cases this
       rw[gc,l_]at DH;rcases T_.1 DH with h1|h1;.omega
       .obtain⟨u,U,rfl⟩:=C_.1 h1;rw[gc,l_,py,f_,p_]at A;have:=A.1 (u.1,u.2.1) (C_.2 ⟨u,U,rfl⟩);simp only[f_,R_]at this;have hg:=xC after [] q.1 lq Fk;simp only[au_,Nat.zero_add]at hg;have h2:((gD [] after).getD q.1 []).contains u.1=true:=by rw[hg];simp only[List.contains_iff_mem,d_];exact⟨u.1,B,by simp⟩
        rw[h2]at this;exact absurd this.1 (by simp)⟩
     rw[h0]at this;cases this
    .obtain⟨r1,r2,r3⟩:=(y d i p).1 C;rw[Pa i r1]at r2;have DQ:i<k:=by
      apply A_;intro n8;have RT:=(F q hq).1;rcases wr i r1 r3 q.1 (Bk q.1 i (by omega) r1 (by omega))with h1|h1;.omega
      .rw[CT q hq]at h1;cases h1
     have PJ:i∈l'.map (·.1):=A_ λhn=>by have:=(r i r1).2 ⟨DQ,hn⟩;rw[r2]at this;cases this
     obtain⟨u,U,Pb⟩:=C_.1 PJ;obtain⟨l1,l2,z⟩:=List.append_of_mem U;obtain⟨i',b,o⟩:=u;simp only at Pb;subst Pb;have L:(l'.map (·.1)).Nodup:=(M.map _).nodup Hx;have JT:∀v∈l1,v.2.1=true/\(!((gD [] after).getD i' []).contains v.1)=true:=λv hv=>by
      have SW:v∈l':=by rw[z];exact r_.2 (.inl hv)
      have GS:((gD [] after).getD i' []).contains v.1=false:=by
       cases O:((gD [] after).getD i' []).contains v.1 with
       |false=>rfl|true=>
        rcases wr i' r1 r3 v.1 O with h1|h1;.rw[z,q_,l_]at L;have:=(ai_.1 L).2.2 v.1 (C_.2 ⟨v,hv,rfl⟩) i' (by simp);omega
        .rw[CT v SW]at h1;cases h1
      refine⟨?_,by rw[GS];rfl⟩;rw[z,q_,l_]at A;rcases IV A (v.1,v.2.1) (C_.2 ⟨v,hv,rfl⟩)with h1|h1;.simp only at h1;rw[GS]at h1;cases h1
      omega
     rw[z]at hs;have hh:=(zdM l1 [] f hs JT).2;have SM:iL P o f (λf=>rY P (λi j=> !((gD [] after).getD j []).contains i) (λst=>j6 P ml (s.drop k) st K KP) KC [] (l1++l2) f) λ_=>KC:=by
      cases b with
      |true=>obtain⟨G,g1,g2⟩:=hh;exact H0 g1 g2
      |false=>exact rZ hh (λ_ h=>h.2) λ_ h=>h
     have Nd:=(F _ U).2;simp only at Nd;have ho:ops[i']? =some ops[i']:=z_ (by omega);have Bx:=At i' _ _ (by rw[X_];omega) Nd;obtain⟨θ,D,hI⟩:=hr;have:=ou (hp:=λY w' ⟨PB,I,hk,MT⟩=>PA hk Y _ _ ⟨PB,I,MT⟩) hI hn Bx SM (λa' w'=>wpAny P .any ops Q m (d.setIfInBounds i' true) a' w') Q (λa' w' ⟨I,h1,h2⟩=>by
      have CD:(l1++l2).Sublist l':=by rw[z];simp
      refine ih (l1++l2) _ I a' w' (by simpa using p) (λj hj=>?_) (CD.trans M) ?_ (λj lj ph E e B=>?_) ?_ h1 h2
      .rw[dW p r1];have ph:=r j hj;by_cases T:j=i'
       .subst T;simp only[if_true,true_iff];refine⟨DQ,λhm=>?_⟩;rw[z,q_,l_]at L;obtain⟨n1,n2,n3⟩:=ai_.1 L;rw[q_]at hm;rcases r_.1 hm with h5|h5;.exact n3 _ h5 j (by simp) rfl
        .exact(ax_.1 n2).1 h5
       .rw[if_neg T,ph,z];simp only[q_,l_,r_,T_,T,false_or]
      .rw[z,q_,l_]at A;rw[q_];exact FD A
      .rw[dW p r1]at E⊢;split at E
       .rename_i T;subst T;split;.rfl
        .exact r3 lj ph e B
       .split;.rfl
        .exact el j lj ph E e B
      .rw[z]at J;simp only[H_,U_]at J⊢;omega)
     unfold wpOp;rw[ho];simp only;split;.rename_i hw;rw[if_pos hw]at this;exact .inl this
     .rename_i hw;rw[if_neg hw]at this;omega
 refine wp_region_any hm ?_;obtain⟨θ,D,hI⟩:=hr;refine qr ops.size l (v_ ops.size false) st a {w with drawn:=w.drawn+1} (by simp[hsz]) (λi C=>?_) (List.Sublist.refl _) A (λi l hl h2=>by
  have C:i<ops.size:=by have:=(c_.1 hl).1;omega
  simp[C]at h2) (by omega) h ⟨θ,D,hI.drew⟩
 have:(v_ ops.size false).getD i false=false:=by simp[hsz,C]
 rw[this];constructor;.simp
 .rintro⟨h1,h2⟩;exact absurd (DE i h1) h2
end
inductive AC where
 |skip
 |region (ops:List be)
 |draw (k:Nat) (ops:List be) (after:List (List Nat))
 |kq (ord:List (Nat×Bool)) (ops:List be) (after:List (List Nat))
 |seq (a b:AC)
 |cond (c:SX) (thn els:AC)
 |block (id:Nat) (body:AC)
 |loop (body:AC)
 |exit (id:Nat)
 |ret
 deriving Inhabited
def zbC(n:Nat)(d:Option Nat):Bool:=match d with
 |some k=>decide (k<n)
 |none=>true
def uy(P:Program)(n:Nat)(ops:Array Oper)(o:Oper):Option be:=
 (hU P o).bind λs=>
  if(zbC n o.dst&&sOk P o)=true then
   match o.guard with
   |none=>some ⟨o.dst,s,none⟩
   |some (j,want)=>((ops[j]?).bind (·.dst)).map λt=>⟨o.dst,s,some (t,want)⟩
  else none
def cq(P:Program)(n:Nat):Code->Option AC
 | .skip=>some .skip
 | .region _ ops e=>(ops.toList.mapM (uy P n ops)).map λd=>if e then .draw 0 d (qY ops)else .region d
 | .seq a b=>(cq P n a).bind λx=>(cq P n b).map λy=>.seq x y
 | .cond c a b=>(cq P n a).bind λx=>(cq P n b).map λy=>.cond (.of c) x y
 | .block id a=>(cq P n a).map (.block id)
 | .loop a=>(cq P n a).map .loop
 | .exit id=>some (.exit id)
 | .ret=>some .ret
 |_=>none
def be.canon(o:be):be:={o with op:=o.op.canon}
def AC.canon:AC->AC
 | .region ops=>.region (ops.map be.canon)
 | .draw _ ops af=>.draw 0 (ops.map be.canon) af
 | .kq _ ops af=>.draw 0 (ops.map be.canon) af
 | .seq a b=>.seq a.canon b.canon
 | .cond c a b=>.cond c a.canon b.canon
 | .block id a=>.block id a.canon
 | .loop a=>.loop a.canon
 |x=>x
def AC.okB:AC->Bool
 | .draw k ops af=>AK af&&Af ops (G2 af) k&&decide (k<=ops.length)
 | .kq ord ops af=>AK af&&Bl ops.length (G2 af) ord.length&&decide (ord.length<=ops.length)&&py (G2 af) ord&&ord.all (λu=>decide (u.1<ord.length))&&decide (ord.map (·.1)).Nodup
 | .seq a b=>a.okB&&b.okB
 | .cond _ a b=>a.okB&&b.okB
 | .block _ a=>a.okB
 | .loop a=>a.okB
 |_=>true
inductive AE where
 |normal
 |exit (id:Nat)
 |ret
 |jG
def AE.then(m:Nat)(f:St->Prop)(Q:AE->St->Prop):AE->St->Prop
 | .normal,s=>W m f s
 |e,s=>Q e s
def AE.inBlock(id:Nat)(Q:AE->St->Prop):AE->St->Prop
 | .exit i,s=>if i=id then Q .normal s else Q (.exit i) s
 |e,s=>Q e s
def Mj(m:Nat)(body:(AE->St->Prop)->St->Prop)(Q:AE->St->Prop):Nat->St->Prop
 |0,_=>False
 |n+1,st=>body (AE.then m (Mj m body Q n) Q) st
def Lz(P:Program)(m:Nat):AC->(AE->St->Prop)->St->Prop
 | .skip,Q,st=>W m (Q .normal) st
 | .region d,Q,st=>j6 P m d st (Q .normal) (Q .jG)
 | .draw k d _,Q,st=>W m (λst=>ze P m k d st (Q .normal) (Q .jG)) st
 | .kq ord d af,Q,st=>W m (λst=>rY P (λi j=> !((gD [] af).getD j []).contains i) (λst=>j6 P m (d.drop ord.length) st (Q .normal) (Q .jG)) (∀s,Q .jG s) [] (ord.map λu=>(u.1,u.2,d.getD u.1 default)) st) st
 | .seq a b,Q,st=>Lz P m a (AE.then m (Lz P m b Q) Q) st
 | .cond c a b,Q,st=>W m (λst=>aR (st.get c) λv=>zz v λv=>isBool v λt=>(t=true->Lz P m a Q st)/\(t=false->Lz P m b Q st)) st
 | .block id a,Q,st=>Lz P m a (AE.inBlock id Q) st
 | .loop a,Q,st=>W m (λs=>∃n,Mj m (Lz P m a) Q n s) st
 | .exit id,Q,st=>W m (Q (.exit id)) st
 | .ret,Q,st=>W m (Q .ret) st
def AE.is:AE->Exit->Prop
 | .normal,e=>e= .normal
 | .exit i,e=>e= .exit i
 | .ret,e=>e= .ret
 | .jG,e=>∃E,qU E/\e= .panic E
def ZU{x:AC}(h:AC.skip=x.canon):x= .skip:=by cases x<;>simp_all[AC.canon]
def TB{x:AC}{s:List be}(h:AC.region s=x.canon):∃a,x= .region a/\s=a.map be.canon:=by cases x<;>simp_all[AC.canon]
def ZR{x:AC}{s:List be}{af:List (List Nat)}(h:AC.draw 0 s af=x.canon):(∃k a,x= .draw k a af/\s=a.map be.canon)\/∃ord a,x= .kq ord a af/\s=a.map be.canon:=by cases x<;>simp_all[AC.canon];all_goals grind
def zb2{x p q:AC}(h:AC.seq p q=x.canon):∃a b,x= .seq a b/\p=a.canon/\q=b.canon:=by cases x<;>simp_all[AC.canon];grind
def ZQ{x p q:AC}{s:SX}(h:AC.cond s p q=x.canon):∃a b,x= .cond s a b/\p=a.canon/\q=b.canon:=by cases x<;>simp_all[AC.canon];grind
def V7{x p:AC}{i:Nat}(h:AC.block i p=x.canon):∃a,x= .block i a/\p=a.canon:=by cases x<;>simp_all[AC.canon]
def ZT{x p:AC}(h:AC.loop p=x.canon):∃a,x= .loop a/\p=a.canon:=by cases x<;>simp_all[AC.canon]
def ZS{x:AC}{i:Nat}(h:AC.exit i=x.canon):x= .exit i:=by cases x<;>simp_all[AC.canon]
def zb1{x:AC}(h:AC.ret=x.canon):x= .ret:=by cases x<;>simp_all[AC.canon]
section
variable {P:Program} {c:Ctx}
def T1(c:Ctx)(Q:AE->St->Prop):Exit->Act->World->Prop:=λe a w=>∃b st,AE.is b e/\Q b st/\oK c st a w
theorem Io{m:Nat}(l:c.th.length<=m){f:St->Prop}{Q:AE->St->Prop}{e:Exit}{a:Act}{w:World}(h:T1 c (AE.then m f Q) e a w):Exit.then (λa w=>∃st,f st/\oK c st a w) (T1 c Q) e a w:=by
 obtain⟨k,st,b,d,hr⟩:=h;cases k with
 |normal=>cases b;obtain⟨s',h1,h2⟩:=d;exact⟨s',h2,h1 _ _ _ l hr⟩
 |exit i=>cases b;exact⟨.exit i,st,rfl,d,hr⟩|ret=>cases b;exact⟨.ret,st,rfl,d,hr⟩|jG=>obtain⟨j,g,rfl⟩:=b;exact⟨.jG,st,⟨j,g,rfl⟩,d,hr⟩
theorem P2{id:Nat}{Q:AE->St->Prop}{e:Exit}{a:Act}{w:World}(h:T1 c (AE.inBlock id Q) e a w):Exit.inBlock id (T1 c Q) e a w:=by
 obtain⟨j,st,d,b,hr⟩:=h;cases j with
 |normal=>cases d;exact⟨.normal,st,rfl,b,hr⟩|exit i=>
  cases d;simp only[Exit.inBlock];simp only[AE.inBlock]at b;split;.rename_i h;rw[if_pos h]at b;exact⟨.normal,st,rfl,b,hr⟩
  .rename_i h;rw[if_neg h]at b;exact⟨.exit i,st,rfl,b,hr⟩
 |ret=>cases d;exact⟨.ret,st,rfl,b,hr⟩|jG=>obtain⟨g,f,rfl⟩:=d;exact⟨.jG,st,⟨g,f,rfl⟩,b,hr⟩
theorem J1{n:Nat}{ops:Array Oper}{o:Oper}{s:be}(h:uy P n ops o=some s.canon):tq P n ops o s:=by
 unfold uy at h;simp only[g_]at h;obtain⟨a,h1,h2⟩:=h;split at h2;.grind[zbC,tq,be.canon,i_]
 grind
theorem pm{n:Nat}{ops:Array Oper}:∀{l:List Oper} {a:List be},l.mapM (uy P n ops)=some (a.map be.canon)->rb P n ops l a
 |[],a,h=>by simp at h;cases a with|nil=>trivial|cons s a=>grind
 |o::l,a,h=>by simp only[o_,s_,B_,g_,b_]at h;obtain⟨s',h1,m,h2,b⟩:=h;cases a with|nil=>grind|cons s a=>simp only[l_,List.cons.injEq]at b;obtain⟨rfl,rfl⟩:=b;exact⟨J1 h1,pm h2⟩
theorem ut(N:P.follows .mixedOrders=true){n m:Nat}(hn:c.n=n)(f:c.th.length<=m):∀(code:Code) (x:AC) (Q:AE->St->Prop) (st:St) (a:Act) (w:World),cq P n code=some x.canon->x.okB=true->Lz P m x Q st->oK c st a w->code.wp P (T1 c Q) a w:=by
 intro code;induction code with
 |skip=>intro x Q st a w hc b h hr;simp only[cq,b_]at hc;cases ZU hc;obtain⟨s',h1,h2⟩:=h;exact wp_skip ⟨.normal,s',rfl,h2,h1 _ _ _ f hr⟩
 |region id ops T=>
  intro x Q st a w hc b h hr;simp only[cq,i_]at hc;obtain⟨el,z,hc⟩:=hc;cases T;.simp only[ag_,if_false]at hc;obtain⟨I,rfl,rfl⟩:=TB hc;exact K9 hn f (pm z) h hr (λa w ⟨d,h1,h2⟩=>⟨.normal,d,rfl,h1,h2⟩) (λv a w ⟨g,d,h1,h2⟩=>⟨.jG,d,⟨v,g,rfl⟩,h1,h2⟩)
  .simp only[if_true]at hc;rcases ZR hc with⟨k,I,rfl,rfl⟩|⟨ord,I,rfl,rfl⟩
   rotate_left
   .simp only[AC.okB,MO,OV,K3,f_,decide_eq_true_eq,p_]at b;obtain⟨⟨⟨⟨⟨o1,o2⟩,o3⟩,o4⟩,o5⟩,o6⟩:=b;obtain⟨H,r,h⟩:=h;refine MN (l:=ord.map λu=>(u.1,u.2,I.getD u.1 default)) N hn f (pm z) rfl o1 o2 o3 ?_ (λu hu=>?_) ?_ (by simp) h (r _ _ _ f hr) (λa w ⟨d,h1,h2⟩=>⟨.normal,d,rfl,h1,h2⟩) (λv a w ⟨g,d,h1,h2⟩=>⟨.jG,d,⟨v,g,rfl⟩,h1,h2⟩) λU v a w ⟨g,d,h2⟩=>⟨.jG,d,⟨v,g,rfl⟩,U d,h2⟩;.rw[aC_];have:((λu:Nat×Bool×be=>(u.1,u.2.1))∘λu:Nat×Bool=>(u.1,u.2,I.getD u.1 default))=λu=>u:=rfl;grind[List.map_id']
    all_goals grind
   simp only[AC.okB,MO,OV,K3,f_,decide_eq_true_eq]at b;obtain⟨H,r,h⟩:=h;exact P7 N hn f (pm z) rfl b.1.1 b.1.2 b.2 h (r _ _ _ f hr) (λa w ⟨d,h1,h2⟩=>⟨.normal,d,rfl,h1,h2⟩) (λv a w ⟨g,d,h1,h2⟩=>⟨.jG,d,⟨v,g,rfl⟩,h1,h2⟩)
 |seq p q j A=>intro x Q st a w hc b h hr;simp only[cq,g_,i_]at hc;obtain⟨M,h1,x2,h2,hc⟩:=hc;obtain⟨R,y2,rfl,rfl,rfl⟩:=zb2 hc;simp only[AC.okB,f_]at b;refine wp_seq (wp_mono (j _ _ st a w h1 b.1 h hr) λe a w E=>?_);have:=Io f E;cases e<;>first|(obtain⟨d,B,C⟩:=this;exact A _ _ d a w h2 b.2 B C)|exact this
 |cond cc p q j A=>intro x Q st a w hc b h hr;simp only[cq,g_,i_]at hc;obtain⟨M,h1,x2,h2,hc⟩:=hc;obtain⟨R,y2,rfl,rfl,rfl⟩:=ZQ hc;simp only[AC.okB,f_]at b;obtain⟨H,r,av,L,Y⟩:=h;obtain⟨θ,D,J⟩:=(r _ _ _ f hr);obtain⟨t,ht,B,C⟩:=cU (J.get L) Y;exact wp_cond_split ht (λe=>j _ _ H a w h1 b.1 (B e) ⟨θ,D,J⟩) (λe=>A _ _ H a w h2 b.2 (C e) ⟨θ,D,J⟩)
 |block id p j=>intro x Q st a w hc b h hr;simp only[cq,i_]at hc;obtain⟨M,h1,hc⟩:=hc;obtain⟨R,rfl,rfl⟩:=V7 hc;exact wp_block (wp_mono (j _ _ st a w h1 b h hr) λe a w E=>P2 E)
 |loop p j=>
  intro x Q st a w hc b h hr;simp only[cq,i_]at hc;obtain⟨M,h1,hc⟩:=hc;obtain⟨y,rfl,rfl⟩:=ZT hc;obtain⟨s0,hw,O,h⟩:=h;have key:∀(F:Nat) (s:St) (a:Act) (w:World),Mj m (Lz P m y) Q F s->oK c s a w->Code.rounds P p (T1 c Q) F a w:=by intro F;induction F with|zero=>intro s a w h _;exact h.elim|succ F ih=>intro s a w h hr;refine wp_mono (j _ _ s a w h1 b h hr) λe a w E=>?_;have:=Io f E;cases e<;>first|(obtain⟨d,B,C⟩:=this;exact ih d a w B C)|exact this
  exact wp_loop_rounds O (key O s0 a w h (hw _ _ _ f hr))
 |exit id=>intro x Q st a w hc b h hr;simp only[cq,b_]at hc;cases ZS hc;obtain⟨s',h1,h2⟩:=h;exact wp_exit ⟨.exit id,s',rfl,h2,h1 _ _ _ f hr⟩
 |ret=>intro x Q st a w hc b h hr;simp only[cq,b_]at hc;cases zb1 hc;obtain⟨s',h1,h2⟩:=h;exact wp_ret ⟨.ret,s',rfl,h2,h1 _ _ _ f hr⟩
 |rangeFunc=>intro x Q st a w hc;cases hc|scope=>intro x Q st a w hc;cases hc|label=>intro x Q st a w hc;cases hc|goto=>intro x Q st a w hc;cases hc|refuse=>intro x Q st a w hc;cases hc
end
inductive RV where
 |tm (k:Nat)
 |cell (k sz:Nat) (ag:Bool)
def km(P:Program):ResultVar->Option RV
 | .tmp t=>some (.tm t)
 | .cell a t=>(bY P t).bind λs=>if(P.underlying t).isSome then some (.cell a s (iv P t))else none
def HW(st:St):RV->Option AV
 | .tm k=>look st.fr k
 | .cell k sz ag=>(look st.fr k).bind fun
  | .b (.ptr id off)=>match st.hp[id]? with
   |some (.box _ cs)=>if off+sz<=cs.length/\(ag=false->sz=1)then some (mY ag ((cs.drop off).take sz))else none
   |_=>none
  |_=>none
def Nv:List AV->AV->Prop
 |[x],r=>r=x
 |xs,r=>∃a:List BV,r= .dC a/\a.length=xs.length/\∀(i:Nat) (x:AV) (b:BV),xs[i]? =some x->a[i]? =some b->x= .b b\/∃p,x.bF=some p/\b= .pv p
def s7:Nat->List AV->List (Nat×AV)
 |_,[]=>[]
 |k,p::a=>(k,p)::s7 (k+1) a
def wU:∀(a:List AV) (k t:Nat) (x:AV),look (s7 k a) t=some x->∃i,t=k+i/\a[i]? =some x
 |[],k,t,x,h=>by cases h
 |p::a,k,t,x,h=>by
  simp only[s7,look]at h;split at h;.rename_i h1;cases h;exact⟨0,by omega,rfl⟩
  .obtain⟨i,h1,h2⟩:=wU a (k+1) t x h;exact⟨i+1,by omega,by grind⟩
def BI(m:Nat)(c:List RV)(K:Dy->Prop):AE->St->Prop
 | .exit _,_=>False
 | .jG,_=>K none
 |_,st=>W m (λst=>∃xs r,c.mapM (HW st)=some xs/\Nv xs r/\∃b a,(∀T,gN m ⟨[(T,r)],st.hp⟩ ⟨[(T,b)],a⟩)/\K (some (b,a))/\m<=a.length) st
def Be(tmps:Array Value)(r:ResultVar):Sem Value:=match r with
 | .tmp t=>pure (tmps.getD t undef)
 | .cell b t=>do loadVar t (<-asAddr (tmps.getD b undef))
def F0(fn:Func)(tmps:Array Value):results fn tmps=(do let vs<-fn.results.mapM (Be tmps);pure (if h:vs.size=1 then vs[0]else .tuple vs)):=rfl
def OA{P:Program}{c:Ctx}{θ:List Loc}{D:Nat->Prop}{st:St}{a:Act}{w:World}(l:Inv c θ D st a w){r:ResultVar}{p:RV}{x:AV}(hc:km P r=some p)(hr:HW st p=some x): ∃u,(Be a.tmps r).run P w= .ok u w/\RelA θ D w u x:=by
 cases r with
 |tmp t=>simp only[km,b_]at hc;subst hc;exact⟨_,rfl,l.fr t x hr⟩|cell b t=>
  simp only[km,g_]at hc;obtain⟨s,hs,hc⟩:=hc;split at hc
  .rename_i hd;obtain⟨d,hd⟩:=Option.isSome_iff_exists.1 hd;cases hc;simp only[HW,g_]at hr;obtain⟨y,B,hr⟩:=hr;split at hr
   .rename_i id off;split at hr
    .rename_i C cs A;split at hr
     .rename_i e;cases hr;obtain⟨z,f⟩:=e;obtain⟨g,hg,F⟩:=l.fr b _ B;obtain⟨k,h1,h2,E⟩:=l.ok.fQ id _ _ hg A;have h:off+s<=k.size:=by omega
      have n:=BU (P:=P) (w:=w) (b:=g) (o:=off) hd hs (k.extract off (off+s)).toList (by grind) f (λj v H=>by rw[cell_of_row w g _ k C (0,0) h1];grind)
      rw[pA _ _ _ _ f h]at n;grind[m4,Be,asAddr,Sem.run_bind,Sem.run_pure,Result.andThen_ok]
     grind
    grind
   grind
  grind
def Oq{θ:List Loc}{D:Nat->Prop}{w:World}{a:List Value}{xs:List AV}{r:AV}(hl:a.length=xs.length)(h:∀(i:Nat) (u:Value) (x:AV),a[i]? =some u->xs[i]? =some x->RelA θ D w u x)(hr:Nv xs r): RelA θ D w (if h:a.toArray.size=1 then a.toArray[0]else .tuple a.toArray) r:=by
 have c:xs.length≠1->(∃e:List BV,r= .dC e/\e.length=xs.length/\∀(i:Nat) (x:AV) (b:BV),xs[i]? =some x->e[i]? =some b->x= .b b\/∃p,x.bF=some p/\b= .pv p)->RelA θ D w (if h:a.toArray.size=1 then a.toArray[0]else .tuple a.toArray) r:=by
  rintro h1 ⟨e,rfl,f,g⟩;rw[dif_neg (by grind)];refine⟨_,rfl,by grind,λi u b n j=>?_⟩;obtain⟨x,k⟩:=bw f.symm j;have d:=h i u x (by grind) k;rcases g i x b k j with rfl|⟨p,hp,rfl⟩;.exact d
  .exact cQ d hp
 match xs,hl,h,hr with
 |[x],hl,h,hr=>
  subst hr
  match a,hl,h with|[u],_,h=>exact h 0 u r rfl rfl
 |[],_,_,hr=>exact c (by simp) hr|x::y::l,_,_,hr=>exact c (by simp) hr
def TG{P:Program}{f:FuncId}{fn:Func}{code:Code}{x:AC}{M:List RV}{xs:List AV}{os:List aL}{K:Dy->Prop}(hm:P.follows .mixedOrders=true)(hf:P.funcs[f]? =some fn)(N:fn.body=some code)(hc:cq P fn.ntmps code=some x.canon)(R:x.okB=true) (J:fn.results.toList.mapM (km P)=some M) (BT:xs.length<=fn.ntmps) (h:Lz P os.length x (BI os.length M K) ⟨s7 0 xs,os⟩):eG P f xs os K:=by
 intro w θ D vs hG d CT Dg;have B:θ.length=os.length:=d.len;have hO:∀b,D b->¬owns θ b:=λb N ⟨i,l,C,hl⟩=>(d.nj i l b C hl).2 N;refine calls_of_wp hf N (wp_mono (ut hm (m:=os.length) (c:=⟨fn.ntmps,w,D,owns θ,[],θ,λw' s=>?_⟩) rfl (by simp[B]) code x _ ⟨s7 0 xs,os⟩ {tmps:=vs.toArray++v_ (fn.ntmps - vs.toArray.size) undef,defers:=[]} w hc R h ?_) λe a w' H=>?_);.exact hG.mono s hO λ_ h=>h
 .refine⟨θ,D,by grind,rfl,d,nv.refl _ _,λ_ h=>h,λ_ h=>.inl h,λi l g C hg=>.inl ⟨i,l,C,hg⟩,λk y s=>?_,λ_ _ h _=>h⟩;obtain⟨i,rfl,hp⟩:=wU xs 0 k y s;have C:i<vs.length:=by grind
  have hv:=k_ C;have:(vs.toArray++v_ (fn.ntmps - vs.toArray.size) undef).getD (0+i) undef=vs[i]:=by simp[W_,C]
  grind
 .obtain⟨e',st,H,I,hr⟩:=H;have fin:(∀st,BI os.length M K .normal st->True)->W os.length (λst=>∃xs r,M.mapM (HW st)=some xs/\Nv xs r/\∃E p,(∀T,gN os.length ⟨[(T,r)],st.hp⟩ ⟨[(T,E)],p⟩)/\K (some (E,p))/\os.length<=p.length) st->a.defers=[]/\∃v,(results fn a.tmps).run P w'= .ok v w'/\Jo θ D w K (.returned v) w':=by
   rintro _ ⟨Bx,hw,ys,r,wr,L,E,p,ur,hK,CD⟩
   obtain⟨θ',D',j⟩:=hw _ _ _ (by grind) hr
   refine⟨j.defers,?_⟩
   have F:∀(l:List ResultVar) (rl:List RV) (pl:List AV),l.mapM (km P)=some rl->rl.mapM (HW Bx)=some pl->∃n:List Value,(l.mapM (Be a.tmps)).run P w'= .ok n w'/\n.length=pl.length/\∀(i:Nat) (u:Value) (q:AV),n[i]? =some u->pl[i]? =some q->RelA θ' D' w' u q:=by intro l;induction l with|nil=>intro rl pl h1 h2;simp at h1;subst h1;simp at h2;subst h2;simp|cons r l ih=>intro rl pl h1 h2;simp only[o_,s_,B_,g_,b_]at h1;obtain⟨rv,qr,Bk,gc,rfl⟩:=h1;simp only[o_,s_,B_,g_,b_]at h2;obtain⟨q0,Y,At,U,rfl⟩:=h2;obtain⟨u0,e1,e2⟩:=OA j qr Y;obtain⟨n,e3,e4,e5⟩:=ih Bk At gc U;refine⟨u0::n,?_,by grind,λi u q hu I=>?_⟩;all_goals grind[Sem.run_bind,Result.andThen_ok,Sem.run_pure]
   obtain⟨n,e1,e2,e3⟩:=F _ _ _ J wr
   have A:(results fn a.tmps).run P w'= .ok (if h:n.toArray.size=1 then n.toArray[0]else .tuple n.toArray) w':=by rw[F0,Q_];simp only[Sem.run_bind,Sem.run_map];rw[e1];rfl
   have ph:=Oq e2 e3 L
   generalize hv:(if h:n.toArray.size=1 then n.toArray[0]else .tuple n.toArray)=v at A ph
   have hsz:a.tmps.size=fn.ntmps:=j.size
   obtain⟨θ2,D2,z⟩:=ur fn.ntmps ⟨fn.ntmps+1,w,D,owns θ,[],θ,λw' s=>hG.mono s hO λ_ h=>h⟩ {tmps:=a.tmps.push v,defers:=[]} w' (by grind)
    ⟨θ',D',by grind,rfl,j.ok,j.keep,j.lW,j.nD,j.j4,(λk y s=>by
     simp only[look]at s;split at s
     .rename_i Q;cases s;subst Q;have:(a.tmps.push v).getD fn.ntmps undef=v:=by rw[<-hsz];simp
      grind
     grind),j.fix⟩
   have el:RelA θ2 D2 w' v E:=by
    have:=z.fr fn.ntmps E (by simp[look]);have e:(a.tmps.push v).getD fn.ntmps undef=v:=by rw[<-hsz];simp
    grind
   exact⟨_,A,.inl ⟨_,E,p,θ2,D2,rfl,hK,el,z.ok,z.keep,z.lW,z.nD,z.j4,z.fix,by rw[z.ok.len,B];omega⟩⟩
  cases e' with|normal=>cases H;exact fin (λ_ _=>trivial) I|ret=>cases H;exact fin (λ_ _=>trivial) I|exit i=>exact I.elim|jG=>obtain⟨ch,O,rfl⟩:=H;obtain⟨θ',D',j⟩:=hr;exact⟨j.defers,.inr ⟨ch,O,rfl,I,j.keep⟩⟩
def Loc.tN(l l':Loc):Prop:=l'=l\/∃g n cap sz O E,l= .nP g n cap sz O/\l'= .nP g n cap sz E
section
variable {θ θ':List Loc} {D:Nat->Prop} {w:World}
theorem RelB.tN(H:∀(k:Nat) (l:Loc),θ[k]? =some l->∃l',θ'[k]? =some l'/\l.tN l'){v:Value}{x:BV}(h:RelB θ D w v x):RelB θ' D w v x:=by
 have same:∀(k:Nat) (l:Loc),θ[k]? =some l->l.fixed=true->θ'[k]? =some l:=λk l hl hf=>by
  obtain⟨l',h1,h2|⟨g,n,cap,sz,O,N,rfl,rfl⟩⟩:=H k l hl;.grind
  .cases hf
 cases x with
 |pv p=>exact h|oZ=>exact h|sl k=>
  obtain⟨l,h1,h2⟩:=h;obtain⟨l',E,rfl|⟨g,n,cap,sz,O,N,rfl,rfl⟩⟩:=H k l h1;.exact⟨l',E,h2⟩
  .exact⟨_,E,h2⟩
 |ptr k off=>obtain⟨g,h1,h2⟩:=h;exact⟨g,same _ _ h1 rfl,h2⟩
 |jb k i off=>
  obtain⟨g,n,cap,sz,O,h1,h2⟩:=h;obtain⟨l',E,rfl|⟨g',n',J,el,O1,U,I,rfl⟩⟩:=H k _ h1;.exact⟨g,n,cap,sz,O,E,h2⟩
  .cases I;exact⟨g,n,cap,sz,U,E,h2⟩
 |kj f ids=>obtain⟨gs,h1,h2,E⟩:=h;exact⟨gs,h1,λk id g I Y=>same _ _ (h2 k id g I Y) rfl,E⟩
 |mp k=>obtain⟨g,h1,h2⟩:=h;exact⟨g,same _ _ h1 rfl,h2⟩
 |full p=>exact h|LD=>exact h
theorem RelA.tN(E:∀(k:Nat) (l:Loc),θ[k]? =some l->∃l',θ'[k]? =some l'/\l.tN l'){v:Value}{x:AV}(h:RelA θ D w v x):RelA θ' D w v x:=by
 cases x with
 |b x=>exact RelB.tN E h|agg xs=>obtain⟨vs,I,h1,h2⟩:=h;exact⟨vs,I,h1,λi u x H J=>(h2 i u x H J).tN E⟩
 |dC xs=>obtain⟨vs,I,h1,h2⟩:=h;exact⟨vs,I,h1,λi u x H J=>(h2 i u x H J).tN E⟩
theorem cG.tN(E:∀(k:Nat) (l:Loc),θ[k]? =some l->∃l',θ'[k]? =some l'/\l.tN l'){l:Loc}{o:aL}(h:cG θ D w l o):cG θ' D w l o:=by
 cases l<;>cases o<;>simp only[cG]at h⊢<;>try exact h
 case ek.box=>obtain⟨c,h1,h2,J⟩:=h;exact⟨c,h1,h2,λi u x hu N=>(J i u x hu N).tN E⟩
 case nP.tree hole=>obtain⟨h1,h2,J,h4,h5,c,Os,h6,h7,h8,h9,I,H⟩:=h;refine⟨h1,h2,J,h4,h5,c,Os,h6,h7,h8,h9,I,λi j x y N hy=>?_⟩;obtain⟨u,Y,U⟩:=H i j x y N hy;refine⟨u,Y,?_⟩;cases hq:dA hole i j with|none=>grind|some b=>rw[hq]at U;exact U.tN E
end
def JN:∀{k:K},k.PD=true->∀j,k.at j=none
 | .e,_,_=>rfl
 | .f _,_,0=>rfl
 | .f r,h,j+1=>JN (k:=r) h j
 | .s _ _ _ _,h,_=>by cases h
def ku(q:TypeId×Nat×K)(L:List PV):aL:=if q.2.2.PD then .vec q.1 q.2.1 L else .tree q.1 q.2.1 q.2.2 L none
def kN.inner{D:Nat->Prop}{w:World}{q:TypeId×Nat×K}{O:Nat->Prop}{v:Value}{p:PV}{L:List PV}(h:kN D w (some q) O v p)(hp:p=lB q.2.1 L): ∃l:Loc,l.head v/\(∀b,l.has b->O b)/\l.fixed=false/\∀θ,cG θ D w l (ku q L):=by
 cases h with
 |nil q O a=>
  have:L=[]:=by cases L with|nil=>rfl|cons x L=>grind[lB]
  subst this;refine⟨.nil a,rfl,λ_ h=>h.elim,rfl,λθ=>?_⟩;unfold ku;split;.rfl
  .exact⟨rfl,rfl⟩
 |nP e sz k O g cap xs p cs val Os N hcap hmax hsz hg hcs J hOs hdj hc hr=>
  have:xs=L:=Sz (N.symm.trans hp);subst this;refine⟨.nP g xs.length cap sz (λb=>O b/\b≠g),rfl,λb I=>I.elim (λe=>e▸J) λh=>h.1,rfl,λθ=>?_⟩;unfold ku;split;.rename_i U;refine⟨rfl,rfl,hcap,hmax,hsz,cs,hg,hcs,λi j x y E H=>⟨val i j,hc i j x y E H,?_⟩⟩;have:=hr i j x y E H;rw[JN U j]at this;cases this with|flat _ _ _ h=>omega
  .exact⟨rfl,rfl,hcap,hmax,hsz,cs,Os,hg,hcs,λi j b I=>⟨hOs i j b I,(hOs i j b I).2⟩,hdj,λ_ _ _ h=>(nomatch h),λi j x y E H=>⟨val i j,hc i j x y E H,hr i j x y E H⟩⟩
def RO{a β:Type} [Inhabited a]{p:Nat->Nat->a->Prop}{q:Nat->Nat->β->Prop}(h:∀i j y,q i j y->∃u,p i j u):∃f:Nat->Nat->a,∀i j y,q i j y->p i j (f i j):=by exact⟨λi j=>aJ_ (p i j),λi j y b=>(aB_ (h i j y b))⟩
def kN.outer{θ:List Loc}{D:Nat->Prop}{w:World}{q:TypeId×Nat×K}{L:List PV}{l:Loc}{v:Value}(hl:l.head v)(h:cG θ D w l (ku q L)):kN D w (some q) l.has v (lB q.2.1 L):=by
 unfold ku at h;split at h
 .rename_i hk;cases l<;>simp only[cG]at h hl;.subst h;subst hl;exact .nil _ _ _
  .rename_i g n cap s O;obtain⟨rfl,rfl,U,Y,h5,cs,h6,h7,h8⟩:=h;subst hl;obtain⟨val,E⟩:=RO (β:=PV×PV) (p:=λi j u=>∀x y,L[i]? =some x->x.cells[j]? =some y->cs[i*q.2.1+j]? =some u/\aX D w u y) (q:=λi j z=>L[i]? =some z.1/\z.1.cells[j]? =some z.2) (λi j z J=>by obtain⟨u,e1,e2⟩:=h8 i j _ _ J.1 J.2;exact⟨u,λx y H I=>by grind⟩)
   exact .nP q.1 q.2.1 q.2.2 _ g cap L _ cs val (λ_ _ _=>False) rfl U Y h5 h6 h7 (.inl rfl) (λ_ _ _ h=>h.elim) (λ_ _ _ _ _ h _=>h.elim) (λi j x y H I=>(E i j (x,y) ⟨H,I⟩ x y H I).1) λi j x y H I=>by rw[JN hk j];exact .flat _ _ _ (E i j (x,y) ⟨H,I⟩ x y H I).2
 .cases l<;>simp only[cG]at h hl;.obtain⟨rfl,-⟩:=h;subst hl;exact .nil _ _ _
  .rename_i g n cap s O;obtain⟨rfl,rfl,U,Y,h5,cs,Os,h6,h7,h9,N,-,h8⟩:=h;subst hl;obtain⟨val,E⟩:=RO (β:=PV×PV) (p:=λi j u=>∀x y,L[i]? =some x->x.cells[j]? =some y->cs[i*q.2.1+j]? =some u/\kN D w (q.2.2.at j) (Os i j) u y) (q:=λi j z=>L[i]? =some z.1/\z.1.cells[j]? =some z.2) (λi j z J=>by obtain⟨u,e1,e2⟩:=h8 i j _ _ J.1 J.2;exact⟨u,λx y H I=>by rw[J.1]at H;cases H;rw[J.2]at I;cases I;exact⟨e1,e2⟩⟩)
   exact .nP q.1 q.2.1 q.2.2 _ g cap L _ cs val Os rfl U Y h5 h6 h7 (.inl rfl) (λi j b h=>⟨.inr (h9 i j b h).1,(h9 i j b h).2⟩) N (λi j x y H I=>(E i j (x,y) ⟨H,I⟩ x y H I).1) λi j x y H I=>(E i j (x,y) ⟨H,I⟩ x y H I).2
def Rn{m:Nat}{st:St}{id i j e sz:Nat}{k:K}{xs:List PV}{x y:PV}{q:TypeId×Nat×K}{L:List PV}(ho:st.hp[id]? =some (.tree e sz k xs none))(hx:xs[i]? =some x)(hy:x.cells[j]? =some y)(hk:k.at j=some q)(hL:y=lB q.2.1 L): gN m st ⟨st.fr,st.hp.set id (.tree e sz k xs (some (i,j,.sl st.hp.length)))++[ku q L]⟩:=by
 rintro c a w _ ⟨θ,D,A⟩;have wr:id<st.hp.length:=(c_.1 ho).1;have ur:id<θ.length:=by rw[A.ok.len];omega
 obtain⟨l,hl⟩:∃l,θ[id]? =some l:=⟨θ[id],k_ ur⟩;have At:=A.ok.fQ id l _ hl ho;cases l<;>simp only[cG]at At;.grind
 rename_i g n cap s O;obtain⟨rfl,rfl,h3,h4,h5,cv,Os,h6,h7,h8,h9,-,T⟩:=At;obtain⟨u,DA,R⟩:=T i j x y hx hy;simp only[dA]at R;rw[hk]at R;obtain⟨li,ph,M,DH,qr⟩:=R.inner hL;let O1:Nat->Prop:=λb=>O b/\¬Os i j b;let l1:Loc:=.nP g xs.length cap s O1;let θ':=θ.set id l1++[li];have gc:(θ.set id l1).length=st.hp.length:=by simp[A.ok.len]
 have E:∀(k:Nat) (l:Loc),θ[k]? =some l->∃l',θ'[k]? =some l'/\l.tN l':=λk l el=>by
  have Y:k<(θ.set id l1).length:=by grind
  by_cases U:k=id;.subst U;rw[hl]at el;cases el;exact⟨l1,by show(θ.set k l1++[li])[k]? =_;rw[t_ Y,n_ ur],.inr ⟨g,xs.length,cap,s,O,O1,rfl,rfl⟩⟩
  .exact⟨l,by show(θ.set id l1++[li])[k]? =_;rw[t_ Y,m_ (Ne.symm U)];omega,.inl rfl⟩
 have C:∀(p:Nat) (f:Loc),θ'[p]? =some f->(p≠id/\θ[p]? =some f)\/(p=id/\f=l1)\/(p=st.hp.length/\f=li):=λp f hp=>by rcases aj_ p (θ.set id l1).length with h1|h1;all_goals grind
 have B:∀(p:Nat) (f:Loc) (b:Nat),θ'[p]? =some f->f.has b->∃I N,θ[I]? =some N/\N.has b/\((p≠id/\p<st.hp.length/\I=p)\/(I=id/\((p=id/\¬Os i j b)\/(p=st.hp.length/\Os i j b)))):=λp f b hp v=>by
  rcases C p f hp with⟨h1,h2⟩|⟨rfl,rfl⟩|⟨rfl,rfl⟩;.exact⟨p,f,h2,v,.inl ⟨h1,by grind,rfl⟩⟩
  .refine⟨_,_,hl,v.imp (λh=>h) λh=>h.1,.inr ⟨rfl,.inl ⟨rfl,λh=>?_⟩⟩⟩;rcases v with rfl|v;all_goals grind
  .exact⟨_,_,hl,.inr (h8 i j b (M b v)).1,.inr ⟨rfl,.inr ⟨rfl,M b v⟩⟩⟩
 refine⟨θ',D,A.size,A.defers,⟨?_,A.ok.pO,λp r f lr b hp hr CD CT=>?_,λp f b hp v=>?_,λp f o hp Q=>?_⟩,A.keep,A.lW,A.nD,λp f b hp v=>?_,λt z hz=>(A.fr t z hz).tN E,λt lt ht hf=>?_⟩;.simp[θ',A.ok.len]
 .obtain⟨I,N,H,J,e3⟩:=B p f b hp CD;obtain⟨r0,m0,f1,f2,f3⟩:=B r lr b hr CT;have:=A.ok.inj I r0 N m0 b H f1 J f2;grind
 .obtain⟨I,N,H,J,_⟩:=B p f b hp v;exact A.ok.nj I N b H J
 .have Dg:(st.hp.set id (.tree e s k xs (some (i,j,.sl st.hp.length)))).length=st.hp.length:=by simp
  rcases C p f hp with⟨h1,h2⟩|⟨rfl,rfl⟩|⟨rfl,rfl⟩
  .have DM:p<st.hp.length:=by rw[<-A.ok.len];grind
   have d:(st.hp.set id (.tree e s k xs (some (i,j,.sl st.hp.length))))[p]? =some o:=by rw[<-Q];exact(t_ (by omega)).symm
   rw[m_ (Ne.symm h1)]at d;exact(A.ok.fQ p f o h2 d).tN E
  .have d:(st.hp.set p (.tree e s k xs (some (i,j,.sl st.hp.length))))[p]? =some o:=by rw[<-Q];exact(t_ (by omega)).symm
   rw[n_ wr]at d;cases d;refine⟨rfl,rfl,h3,h4,h5,cv,λi' F b=>Os i' F b/\¬(i'=i/\F=j),h6,h7,λi' F b v=>⟨⟨(h8 i' F b v.1).1,λh=>v.2 (h9 i' F i j b v.1 h)⟩,(h8 i' F b v.1).2⟩,λi1 j1 i2 j2 b Bx BT=>h9 i1 j1 i2 j2 b Bx.1 BT.1,λi' F b v=>by cases v;exact⟨(c_.1 hx).1,by rw[hk];rfl⟩,λi' F x' y' DB DE=>?_⟩
   obtain⟨u',H,J⟩:=T i' F x' y' DB DE;refine⟨u',H,?_⟩;by_cases P:i=i'/\j=F;.obtain⟨rfl,rfl⟩:=P;simp only[dA,and_self,if_true];rw[DA]at H;cases H;exact⟨li,by show(θ.set p l1++[li])[st.hp.length]? =_;rw[List.getElem?_append_right (by omega),gc];simp,ph⟩
   .simp only[dA,if_neg P];simp only[dA]at J;refine J.mono (λ_ h=>h) (λ_ _=>rfl) (λ_ _=>rfl) |>.wide λb v=>⟨v,λh=>P ⟨h.1.symm,h.2.symm⟩⟩
  .have d:([ku q L]:List aL)[st.hp.length - (st.hp.set id (.tree e s k xs (some (i,j,.sl st.hp.length)))).length]? =some o:=by rw[<-Q];simp
   rw[Dg,Nat.sub_self]at d;cases d;exact qr _
 .obtain⟨I,N,H,J,_⟩:=B p f b hp v;exact A.j4 I N b H J
 .have h1:=A.fix t lt ht hf;by_cases Bk:t=id;.subst Bk;rw[hl]at h1;cases h1;cases hf
  .show(θ.set id l1++[li])[t]? =_;rw[t_ (by simp;grind),m_ (Ne.symm Bk)];omega
def PV.YO(x:PV)(j:Nat)(y:PV):PV:=match x with
 | .agg cs=>.agg (cs.set j y)
 |_=>y
theorem xg{x y:PV}{j:Nat}(a:j<x.cells.length)(b:y.cells=[y]):(x.YO j y).cells=x.cells.set j y:=by
 cases x with
 |agg cs=>rfl|_=>
  simp only[PV.cells,U_,au_]at a;obtain rfl:j=0:=by omega
  exact b
theorem AL(sz:Nat)(L:List PV):(lB sz L).cells=[lB sz L]:=by cases L<;>rfl
def Rm{m:Nat}{st:St}{id kid i j e sz:Nat}{k:K}{xs:List PV}{x:PV}{q:TypeId×Nat×K}{L:List PV}(ho:st.hp[id]? =some (.tree e sz k xs (some (i,j,.sl kid))))(hx:xs[i]? =some x)(hj:j<x.cells.length)(hk:k.at j=some q)(el:st.hp[kid]? =some (ku q L))(Dg:kid≠id): gN m st ⟨st.fr.map λx=>(x.1,x.2.kill kid),((st.hp.map (aL.kill kid)).set kid .gone).set id (.tree e sz k (xs.set i (x.YO j (lB q.2.1 L))) none)⟩:=by
 rintro c a w _ ⟨θ,D,v⟩;have Hx:id<st.hp.length:=(c_.1 ho).1;have DS:kid<st.hp.length:=(c_.1 el).1;have Fk:id<θ.length:=by rw[v.ok.len];omega
 have Bx:kid<θ.length:=by rw[v.ok.len];omega
 obtain⟨l,hl⟩:∃l,θ[id]? =some l:=⟨θ[id],k_ Fk⟩;obtain⟨l2,H⟩:∃l,θ[kid]? =some l:=⟨θ[kid],k_ Bx⟩;have DB:=v.ok.fQ id l _ hl ho;have C:=v.ok.fQ kid l2 _ H el;cases l<;>simp only[cG]at DB;.grind
 rename_i g n cap s O;obtain⟨rfl,rfl,h3,h4,h5,cv,Os,h6,h7,h8,h9,KK,ph⟩:=DB;have hi:i<xs.length:=(c_.1 hx).1;obtain⟨u,Nd,DE⟩:=ph i j x _ hx (k_ hj);simp only[dA,and_self,if_true]at DE;obtain⟨Pa,gc,ur⟩:=DE;rw[H]at gc;cases gc;have JT:=kN.outer ur C;have Y:l2.fixed=false:=by unfold ku at C;split at C<;>cases l2<;>simp only[cG]at C<;>rfl
 have CT:∀g,l2≠.ek g:=λg e=>by subst e;cases Y
 have DA:∀g,l2≠.mp g:=λg e=>by subst e;cases Y
 let O1:Nat->Prop:=λb=>O b\/l2.has b;let l1:Loc:=.nP g xs.length cap s O1;let J:=θ.set kid .no;let θ':=J.set id l1;have BT:J[id]? =some (.nP g xs.length cap s O):=by grind
 have CD:id<J.length:=(c_.1 BT).1;have I:∀(k:Nat) (l:Loc),J[k]? =some l->∃l',θ'[k]? =some l'/\l.tN l':=λk l Bk=>by
  by_cases DQ:k=id;.subst DQ;rw[BT]at Bk;cases Bk;exact⟨l1,n_ CD,.inr ⟨g,xs.length,cap,s,O,O1,rfl,rfl⟩⟩
  .exact⟨l,by grind,.inl rfl⟩
 have F:∀(p:Nat) (f:Loc),θ'[p]? =some f->(p≠id/\p≠kid/\θ[p]? =some f)\/(p=id/\f=l1)\/(p=kid/\f= .no):=λp f hp=>by grind
 have B:∀(p:Nat) (f:Loc) (b:Nat),θ'[p]? =some f->f.has b->∃N l0,θ[N]? =some l0/\l0.has b/\((p≠id/\p≠kid/\N=p)\/(p=id/\(N=id\/N=kid))):=λp f b hp A=>by
  rcases F p f hp with⟨h1,wr,h2⟩|⟨rfl,rfl⟩|⟨rfl,rfl⟩;.grind
  .rcases A with A|A|A;.exact⟨_,_,hl,.inl A,.inr ⟨rfl,.inl rfl⟩⟩
   .exact⟨_,_,hl,.inr A,.inr ⟨rfl,.inl rfl⟩⟩
   grind
  .exact A.elim
 refine⟨θ',D,v.size,v.defers,⟨?_,v.ok.pO,λp r f lr b hp hr DM DP=>?_,λp f b hp A=>?_,λp f o hp Fm=>?_⟩,v.keep,v.lW,v.nD,λp f b hp A=>?_,λt z hz=>?_,λt lt ht hf=>?_⟩;.simp[θ',J,v.ok.len]
 .obtain⟨N,l0,P,E,e3⟩:=B p f b hp DM;obtain⟨r0,m0,f1,f2,f3⟩:=B r lr b hr DP;have:=v.ok.inj N r0 l0 m0 b P f1 E f2;omega
 .obtain⟨N,l0,P,E,_⟩:=B p f b hp A;exact v.ok.nj N l0 b P E
 .have d:(((st.hp.map (aL.kill kid)).set kid .gone).set id (.tree e s k (xs.set i (x.YO j (lB q.2.1 L))) none))[p]? =some o:=Fm;rcases F p f hp with⟨h1,wr,h2⟩|⟨rfl,rfl⟩|⟨rfl,rfl⟩;.rw[m_ (Ne.symm h1),m_ (Ne.symm wr),ah_]at d;obtain⟨o0,qr,rfl⟩:=i_.1 d;exact((v.ok.fQ p f o0 h2 qr).kill H CT DA).tN I
  .rw[n_ (by grind)]at d;cases d;have GS:∀b,l2.has b->¬(b=g\/O b):=λb A At=>Dg (v.ok.inj kid p l2 _ b H hl A At);refine⟨rfl,by simp,h3,h4,λy hy=>?_,cv,λi' M b=>(i'=i/\M=j/\l2.has b)\/(¬(i'=i/\M=j)/\Os i' M b),h6,h7,λi' M b A=>?_,λi1 j1 i2 j2 b MT At=>?_,λ_ _ _ h=>(nomatch h),λi' M x' y' T U=>?_⟩;.grind[List.mem_or_eq_of_mem_set,xg,AL,List.length_set,Y_]
   .grind
   .grind
   .simp only[dA];by_cases Q:i'=i
    .subst Q;rw[n_ hi]at T;cases T;rw[xg hj (AL _ _)]at U;by_cases R:M=j;.subst R;grind
     .rw[m_ (Ne.symm R)]at U;obtain⟨u',P,E⟩:=ph i' M x y' hx U;simp only[dA,true_and,if_neg (show ¬(j=M)from λh=>R h.symm)]at E;exact⟨u',P,E.wide λb A=>.inr ⟨λh=>R h.2,A⟩⟩
    .rw[m_ (Ne.symm Q)]at T;obtain⟨u',P,E⟩:=ph i' M x' y' T U;simp only[dA,if_neg (show ¬(i=i'/\j=M)from λh=>Q h.1.symm)]at E;exact⟨u',P,E.wide λb A=>.inr ⟨λh=>Q h.1,A⟩⟩
  .rw[m_ (Ne.symm Dg),n_ (by grind)]at d;cases d;trivial
 .obtain⟨N,l0,P,E,_⟩:=B p f b hp A;exact v.j4 N l0 b P E
 .have DH:look (st.fr.map λx=>(x.1,x.2.kill kid)) t=some z:=hz;rw[mc]at DH;obtain⟨z0,qr,rfl⟩:=i_.1 DH;exact((v.fr t z0 qr).kill H CT DA).tN I
 .have h1:=v.fix t lt ht hf;by_cases Fr:t=id;.subst Fr;rw[hl]at h1;cases h1;cases hf
  grind
section
variable {P:Program}
theorem Ou{fn:Func}{rs:List RV}{K:Dy->Prop}{w w':World}{D:Nat->Prop}{c:Ctx}{st:St}{a:Act}(hn:c.n=fn.ntmps)(hw:c.w0=w)(hD:c.D0=D)(hO:c.O0=owns []) (C:fn.results.toList.mapM (km P)=some rs) (hr:oK c st a w') {ys:List AV} {r H:AV} {s:List aL} (Y:rs.mapM (HW st)=some ys) (E:Nv ys r) (U:∀T,gN 0 ⟨[(T,r)],st.hp⟩ ⟨[(T,H)],s⟩) (hK:K (some (H,s))): ∃v,(results fn a.tmps).run P w'= .ok v w'/\Jo [] D w K (.returned v) w':=by
 obtain⟨θ',D',j⟩:=hr;have z:∀(l:List ResultVar) (rl:List RV) (pl:List AV),l.mapM (km P)=some rl->rl.mapM (HW st)=some pl->∃b:List Value,(l.mapM (Be a.tmps)).run P w'= .ok b w'/\b.length=pl.length/\∀(i:Nat) (u:Value) (q:AV),b[i]? =some u->pl[i]? =some q->RelA θ' D' w' u q:=by
  intro l;induction l with
  |nil=>intro rl pl h1 h2;simp at h1;subst h1;simp at h2;subst h2;simp|cons r l ih=>
   intro rl pl h1 h2;simp only[o_,s_,B_,g_,b_]at h1;obtain⟨rv,R,gc,Q,rfl⟩:=h1;simp only[o_,s_,B_,g_,b_]at h2;obtain⟨q0,N,el,M,rfl⟩:=h2;obtain⟨u0,I,e2⟩:=OA j R N;obtain⟨b,J,e4,e5⟩:=ih gc el Q M;refine⟨u0::b,?_,by simp[e4],λi u q hu hq=>?_⟩;.rw[o_,Sem.run_bind,I];simp only[Result.andThen_ok,Sem.run_bind,J,Sem.run_pure]
   grind
 obtain⟨b,I,e2,J⟩:=z _ _ _ C Y;have g:(results fn a.tmps).run P w'= .ok (if h:b.toArray.size=1 then b.toArray[0]else .tuple b.toArray) w':=by rw[F0,Q_];simp only[Sem.run_bind,Sem.run_map];rw[I];rfl
 have F:=Oq e2 J E;generalize hv:(if h:b.toArray.size=1 then b.toArray[0]else .tuple b.toArray)=v at g F;have hsz:a.tmps.size=fn.ntmps:=by rw[<-hn];exact j.size
 have p:=c.gk;have d:=j.keep;have A:=j.lW;have n:=j.nD;have B:=j.j4;rw[hw,hO]at p d;rw[hD]at A n p;rw[hw,hO]at n B;obtain⟨θ2,D2,x⟩:=U fn.ntmps ⟨fn.ntmps+1,w,D,owns [],[],[],p⟩ {tmps:=a.tmps.push v,defers:=[]} w' (by simp)
  ⟨θ',D',by simp[hsz],rfl,j.ok,d,A,n,B,(λk y f=>by
   simp only[look]at f;split at f
   .rename_i L;cases f;subst L;have:(a.tmps.push v).getD fn.ntmps undef=v:=by rw[<-hsz];simp[aI_]
    rw[this];exact F
   .cases f),λk l f=>by simp at f⟩
 have O:RelA θ2 D2 w' v H:=by
  have:=x.fr fn.ntmps H (by simp[look]);have e:(a.tmps.push v).getD fn.ntmps undef=v:=by rw[<-hsz];simp[aI_]
  rw[e]at this;exact this
 exact⟨_,g,.inl ⟨_,H,s,θ2,D2,rfl,hK,O,x.ok,x.keep,x.lW,x.nD,x.j4,λk l f=>by simp at f,Nat.zero_le _⟩⟩
structure Catch(P:Program)(h:FuncId)(CH:Code):Prop where
 ex:∃hn j t1 t2 p1 p2 a1 a2,P.funcs[h]? =some hn/\hn.ntmps=5/\hn.results= #[]/\
  hn.body=some (.seq (.region j #[⟨some 2,.call {callee:=.builtin .recover,args:= #[],argTypes:= #[]},t1,p1,a1,none⟩,⟨some 3,.binOp .neq t1 (.tmp 2) (.const .nilIface) t1,t2,p2,a2,none⟩] false) (.cond (.tmp 3) CH .skip))/\
  (∃ms,P.underlying t1=some (.interface ms))/\(hn.name== "runtime.NumGoroutine")=false
theorem Catch.idle{h:FuncId}{CH:Code}(hc:Catch P h CH)(pa pb:Value)(w:World):CallsD P h #[pa,pb] .returning w λe u' w'=>e= .returned (.tuple #[])/\u'= .returning/\w'=w:=by obtain⟨hn,j,t1,t2,p1,p2,a1,a2,U,H,J,N,⟨ms,I⟩,_⟩:=hc.ex;refine callsD_of_wpS U N λE cs Y=>?_;apply wpS_seq;apply wpS_region;simp[wpOpsS,go_sem,recoverD,Y,H,Exit.thenS,I];refine wpS_cond (t:=false) (by simp[Act.eval,v_]) ?_;simp only[ag_,if_false];refine wpS_of_wp (wp_skip ?_);cases E;simp_all[bodyPostS,results]
theorem Catch.panicking{h:FuncId}{CH:Code}(hc:Catch P h CH)(pa pb:Value)(w:World)(t:TypeId)(v:Value){Cc:World->Prop} (E:∀x y,CH.wp P (λe U w'=>(e= .normal\/e= .ret)/\U.defers=[]/\Cc w') {tmps:= #[pa,pb,x,y,undef],defers:=[]} w): CallsD P h #[pa,pb] (.panicking [{v:=.iface t v,recovered:=false}]) w λe u' w'=>e= .returned (.tuple #[])/\u'= .panicking [{v:=.iface t v,recovered:=true}]/\Cc w':=by obtain⟨hn,j,t1,t2,p1,p2,a1,a2,hf,I,el,hb,⟨ms,N⟩,_⟩:=hc.ex;refine callsD_of_wpS hf hb λY cs hu=>?_;apply wpS_seq;apply wpS_region;simp[wpOpsS,go_sem,recoverD,hu,I,Exit.thenS,N];refine wpS_cond (t:=true) (by simp[Act.eval,v_]) ?_;simp only[if_true];refine wpS_of_wp (wp_mono (E _ _) λe U w' he=>?_);obtain⟨H,gc,J⟩:=he;rcases H with rfl|rfl<;>simp_all[bodyPostS,results]
theorem Inv.loose{c:Ctx}{θ:List Loc}{D:Nat->Prop}{st:St}{a:Act}{w:World}{ds:List Deferred}{th:List Loc}(h:Inv c θ D st a w)(E:∀(k:Nat) (l:Loc),th[k]? =some l->l.fixed=true->θ[k]? =some l):Inv ⟨c.n,c.w0,c.D0,c.O0,ds,th,c.gk⟩ θ D st {tmps:=a.tmps,defers:=ds} w:=⟨h.size,rfl,h.ok,h.keep,h.lW,h.nD,h.j4,h.fr,E⟩
def zdC(P:Program)(b:AC)(a:List RV)(ta tb:Nat)(K:Dy->Prop):AE->St->Prop
 | .normal,st| .ret,st=>BI 0 a K .normal st
 | .exit _,_=>False
 | .jG,st=>W 2 (λst=>look st.fr ta=some (.b (.ptr 0 0))/\look st.fr tb=some (.b (.ptr 1 0))/\
  Lz P 2 b (λe s=>(e= .normal\/e= .ret)/\BI 0 a K .normal ⟨[(ta,.b (.ptr 0 0)),(tb,.b (.ptr 1 0))],s.hp⟩) ⟨[(0,.b (.ptr 0 0)),(1,.b (.ptr 1 0))],st.hp⟩) st
theorem Px{f h:FuncId}{fn:Func}{CA CB CH:Code}{xa xb xh:AC}{rs:List RV}{xs:List AV}{K:Dy->Prop}{ta tb t8 j:Nat}{y3 y4:TypeId}{p3 p4:String}{a3 a4:Array Edge}(hm:P.follows .mixedOrders=true)(hf:P.funcs[f]? =some fn) (hb:fn.body=some (.seq CA (.seq (.region j #[⟨some t8,.makeFunc (.func h) #[] #[.tmp ta,.tmp tb],y3,p3,a3,none⟩,⟨none,.defer {callee:=.value (.tmp t8),args:= #[],argTypes:= #[]},y4,p4,a4,none⟩] false) CB))) (Dg:cq P fn.ntmps CA=some xa.canon) (wr:xa.okB=true) (DA:cq P fn.ntmps CB=some xb.canon) (At:xb.okB=true) (DB:cq P 5 CH=some xh.canon) (Bk:xh.okB=true) (d:Catch P h CH) (M:fn.results.toList.mapM (km P)=some rs) (PA:xs.length<=fn.ntmps) (Hx:t8<fn.ntmps) (h0:Lz P 0 xa (λe st=>e= .normal/\(look st.fr t8=none/\look st.fr ta=some (.b (.ptr 0 0))/\look st.fr tb=some (.b (.ptr 1 0))/\st.hp.length=2)/\Lz P 2 xb (zdC P xh rs ta tb K) st) ⟨s7 0 xs,[]⟩):eG P f xs [] K:=by
 intro w θ D vs hG E RK RM;have Bx:θ.length=0:=E.len;obtain rfl:θ=[]:=List.eq_nil_of_length_eq_zero Bx;have hO:∀b,D b->¬owns [] b:=λb hb ⟨i,l,hi,hl⟩=>by grind
 refine calls_of_wp_defers hf hb ?_;apply wp_seq;have C:∀w',nv (owns []) w w'->GW D w':=λw' p=>hG.mono p hO λ_ h=>h;refine wp_mono (ut hm (m:=0) (c:=⟨fn.ntmps,w,D,owns [],[],[],C⟩) rfl (by simp) CA xa _ ⟨s7 0 xs,[]⟩ {tmps:=vs.toArray++v_ (fn.ntmps - vs.toArray.size) undef,defers:=[]} w Dg wr h0 ?_) λe I w1 he=>?_
 .refine⟨[],D,by grind,rfl,E,nv.refl _ _,λ_ h=>h,λ_ h=>.inl h,λi l g hi hg=>by grind,λk y p=>?_,λ_ _ h _=>h⟩;obtain⟨i,rfl,hp⟩:=wU xs 0 k y p;have hi:i<vs.length:=by grind
  have hv:=k_ hi;have:(vs.toArray++v_ (fn.ntmps - vs.toArray.size) undef).getD (0+i) undef=vs[i]:=by simp[W_,hi]
  grind
 obtain⟨e',st,B,⟨rfl,⟨h8,DS,Fk,DQ⟩,h1⟩,n,D1,u⟩:=he;cases B;obtain⟨H,el,JT⟩:∃g,n[0]? =some (Av.Loc.ek g)/\I.tmps.getD ta undef= .pointer (some ⟨g,0,none⟩):=u.fr ta _ DS;obtain⟨gb,ph,KK⟩:∃g,n[1]? =some (Av.Loc.ek g)/\I.tmps.getD tb undef= .pointer (some ⟨g,0,none⟩):=u.fr tb _ Fk;have PB:n=[Av.Loc.ek H,Av.Loc.ek gb]:=by
  have hl:=u.ok.len;rw[DQ]at hl
  match n,hl,el,ph with|[x,y],_,el,ph=>grind
 show Code.wp P _ _ I w1;apply wp_seq;apply wp_region;have gc:I.tmps[ta]?.getD undef= .pointer (some ⟨H,0,none⟩):=by simpa using JT
 have qr:I.tmps[tb]?.getD undef= .pointer (some ⟨gb,0,none⟩):=by simpa using KK
 have hsz:I.tmps.size=fn.ntmps:=u.size;simp[wpOps,go_sem,Instr.makeFunc,gc,qr,hsz,Hx];refine .inl (.inl ?_);have DE:I.defers=[]:=u.defers;rw[DE];generalize Rg:(Value.func (Fn.func h) #[] #[Value.pointer (some {block:=H,off:=0}),Value.pointer (some {block:=gb,off:=0})])=v8;generalize A:({target:=Target.fn (Fn.func h) #[Value.pointer (some {block:=H,off:=0}),Value.pointer (some {block:=gb,off:=0})],args:= #[]}:Deferred)=Y;have BT:Inv ⟨fn.ntmps,w,D,owns [],[Y],n,C⟩ n D1 st {tmps:=I.tmps.setIfInBounds t8 v8,defers:=[Y]} w1:=by
  refine⟨by grind,rfl,u.ok,u.keep,u.lW,u.nD,u.j4,λk x p=>?_,λ_ _ h _=>h⟩;have Fm:k≠t8:=λe=>by grind
  have:=u.fr k x p;simpa[Array.getD_eq_getD_getElem?,Array.getElem?_setIfInBounds,Ne.symm Fm]using this
 have N:∀w,(invoke Y.target Y.args).run P w= .ok (.enter h #[Value.pointer (some {block:=H,off:=0}),Value.pointer (some {block:=gb,off:=0})]) w:=by
  intro w;subst A;obtain⟨hn,_,_,_,_,_,_,_,DP,_,_,CT,_,PJ⟩:=d.ex;have ur:¬hn.name= "runtime.NumGoroutine" :=by grind
  simp[invoke,callFunc,DP,CT,ur,go_sem]
 refine wp_mono (ut hm (m:=2) (c:=⟨fn.ntmps,w,D,owns [],[Y],n,C⟩) rfl (by grind) CB xb _ st _ w1 DA At h1 ⟨n,D1,BT⟩) λe a w' he=>?_;obtain⟨e',Pa,B,hq,θ2,D2,s⟩:=he;have L:a.defers=[Y]:=s.defers;have fin:BI 0 rs K .normal Pa->Go.Leaves P fn a.tmps (Jo [] D w K) a.defers .returning w':=by rintro⟨RT,hw,ys,r,T,F,r',Nd,R,hK,_⟩;have hr:=hw _ _ _ (by simp) ⟨θ2,D2,s.loose (ds:=[]) (th:=[]) λ_ _ h _=>by grind⟩;obtain⟨v,e1,e2⟩:=Ou rfl rfl rfl rfl M hr T F R hK;rw[L,<-A];refine leaves_cons (by simp) (by subst A;exact N w') ((d.idle _ _ w').mono ?_);rintro e u' Pc ⟨rfl,rfl,rfl⟩;exact⟨v,e1,e2⟩
 cases e' with
 |normal=>cases B;exact fin hq|ret=>cases B;exact fin hq|exit i=>exact hq.elim|jG=>
  obtain⟨ch,⟨t,v,rfl⟩,rfl⟩:=B;obtain⟨Pb,MT,ha,CD,hq⟩:=hq;obtain⟨θ2,D2,s⟩:=MT _ _ _ (by grind) ⟨θ2,D2,s⟩;have f1:θ2[0]? =some (Av.Loc.ek H):=s.fix 0 _ (by omega) rfl;have f2:θ2[1]? =some (Av.Loc.ek gb):=s.fix 1 _ (by omega) rfl;obtain⟨g,hg,va⟩:∃g,θ2[0]? =some (Av.Loc.ek g)/\a.tmps.getD ta undef= .pointer (some ⟨g,0,none⟩):=s.fr ta _ ha;obtain rfl:H=g:=by grind
  obtain⟨g,hg,vb⟩:∃g,θ2[1]? =some (Av.Loc.ek g)/\a.tmps.getD tb undef= .pointer (some ⟨g,0,none⟩):=s.fr tb _ CD;obtain rfl:gb=g:=by grind
  show Go.Leaves P fn a.tmps (Jo [] D w K) a.defers (.panicking _) w';rw[L,<-A];refine leaves_cons (by simp) (by subst A;exact N w') ((d.panicking (Cc:=λw3=>∃v,(results fn a.tmps).run P w3= .ok v w3/\Jo [] D w K (.returned v) w3) _ _ w' t v λx y=>?_).mono ?_)
  .refine wp_mono (ut hm (m:=2) (c:=⟨5,w,D,owns [],[],n,C⟩) rfl (by grind) CH xh _ _ _ w' DB Bk hq ⟨θ2,D2,by simp,rfl,s.ok,s.keep,s.lW,s.nD,s.j4,λk z p=>?_,s.fix⟩) λe3 a3 w3 DH=>?_
   .simp only[look]at p;split at p;.rename_i O;cases p;subst O;exact⟨H,f1,rfl⟩
    .split at p;.rename_i Q;cases p;subst Q;exact⟨gb,f2,rfl⟩
     grind
   .obtain⟨e4,Pb,DM,⟨Fr,GS⟩,U,D4,J⟩:=DH;refine⟨by rcases Fr with rfl|rfl<;>cases DM<;>simp,J.defers,?_⟩;obtain⟨So,hw,ys,r,T,F,r',Nd,R,hK,_⟩:=GS;have f3:U[0]? =some (Av.Loc.ek H):=J.fix 0 _ (by omega) rfl;have f4:U[1]? =some (Av.Loc.ek gb):=J.fix 1 _ (by omega) rfl;have hr:=hw ⟨fn.ntmps,w,D,owns [],[],[],C⟩ {tmps:=a.tmps,defers:=[]} w3 (by simp) ⟨U,D4,s.size,rfl,J.ok,J.keep,J.lW,J.nD,J.j4,λk z p=>(by
     simp only[look]at p;split at p;.rename_i O;cases p;subst O;exact⟨H,f3,va⟩
     .split at p;.rename_i Q;cases p;subst Q;exact⟨gb,f4,vb⟩
      grind),λ_ _ h _=>by grind⟩
    exact Ou (a:={tmps:=a.tmps,defers:=[]}) rfl rfl rfl rfl M hr T F R hK
  .rintro e u' Pc ⟨rfl,rfl,v,e1,e2⟩;exact⟨v,e1,e2⟩
end
end Go.Av
namespace Go.Ev
open Go Go.RowKit Go.Av
inductive Rx where
 |mk (kind lo hi:Int) (kids:List Rx)
 deriving Inhabited
inductive Ty where
 |int (k:IntKind)
 |bool
 |str
 |list (t:Ty)
 |unit
 |pair (a b:Ty)
 |rx
 deriving Inhabited,DecidableEq
@[reducible] def Ty.den:Ty->Type
 | .int _=>Int
 | .bool=>Bool
 | .str=>List UInt8
 | .list t=>List t.den
 | .unit=>Unit
 | .pair a b=>a.den×b.den
 | .rx=>Rx
def Ty.sz:Ty->Nat
 | .unit=>0
 | .pair a b=>a.sz+b.sz
 | .rx=>4
 |_=>1
def Ty.ag:Ty->Bool
 | .unit=>true
 | .pair _ _=>true
 | .rx=>true
 |_=>false
mutual
def WJ:Rx->PV
 | .mk k l h ks=>.agg [.sc (.int .i64 k),.sc (.int .i64 l),.sc (.int .i64 h),lB 4 (J3 ks)]
def J3:List Rx->List PV
 |[]=>[]
 |r::a=>WJ r::J3 a
end
def aM:(t:Ty)->t.den->PV
 | .int k,x=>.sc (.int k x)
 | .bool,x=>.sc (.bool x)
 | .str,x=>.sc (.string ⟨x.toArray⟩)
 | .list t,x=>lB t.sz (x.map (aM t))
 | .unit,_=>.agg []
 | .pair a b,x=>.agg ((aM a x.1).cells++(aM b x.2).cells)
 | .rx,x=>WJ x
inductive V where
 |d (t:Ty) (x:t.den)
 |nil (t:Ty)
 |agg (vs:List V)
 |dC (vs:List V)
 |sl (id:Nat)
 |ptr (id off:Nat)
 |jb (id i off:Nat)
 |dp (t:Ty) (x:t.den)
 |kj (f:FuncId) (ids:List Nat)
 |HQ (f:FuncId) (cs:List ((t:Ty)×t.den))
 |mp (id:Nat)
 |full (t:Ty) (x:List t.den)
 |LF (id off n:Nat) (t:Ty) (i:Int)
 |raw (v:Value)
 |any
 |LD
 |lit (k:K) (t:Ty) (xs:List t.den)
instance:Inhabited V:=⟨.raw Go.undef⟩
inductive Ob where
 |gone
 |free
 |box (tid:TypeId) (cs:List V)
 |vec (tid:TypeId) (t:Ty) (xs:List t.den)
 |map (k e:TypeId) (a b:Ty) (kvs:List (a.den×b.den))
 |tree (tid:TypeId) (k:K) (t:Ty) (xs:List t.den) (hole:Option (Nat×Nat×V))
instance:Inhabited Ob:=⟨.gone⟩
def dz(k:K)(t:Ty)(x:t.den):PV:=match aM t x with
 | .agg cs=>.agg (cs.mapIdx λj y=>if(k.at j).isSome then vu else y)
 |y=>if(k.at 0).isSome then vu else y
def aU:V->BV
 | .d t x=>.pv (aM t x)
 | .nil _=>.oZ
 | .sl id=>.sl id
 | .ptr id off=>.ptr id off
 | .jb id i off=>.jb id i off
 | .dp t x=>.pv (.BS (aM t x))
 | .kj f ids=>.kj (.func f) ids
 | .HQ f cs=>.pv (.fn (.func f) (cs.map λc=>.BS (aM c.1 c.2)))
 | .mp id=>.mp id
 | .full t x=>.full (lB t.sz (x.map (aM t)))
 | .raw v=>bG v
 | .LF id off _ t i=>.ptr id (off+i.toNat*t.sz)
 | .any=>.pv .any
 | .LD=>.LD
 | .lit k t xs=>.pv (lB t.sz (xs.map (dz k t)))
 | .agg _=>.pv .any
 | .dC _=>.pv .any
def a8:V->AV
 | .agg vs=>.agg (vs.map aU)
 | .dC vs=>.dC (vs.map aU)
 |v=>.b (aU v)
def zdE:Option (Nat×Nat×V)->Option (Nat×Nat×BV)
 |some (i,j,v)=>some (i,j,aU v)
 |none=>none
def bT:Ob->aL
 | .gone=>.gone
 | .free=>.free
 | .box t cs=>.box t (cs.map aU)
 | .vec e t xs=>.vec e t.sz (xs.map (aM t))
 | .map k e a b kvs=>.map k e (kvs.map λp=>(aM a p.1,aM b p.2))
 | .tree e k t xs h=>.tree e t.sz k (xs.map (aM t)) (zdE h)
structure S where
 fr:List (Nat×V)
 hp:List Ob
def enc(s:S):St:=⟨s.fr.map λx=>(x.1,a8 x.2),s.hp.map bT⟩
def lk:List (Nat×V)->Nat->Option V
 |[],_=>none
 |(k,a)::l,t=>bif a_ t k then some a else lk l t
def S.put(s:S)(d:Nat)(v:V):S:=⟨(d,v)::s.fr,s.hp⟩
def S.aE(s:S)(d:Option Nat)(v:V):S:=match d with
 |some d=>s.put d v
 |none=>s
def bA(t u:Ty)(x:t.den):Option u.den:=if h:t=u then some (h▸x)else none
def bU{R:Type}(b:Bool)(x:Option R):Option R:=bif b then x else none
def lx{a:Type}(xs:List a)(i:Int):Option a:=bif decide (0<=i)then xs[i.toNat]? else none
def OB:Ty:=.pair (.int .i64) (.pair (.int .i64) (.pair (.int .i64) (.pair (.list .rx) .unit)))
def Rx.out:Rx->OB.den
 | .mk k l h ks=>(k,l,h,ks,())
def qG:(t:Ty)->(off:Nat)->(u:Ty)->t.den->Option u.den
 | .pair a b,off,u,x=>bif (decide (Ty.pair a b=u)&&a_ off 0)then bA (.pair a b) u x else bif j_ (off+1) a.sz then qG a off u x.1 else qG b (off - a.sz) u x.2
 | .rx,off,u,x=>match off with
  |0=>bif decide (u= .rx)then bA .rx u x else bA (.int .i64) u x.out.1
  |1=>bA (.int .i64) u x.out.2.1
  |2=>bA (.int .i64) u x.out.2.2.1
  |3=>bA (.list .rx) u x.out.2.2.2.1
  |_=>none
 |t,off,u,x=>bif a_ off 0 then bA t u x else none
def kJ:(t:Ty)->(off:Nat)->(u:Ty)->t.den->u.den->Option t.den
 | .pair a b,off,u,x,y=>bif (decide (Ty.pair a b=u)&&a_ off 0)then bA u (.pair a b) y else bif j_ (off+1) a.sz then(match kJ a off u x.1 y with|some z=>some (z,x.2)|none=>none)else(match kJ b (off - a.sz) u x.2 y with|some z=>some (x.1,z)|none=>none)
 | .rx,off,u,x,y=>bif a_ off 0&&decide (u= .rx)then bA u .rx y else none
 |t,off,u,_,y=>bif a_ off 0 then bA u t y else none
def gz:(t:Ty)->t.den->List V
 | .unit,_=>[]
 | .pair a b,x=>gz a x.1++gz b x.2
 | .rx,x=>[.d (.int .i64) x.out.1,.d (.int .i64) x.out.2.1,.d (.int .i64) x.out.2.2.1,.d (.list .rx) x.out.2.2.2.1]
 |t,x=>[.d t x]
def iD(u:Ty):V->Option u.den
 | .d t x=>bA t u x
 | .nil t=>bA (.list t) u ([]:List t.den)
 | .full t x=>bA (.list t) u x
 |_=>none
def PH:(t:Ty)->List V->Option (t.den×List V)
 | .unit,l=>some ((),l)
 | .pair a b,l=>match PH a l with
  |some (x,l)=>match PH b l with
   |some (y,l)=>some ((x,y),l)
   |none=>none
  |none=>none
 | .rx,l=>match l with
  |a::b::c::e::l=>match iD (.int .i64) a,iD (.int .i64) b,iD (.int .i64) c,iD (.list .rx) e with
   |some a,some b,some c,some e=>some (.mk a b c e,l)
   |_,_,_,_=>none
  |_=>none
 |t,l=>match l with
  |v::l=>match iD t v with
   |some x=>some (x,l)
   |none=>none
  |[]=>none
def cr(t:Ty)(v:V):Option t.den:=match v with
 | .agg vs=>match t.ag with
  |true=>match PH t vs with
   |some (x,[])=>some x
   |_=>none
  |false=>none
 |v=>iD t v
def dc:V->List V
 | .d t x=>gz t x
 | .agg vs=>vs
 |v=>[v]
def whole(t:Ty)(cs:List V):V:=match t.ag with
 |true=>.agg cs
 |false=>match cs.headD default with
  | .agg _=>.any
  | .dC _=>.any
  |v=>v
def V.BC:V->Bool
 | .d t _=> !t.ag
 | .agg _=>false
 | .dC _=>false
 | .any=>false
 | .lit _ _ _=>false
 | .raw v=>v.oneCell'
 |_=>true
def V.okB:V->Bool
 | .d _ _=>true
 | .agg vs=>vs.all V.BC
 | .dC _=>false
 |v=>v.BC
def V.RL:V->Bool
 | .d _ _=>true
 | .nil _=>true
 | .full _ _=>true
 |_=>false
def hZ:(t:Ty)->t.den->t.den->Bool
 | .int _,x,y=>x==y
 | .bool,x,y=>x==y
 | .str,x,y=>x==y
 | .unit,_,_=>true
 | .pair a b,x,y=>hZ a x.1 y.1&&hZ b x.2 y.2
 |_,_,_=>false
def Ty.Eh:Ty->Bool
 | .int _=>true
 | .bool=>true
 | .str=>true
 | .unit=>true
 | .pair a b=>a.Eh&&b.Eh
 |_=>false
def di(a b:Ty):List (a.den×b.den)->a.den->Option b.den
 |[],_=>none
 |(k,v)::l,x=>bif hZ a x k then some v else di a b l x
def fe(a b:Ty):List (a.den×b.den)->a.den->b.den->List (a.den×b.den)
 |[],x,y=>[(x,y)]
 |(k,v)::l,x,y=>bif hZ a x k then(x,y)::l else(k,v)::fe a b l x y
def Ty.zero:(t:Ty)->t.den
 | .int _=>(0:Int)
 | .bool=>false
 | .str=>[]
 | .list _=>[]
 | .unit=>()
 | .pair a b=>(a.zero,b.zero)
 | .rx=>.mk 0 0 0 []
def Ty.flat:Ty->Bool
 | .list _=>false
 | .rx=>false
 | .pair a b=>a.flat&&b.flat
 |_=>true
inductive X where
 |tm (k:Nat)
 |k (t:Ty) (x:t.den)
 |nil (t:Ty)
 |ag (vs:List V)
 |f (n:Nat)
 |raw (v:Value)
 deriving Inhabited
def S.get(s:S):X->Option V
 | .tm k=>lk s.fr k
 | .k t x=>some (.d t x)
 | .nil t=>some (.nil t)
 | .ag vs=>some (.agg vs)
 | .f n=>some (.HQ n [])
 | .raw v=>some (.raw v)
inductive Slot where
 |tm (k:Nat) (t:Ty)
 |cell (id j:Nat) (t:Ty)
 |vec (id:Nat) (e:TypeId) (t:Ty)
 |map (id:Nat) (k e:TypeId) (a b:Ty)
 |tree (id:Nat) (e:TypeId) (k:K) (t:Ty)
 |iM (id:Nat) (e:TypeId) (k:K) (t:Ty) (j kid:Nat)
@[reducible] def Slot.ty:Slot->Ty
 | .tm _ t=>t
 | .cell _ _ t=>t
 | .vec _ _ t=>.list t
 | .map _ _ _ a b=>.list (.pair a b)
 | .tree _ _ _ t=>.list t
 | .iM _ _ _ t _ _=>.pair (.list t) (.int .i64)
@[reducible] def HL:List Slot->Type
 |[]=>Unit
 |s::l=>s.ty.den×HL l
structure Sh where
 keep:List Nat
 sk:S
 sl:List Slot
def V.rJ:V->Bool
 | .d _ _=>true
 | .dp _ _=>true
 | .HQ _ _=>true
 |_=>false
def dX(fr:List (Nat×V)):List Nat->List (Nat×V)
 |[]=>[]
 |k::l=>match lk fr k with
  |some v=>bif v.rJ then(k,v)::dX fr l else dX fr l
  |none=>dX fr l
def W4(fr:List (Nat×V))(k:Nat):Bool:=match lk fr k with
 |some v=>v.rJ
 |none=>false
def Sh.base(sh:Sh)(s:S):S:=⟨dX s.fr sh.keep++sh.sk.fr,sh.sk.hp⟩
def setAt{a:Type}:List a->Nat->a->List a
 |[],_,_=>[]
 |_::l,0,y=>y::l
 |x::l,n+1,y=>x::setAt l n y
def setCell(hp:List Ob)(id j:Nat)(v:V):List Ob:=match hp[id]? with
 |some (.box t cs)=>setAt hp id (.box t (setAt cs j v))
 |_=>hp
def unpack:(sl:List Slot)->HL sl->S->S
 |[],_,s=>s
 | .tm k t::l,c,s=>unpack l c.2 ⟨(k,.d t c.1)::s.fr,s.hp⟩
 | .cell id j t::l,c,s=>unpack l c.2 ⟨s.fr,setCell s.hp id j (.d t c.1)⟩
 | .vec id e t::l,c,s=>unpack l c.2 ⟨s.fr,setAt s.hp id (.vec e t c.1)⟩
 | .map id k e a b::l,c,s=>unpack l c.2 ⟨s.fr,setAt s.hp id (.map k e a b c.1)⟩
 | .tree id e k t::l,c,s=>unpack l c.2 ⟨s.fr,setAt s.hp id (.tree e k t c.1 none)⟩
 | .iM id e k t j kid::l,c,s=>unpack l c.2 ⟨s.fr,setAt s.hp id (.tree e k t c.1.1 (some (Int.toNat c.1.2,j,.sl kid)))⟩
def V.same:V->V->Bool
 | .sl i,.sl j=>a_ i j
 | .ptr i o,.ptr j p=>a_ i j&&a_ o p
 | .mp i,.mp j=>a_ i j
 | .kj f E,.kj g H=>a_ f g&&decide (E=H)
 | .nil t,.nil u=>decide (t=u)
 | .raw (.pointer none),.raw (.pointer none)=>true
 | .raw (.map none),.raw (.map none)=>true
 | .raw .nilFunc,.raw .nilFunc=>true
 | .raw .nilIface,.raw .nilIface=>true
 |_,_=>false
def ki:List V->List V->Bool
 |[],[]=>true
 | .any::l,_::m=>ki l m
 | .agg xs::l,.agg ys::m=>(xs.length==ys.length)&&ki l m
 |x::l,y::m=>V.same x y&&ki l m
 |_,_=>false
def SE:Ob->Ob->Bool
 | .gone,_=>true
 | .box t cs,.box u ds=>a_ t u&&ki cs ds
 | .vec e t _,.vec c g _=>a_ e c&&decide (t=g)
 | .map k e a b _,.map f c d b' _=>a_ k f&&a_ e c&&decide (a=d)&&decide (b=b')
 | .tree e k t _ h,.tree c f g _ h'=>a_ e c&&decide (k=f)&&decide (t=g)&&(match h,h' with
  |none,none=>true
  |some (_,j,.sl a),some (_,l,.sl d)=>a_ j l&&a_ a d
  |_,_=>false)
 |_,_=>false
def AT:List Ob->List Ob->Bool
 |[],[]=>true
 |a::l,b::m=>SE a b&&AT l m
 |_,_=>false
def EP(fr:List (Nat×V)):List (Nat×V)->Bool
 |[]=>true
 |(k,v)::l=>(match lk fr k with|some w=>V.same v w|none=>false)&&EP fr l
def S.fits(sk s:S):Bool:=EP s.fr sk.fr&&AT sk.hp s.hp
def gL(s:S):(x:Slot)->Option x.ty.den
 | .tm k t=>match lk s.fr k with
  |some v=>cr t v
  |none=>none
 | .cell id j t=>match s.hp[id]? with
  |some (.box _ cs)=>match cs[j]? with
   |some v=>iD t v
   |none=>none
  |_=>none
 | .vec id _ t=>match s.hp[id]? with
  |some (.vec _ u xs)=>bA (.list u) (.list t) xs
  |_=>none
 | .map id _ _ a b=>match s.hp[id]? with
  |some (.map _ _ c b' kvs)=>bA (.list (.pair c b')) (.list (.pair a b)) kvs
  |_=>none
 | .tree id _ _ t=>match s.hp[id]? with
  |some (.tree _ _ u xs none)=>bA (.list u) (.list t) xs
  |_=>none
 | .iM id _ _ t _ _=>match s.hp[id]? with
  |some (.tree _ _ u xs (some (i,_,_)))=>match bA (.list u) (.list t) xs with
   |some xs=>some (xs,(i:Int))
   |none=>none
  |_=>none
def FF(s:S):(sl:List Slot)->Option (HL sl)
 |[]=>some ()
 |x::l=>match gL s x with
  |some c=>match FF s l with
   |some r=>some (c,r)
   |none=>none
  |none=>none
def pack(sh:Sh)(s:S):Option (HL sh.sl):=match S.fits sh.sk s&&sh.keep.all (W4 s.fr)with
 |true=>FF s sh.sl
 |false=>none
def Jf(hp:List Ob):Slot->Bool
 | .vec id e t=>match hp[id]? with
  |some (.vec c g _)=>a_ e c&&decide (t=g)
  |_=>false
 | .map id k e a b=>match hp[id]? with
  |some (.map d c h b' _)=>a_ k d&&a_ e c&&decide (a=h)&&decide (b=b')
  |_=>false
 | .tree id e k t=>match hp[id]? with
  |some (.tree c d g _ none)=>a_ e c&&decide (k=d)&&decide (t=g)
  |_=>false
 | .iM id e k t j kid=>match hp[id]? with
  |some (.tree c d g _ (some (_,l,.sl f)))=>a_ e c&&decide (k=d)&&decide (t=g)&&a_ j l&&a_ kid f
  |_=>false
 |_=>true
def zaX(sl:List Slot):Nat->List Ob->Bool
 |_,[]=>true
 |i,o::l=>(match o with
  | .vec _ _ _=>sl.any λx=>match x with
   | .vec j _ _=>a_ j i
   |_=>false
  | .map _ _ _ _ _=>sl.any λx=>match x with
   | .map j _ _ _ _=>a_ j i
   |_=>false
  | .tree _ _ _ _ _=>sl.any λx=>match x with
   | .tree j _ _ _=>a_ j i
   | .iM j _ _ _ _ _=>a_ j i
   |_=>false
  |_=>true)&&zaX sl (i+1) l
def Sh.zB(sh:Sh):Bool:=sh.sl.all (Jf sh.sk.hp)&&zaX sh.sl 0 sh.sk.hp
@[reducible] def XT:List (Nat×Sh)->Type
 |[]=>Empty
 |[(_,sh)]=>HL sh.sl
 |(_,sh)::l=>HL sh.sl⊕XT l
def inj:(xs:List (Nat×Sh))->Nat->S->Option (XT xs)
 |[],_,_=>none
 |[(k,sh)],key,s=>bif a_ k key then pack sh s else none
 |(k,sh)::a::l,key,s=>bif a_ k key then(match pack sh s with|some c=>some (.inl c)|none=>none)else(match inj (a::l) key s with|some c=>some (.inr c)|none=>none)
def jg{R:Type}(s:S)(κ:Nat->S->Option R):(xs:List (Nat×Sh))->XT xs->Option R
 |[],_=>none
 |[(k,sh)],c=>κ k (unpack sh.sl c (sh.base s))
 |(k,sh)::a::l,c=>aH_ (λc=>κ k (unpack sh.sl c (sh.base s))) (λc=>jg s κ (a::l) c) c
inductive B2 where
 |freeze (id:Nat)
 |We (k:Nat) (e:TypeId) (t:Ty)
 |Pz (id j:Nat) (e:TypeId) (t:Ty)
 |sel (ids:List Nat) (ks:List Nat)
 |drop (ks:List Nat)
 |focus (id k j:Nat) (u:Ty)
 |close (id:Nat)
 |PC (k:Nat) (e:TypeId) (kk:K) (t:Ty)
 |JM (id j:Nat) (e:TypeId) (kk:K) (t:Ty)
def V.eM(ρ:Nat->Nat):V->V
 | .sl id=>.sl (ρ id)
 | .ptr id off=>.ptr (ρ id) off
 | .LF id off n t i=>.LF (ρ id) off n t i
 | .jb id i off=>.jb (ρ id) i off
 | .kj f ids=>.kj f (ids.map ρ)
 | .mp id=>.mp (ρ id)
 |x=>x
def V.CM:V->List Nat
 | .sl id=>[id]
 | .ptr id _=>[id]
 | .LF id _ _ _ _=>[id]
 | .jb id _ _=>[id]
 | .kj _ ids=>ids
 | .mp id=>[id]
 |_=>[]
def jD(g:V->V):V->V
 | .agg vs=>.agg (vs.map g)
 | .dC vs=>.dC (vs.map g)
 |v=>g v
def zdQ(g:V->V):Option (Nat×Nat×V)->Option (Nat×Nat×V)
 |some (i,j,v)=>some (i,j,g v)
 |none=>none
def rO(g:V->V):Ob->Ob
 | .box t cs=>.box t (cs.map g)
 | .tree e k t xs h=>.tree e k t xs (zdQ g h)
 |o=>o
def V.ids:V->List Nat
 | .agg vs=>vs.flatMap V.CM
 | .dC vs=>vs.flatMap V.CM
 |v=>v.CM
def V.BL:V->List Nat
 | .sl id=>[id]
 | .jb id _ _=>[id]
 |_=>[]
def V.kids:V->List Nat
 | .agg vs=>vs.flatMap V.BL
 | .dC vs=>vs.flatMap V.BL
 |v=>v.BL
def Ob.kids:Ob->List Nat
 | .box _ cs=>cs.flatMap V.BL
 | .tree _ _ _ _ (some (_,_,v))=>v.BL
 |_=>[]
def Ob.ids:Ob->List Nat
 | .box _ cs=>cs.flatMap V.CM
 | .tree _ _ _ _ (some (_,_,v))=>v.CM
 |_=>[]
def S.map(g:V->V)(s:S):S:=⟨s.fr.map λx=>(x.1,jD g x.2),s.hp.map (rO g)⟩
def V.yt(id:Nat):V->V
 | .sl k=>bif a_ k id then .any else .sl k
 | .jb k i o=>bif a_ k id then .any else .jb k i o
 |v=>v
def S.fC(s:S)(id:Nat)(o:Ob):S:=⟨s.fr.map λx=>(x.1,jD (V.yt id) x.2),setAt (s.hp.map (rO (V.yt id))) id o⟩
def EU(l:List Nat)(x:Nat):Nat:=l.idxOf x
def kM(l:List Nat)(x:Nat):Bool:=l.any (a_ x)
def allIn(l m:List Nat):Bool:=m.all (kM l)
def VE(id:Nat)(t:Ty)(x:List t.den):V->V
 | .sl k=>bif a_ k id then .d (.list t) x else .sl k
 | .jb k i o=>bif a_ k id then .any else .jb k i o
 |v=>v
def rI(e:TypeId)(k:K)(u:Ty)(L:List u.den):Ob:=bif k.PD then .vec e u L else .tree e k u L none
def yQ(e:TypeId)(k:K)(u:Ty):Ob->Option (List u.den)
 | .vec a t xs=>bif k.PD&&a_ e a then bA (.list t) (.list u) xs else none
 | .tree a b t xs none=>bif !k.PD&&a_ e a&&decide (k=b)then bA (.list t) (.list u) xs else none
 |_=>none
def WG:Ty->Nat->Option Ty
 | .list u,0=>some u
 | .pair a b,off=>bif j_ (off+1) a.sz then WG a off else WG b (off - a.sz)
 |_,_=>none
def mz:B2->S->Option S
 | .freeze id,s=>match s.hp[id]? with
  |some (.vec _ t xs)=>some (let s':=s.map (VE id t xs);⟨s'.fr,setAt s'.hp id .gone⟩)
  |some (.tree _ _ t xs none)=>some (let s':=s.map (VE id t xs);⟨s'.fr,setAt s'.hp id .gone⟩)
  |_=>none
 | .focus id k j u,s=>match lk s.fr k,s.hp[id]? with
  |some (.d (.int _) n),some (.tree e kk t xs none)=>match kk.at j with
   |some (b,a,c)=>bif a_ a u.sz&&decide (0<=n)then e_ xs[n.toNat]? λx=>(match qG t j (.list u) x with
    |some L=>some ⟨s.fr,setAt s.hp id (.tree e kk t xs (some (n.toNat,j,.sl s.hp.length)))++[rI b c u L]⟩
    |none=>none)else none
   |none=>none
  |_,_=>none
 | .close id,s=>match s.hp[id]? with
  |some (.tree e kk t xs (some (i,j,.sl kid)))=>bif a_ kid id then none else(match kk.at j,s.hp[kid]?,WG t j with
   |some (b,a,c),some o,some u=>match yQ b c u o with
    |some L=>bif a_ a u.sz then e_ xs[i]? λx=>(match kJ t j (.list u) x L with
     |some y=>some (let s':=s.fC kid .gone;⟨s'.fr,setAt s'.hp id (.tree e kk t (xs.set i y) none)⟩)
     |none=>none)else none
    |none=>none
   |_,_,_=>none)
  |_=>none
 | .We k e t,s=>match lk s.fr k with
  |some (.nil _)=>some ⟨(k,.sl s.hp.length)::s.fr,s.hp++[.vec e t []]⟩
  |_=>none
 | .Pz id j e t,s=>match s.hp[id]? with
  |some (.box u cs)=>match cs[j]? with
   |some (.nil _)=>some ⟨s.fr,setAt s.hp id (.box u (setAt cs j (.sl s.hp.length)))++[.vec e t []]⟩
   |_=>none
  |_=>none
 | .PC k e kk t,s=>match lk s.fr k with
  |some (.nil _)=>some ⟨(k,.sl s.hp.length)::s.fr,s.hp++[.tree e kk t [] none]⟩
  |_=>none
 | .JM id j e kk t,s=>match s.hp[id]? with
  |some (.box u cs)=>match cs[j]? with
   |some (.nil _)=>some ⟨s.fr,setAt s.hp id (.box u (setAt cs j (.sl s.hp.length)))++[.tree e kk t [] none]⟩
   |_=>none
  |_=>none
 | .sel ids ks,s=>match ids.mapM (λi=>s.hp[i]?),ks.mapM (λk=>(lk s.fr k).map λv=>(k,v))with
  |some os,some fr=>bif decide ids.Nodup&&os.all (λo=>allIn ids o.ids)&&fr.all (λx=>allIn ids x.2.ids)then
   some ⟨fr.map λx=>(x.1,jD (V.eM (EU ids)) x.2),os.map (rO (V.eM (EU ids)))⟩else none
  |_,_=>none
 | .drop ks,s=>some ⟨s.fr.filter λx=> !kM ks x.1,s.hp⟩
def Wd:List B2->S->Option S
 |[],s=>some s
 |a::l,s=>match mz a s with
  |some s=>Wd l s
  |none=>none
def Wc{R:Type}:B2->S->(S->Option R)->Option R
 | .focus id k j u,s,κ=>match lk s.fr k,s.hp[id]? with
  |some (.d (.int _) n),some (.tree e kk t xs none)=>match kk.at j with
   |some (c,b,d)=>bif a_ b u.sz then bU (decide (0<=n)) (e_ xs[n.toNat]? λx=>(match qG t j (.list u) x with
    |some L=>κ ⟨s.fr,setAt s.hp id (.tree e kk t xs (some (n.toNat,j,.sl s.hp.length)))++[rI c d u L]⟩
    |none=>none))else none
   |none=>none
  |_,_=>none
 | .close id,s,κ=>match s.hp[id]? with
  |some (.tree e kk t xs (some (i,j,.sl kid)))=>bif a_ kid id then none else(match kk.at j,s.hp[kid]?,WG t j with
   |some (c,b,d),some o,some u=>match yQ c d u o with
    |some L=>bif a_ b u.sz then e_ xs[i]? λx=>(match kJ t j (.list u) x L with
     |some y=>κ (let s':=s.fC kid .gone;⟨s'.fr,setAt s'.hp id (.tree e kk t (xs.set i y) none)⟩)
     |none=>none)else none
    |none=>none
   |_,_,_=>none)
  |_=>none
 |a,s,κ=>match mz a s with
  |some s=>κ s
  |none=>none
def vH{R:Type}:List B2->S->(S->Option R)->Option R
 |[],s,κ=>κ s
 |a::l,s,κ=>Wc a s λs=>vH l s κ
inductive Arg where
 |d (t:Ty)
 |x
inductive lQ where
 |mv (x:X)
 |pick (c a b:X)
 |bin (op:BinOp) (x y:X)
 |G8 (neg:Bool) (x y:X)
 |sL (neg:Bool) (tid:TypeId) (t:Ty) (x y:X)
 |un (op:UnOp) (x:X)
 |len (str:Bool) (x:X)
 |oY (k e:TypeId) (x:X)
 |qC (x i:X)
 |pX (n:Nat) (t:Ty) (x i:X)
 |qA (t:Ty) (x i:X)
 |qB (n:Nat) (t:Ty) (x i:X)
 |oW (off:Nat) (t:Ty) (x:X)
 |Iy (off:Nat) (t:Ty) (x:X)
 |load (t:Ty) (x:X)
 |store (t:Ty) (x v:X)
 |alloc (tid:TypeId) (zero:List V)
 |box (tid:TypeId) (x:X)
 |qj (tid:TypeId) (t:Ty) (x:X)
 |build (zero:List V) (parts:List (Nat×Nat×X))
 |bI (own:Bool) (tid:TypeId) (t:Ty) (len:Nat) (parts:List X)
 |cO (tid:TypeId) (t:Ty) (bytes:Nat) (l c:X)
 |append (tid:TypeId) (t:Ty) (bytes:Nat) (x y:X)
 |qm (k:IntKind) (x:X)
 |Je (full:Bool) (t:Ty) (x:X) (lo hi mx:Option X)
 |qJ (x:X) (lo hi:Option X)
 |ext (x:X) (i:Nat)
 |rR (x:X)
 |call (bor:Bool) (f:FuncId) (args:List (Arg×X)) (sh:Sh)
 |gP (jG bor:Bool) (B:List Nat) (f:FuncId) (args:List (Arg×X)) (sh:Sh)
 |fw (jG bor:Bool) (B:List Nat) (num:Nat) (x:X) (args:List (Arg×X)) (sh:Sh)
 |G3 (x:X)
 |rQ (f:FuncId) (caps:List X)
 |ir (k e:TypeId) (a b:Ty)
 |lookup (k e:TypeId) (ok:Bool) (a b:Ty) (m x:X)
 |ic (k e:TypeId) (a b:Ty) (m x v:X)
 |copy (tid:TypeId) (t:Ty) (x y:X)
 |mX (mx:Bool) (k:IntKind) (x:X) (ys:List X)
 |panic (x:X)
 |iface (tid:TypeId) (x:X)
 |pj (tid:TypeId) (t:Ty) (len:Nat) (parts:List X)
 |pM (tid:TypeId) (t:Ty) (bytes:Nat) (x y:X)
 |eo (tid:TypeId) (k:K) (t:Ty) (len:Nat) (parts:List X)
 |dE (tid:TypeId) (k:K) (u:Ty) (bytes:Nat) (l c:X)
 |pN (tid:TypeId) (k:K) (t:Ty) (bytes:Nat) (x y:X)
 |im (bor:Bool) (num:Nat) (x:X) (args:List (Arg×X)) (sh:Sh)
 |uq (k:Nat) (op:lQ)
abbrev bh:=FuncId->List V->List Ob->Option (Option S)
section
variable {R:Type}
def Z0(op:BinOp)(k c:IntKind)(a b:Int)(κ:V->Option R):Option R:=
 match op with
 | .shl=>bU (decide (0<=b)) (κ (.d (.int k) (k.wrap (a*2^(min b.toNat k.bits)))))
 | .shr=>bU (decide (0<=b)) (κ (.d (.int k) (a.fdiv (2^(min b.toNat k.bits)))))
 |op=>bif decide (k=c)then(match op with
  | .add=>κ (.d (.int k) (k.wrap (a+b)))
  | .sub=>κ (.d (.int k) (k.wrap (a - b)))
  | .mul=>κ (.d (.int k) (k.wrap (a*b)))
  | .quo=>bU (b != 0) (κ (.d (.int k) (k.wrap (a.tdiv b))))
  | .rem=>bU (b != 0) (κ (.d (.int k) (a.tmod b)))
  | .and=>κ (.d (.int k) (kh k .and a b))
  | .or=>κ (.d (.int k) (kh k .or a b))
  | .xor=>κ (.d (.int k) (kh k .xor a b))
  | .andNot=>κ (.d (.int k) (kh k .andNot a b))
  | .eql=>κ (.d .bool (a==b))
  | .neq=>κ (.d .bool (a != b))
  | .lss=>κ (.d .bool (decide (a<b)))
  | .leq=>κ (.d .bool (decide (a<=b)))
  | .gtr=>κ (.d .bool (decide (a>b)))
  | .geq=>κ (.d .bool (decide (a>=b)))
  |_=>none)else none
def Z1(op:BinOp)(a b:List UInt8)(κ:V->Option R):Option R:=
 match op with
 | .add=>bU (decide (a.length+b.length<=9223372036854775807)) (κ (.d .str (a++b)))
 | .eql=>κ (.d .bool (a==b))
 | .neq=>κ (.d .bool (!(a==b)))
 | .lss=>κ (.d .bool (Op.bytesLess a b))
 | .leq=>κ (.d .bool (Op.bytesLess a b||a==b))
 | .gtr=>κ (.d .bool (!(Op.bytesLess a b||a==b)))
 | .geq=>κ (.d .bool (!(Op.bytesLess a b)))
 |_=>none
def intOf(v:Option V)(κ:Int->Option R):Option R:=match v with
 |some (.d (.int _) n)=>κ n
 |_=>none
def i6(hp:List Ob)(t:Ty)(v:Option V)(κ:List t.den->Option R):Option R:=match v with
 |some (.sl id)=>match hp[id]? with
  |some (.vec _ u xs)=>match bA (.list u) (.list t) xs with
   |some xs=>κ xs
   |none=>none
  |_=>none
 |some v=>match iD (.list t) v with
  |some xs=>κ xs
  |none=>none
 |none=>none
def vJ(s:S)(x:Option X)(a:Nat)(κ:Nat->Option R):Option R:=match x with
 |none=>κ a
 |some x=>intOf (s.get x) λn=>bU (decide (0<=n)) (κ n.toNat)
def rowAt(t:Ty):Nat->V->Int->Option t.den
 |n+1,.d (.pair a b) x,m=>match bA a t x.1 with
  |some y=>bif decide (m=0)then some y else rowAt t n (.d b x.2) (m - 1)
  |none=>none
 |n+1,.agg vs,m=>match PH t vs with
  |some (x,l)=>bif decide (m=0)then some x else rowAt t n (.agg l) (m - 1)
  |none=>none
 |_,_,_=>none
def xd(t:Ty)(y:t.den):Nat->List V->Int->Option (List V)
 |n+1,vs,m=>match PH t vs with
  |some (x,l)=>match xd t y n l (m - 1)with
   |some r=>some (gz t (bif decide (m=0)then y else x)++r)
   |none=>none
  |none=>none
 |0,vs,_=>some vs
def loadT(hp:List Ob)(t:Ty)(v:Option V)(κ:V->Option R):Option R:=match v with
 |some (.dp u x)=>match bA u t x with
  |some x=>κ (.d t x)
  |none=>none
 |some (.ptr id off)=>match hp[id]? with
  |some (.box _ cs)=>bif j_ (off+t.sz) cs.length then κ (whole t ((cs.drop off).take t.sz))else none
  |_=>none
 |some (.LF id off n u m)=>match hp[id]? with
  |some (.box _ cs)=>bif j_ (off+n*u.sz) cs.length&&decide (u=t)then e_ (rowAt t n (.agg ((cs.drop off).take (n*u.sz))) m) λx=>κ (.d t x)else none
  |_=>none
 |some (.jb id i off)=>match hp[id]? with
  |some (.vec _ u xs)=>bif decide (u=t)|| !a_ t.sz u.sz then e_ xs[i]? λx=>(match qG u off t x with
   |some y=>κ (.d t y)
   |none=>none)else none
  |some (.tree _ k u xs hole)=>bif k.mJ off t.sz then e_ xs[i]? λx=>(match qG u off t x with
   |some y=>κ (.d t y)
   |none=>none)else(match hole with
    |some (a,b,v)=>bif a_ b off&& !t.ag&&j_ (off+1) u.sz&&(match v with| .sl _=>true|_=>false)then e_ xs[i]? λ_=>bU (a_ a i) (κ v)else none
    |none=>none)
  |_=>none
 |_=>none
def fS(cs:List V)(off:Nat)(vs:List V):List V:=cs.take off++vs++cs.drop (off+vs.length)
def storeT(s:S)(t:Ty)(a:Option V)(v:Option V)(κ:S->Option R):Option R:=match a,v with
 |some (.ptr id off),some v=>match s.hp[id]? with
  |some (.box tid cs)=>bif a_ (dc v).length t.sz&&j_ (off+t.sz) cs.length&&v.okB then κ ⟨s.fr,setAt s.hp id (.box tid (fS cs off (dc v)))⟩else none
  |_=>none
 |some (.LF id off n u m),some v=>match s.hp[id]?,cr t v with
  |some (.box tid cs),some y=>bif j_ (off+n*u.sz) cs.length&&decide (u=t)&&j_ 1 t.sz then(match xd t y n ((cs.drop off).take (n*u.sz)) m with
   |some vs=>bU (decide (0<=m)&&decide (m<n)) (κ ⟨s.fr,setAt s.hp id (.box tid (fS cs off vs))⟩)
   |none=>none)else none
  |_,_=>none
 |some (.jb id i off),some v=>match s.hp[id]?,cr t v with
  |some (.vec e u xs),some y=>bif decide (u=t)|| !a_ t.sz u.sz then e_ xs[i]? λx=>(match kJ u off t x y with
   |some z=>κ ⟨s.fr,setAt s.hp id (.vec e u (xs.set i z))⟩
   |none=>none)else none
  |some (.tree e k u xs hole),some y=>bif k.mJ off t.sz&&u.ag then e_ xs[i]? λx=>(match kJ u off t x y with
   |some z=>κ ⟨s.fr,setAt s.hp id (.tree e k u (xs.set i z) hole)⟩
   |none=>none)else none
  |some (.tree e k u xs (some (b,c,_))),none=>(match v with
   | .sl kid=>bif a_ c off&&a_ t.sz 1&&j_ (off+1) u.sz then e_ xs[i]? λ_=>bU (a_ b i) (κ ⟨s.fr,setAt s.hp id (.tree e k u xs (some (b,c,.sl kid)))⟩)else none
   |_=>none)
  |_,_=>none
 |_,_=>none
def V.isRef:V->Bool
 | .sl _=>true
 | .ptr _ _=>true
 | .LF _ _ _ _ _=>true
 | .jb _ _ _=>true
 | .kj _ _=>true
 | .mp _=>true
 |_=>false
def Ie(s:S)(bor:Bool)(B:List Nat)(a:Arg×X):Option V:=match a.1,s.get a.2 with
 | .d (.list t),some (.sl id)=>bif bor&& !kM B id then(match s.hp[id]? with
  |some (.vec _ u xs)=>match bA (.list u) (.list t) xs with
   |some xs=>some (.d (.list t) xs)
   |none=>none
  |some (.tree _ _ u xs none)=>match bA (.list u) (.list t) xs with
   |some xs=>some (.d (.list t) xs)
   |none=>none
  |_=>none)else none
 | .d t,some v=>match cr t v with
  |some x=>some (.d t x)
  |none=>none
 | .x,some v=>match v with
  | .d _ _=>none
  | .nil _=>none
  | .full _ _=>none
  | .raw (.slice _ _ _)=>none
  | .agg vs=>bif vs.any V.isRef then some (.agg vs)else none
  |v=>some v
 |_,none=>none
def kZ(s:S)(bor:Bool)(B:List Nat):List (Arg×X)->Option (List V)
 |[]=>some []
 |a::l=>match Ie s bor B a with
  |some v=>match kZ s bor B l with
   |some vs=>some (v::vs)
   |none=>none
  |none=>none
def zcm(hp:List Ob):V->V
 | .sl id=>match hp[id]? with
  |some (.vec _ u xs)=>.d (.list u) xs
  |some (.tree _ _ u xs none)=>.d (.list u) xs
  |_=>.sl id
 |v=>v
def zb4(s:S)(bor:Bool)(a:Arg×X):Option V:=match Ie s bor [] a with
 |some v=>some v
 |none=>match a.1,s.get a.2 with
  | .d t,some (.agg vs)=>bif bor then(match cr t (.agg (vs.map (zcm s.hp)))with
   |some x=>some (.d t x)
   |none=>none)else none
  |_,_=>none
def If(s:S)(bor:Bool):List (Arg×X)->Option (List V)
 |[]=>some []
 |a::l=>match zb4 s bor a with
  |some v=>match If s bor l with
   |some vs=>some (v::vs)
   |none=>none
  |none=>none
def ip:Ty->List Ty
 | .unit=>[]
 | .pair a b=>ip a++ip b
 | .rx=>[.int .i64,.int .i64,.int .i64,.list .rx]
 |t=>[t]
def flatK:K->List Ty->Bool
 | .e,ts=>ts.all Ty.flat
 | .f r,t::ts=>t.flat&&flatK r ts
 | .s _ sz sub r,.list u::ts=>a_ sz u.sz&&flatK sub (ip u)&&flatK r ts
 |_,_=>false
def Slot.flat:Slot->Bool
 | .tm _ t=>t.flat
 | .cell _ _ t=>t.flat
 | .vec _ _ t=>t.flat
 | .map _ _ _ a b=>a.flat&&b.flat
 | .tree _ _ k t=>flatK k (ip t)
 | .iM _ _ k t _ _=>flatK k (ip t)
def vB(fr:List (Nat×V))(n:Nat):List V:=(L_ n).map λi=>(lk fr i).getD .any
def res(n:Nat)(fr:List (Nat×V)):V:=bif a_ n 1 then(lk fr 0).getD .any else .dC (vB fr n)
def V.ID:V->Bool
 | .agg _=>true
 | .dC _=>true
 |_=>false
def N7(n:Nat)(fr:List (Nat×V)):Bool:=a_ n 1||fr.all λx=> !x.2.ID
def Ii(B:List Nat)(n k:Nat):Nat:=bif j_ (k+1) B.length then B.getD k 0 else n+(k - B.length)
def rK(B:List Nat):V->V
 | .sl k=>bif kM B k then .any else .sl k
 | .jb k i o=>bif kM B k then .any else .jb k i o
 |v=>v
def RG(B:List Nat)(os:List Ob)(n:Nat):Nat->List Ob->List Ob
 |_,[]=>[]
 |i,o::l=>(bif kM B i then rO (V.eM (Ii B n)) (os.getD (EU B i) .gone)else rO (rK B) o)::RG B os n (i+1) l
def S.back(s:S)(B:List Nat)(os:List Ob):S:=
 ⟨s.fr.map λx=>(x.1,jD (rK B) x.2),RG B os s.hp.length 0 s.hp++(os.drop B.length).map (rO (V.eM (Ii B s.hp.length)))⟩
def Sh.n(sh:Sh):Nat:=(sh.sk.fr.length)+(sh.sl.filter λx=>match x with| .tm _ _=>true|_=>false).length
def gw(O:bh)(f:FuncId)(ars:List V)(os:List Ob)(sh:Sh):Option (HL sh.sl):=match O f ars os with
 |some (some s)=>bif a_ s.fr.length sh.n&&N7 sh.n s.fr then pack sh s else none
 |_=>none
def qk(O:bh)(f:FuncId)(ars:List V)(os:List Ob)(sh:Sh):Option (Option (HL sh.sl)):=match O f ars os with
 |some (some s)=>bif a_ s.fr.length sh.n&&N7 sh.n s.fr then(match pack sh s with|some c=>some (some c)|none=>none)else none
 |some none=>some none
 |none=>none
end
def V.isNil:V->Bool
 | .nil _=>true
 |_=>false
def V.zbH:V->Bool
 | .raw _=>true
 |_=>false
def XC(k:K)(v:V):Bool:=(match v with| .agg _=>true| .nil _=>true|_=>false)&&(L_ (dc v).length).all λj=>(((dc v).getD j .any).isNil==(k.at j).isSome)&& !((dc v).getD j .any).zbH
def zcB(k:K)(cs:List V):Bool:=(L_ cs.length).all λj=>match k.at j with
 |some _=>(match cs.getD j .any with| .d (.list _) l=>l.isEmpty|_=>false)
 |none=>true
section
variable {R:Type}
def zY(s:S)(d:Option Nat)(B:List Nat)(n:Nat)(sh:Sh)(κ:S->Option R)(c:HL sh.sl):Option R:=
 let r:=unpack sh.sl c (sh.base ⟨[],[]⟩)
 κ ((s.back B r.hp).aE d (jD (V.eM (Ii B s.hp.length)) (res n r.fr)))
def N4(s:S)(B:List Nat):Option (List Ob):=match B with
 |[]=>some []
 |i::B=>match s.hp[i]? with
  |some o=>match N4 s B with
   |some os=>some (o::os)
   |none=>none
  |none=>none
def wg(jG:Bool)(O:bh)(s:S)(d:Option Nat)(bor:Bool)(B:List Nat)(f:FuncId)(ars:List V)(sh:Sh)(κ kp:S->Option R):Option R:=match N4 s B with
 |some os=>bif decide B.Nodup&&ars.all (λa=>allIn B a.ids)&&os.all (λo=>allIn B o.ids)&&(!bor||sh.sl.all Slot.flat)then
  (match jG with
  |false=>e_ (gw O f (ars.map (jD (V.eM (EU B)))) (os.map (rO (V.eM (EU B)))) sh) (zY s d B sh.n sh κ)
  |true=>e_ (qk O f (ars.map (jD (V.eM (EU B)))) (os.map (rO (V.eM (EU B)))) sh) λo=>match o with
   |some c=>zY s d B sh.n sh κ c
   |none=>kp (s.back B (os.map λ_=>.gone)))else none
 |none=>none
def aY(O:bh)(d:Option Nat)(op:lQ)(s:S)(κ kp:S->Option R):Option R:=
 match op with
 | .mv x=>match s.get x with
  |some v=>κ (s.aE d v)
  |none=>none
 | .pick c a b=>match s.get c,s.get a,s.get b with
  |some (.d .bool c),some (.d t x),some (.d u y)=>match bA u t y with
   |some y=>κ (s.aE d (.d t (bif c then x else y)))
   |none=>none
  |some (.d .bool c),some (.raw _),some (.d u y)=>bif c then none else κ (s.aE d (.d u y))
  |some (.d .bool c),some (.d t x),some (.raw _)=>bif c then κ (s.aE d (.d t x))else none
  |_,_,_=>none
 | .bin op x y=>match s.get x,s.get y with
  |some (.d (.int k) a),some (.d (.int g) b)=>Z0 op k g a b λv=>κ (s.aE d v)
  |some (.d .str a),some (.d .str b)=>Z1 op a b λv=>κ (s.aE d v)
  |_,_=>none
 | .G8 neg x y=>match s.get x,s.get y with
  |some (.d .bool a),some (.d .bool b)=>κ (s.aE d (.d .bool (neg ^^ (a==b))))
  |_,_=>none
 | .sL neg _ t x y=>match s.get x,s.get y with
  |some v,some u=>match cr t v,cr t u with
   |some a,some b=>bif t.Eh then κ (s.aE d (.d .bool (neg ^^ hZ t a b)))else none
   |_,_=>none
  |_,_=>none
 | .un op x=>match op,s.get x with
  | .not,some (.d .bool a)=>κ (s.aE d (.d .bool (!a)))
  | .neg,some (.d (.int k) a)=>κ (s.aE d (.d (.int k) (k.wrap (0 - a))))
  |_,_=>none
 | .len str x=>match str,s.get x with
  |true,some (.d .str a)=>κ (s.aE d (.d (.int .i64) a.length))
  |false,some (.d (.list _) a)=>κ (s.aE d (.d (.int .i64) a.length))
  |false,some (.nil _)=>κ (s.aE d (.d (.int .i64) 0))
  |false,some (.sl id)=>match s.hp[id]? with
   |some (.vec _ _ xs)=>κ (s.aE d (.d (.int .i64) xs.length))
   |some (.tree _ _ _ xs _)=>κ (s.aE d (.d (.int .i64) xs.length))
   |_=>none
  |_,_=>none
 | .oY k e x=>match s.get x with
  |some (.mp id)=>match s.hp[id]? with
   |some (.map g r _ _ kvs)=>bif a_ k g&&a_ e r then κ (s.aE d (.d (.int .i64) kvs.length))else none
   |_=>none
  |_=>none
 | .qC x i=>match s.get x with
  |some (.d .str a)=>intOf (s.get i) λn=>e_ (lx a n) λc=>κ (s.aE d (.d (.int .u8) c.toNat))
  |_=>none
 | .pX n t x i=>match s.get x with
  |some v=>bif a_ (dc v).length (n*t.sz)&&(match v with| .agg vs=>vs.all V.RL|_=>true)then intOf (s.get i) λm=>e_ (rowAt t n v m) λc=>κ (s.aE d (.d t c))else none
  |none=>none
 | .qA t x i=>match s.get x with
  |some (.sl id)=>match s.hp[id]? with
   |some (.vec _ u xs)=>bif decide (u=t)then intOf (s.get i) λn=>e_ (lx xs n) λ_=>κ (s.aE d (.jb id n.toNat 0))else none
   |some (.tree _ _ u xs _)=>bif decide (u=t)then intOf (s.get i) λn=>e_ (lx xs n) λ_=>κ (s.aE d (.jb id n.toNat 0))else none
   |_=>none
  |some (.d (.list u) xs)=>match bA (.list u) (.list t) xs with
   |some xs=>intOf (s.get i) λn=>e_ (lx xs n) λx=>κ (s.aE d (.dp t x))
   |none=>none
  |_=>none
 | .qB n t x i=>match s.get x,i with
  |some (.ptr id off),.k (.int _) m=>bU (decide (0<=m)&&decide (m<n)) (κ (s.aE d (.ptr id (off+m.toNat*t.sz))))
  |some (.ptr id off),i=>intOf (s.get i) λm=>bU (decide (0<=m)&&decide (m<n)) (κ (s.aE d (.LF id off n t m)))
  |some (.dp u y),i=>bif a_ u.sz (n*t.sz)&&u.ag then intOf (s.get i) λm=>e_ (rowAt t n (.d u y) m) λc=>κ (s.aE d (.dp t c))else none
  |_,_=>none
 | .oW off t x=>match s.get x with
  |some (.dp u y)=>match qG u off t y with
   |some z=>κ (s.aE d (.dp t z))
   |none=>none
  |some (.ptr id o)=>κ (s.aE d (.ptr id (o+off)))
  |some (.jb id i o)=>κ (s.aE d (.jb id i (o+off)))
  |_=>none
 | .Iy off t x=>match s.get x with
  |some (.d u y)=>bif u.ag then(match qG u off t y with
   |some z=>κ (s.aE d (.d t z))
   |none=>none)else none
  |some (.agg vs)=>bif j_ (off+t.sz) vs.length then κ (s.aE d (whole t ((vs.drop off).take t.sz)))else none
  |_=>none
 | .load t x=>loadT s.hp t (s.get x) λv=>κ (s.aE d v)
 | .store t x v=>match d with
  |none=>storeT s t (s.get x) (s.get v) κ
  |some _=>none
 | .alloc tid zero=>κ (S.aE ⟨s.fr,s.hp++[.box tid zero]⟩ d (.ptr s.hp.length 0))
 | .box tid x=>match s.get x with
  |some v=>bif v.okB then κ (S.aE ⟨s.fr,s.hp++[.box tid (dc v)]⟩ d (.ptr s.hp.length 0))else none
  |none=>none
 | .qj _ t x=>match s.get x with
  |some (.full _ _)=>none
  |some v=>match cr t v with
   |some y=>κ (s.aE d (.dp t y))
   |none=>none
  |none=>none
 | .build zero parts=>buildT s zero parts λcs=>κ (s.aE d (.agg cs))
 | .bI own tid t len parts=>bif a_ parts.length len&&j_ 1 t.sz&&j_ (len*t.sz) 16777216 then listT s t parts λxs=>(match own with
  |true=>κ (S.aE ⟨s.fr,s.hp++[.vec tid t xs]⟩ d (.sl s.hp.length))
  |false=>κ (s.aE d (.d (.list t) xs)))else none
 | .cO tid t bytes l c=>bif j_ 1 t.sz then intOf (s.get l) λl=>intOf (s.get c) λc=>
  bU (decide (0<=l)&&decide (l<=c)&&decide (c<=9223372036854775807)&&decide (bytes*c<=281474976710656)) (κ (S.aE ⟨s.fr,s.hp++[.vec tid t (K_ l.toNat t.zero)]⟩ d (.sl s.hp.length)))else none
 | .append tid t bytes x y=>i6 s.hp t (s.get y) λys=>match s.get x with
  |some (.sl id)=>match s.hp[id]? with
   |some (.vec e u xs)=>match bA (.list u) (.list t) xs with
    |some xs=>bif a_ e tid then bU (decide ((xs.length+ys.length)*bytes<=140737488355328)) (κ ((s.fC id (.vec e t (xs++ys))).aE d (.sl id)))else none
    |none=>none
   |_=>none
  |some (.nil _)=>bU (decide (ys.length*bytes<=140737488355328)) (κ (S.aE ⟨s.fr,s.hp++[.vec tid t ys]⟩ d (.sl s.hp.length)))
  |some (.full _ [])=>bU (decide (ys.length*bytes<=140737488355328)) (κ (S.aE ⟨s.fr,s.hp++[.vec tid t ys]⟩ d (.sl s.hp.length)))
  |_=>none
 | .qm k x=>match s.get x with
  |some (.d (.int _) n)=>κ (s.aE d (.d (.int k) (k.wrap n)))
  |_=>none
 | .Je full t x lo p mx=>match s.get x with
  |some (.sl id)=>match s.hp[id]? with
   |some (.tree _ _ u xs _)=>bif a_ u.sz t.sz&& !full then vJ s lo 0 λl=>vJ s p xs.length λh=>vJ s mx xs.length λm=>
    bif !(mx.isSome&& !p.isSome)then bU (decide (l<=h)&&decide (h<=m)&&decide (m<=xs.length)) (bU (a_ h l) (κ (s.aE d (.d (.list t) []))))else none else none
   |_=>none
  |v=>i6 s.hp t v λxs=>vJ s lo 0 λl=>vJ s p xs.length λh=>vJ s mx xs.length λm=>
   bif !(mx.isSome&& !p.isSome)then bU (decide (l<=h)&&decide (h<=m)&&decide (m<=xs.length)) (match full with
    |false=>κ (s.aE d (.d (.list t) ((xs.take h).drop l)))
    |true=>bU (mx.isSome&&decide (h=m)) (κ (s.aE d (.full t ((xs.take h).drop l)))))else none
 | .qJ x lo p=>match s.get x with
  |some (.d .str a)=>vJ s lo 0 λl=>vJ s p a.length λh=>bU (decide (l<=h)&&decide (h<=a.length)) (κ (s.aE d (.d .str ((a.take h).drop l))))
  |_=>none
 | .ext x i=>match s.get x with
  |some (.dC vs)=>match vs[i]? with
   |some v=>bif (match v with| .agg _=>false| .dC _=>false|_=>true)then κ (s.aE d v)else none
   |none=>none
  |_=>none
 | .rR x=>match s.get x with
  |some v=>(match v with
   | .dp _ _=>κ (s.aE d v)
   | .ptr _ _=>κ (s.aE d v)
   | .LF _ _ _ _ _=>κ (s.aE d v)
   | .jb _ _ _=>κ (s.aE d v)
   | .kj _ _=>κ (s.aE d v)
   | .HQ _ _=>κ (s.aE d v)
   |_=>none)
  |none=>none
 | .call bor f args sh=>match If s bor args with
  |some ars=>bif ars.all V.rJ&&sh.sk.fr.isEmpty&&(!bor||sh.sl.all Slot.flat)then
   e_ (gw O f ars [] sh) λc=>κ (s.aE d (res sh.n (unpack sh.sl c (sh.base ⟨[],[]⟩)).fr))else none
  |none=>none
 | .gP jG bor B f args sh=>match kZ s bor B args with
  |some ars=>wg jG O s d bor B f ars sh κ kp
  |none=>none
 | .fw jG bor B num x args sh=>match s.get x,kZ s bor B args with
  |some (.kj f ids),some ars=>bif a_ (num%10000) f then wg jG O s d bor B num (ars++ids.map λi=>.ptr i 0) sh κ kp else none
  |some (.HQ f cs),some ars=>bif a_ (num%10000) f then wg jG O s d bor B num (ars++cs.map λc=>.dp c.1 c.2) sh κ kp else none
  |_,_=>none
 | .im bor num x args sh=>match s.get x,kZ s bor [] args with
  |some (.HQ f cs),some ars=>bif a_ (num%10000) f&&ars.all V.rJ&&sh.sk.fr.isEmpty&&(!bor||sh.sl.all Slot.flat)then
   e_ (gw O num (ars++cs.map λc=>.dp c.1 c.2) [] sh) λc=>κ (s.aE d (res sh.n (unpack sh.sl c (sh.base ⟨[],[]⟩)).fr))else none
  |_,_=>none
 | .G3 x=>i6 s.hp (.int .u8) (s.get x) λl=>κ (s.aE d (.d .str (l.map fun(n:Int)=>UInt8.ofNat n.toNat)))
 | .rQ f caps=>match capsOf s caps with
  |some ids=>κ (s.aE d (.kj f ids))
  |none=>match capsD s caps with
   |some cs=>κ (s.aE d (.HQ f cs))
   |none=>none
 | .ir k e a b=>κ (S.aE ⟨s.fr,s.hp++[.map k e a b []]⟩ d (.mp s.hp.length))
 | .lookup k e ok a b m x=>match s.get m,s.get x with
  |some (.mp id),some v=>match s.hp[id]?,cr a v with
   |some (.map g r A b' kvs),some y=>match bA (.list (.pair A b')) (.list (.pair a b)) kvs with
    |some kvs=>bif a_ k g&&a_ e r&&a.Eh then(match ok with
     |true=>κ (s.aE d (.dC [.d b ((di a b kvs y).getD b.zero),.d .bool (di a b kvs y).isSome]))
     |false=>κ (s.aE d (.d b ((di a b kvs y).getD b.zero))))else none
    |none=>none
   |_,_=>none
  |_,_=>none
 | .ic k e a b m x v=>match d,s.get m,s.get x,s.get v with
  |none,some (.mp id),some u,some w=>match s.hp[id]?,cr a u,cr b w with
   |some (.map g r A b' kvs),some y,some z=>match bA (.list (.pair A b')) (.list (.pair a b)) kvs with
    |some kvs=>bif a_ k g&&a_ e r&&a.Eh&& !b.ag then bU (decide (kvs.length<maxLen)) (κ ⟨s.fr,setAt s.hp id (.map k e a b (fe a b kvs y z))⟩)else none
    |none=>none
   |_,_,_=>none
  |_,_,_,_=>none
 | .copy tid t x y=>match s.get x,s.get y with
  |some (.sl id),some v=>bif (match v with| .sl j=> !a_ id j|_=>true)then(i6 s.hp t (some v) λys=>match s.hp[id]? with
   |some (.vec e u xs)=>match bA (.list u) (.list t) xs with
    |some xs=>bif a_ e tid then κ (S.aE ⟨s.fr,setAt s.hp id (.vec e t (ys.take xs.length++xs.drop ys.length))⟩ d (.d (.int .i64) (min xs.length ys.length:Nat)))else none
    |none=>none
   |_=>none)else none
  |_,_=>none
 | .mX mx k x ys=>match s.get x with
  |some (.d (.int g) n)=>bif decide (g=k)then intsOf s k ys λC=>κ (s.aE d (.d (.int k) (C.foldl (fun(a b:Int)=>bif mx then max a b else min a b) n)))else none
  |_=>none
 | .panic x=>match s.get x with
  |some .LD=>kp s
  |_=>none
 | .iface _ x=>match s.get x with
  |some _=>κ (s.aE d .LD)
  |none=>none
 | .pj _ t len parts=>bif a_ parts.length len&&j_ 1 t.sz&&j_ (len*t.sz) 16777216 then listT s t parts λxs=>κ (s.aE d (.full t xs))else none
 | .pM _ t bytes x y=>i6 s.hp t (s.get y) λys=>match s.get x with
  |some (.nil _)=>bU (decide (ys.length*bytes<=140737488355328)) (κ (s.aE d (.d (.list t) ys)))
  |some (.full u xs)=>match bA (.list u) (.list t) xs with
   |some xs=>bU (decide ((xs.length+ys.length)*bytes<=140737488355328)) (κ (s.aE d (.d (.list t) (xs++ys))))
   |none=>none
  |_=>none
 | .eo _ k t len parts=>bif a_ parts.length len&&j_ 1 t.sz&&j_ (len*t.sz) 16777216 then listN s k t parts λxs=>κ (s.aE d (.lit k t xs))else none
 | .dE tid k u bytes l c=>bif (k.at 0).isSome then intOf (s.get l) λl=>intOf (s.get c) λc=>
  bU (decide (0<=l)&&decide (l<=c)&&decide (c<=9223372036854775807)&&decide (bytes*c<=281474976710656)) (κ (S.aE ⟨s.fr,s.hp++[.tree tid k (.list u) (K_ l.toNat []) none]⟩ d (.sl s.hp.length)))else none
 | .pN tid k t bytes x y=>match s.get y with
  |some (.lit g u ys)=>bif decide (k=g)then(match bA (.list u) (.list t) ys with
   |some ys=>bif ys.all (λy=>zcB k (gz t y))then(match s.get x with
    |some (.sl id)=>match s.hp[id]? with
     |some (.tree e D E xs none)=>match bA (.list E) (.list t) xs with
      |some xs=>bif a_ e tid&&decide (k=D)then bU (decide ((xs.length+ys.length)*bytes<=140737488355328)) (κ ((s.fC id (.tree e k t (xs++ys) none)).aE d (.sl id)))else none
      |none=>none
     |_=>none
    |some (.nil _)=>bU (decide (ys.length*bytes<=140737488355328)) (κ (S.aE ⟨s.fr,s.hp++[.tree tid k t ys none]⟩ d (.sl s.hp.length)))
    |_=>none)else none
   |none=>none)else none
  |_=>none
 | .uq k op=>match s.hp[k]? with
  |some .free=>mkT s op λo v=>κ (S.aE ⟨s.fr,setAt s.hp k o⟩ d (v k))
  |_=>none
where
 mkT (s:S) (op:lQ) (κ:Ob->(Nat->V)->Option R):Option R:=match op with
  | .alloc tid zero=>κ (.box tid zero) λn=>.ptr n 0
  | .box tid x=>match s.get x with
   |some v=>bif v.okB then κ (.box tid (dc v)) (λn=>.ptr n 0)else none
   |none=>none
  | .bI true tid t len parts=>bif a_ parts.length len&&j_ 1 t.sz&&j_ (len*t.sz) 16777216 then listT s t parts λxs=>κ (.vec tid t xs) .sl else none
  | .cO tid t bytes l c=>bif j_ 1 t.sz then intOf (s.get l) λl=>intOf (s.get c) λc=>
   bU (decide (0<=l)&&decide (l<=c)&&decide (c<=9223372036854775807)&&decide (bytes*c<=281474976710656)) (κ (.vec tid t (K_ l.toNat t.zero)) .sl)else none
  | .append tid t bytes x y=>i6 s.hp t (s.get y) λys=>match s.get x with
   |some (.nil _)=>bU (decide (ys.length*bytes<=140737488355328)) (κ (.vec tid t ys) .sl)
   |some (.full _ [])=>bU (decide (ys.length*bytes<=140737488355328)) (κ (.vec tid t ys) .sl)
   |_=>none
  | .ir k e a b=>κ (.map k e a b []) .mp
  |_=>none
 buildT (s:S) (cs:List V):List (Nat×Nat×X)->(List V->Option R)->Option R
  |[],κ=>κ cs
  |(off,sz,x)::l,κ=>match s.get x with
   |some v=>bif a_ (dc v).length sz&&j_ (off+sz) cs.length&&v.okB then buildT s (fS cs off (dc v)) l κ else none
   |none=>none
 listT (s:S) (t:Ty):List X->(List t.den->Option R)->Option R
  |[],κ=>κ []
  |x::l,κ=>match s.get x with
   |some v=>match cr t v with
    |some y=>listT s t l λys=>κ (y::ys)
    |none=>none
   |none=>none
 listN (s:S) (k:K) (t:Ty):List X->(List t.den->Option R)->Option R
  |[],κ=>κ []
  |x::l,κ=>match s.get x with
   |some v=>match cr t v with
    |some y=>bif XC k v then listN s k t l λys=>κ (y::ys)else none
    |none=>none
   |none=>none
 capsOf (s:S):List X->Option (List Nat)
  |[]=>some []
  |x::l=>match s.get x with
   |some (.ptr i 0)=>match capsOf s l with
    |some ids=>some (i::ids)
    |none=>none
   |_=>none
 capsD (s:S):List X->Option (List ((t:Ty)×t.den))
  |[]=>some []
  |x::l=>match s.get x with
   |some (.dp t y)=>match capsD s l with
    |some cs=>some (⟨t,y⟩::cs)
    |none=>none
   |_=>none
 intsOf (s:S) (k:IntKind):List X->(List Int->Option R)->Option R
  |[],κ=>κ []
  |x::l,κ=>match s.get x with
   |some (.d (.int g) n)=>bif decide (g=k)then intsOf s k l λC=>κ (n::C)else none
   |_=>none
inductive RC where
 |nil
 |op (d:Option Nat) (o:lQ) (rest:RC)
 |mz (l:List B2) (rest:RC)
 |gb (t:Nat) (want:Bool) (ek:RC) (ty:Ty) (r alt:X) (dst:Nat) (rest:RC)
def RC.fp:RC->List Nat
 | .nil=>[]
 | .op d _ rest=>(match d with|some d=>[d]|none=>[])++rest.fp
 | .mz _ rest=>rest.fp
 | .gb _ _ ek _ _ _ dst rest=>ek.fp++dst::rest.fp
def Ek(O:bh):(R:Type)->RC->S->(S->Option R)->(S->Option R)->Option R
 |_,.nil,s,κ,_=>κ s
 |R,.op d o rest,s,κ,kp=>aY O d o s (λs'=>Ek O R rest s' κ kp) kp
 |R,.mz l rest,s,κ,kp=>vH l s λs=>Ek O R rest s κ kp
 |R,.gb t want ek ty r alt dst rest,s,κ,kp=>match lk s.fr t,s.get alt with
  |some (.d .bool b),some a=>match(bif ek.fp.all (λk=>(lk s.fr k).isNone)then cr ty a else none)with
   |some alt=>e_ (match want with
    |true=>bif b then Ek O ty.den ek s (λs'=>match s'.get r with|some v=>cr ty v|none=>none) (λ_=>none)else some alt
    |false=>bif b then some alt else Ek O ty.den ek s (λs'=>match s'.get r with|some v=>cr ty v|none=>none) (λ_=>none))
    λc=>Ek O R rest (s.put dst (.d ty c)) κ kp
   |none=>none
  |_,_=>none
end
structure PO where
 j:Nat
 b:Bool
 us:List Nat
 rd:List Nat
 lA:List Nat
 d:Option Nat
 o:lQ
 g:Option (Nat×Bool)
def Gp(s:S)(rd lA:List Nat):List Nat:=(rd.flatMap λk=>match lk s.fr k with|some v=>v.ids|none=>[])++lA
def mF(s:S)(p:PO):List Nat:=match p.b,p.o,p.g with
 |true,.mv _,none=>[]
 |_,_,_=>Gp s p.rd p.lA
def WB(r:Av.Rec)(T rd lA:List Nat)(d:Option Nat)(b:Bool):Bool:=
 (match r.d with
  |some t=> !kM rd t&&(match d with|some u=> !a_ u t|none=>true)
  |none=>true)&&
 (match d with
  |some t=> !kM r.rd t
  |none=>true)&&
 (match r.s with
  |some t=> !kM T t
  |none=>true)&&
 (match b with
  |true=>lA.all λt=> !kM r.F t
  |false=>T.all λt=> !kM r.G t)
def ES(s:S)(i:Nat):List Nat:=match s.hp[i]? with
 |some o=>o.kids
 |none=>[]
def xi:lQ->Option Nat
 | .uq k _=>some k
 |_=>none
def Sk(s:S)(d:Option Nat):List Nat:=match d with
 |some k=>(match lk s.fr k with
  |some v=>v.kids
  |none=>[])
 |none=>[]
def On(s s':S)(d:Option Nat)(T:List Nat):List Nat:=T++T.flatMap (ES s)++Sk s' d
def Vb(s s':S)(rd:List Nat)(d:Option Nat):List Nat:=(rd.flatMap λk=>match lk s.fr k with|some v=>v.kids|none=>[])++Sk s' d
structure qV where
 r:Av.Rec
 ld:Option (Ty×Nat×Nat×V)
def KL(s s':S)(p:PO):Option (Ty×Nat×Nat×V):=match p.o,p.g,p.d with
 | .load t x,none,some d=>(match s.get x,lk s'.fr d with
  |some (.ptr id off),some v=>some (t,id,off,v)
  |_,_=>none)
 |_,_,_=>none
def FR(hp:List Ob)(t:Ty)(id off:Nat):Option V:=match hp[id]? with
 |some (.box _ cs)=>bif j_ (off+t.sz) cs.length then some (whole t ((cs.drop off).take t.sz))else none
 |_=>none
def YG{R:Type}(k:Option R):V->V->Option R
 | .d t x,.d u y=>(match bA u t y with
  |some z=>bif t.Eh then(bif hZ t x z then k else none)else none
  |none=>none)
 | .ptr i o,.ptr j q=>bif a_ i j&&a_ o q then k else none
 | .mp i,.mp j=>bif a_ i j then k else none
 |_,_=>none
def reL{R:Type}(T us:List Nat)(s':S)(k:Option R):List qV->Option R
 |[]=>k
 |a::A=>bif !kM us a.r.i||T.all (λt=> !kM a.r.F t)then reL T us s' k A else(match a.ld with
  |some (t,id,off,v)=>(match FR s'.hp t id off with
   |some b=>bif (ES s' id).all (kM a.r.F)then YG (reL T us s' k A) v b else none
   |none=>none)
  |none=>none)
def Va{R:Type}(A:List qV)(s s':S)(p:PO)(k:Option R):Option R:=bif p.b then k else reL (Gp s p.rd p.lA) p.us s' k A
def YY(s:S):lQ->Bool
 | .store _ x _=>(match s.get x with
  |some (.ptr _ _)=>true
  |some (.jb id _ _)=>(match s.hp[id]? with
   |some (.vec _ _ _)=>true
   |_=>false)
  |_=>false)
 |_=>true
def zbQ(A:List qV)(o:lQ):Bool:=match xi o with
 |some k=>A.all λa=>(match a.ld with
  |some (_,id,_,_)=> !a_ id k
  |none=>true)
 |none=>true
def Ad(A:List qV)(s:S)(p:PO):Bool:=A.all (λa=> !kM p.us a.r.i||WB a.r (mF s p) p.rd p.lA p.d p.b)&&(!p.b||(mF s p).all λi=>Nat.blt i s.hp.length)&&YY s p.o&&zbQ A p.o
def vA(A:List qV)(s s':S)(p:PO):List qV:=bif p.b then A++[⟨⟨p.j,p.d,p.rd,xi p.o,On s s' p.d (mF s p),Vb s s' p.rd p.d⟩,KL s s' p⟩]else A
def sM{R:Type}(O:bh):List qV->List PO->S->(S->Option R)->(S->Option R)->Option R
 |_,[],s,κ,_=>κ s
 |A,p::l,s,κ,kp=>match p.g with
  |none=>bif Ad A s p then aY O p.d p.o s (λs'=>Va A s s' p (sM O (vA A s s' p) l s' κ kp)) kp else none
  |some (t,want)=>match lk s.fr t with
   |some (.d .bool b)=>bif want==b
    then(bif Ad A (s.put t (.d .bool want)) p then aY O p.d p.o (s.put t (.d .bool want)) (λs'=>Va A (s.put t (.d .bool want)) s' p (sM O (vA A (s.put t (.d .bool want)) s' p) l s' κ kp)) kp else none)
    else(bif Ad A (s.put t (.d .bool (!want))) p then Va A (s.put t (.d .bool (!want))) ((s.put t (.d .bool (!want))).aE p.d (.raw Go.undef)) p (sM O (vA A (s.put t (.d .bool (!want))) ((s.put t (.d .bool (!want))).aE p.d (.raw Go.undef)) p) l ((s.put t (.d .bool (!want))).aE p.d (.raw Go.undef)) κ kp)else none)
   |_=>none
def VB{R:Type}(O:bh):List PO->S->(S->Option R)->(S->Option R)->Option R
 |[],s,κ,_=>κ s
 |p::l,s,κ,kp=>match p.g with
  |none=>aY O p.d p.o s (λs'=>VB O l s' κ kp) kp
  |some (t,want)=>match lk s.fr t with
   |some (.d .bool b)=>bif b
    then(match want with
     |true=>aY O p.d p.o (s.put t (.d .bool true)) (λs'=>VB O l s' κ kp) kp
     |false=>VB O l ((s.put t (.d .bool true)).aE p.d (.raw Go.undef)) κ kp)
    else(match want with
     |true=>VB O l ((s.put t (.d .bool false)).aE p.d (.raw Go.undef)) κ kp
     |false=>aY O p.d p.o (s.put t (.d .bool false)) (λs'=>VB O l s' κ kp) kp)
   |_=>none
inductive TC where
 |skip
 |region (ops:RC)
 |draw (k:Nat) (ops:RC) (af:List (List Nat))
 |kq (r:Nat) (pre:List PO) (tl:RC) (af:List (List Nat))
 |HV (pre:List PO)
 |seq (a b:TC)
 |cond (x:X) (a b:TC)
 |block (id:Nat) (a:TC)
 |loop (sh:Sh) (xs:List (Nat×Sh)) (a:TC)
 |exit (id:Nat)
 |ret
 |mz (l:List B2) (a:TC)
 |after (a:TC) (l:List B2)
 |cut (xs:List (Nat×Sh)) (a:TC)
def TC.fp:TC->List Nat
 | .region ops=>ops.fp
 | .draw _ ops _=>ops.fp
 | .HV pre=>pre.flatMap λp=>match p.d with|some d=>[d]|none=>[]
 | .kq _ pre tl _=>(pre.flatMap λp=>match p.d with|some d=>[d]|none=>[])++tl.fp
 | .seq a b=>a.fp++b.fp
 | .cond _ a b=>a.fp++b.fp
 | .block _ a=>a.fp
 | .loop _ _ a=>a.fp
 | .mz _ a=>a.fp
 | .after a _=>a.fp
 | .cut _ a=>a.fp
 |_=>[]
def TC.wV:TC->Bool
 | .kq _ _ _ _=>false
 | .seq a b=>a.wV&&b.wV
 | .cond _ a b=>a.wV&&b.wV
 | .block _ a=>a.wV
 | .loop _ _ a=>a.wV
 | .mz _ a=>a.wV
 | .after a _=>a.wV
 | .cut _ a=>a.wV
 |_=>true
def mW(A:List Nat)(fr:List (Nat×V))(k:Nat):Bool:=kM A k||(match lk fr k with
 |some v=> !v.rJ
 |none=>false)
def Slot.zeX(A:List Nat)(fr:List (Nat×V)):Slot->Bool
 | .tm k _=>mW A fr k
 |_=>true
def Sh.N5(sh:Sh)(A:List Nat)(s:S):Bool:=sh.keep.all (λk=> !kM A k)&&sh.sl.all (Slot.zeX A s.fr)&&sh.sk.fr.all (λx=>mW A s.fr x.1)
def ff{σ a:Type}:Nat->(σ->Option (σ⊕a))->σ->Option a
 |0,_,_=>none
 |n+1,f,s=>e_ (f s) (aH_ (λs'=>ff n f s') some)
def Ci(O:bh)(n:Nat):(R:Type)->TC->S->(kn:S->Option R)->(kx:Nat->S->Option R)->(kr kp:S->Option R)->Option R
 |_,.skip,s,kn,_,_,_=>kn s
 |R,.region ops,s,kn,_,_,kp=>Ek O R ops s kn kp
 |R,.draw _ ops _,s,kn,_,_,kp=>Ek O R ops s kn kp
 |_,.HV pre,s,kn,_,_,kp=>VB O pre s kn kp
 |R,.kq r pre tl _,s,kn,_,_,kp=>sM O [] pre ⟨s.fr,s.hp++K_ r .free⟩ (λs=>Ek O R tl s kn kp) kp
 |R,.seq a b,s,kn,kx,kr,kp=>Ci O n R a s (λs=>Ci O n R b s kn kx kr kp) kx kr kp
 |R,.cond x a b,s,kn,kx,kr,kp=>match s.get x with
  |some (.d .bool t)=>bif t then Ci O n R a s kn kx kr kp else Ci O n R b s kn kx kr kp
  |_=>none
 |R,.block id a,s,kn,kx,kr,kp=>Ci O n R a s kn (λi s=>bif a_ i id then kn s else kx i s) kr kp
 |_,.exit id,s,_,kx,_,_=>kx id s
 |_,.ret,s,_,_,kr,_=>kr s
 |R,.mz l a,s,kn,kx,kr,kp=>vH l s λs=>Ci O n R a s kn kx kr kp
 |R,.cut xs a,s,kn,kx,kr,kp=>bif xs.all (λx=>x.2.N5 a.fp s)then
  e_ (Ci O n (XT xs) a s (λs=>inj xs 0 s) (λi s=>inj xs (i+3) s) (λs=>inj xs 1 s) (λs=>inj xs 2 s))
   (jg s (λkey s=>match key with|0=>kn s|1=>kr s|2=>kp s|i+3=>kx i s) xs)else none
 |R,.loop sh xs a,s,kn,kx,kr,kp=>match pack sh s with
  |some c=>bif sh.N5 a.fp s&&xs.all (λx=>x.2.N5 a.fp s)then e_ (ff n (λc=>Ci O n (HL sh.sl⊕XT xs) a (unpack sh.sl c (sh.base s)) (λs=>match pack sh s with|some c=>some (.inl c)|none=>none)
   (λi s=>match inj xs (i+3) s with|some c=>some (.inr c)|none=>none) (λs=>match inj xs 1 s with|some c=>some (.inr c)|none=>none) (λs=>match inj xs 2 s with|some c=>some (.inr c)|none=>none)) c)
   (jg s (λkey s=>match key with|0=>kn s|1=>kr s|2=>kp s|i+3=>kx i s) xs)else none
  |none=>none
 |R,.after a l,s,kn,kx,kr,kp=>Ci O n R a s (λs=>vH l s kn) kx kr kp
inductive RX where
 |tm (t:Nat)
 |cell (a:Nat) (t:Ty)
structure TF where
 code:TC
 res:List RX
 ntmps:Nat
 sh:Sh
 m:Nat
def FZ(s:S):List RX->Option (List V)
 |[]=>some []
 | .tm t::l=>match lk s.fr t with
  |some v=>match FZ s l with
   |some vs=>some (v::vs)
   |none=>none
  |none=>none
 | .cell a t::l=>match lk s.fr a with
  |some (.ptr id off)=>match s.hp[id]? with
   |some (.box _ cs)=>bif j_ (off+t.sz) cs.length then(match FZ s l with
    |some vs=>some (whole t ((cs.drop off).take t.sz)::vs)
    |none=>none)else none
   |_=>none
  |_=>none
def dG:Nat->List V->List (Nat×V)
 |_,[]=>[]
 |i,v::vs=>(i,v)::dG (i+1) vs
def gq(sh:Sh)(c:HL sh.sl):S:=unpack sh.sl c (sh.base ⟨[],[]⟩)
def qc(sh:Sh)(c:HL sh.sl):Option (Option S):=some (some (gq sh c))
def V.one:V->Bool
 | .agg vs=>vs.all V.RL
 | .dC _=>false
 |_=>true
def EN(c:TF)(s:S):Option (Option S):=match FZ s c.res with
 |some vs=>bif j_ c.sh.sk.hp.length s.hp.length&&(s.hp.take c.sh.sk.hp.length).all (λo=>o.ids.all λi=>j_ (i+1) c.sh.sk.hp.length)&&vs.all (λv=>v.ids.all λi=>j_ (i+1) c.sh.sk.hp.length)&&a_ c.sh.n vs.length&&(a_ vs.length 1||vs.all V.one)then
  (match pack c.sh ⟨dG 0 vs,s.hp.take c.sh.sk.hp.length⟩with
  |some x=>qc c.sh x
  |none=>none)else none
 |none=>none
def Qa(O:bh)(n:Nat)(c:TF)(ars:List V)(os:List Ob):Option (Option S):=
 Ci O n (Option S) c.code ⟨dG 0 ars,os⟩ (EN c) (λ_ _=>none) (EN c) (λ_=>some none)
structure TD where
 c:TF
 a:TC
 h:TC
 ta:Nat
 tb:Nat
 t8:Nat
def vL(s:S)(t i:Nat):Bool:=match lk s.fr t with
 |some (.ptr j o)=>a_ j i&&a_ o 0
 |_=>false
def noT(s:S)(t:Nat):Bool:=match lk s.fr t with
 |some _=>false
 |none=>true
def zap(d:TD)(s:S):Option (Option S):=EN d.c ⟨[(d.ta,.ptr 0 0),(d.tb,.ptr 1 0)],s.hp⟩
def WS(O:bh)(n:Nat)(d:TD)(ars:List V):Option (Option S):=
 Ci O n (Option S) d.a ⟨dG 0 ars,[]⟩ (λs=>bif vL s d.ta 0&&vL s d.tb 1&&noT s d.t8&&a_ s.hp.length 2 then
  Ci O n (Option S) d.c.code s (EN d.c) (λ_ _=>none) (EN d.c) (λs=>bif vL s d.ta 0&&vL s d.tb 1 then
   Ci O n (Option S) d.h ⟨[(0,.ptr 0 0),(1,.ptr 1 0)],s.hp⟩ (zap d) (λ_ _=>none) (zap d) (λ_=>none)else none)else none) (λ_ _=>none) (λ_=>none) (λ_=>none)
inductive gC where
 |code (c:TF)
 |dfr (d:TD)
 |nat (g:List V->Option S)
def sg(tbl:Nat->Option gC):Nat->bh
 |0=>λ_ _ _=>none
 |n+1=>λf ars os=>match tbl f with
  |some (.code c)=>bif a_ os.length c.m&&j_ ars.length c.ntmps then Qa (sg tbl n) n c ars os else none
  |some (.dfr d)=>bif a_ os.length 0&&j_ ars.length d.c.ntmps then WS (sg tbl n) n d ars else none
  |some (.nat g)=>(match os with
   |[]=>(match g ars with
    |some s=>some (some s)
    |none=>none)
   |_=>none)
  |none=>none
def zd1{a R:Type}(o:Option a)(p:Option R)(k:a->Option R):Option R:=match o with
 |some c=>k c
 |none=>p
abbrev tI:Ty:=.int .i64
abbrev tW:Ty:=.int .u32
abbrev tQ:Ty:=.int .u64
abbrev tY:Ty:=.int .u8
abbrev tB:Ty:=.bool
abbrev tS:Ty:=.str
@[reducible] def pr:List Ty->Ty
 |[]=>.unit
 |t::l=>.pair t (pr l)
abbrev aN(t:Ty)(x:t.den):List PV:=(aM t x).cells
theorem aQ:∀(t:Ty) (x:t.den),(aN t x).length=t.sz
 | .int _,_=>rfl
 | .bool,_=>rfl
 | .str,_=>rfl
 | .list t,x=>by cases h:x.map (aM t)<;>simp[aN,aM,h,lB,PV.cells,Ty.sz]
 | .unit,_=>rfl
 | .pair a b,x=>by have h1:=aQ a x.1;have h2:=aQ b x.2;simp only[aN,aM,PV.cells,H_,Ty.sz]at h1 h2⊢;omega
 | .rx,.mk k l h ks=>rfl
theorem lR:∀(t:Ty) (x:t.den),(aM t x).isAgg=t.ag
 | .int _,_=>rfl
 | .bool,_=>rfl
 | .str,_=>rfl
 | .list t,x=>by cases h:x.map (aM t)<;>simp[aM,h,lB,PV.isAgg,Ty.ag]
 | .unit,_=>rfl
 | .pair a b,x=>rfl
 | .rx,.mk k l h ks=>rfl
theorem eQ{t:Ty}(x:t.den)(h:t.ag=true):aM t x= .agg (aN t x):=by have:=lR t x;rw[h]at this;cases a:aM t x<;>rw[a]at this<;>simp[PV.isAgg]at this;simp[aN,a,PV.cells]
theorem eR{t:Ty}(x:t.den)(h:t.ag=false):aN t x=[aM t x]:=by have:=lR t x;rw[h]at this;cases a:aM t x<;>rw[a]at this<;>simp_all[aN,PV.cells,PV.isAgg]
theorem fN{t:Ty}(h:t.ag=false):t.sz=1:=by cases t<;>simp_all[Ty.ag,Ty.sz]
def bP{t u:Ty}{x:t.den}{y:u.den}(h:bA t u x=some y):∃e:t=u,y=e▸x:=by unfold bA at h;grind
def bJ{t u:Ty}{x:t.den}{y:u.den}(h:bA t u x=some y):aM u y=aM t x/\t=u:=by obtain⟨rfl,rfl⟩:=bP h;exact⟨rfl,rfl⟩
def Eg:∀(ks:List Rx),J3 ks=ks.map WJ
 |[]=>rfl
 |k::ks=>by rw[J3,Eg ks];rfl
def qI(r:Rx):aN .rx r=[aM (.int .i64) r.out.1,aM (.int .i64) r.out.2.1,aM (.int .i64) r.out.2.2.1,aM (.list .rx) r.out.2.2.2.1]:=by cases r with|mk k l h ks=>show [_,_,_,_]=[_,_,_,_];simp only[aM,Rx.out,Eg];rfl
def nW:∀(t:Ty) (off:Nat) (u:Ty) (x:t.den) (y:u.den),qG t off u x=some y->off+u.sz<=t.sz/\((aN t x).drop off).take u.sz=aN u y
 | .pair a b,off,u,x,y,h=>by
  have l:=aQ a x.1
  have s:=aQ b x.2
  have hc:aN (.pair a b) x=aN a x.1++aN b x.2:=rfl
  unfold qG at h
  cases d:(decide (Ty.pair a b=u)&&a_ off 0)
  .rw[d]at h
   simp only[cond_false]at h
   cases f:j_ (off+1) a.sz
   .rw[f]at h
    simp only[cond_false]at h
    have p:a.sz<=off:=by
     have:=Nat.not_le_of_not_ble_eq_true (by rw[f];simp)
     omega
    obtain⟨h1,h2⟩:=nW b (off - a.sz) u x.2 y h
    refine⟨by simp only[Ty.sz];omega,?_⟩
    rw[hc,am_,l,List.drop_eq_nil_of_le (by omega),aw_]
    omega
   .rw[f]at h
    simp only[cond_true]at h
    have v:=y_ f
    obtain⟨h1,h2⟩:=nW a off u x.1 y h
    refine⟨by simp only[Ty.sz];omega,?_⟩
    grind
  .rw[d]at h
   simp only[cond_true]at h
   simp only[f_,decide_eq_true_eq]at d
   have j:off=0:=h_ d.2
   subst j
   obtain⟨e,rfl⟩:=bJ h
   refine⟨by simp,?_⟩
   rw[I_,w_ (by rw[aQ];simp)]
   grind
 | .rx,off,u,x,y,h=>by
  have hc:=qI x
  have one:∀{t:Ty} {z:t.den},t.ag=false->bA t u z=some y->aN u y=[aM t z]/\u.sz=1:=fun{t z} ht r=>by
   obtain⟨e,rfl⟩:=bJ r
   exact⟨by rw[eR _ ht,e],fN ht⟩
  unfold qG at h
  split at h
  .by_cases n:u= .rx
   .subst n
    simp only[decide_true,cond_true]at h
    obtain⟨e,_⟩:=bJ h
    refine⟨by simp,?_⟩
    rw[I_,w_ (by rw[aQ];simp)]
    grind
   .simp only[n,decide_false,cond_false]at h
    obtain⟨e,g⟩:=one rfl h
    rw[e,g,hc]
    exact⟨by simp[Ty.sz],rfl⟩
  .obtain⟨e,g⟩:=one rfl h
   rw[e,g,hc]
   exact⟨by simp[Ty.sz],rfl⟩
  .obtain⟨e,g⟩:=one rfl h
   rw[e,g,hc]
   exact⟨by simp[Ty.sz],rfl⟩
  .obtain⟨e,g⟩:=one rfl h
   rw[e,g,hc]
   exact⟨by simp[Ty.sz],rfl⟩
  grind
 | .int k,off,u,x,y,h=>c (.int k) off u x y h
 | .bool,off,u,x,y,h=>c .bool off u x y h
 | .str,off,u,x,y,h=>c .str off u x y h
 | .list t,off,u,x,y,h=>c (.list t) off u x y h
 | .unit,off,u,x,y,h=>c .unit off u x y h
where
 c (t:Ty) (off:Nat) (u:Ty) (x:t.den) (y:u.den) (h:(bif a_ off 0 then bA t u x else none)=some y):off+u.sz<=t.sz/\((aN t x).drop off).take u.sz=aN u y:=by
  cases j:a_ off 0
  .grind
  .rw[j]at h
   simp only[cond_true]at h
   have:=h_ j
   subst this
   obtain⟨e,rfl⟩:=bJ h
   refine⟨by simp,?_⟩
   rw[I_,w_ (by rw[aQ];simp)]
   grind
def yW{t:Ty}{off:Nat}{u:Ty}{x:t.den}{y:u.den}(h:qG t off u x=some y):off+u.sz<=(aM t x).cells.length/\(u.ag=false->u.sz=1)/\(aM t x).sub off u.sz u.ag=aM u y:=by
 obtain⟨h1,h2⟩:=nW t off u x y h;refine⟨by rw[aQ];omega,fN,?_⟩;cases b:u.ag
 .have hs:=fN b;rw[hs,eR y b]at h2;have a:off<(aN t x).length:=by rw[aQ];omega
  rw[F_ a]at h2;simp only[aa_,az_,List.cons.injEq,and_true]at h2;simp only[PV.sub,P_,k_ a,D_];omega
 .simp only[PV.sub];rw[eQ y b,<-h2]
theorem dO:∀(t:Ty) (x:t.den),(gz t x).map aU=(aN t x).map BV.pv/\(gz t x).length=t.sz
 | .int _,_=>⟨rfl,rfl⟩
 | .bool,_=>⟨rfl,rfl⟩
 | .str,_=>⟨rfl,rfl⟩
 | .list t,x=>⟨by rw[eR (t:=.list t) x rfl];rfl,rfl⟩
 | .unit,_=>⟨rfl,rfl⟩
 | .pair a b,x=>by obtain⟨h1,h2⟩:=dO a x.1;obtain⟨c,d⟩:=dO b x.2;have hc:aN (.pair a b) x=aN a x.1++aN b x.2:=rfl;refine⟨?_,by simp only[gz,H_,h2,d,Ty.sz]⟩;rw[hc];simp only[gz,q_,h1,c]
 | .rx,x=>⟨by rw[qI x];rfl,rfl⟩
def l8{u:Ty}{v:V}{x:u.den}(h:iD u v=some x):(aU v).bF=some (aM u x):=by
 cases v<;>simp only[iD]at h<;>try cases h
 .obtain⟨a,rfl⟩:=bJ h;rw[a];rfl
 .obtain⟨rfl,rfl⟩:=bP h;rfl
 .obtain⟨a,rfl⟩:=bJ h;rw[a];rfl
def IG{u:Ty}{v:V}{x:u.den}(h:iD u v=some x):a8 v= .b (aU v):=by cases v<;>simp only[iD]at h<;>first|rfl|cases h
def uo:∀(t:Ty) (l:List V) (x:t.den) (m:List V),PH t l=some (x,m)->∃f,l=f++m/\(f.map aU).mapM BV.bF=some (aN t x)
 | .unit,l,x,m,h=>by simp only[PH,b_,aE_.injEq]at h;obtain⟨_,rfl⟩:=h;exact⟨[],rfl,rfl⟩
 | .pair a b,l,x,m,h=>by
  simp only[PH]at h
  split at h
  .rename_i y l1 h1
   split at h
   .rename_i z l2 h2
    simp only[b_,aE_.injEq]at h
    obtain⟨rfl,rfl⟩:=h
    obtain⟨p,rfl,hp⟩:=uo a l y l1 h1
    obtain⟨q,rfl,u⟩:=uo b l1 z l2 h2
    refine⟨p++q,by simp,?_⟩
    have hc:aN (.pair a b) (y,z)=aN a y++aN b z:=rfl
    grind
   grind
  grind
 | .rx,l,x,m,h=>by
  unfold PH at h
  split at h
  .rename_i a b c e l'
   split at h
   .rename_i n b' r s h1 h2 g j
    simp only[b_,aE_.injEq]at h
    obtain⟨rfl,rfl⟩:=h
    refine⟨[a,b,c,e],rfl,?_⟩
    rw[qI]
    simp only[l_,N_,o_,ab_,l8 h1,l8 h2,l8 g,l8 j]
    rfl
   grind
  grind
 | .int k,l,x,m,h=>d (.int k) l x m rfl h
 | .bool,l,x,m,h=>d .bool l x m rfl h
 | .str,l,x,m,h=>d .str l x m rfl h
 | .list t,l,x,m,h=>d (.list t) l x m rfl h
where
 d (t:Ty) (l:List V) (x:t.den) (m:List V) (ht:t.ag=false) (h:(match l with
  |v::l=>match iD t v with
   |some x=>some (x,l)
   |none=>none
  |[]=>none)=some (x,m)):∃f,l=f++m/\(f.map aU).mapM BV.bF=some (aN t x):=by
  split at h
  .rename_i v l'
   split at h
   .rename_i y h1
    simp only[b_,aE_.injEq]at h
    obtain⟨rfl,rfl⟩:=h
    refine⟨[v],rfl,?_⟩
    rw[eR _ ht]
    simp only[l_,N_,o_,ab_,l8 h1]
    rfl
   grind
  grind
theorem eC{t:Ty}{v:V}{x:t.den}(h:cr t v=some x):(a8 v).bF=some (aM t x):=by
 unfold cr at h;split at h
 .rename_i vs;split at h
  .rename_i ht;split at h;.rename_i y h1;cases h;obtain⟨b,h2,a⟩:=uo t vs x [] h1;rw[List.append_nil]at h2;subst h2;show((vs.map aU).mapM BV.bF).map PV.agg=_;rw[a,eQ x ht];rfl
   grind
  grind
 .rw[IG h];exact l8 h
def PZ(v:V)(a:∀vs,v≠.dC vs):(dc v).map aU=(a8 v).cells:=by
 cases v with
 |d t x=>exact(dO t x).1|agg vs=>rfl|dC vs=>grind|nil t=>rfl|raw v=>
  show [bG v]=_;unfold a8;simp only[aU];cases hc:bG v<;>first|rfl|skip
  rename_i p;unfold bG at hc;split at hc;.grind
  .cases hc;rfl
 |full t x=>rfl|any=>rfl|dp t x=>rfl|HQ f cs=>rfl|lit k t xs=>cases xs<;>rfl|_=>rfl
def zcr(sz:Nat)(xs:List PV):(lB sz xs).cells=[lB sz xs]/\(lB sz xs).cX=true:=by cases xs<;>exact⟨rfl,rfl⟩
def KN(t:Ty)(x:List t.den):(aM (.list t) x).cells=[aM (.list t) x]/\(aM (.list t) x).cX=true:=zcr _ _
def yx:∀(t:Ty) (x:t.den),((aN t x).all PV.cX)=true
 | .int _,_=>rfl
 | .bool,_=>rfl
 | .str,_=>rfl
 | .list t,x=>by have h:=KN t x;grind
 | .unit,_=>rfl
 | .pair a b,x=>by show(((aM a x.1).cells++(aM b x.2).cells).all PV.cX)=true;rw[List.all_append,yx a x.1,yx b x.2];rfl
 | .rx,r=>by rw[qI];have h:=(KN .rx r.out.2.2.2.1).2;simp only[aA_,List.all_nil,Bool.and_true,h];rfl
def wl(t:Ty)(x:t.den):(aM t x).ok=true:=yx t x
def kt:∀(t:Ty) (x:t.den),t.flat=true->(aM t x).Flat/\∀y∈aN t x,y.Flat
 | .int _,_,_=>⟨.sc _,λy c=>by rw[u_.1 c];exact .sc _⟩
 | .bool,_,_=>⟨.sc _,λy c=>by rw[u_.1 c];exact .sc _⟩
 | .str,_,_=>⟨.sc _,λy c=>by rw[u_.1 c];exact .sc _⟩
 | .unit,_,_=>⟨.agg [] (by simp),λy c=>by cases c⟩
 | .pair a b,x,h=>by
  simp only[Ty.flat,f_]at h;have h1:=(kt a x.1 h.1).2;have h2:=(kt b x.2 h.2).2;have hc:∀y∈aN (.pair a b) x,y.Flat:=λy c=>by have:aN (.pair a b) x=aN a x.1++aN b x.2:=rfl;grind
  exact⟨.agg _ λi y c=>hc y (Y_ c),hc⟩
def valOf:(t:Ty)->t.den->Value
 | .int k,x=>.int k x
 | .bool,x=>.bool x
 | .str,x=>.string ⟨x.toArray⟩
 |_,_=>.slice none 0 0
def y8:V->Value
 | .d t x=>valOf t x
 | .nil _=>.slice none 0 0
 | .raw v=>v
 |_=>Go.undef
def Ty.sc:Ty->Bool
 | .int _=>true
 | .bool=>true
 | .str=>true
 |_=>false
def V.EZ:V->Bool
 | .d t _=>t.sc
 | .nil _=>true
 | .raw _=>true
 |_=>false
def X.er:X->SX
 | .tm j=>.tm j
 | .k t x=>.c (valOf t x)
 | .nil _=>.c (.slice none 0 0)
 | .ag vs=>.c (.agg (vs.map y8).toArray)
 | .f n=>.f n
 | .raw v=>.c v
def X.wf:X->Bool
 | .k t _=>t.sc
 | .ag vs=>vs.all V.EZ
 | .raw v=>match v with
  | .agg _=>false
  | .slice _ _ _=>false
  |_=>true
 |_=>true
def m9(t:Ty):Value:=match t.ag with
 |true=>.agg (((gz t t.zero).map λv=>match v with
  | .d (.list _) _=>Value.slice none 0 0
  |v=>y8 v).toArray)
 |false=>match t with
  | .list _=>.slice none 0 0
  |t=>valOf t t.zero
def QA(x:Option X):Option SX:=x.map X.er
def lQ.er:lQ->fh
 | .mv x=>.mv x.er
 | .pick c a b=>.pick c.er a.er b.er
 | .bin op x y=>.bin op x.er y.er
 | .G8 neg x y=>.G8 neg x.er y.er
 | .sL neg tid _ x y=>.sL neg tid x.er y.er
 | .un op x=>.un op x.er
 | .len str x=>.len str x.er
 | .oY k e x=>.oY k e x.er
 | .qC x i=>.qC x.er i.er
 | .pX n t x i=>.pX n t.sz t.ag x.er i.er
 | .qA t x i=>.qA t.sz x.er i.er
 | .qB n t x i=>.qB n t.sz t.ag x.er i.er
 | .oW off t x=>.oW off t.sz t.ag x.er
 | .Iy off t x=>.Iy off t.sz t.ag x.er
 | .load t x=>.load t.sz t.ag x.er
 | .store t x v=>.store t.sz x.er v.er
 | .alloc tid zero=>.alloc tid (zero.map y8)
 | .box tid x=>.box tid x.er
 | .qj tid _ x=>.qj tid x.er
 | .build zero parts=>.build (zero.map y8) (parts.map λq=>(q.1,q.2.1,q.2.2.er))
 | .bI own tid t ln parts=>.bI own tid t.sz ln (parts.map X.er)
 | .cO tid t bytes l c=>.cO tid t.sz bytes (m9 t) l.er c.er
 | .append tid t bytes x y=>.append tid t.sz bytes x.er y.er
 | .qm k x=>.qm k x.er
 | .Je _ t x lo E mx=>.Je t.sz x.er (QA lo) (QA E) (QA mx)
 | .qJ x lo E=>.qJ x.er (QA lo) (QA E)
 | .ext x i=>.ext x.er i
 | .rR x=>.rR x.er
 | .call bor f args _=>.call bor (f%10000) (args.map λa=>a.2.er)
 | .gP _ bor B f args _=>.gP bor B (f%10000) (args.map λa=>a.2.er)
 | .fw _ bor B _ x args _=>.fw bor B x.er (args.map λa=>a.2.er)
 | .im bor _ x args _=>.im bor x.er (args.map λa=>a.2.er)
 | .G3 x=>.G3 x.er
 | .rQ f caps=>.rQ f (caps.map X.er)
 | .ir k e _ _=>.ir k e
 | .lookup k e ok _ b m x=>.lookup k e ok (m9 b) m.er x.er
 | .ic k e _ _ m x v=>.ic k e m.er x.er v.er
 | .copy tid t x y=>.copy tid t.sz x.er y.er
 | .mX mx k x ys=>.mX mx k x.er (ys.map X.er)
 | .panic x=>.panic x.er
 | .iface tid x=>.iface tid x.er
 | .pj tid t ln parts=>.bI false tid t.sz ln (parts.map X.er)
 | .pM tid t bytes x y=>.pM tid t.sz bytes x.er y.er
 | .eo tid _ t ln parts=>.eo tid t.sz ln (parts.map X.er)
 | .dE tid k _ bytes l c=>.dE k tid 1 bytes (.slice none 0 0) l.er c.er
 | .pN tid k t bytes x y=>.pN k tid t.sz bytes x.er y.er
 | .uq k op=>.uq k op.er
def fsT(P:Program)(c:TypeId->Ty->Bool):List Field->Nat->Ty->Bool
 |[],_,.unit=>true
 |f::l,off,.pair a b=>(f.name != "_")&&a_ f.offset off&&(match P.info? f.type with
  |some i=>a_ i.size a.sz&&(P.underlying f.type).isSome&&(iv P f.type==a.ag)
  |none=>false)&&c f.type a&&fsT P c l (off+a.sz) b
 |_,_,_=>false
def wF(P:Program):Nat->TypeId->Ty->Bool
 |0,_,_=>false
 |d+1,t,u=>match P.underlying t,u with
  |some .bool,.bool=>true
  |some (.int k),.int b=>decide (k=b)
  |some .string,.str=>true
  |some (.struct a),u=> !P.stoodInHeld t&&fsT P (wF P d) a.toList 0 u
  |_,_=>false
def iY(l:List (Arg×X)):Bool:=l.all λa=>a.2.wf
def XL(x:Option X):Bool:=match x with
 |some x=>x.wf
 |none=>true
def lQ.wf(P:Program):lQ->Bool
 | .mv x=>x.wf
 | .pick c a b=>c.wf&&a.wf&&b.wf
 | .bin _ x y=>x.wf&&y.wf
 | .G8 _ x y=>x.wf&&y.wf
 | .sL _ tid t x y=>x.wf&&y.wf&&wF P 64 tid t
 | .un _ x=>x.wf
 | .len _ x=>x.wf
 | .oY _ _ x=>x.wf
 | .qC x i=>x.wf&&i.wf
 | .pX _ _ x i=>x.wf&&i.wf
 | .qA _ x i=>x.wf&&i.wf
 | .qB _ _ x i=>x.wf&&i.wf
 | .oW _ _ x=>x.wf
 | .Iy _ _ x=>x.wf
 | .load _ x=>x.wf
 | .store _ x v=>x.wf&&v.wf
 | .alloc _ zero=>zero.all V.EZ
 | .box _ x=>x.wf
 | .qj _ _ x=>x.wf
 | .build zero parts=>zero.all V.EZ&&parts.all λq=>q.2.2.wf
 | .bI _ _ _ _ parts=>parts.all X.wf
 | .cO _ t _ l c=>l.wf&&c.wf&&decide (t≠.rx)
 | .append _ _ _ x y=>x.wf&&y.wf
 | .qm _ x=>x.wf
 | .Je _ _ x lo E mx=>x.wf&&XL lo&&XL E&&XL mx
 | .qJ x lo E=>x.wf&&XL lo&&XL E
 | .ext x _=>x.wf
 | .rR x=>x.wf
 | .call _ _ args sh=>iY args&&sh.zB
 | .gP _ _ _ _ args sh=>iY args&&sh.zB
 | .fw _ _ _ num x args sh=>x.wf&&iY args&&ez P (num%10000)&&sh.zB
 | .im _ num x args sh=>x.wf&&iY args&&ez P (num%10000)&&sh.zB
 | .G3 x=>x.wf
 | .rQ _ caps=>caps.all X.wf
 | .ir _ _ _ _=>true
 | .lookup k _ _ a b m x=>m.wf&&x.wf&&wF P 64 k a&&b.sc
 | .ic k _ a _ m x v=>m.wf&&x.wf&&v.wf&&wF P 64 k a
 | .copy _ _ x y=>x.wf&&y.wf
 | .mX _ _ x ys=>x.wf&&ys.all X.wf
 | .panic x=>x.wf
 | .iface _ x=>x.wf
 | .pj _ _ _ parts=>parts.all X.wf
 | .pM _ _ _ x y=>x.wf&&y.wf
 | .eo _ _ _ _ parts=>parts.all X.wf
 | .dE _ _ _ _ l c=>l.wf&&c.wf
 | .pN _ _ _ _ x y=>x.wf&&y.wf
 | .uq _ op=>op.wf P
def FI(t:Nat)(want:Bool)(r alt:SX):fh:=match want with
 |true=>.pick (.tm t) r alt
 |false=>.pick (.tm t) alt r
def RC.er:Option (Nat×Bool)->RC->List be
 |_,.nil=>[]
 |g,.op d o rest=>⟨d,o.er,g⟩::rest.er g
 |g,.mz _ rest=>rest.er g
 |g,.gb t want ek _ r alt dst rest=>ek.er (some (t,want))++(⟨some dst,FI t want r.er alt.er,g⟩::rest.er g)
def lQ.mj:lQ->Bool
 | .store .. =>false
 | .alloc .. =>false
 | .box .. =>false
 | .bI own .. => !own
 | .cO .. =>false
 | .append .. =>false
 | .gP .. =>false
 | .fw .. =>false
 | .ir .. =>false
 | .ic .. =>false
 | .copy .. =>false
 | .panic .. =>false
 | .uq .. =>false
 | .dE .. =>false
 | .pN .. =>false
 |_=>true
def lQ.exB:lQ->Bool
 | .append .. =>true
 | .pN .. =>true
 | .gP .. =>true
 | .fw .. =>true
 | .store .. =>true
 |o=>o.mj
def lQ.zeB:lQ->Bool
 | .uq .. =>true
 |_=>false
def RC.mj:RC->Bool
 | .nil=>true
 | .op _ o rest=>o.mj&&rest.mj
 | .mz _ _=>false
 | .gb _ _ ek _ _ _ _ rest=>ek.mj&&rest.mj
def RC.wf(P:Program):RC->Bool
 | .nil=>true
 | .op _ o rest=>o.wf P&&rest.wf P
 | .mz _ rest=>rest.wf P
 | .gb _ _ ek _ r alt _ rest=>ek.wf P&&ek.mj&&r.wf&&alt.wf&&rest.wf P
def zeF(j:Nat)(b:Bool)(us:List Nat)(d:Option Nat)(o:lQ):PO:=⟨j,b,us,o.er.rd,o.er.lA,d,o,none⟩
def zeE(j:Nat)(b:Bool)(us:List Nat)(t:Nat)(want:Bool)(d:Option Nat)(o:lQ):PO:=⟨j,b,us,o.er.rd++[t],o.er.lA,d,o,some (t,want)⟩
def PO.so(p:PO):be:=⟨p.d,p.o.er,p.g⟩
def HS(pre:List PO):List be:=(L_ pre.length).map λj=>match pre.find? λp=>a_ p.j j with
 |some p=>p.so
 |none=>default
def TC.er:TC->AC
 | .skip=>.skip
 | .region ops=>.region (ops.er none)
 | .draw k ops af=>.draw k (ops.er none) af
 | .HV pre=>.region (pre.map PO.so)
 | .kq _ pre tl af=>.kq (pre.map λp=>(p.j,p.b)) (HS pre++tl.er none) af
 | .seq a b=>.seq a.er b.er
 | .cond x a b=>.cond x.er a.er b.er
 | .block id a=>.block id a.er
 | .loop _ _ a=>.loop a.er
 | .exit id=>.exit id
 | .ret=>.ret
 | .mz _ a=>a.er
 | .after a _=>a.er
 | .cut _ a=>a.er
theorem mV(fr:List (Nat×V))(k:Nat):Av.look (fr.map λx=>(x.1,a8 x.2)) k=(lk fr k).map a8:=by
 induction fr with
 |nil=>rfl|cons x fr b=>
  obtain⟨j,v⟩:=x;simp only[l_,Av.look,lk];by_cases h:k=j;.subst h;simp
  .rw[if_neg h,b];have:a_ k j=false:=by
    cases a:a_ k j;.rfl
    .exact absurd (h_ a) h
   grind
theorem uH{v:V}(h:v.EZ=true):bG (y8 v)=aU v:=by
 cases v<;>simp only[V.EZ]at h<;>try cases h
 .rename_i t x;cases t<;>simp only[Ty.sc]at h<;>first|rfl|grind
 .rfl
 .rfl
theorem aG{s:S}{x:X}{v:V}(a:x.wf=true)(h:s.get x=some v):(enc s).get x.er=some (a8 v):=by
 cases x with
 |tm k=>simp only[S.get]at h;show Av.look (s.fr.map λx=>(x.1,a8 x.2)) k=_;rw[mV,h];rfl|k t x=>simp only[S.get,b_]at h;subst h;simp only[X.wf]at a;cases t<;>simp only[Ty.sc]at a<;>first|rfl|grind
 |nil t=>simp only[S.get,b_]at h;subst h;rfl|ag vs=>simp only[S.get,b_]at h;subst h;simp only[X.wf,p_]at a;show some (AV.agg (((vs.map y8).toArray).toList.map bG))=some (.agg (vs.map aU));simp only[aC_];congr 2;exact List.map_congr_left λv b=>uH (a v b)|f n=>simp only[S.get,b_]at h;subst h;rfl|raw v=>simp only[S.get,b_]at h;subst h;simp only[X.wf]at a;cases v<;>simp only at a<;>first|rfl|grind
theorem gF(s:S)(d:Option Nat)(v:V):enc (s.aE d v)=(enc s).aE d (a8 v):=by cases d<;>rfl
theorem bL(s:S)(i:Nat):(enc s).hp[i]? =(s.hp[i]?).map bT:=by simp[enc]
def eV{a:Type}:∀(l:List a) (n:Nat) (y:a),setAt l n y=l.set n y
 |[],_,_=>rfl
 |_::_,0,_=>rfl
 |x::l,n+1,y=>by simp[setAt,eV l n y]
def Pd(t:Ty)(ht:t≠.rx):(fV (m9 t)).bF=some (aM t t.zero)/\(fV (m9 t)).cells.length=t.sz:=by
 have c:∀(t:Ty),(((gz t t.zero).map λv=>match v with
  | .d (.list _) _=>Value.slice none 0 0
  |v=>y8 v).map bG).mapM BV.bF=some (aN t t.zero)/\(gz t t.zero).length=t.sz:=by
  intro t
  refine⟨?_,(dO t t.zero).2⟩
  induction t with|pair a b d e=>have hc:aN (.pair a b) (Ty.zero (.pair a b))=aN a a.zero++aN b b.zero:=rfl;rw[hc];simp only[gz,Ty.zero,q_,an_];grind|rx=>rfl|list t=>rfl|_=>rfl
 cases h:t.ag;.cases t<;>simp[Ty.ag]at h<;>exact⟨rfl,rfl⟩
 .have:=c t;simp only[m9,h];simp only[fV];refine⟨?_,?_⟩
  .show((((((gz t t.zero).map λv=>match v with| .d (.list _) _=>Value.slice none 0 0|v=>y8 v).toArray).toList).map bG).mapM BV.bF).map PV.agg=_
   rw[List.toList_toArray,this.1,eQ _ h];rfl
  .show(((((gz t t.zero).map λv=>match v with| .d (.list _) _=>Value.slice none 0 0|v=>y8 v).toArray).toList).map bG).length=_
   grind
structure Zt where
 ty:List Ty
 kk:List K
 sh:List Sh
 zs:List (List V)
 fq:List (List (List Nat))
structure Zx where
 o:List lQ
def yK{a:Type}(d:a):List a->Nat->a
 |[],_=>d
 |x::l,n=>bif a_ n 0 then x else yK d l (n - 1)
def zf:Nat->Nat->Nat×Nat
 |0,n=>(0,n)
 |f+1,n=>bif j_ 8 (n%16)then(match zf f (n/16)with|(v,r)=>(n%16 - 8+8*v,r))else(n%16,n/16)
def zu:List Nat->Nat->Nat->Nat->Nat->Nat×Nat
 |[],_,s,m,q=>zf 24 (m*q+s)
 |f::l,v,s,m,q=>bif j_ 256 f then zu l (v+f - 256) s m q else bif j_ (s+1) f then(v,f*q+s)else zu l (v+1) (s - f) (m - f) q
def zy{a:Type}(n:Nat)(f:Nat->a):a:=match n with
 |0=>f 0
 |n+1=>f (n+1)
def zyT{c:Type}(t:Ty)(f:Ty->c):c:=match t with
 | .int k=>f (.int k)
 | .bool=>f .bool
 | .str=>f .str
 | .list t=>f (.list t)
 | .unit=>f .unit
 | .pair a b=>f (.pair a b)
 | .rx=>f .rx
def zn(T:Zt)(k n:Nat):Nat×Nat:=match zu (yK [] (yK [] T.fq (k/16)) (k%16)) 0 (n%256) 256 (n/256)with
 |(a,r)=>zy a λa=>zy r λr=>(a,r)
def zl{b:Type}(p:Nat->b×Nat):Nat->Nat->List b×Nat
 |0,n=>([],n)
 |k+1,n=>match p n with
  |(a,r)=>match zl p k r with
   |(l,r)=>(a::l,r)
def Gx{a:Type}(T:Zt)(k:Nat)(p:Nat->a×Nat)(n:Nat):List a×Nat:=match zn T k n with
 |(k,r)=>zl p k r
def zm{b β:Type}(f:b->β)(p:b×Nat):β×Nat:=match p with
 |(a,r)=>(f a,r)
def zb{b β:Type}(p:b×Nat)(f:b->Nat->β×Nat):β×Nat:=match p with
 |(a,r)=>f a r
def zbt(v:Nat):Int:=bif a_ (v%2) 0 then Int.ofNat (v/2)else Int.negSucc (v/2)
def zdg(T:Zt)(c:Nat):Nat->Nat->Nat->List Nat×Nat
 |0,_,n=>([],n)
 |k+1,b,n=>match zn T c n with
  |(v,r)=>match zdg T c k (b+v) r with
   |(l,r)=>((b+v)::l,r)
def zas(T:Zt)(n:Nat):List Nat×Nat:=match zn T 79 n with
 |(k,r)=>zdg T 78 k 0 r
def zcp{a:Type}(T:Zt)(p:Nat->Nat->a×Nat)(g:a->Nat)(c:Nat):Nat->Nat->Nat->List a->Nat->List a×Nat
 |0,_,_,_,n=>([],n)
 |f+1,q,b,l,n=>match zn T (c+q) n with
  |(0,r)=>([],r)
  |(1,r)=>match l with
   |[]=>([],r)
   |x::l=>zm (List.cons x) (zcp T p g c f 1 (g x) l r)
  |(2,r)=>zcp T p g c f 2 b l.tail r
  |(_,r)=>zb (p b r) λx r=>zm (List.cons x) (zcp T p g c f 3 (g x) l r)
def zev(b c:Nat):Nat:=bif a_ (c%2) 0 then b+c/2 else b - (c/2+1)
def zdh(b c:Nat):Nat:=bif j_ 4 c then c - 4 else b - 1 - c
def zdi(b c:Nat):Nat:=bif j_ 2 c then c - 2 else b+c
def zt(T:Zt)(k b n:Nat):Nat×Nat:=match zn T k n with
 |(c,r)=>(zdh b c,r)
def zd(T:Zt)(k b n:Nat):Option Nat×Nat:=match zn T k n with
 |(c,r)=>(bif a_ c 0 then none else some (zdi b (c - 1)),r)
section
variable (T:Zt)
def qO(k n:Nat):Ty×Nat:=match zn T k n with
 |(i,r)=>zyT (yK .unit T.ty i) λt=>(t,r)
def zk(n:Nat):K×Nat:=match zn T 80 n with
 |(i,r)=>(yK .e T.kk i,r)
def zsh(n:Nat):Sh×Nat:=match zn T 81 n with
 |(i,r)=>match yK ⟨[],⟨[],[]⟩,[]⟩ T.sh i with
  |⟨a,b,c⟩=>(⟨a,b,c⟩,r)
def zet(n:Nat):V×Nat:=zb (zn T 82 n) λk r=>zm (λv=>match yK .unit T.ty k with| .int k=>V.d (.int k) (zbt v)|_=>.any) (zn T 83 r)
def zV:Nat->Nat->V×Nat
 |0,n=>(.any,n)
 |f+1,n=>match zn T 84 n with
  |(o,r)=>match o with
   |0=>(.any,r)
   |1=>zm V.sl (zn T 85 r)
   |2=>zb (zn T 85 r) λi r=>zm (V.ptr i) (zn T 86 r)
   |3=>zm V.mp (zn T 85 r)
   |4=>zm V.nil (qO T 87 r)
   |5=>(.raw (.pointer none),r)
   |6=>(.raw (.slice none 0 0),r)
   |7=>zm V.agg (Gx T 88 (zV f) r)
   |8=>zm V.dC (Gx T 88 (zV f) r)
   |9=>zm (λv=>V.d tI (zbt v)) (zn T 83 r)
   |10=>zm (λv=>V.d tB (a_ v 1)) (zn T 89 r)
   |11=>zb (zn T 90 r) λi r=>zm (V.kj i) (Gx T 88 (zn T 86) r)
   |12=>(.raw .nilIface,r)
   |13=>(.raw (.map none),r)
   |14=>(.LD,r)
   |15=>zet T r
   |16=>zm (λl=>V.d tS (l.map UInt8.ofNat)) (Gx T 91 (zn T 92) r)
   |_=>zm (λi=>(yK [] T.zs i).headD .any) (zn T 93 r)
def zX(k b n:Nat):X×Nat:=match zn T k n with
 |(c,r)=>match c%4 with
  |0=>(.tm (zdh b (c/4)),r)
  |1=>(.k tI (zbt (c/4)),r)
  |_=>match c/4 with
   |0=>(.k tB false,r)
   |1=>(.k tB true,r)
   |2=>zm X.nil (qO T 87 r)
   |3=>zb (zn T 82 r) λk r=>zm (λv=>match yK .unit T.ty k with| .int k=>X.k (.int k) (zbt v)|_=>.f 0) (zn T 83 r)
   |4=>zm (λl=>X.k tS (l.map UInt8.ofNat)) (Gx T 91 (zn T 92) r)
   |5=>zm X.ag (Gx T 88 (zV T 9) r)
   |6=>zm X.f (zn T 90 r)
   |7=>(.raw (.pointer none),r)
   |8=>(.raw (.slice none 0 0),r)
   |9=>(.raw .nilIface,r)
   |10=>(.raw (.map none),r)
   |_=>zm (λi=>match(yK [] T.zs i).headD .any with| .raw v=>X.raw v|_=>.f 0) (zn T 93 r)
def zbs(b n:Nat):(Arg×X)×Nat:=match zn T 94 n with
 |(c,r)=>bif a_ c 0 then zm (λx=>(Arg.x,x)) (zX T 95 b r)else zyT (yK .unit T.ty (c - 1)) λt=>zm (λx=>(.d t,x)) (zX T 96 b r)
def zeZ:Nat->BinOp
 |0=>.add|1=>.sub|2=>.mul|3=>.quo|4=>.rem|5=>.and|6=>.or|7=>.xor|8=>.andNot|9=>.shl|10=>.shr
 |11=>.eql|12=>.neq|13=>.lss|14=>.leq|15=>.gtr|_=>.geq
def zox(b n:Nat):Option X×Nat:=match zn T 89 n with
 |(0,r)=>(none,r)
 |(_,r)=>zm some (zX T 97 b r)
def zXs(b n:Nat):List X×Nat:=Gx T 125 (zX T 196 b) n
def ze0(x:Zx)(b o r:Nat):lQ×Nat:=match o with
 |0=>zm (λi=>yK (.mv (.tm 0)) x.o i) (zn T 188 r)
 |1=>zb (qO T 189 r) λt r=>zm (.qm (match t with| .int k=>k|_=>.i64)) (zX T 196 b r)
 |2=>zb (zn T 133 r) λm r=>zb (Gx T 125 (zn T 86) r) λB r=>zb (zn T 198 r) λf r=>zb (zX T 196 b r) λx r=>zb (Gx T 115 (zbs T b) r) λl r=>zm (.fw (j_ 2 m) (a_ (m%2) 1) B f x l) (zsh T r)
 |12=>zb (zX T 196 b r) λx r=>zb (zX T 196 b r) λy r=>zm (.pick x y) (zX T 196 b r)
 |o=>zb (zn T 198 r) λk r=>match o with
  |3=>zm (.rQ k) (zXs T b r)
  |4=>zb (qO T 197 r) λt r=>zb (zX T 196 b r) λx r=>zm (.qB k t x) (zX T 196 b r)
  |10=>zb (zk T r) λc r=>zb (qO T 197 r) λt r=>zb (zn T 198 r) λl r=>zm (.eo k c t l) (zXs T b r)
  |11=>zb (zk T r) λc r=>zb (qO T 197 r) λt r=>zb (zn T 198 r) λl r=>zb (zX T 196 b r) λx r=>zm (.pN k c t l x) (zX T 196 b r)
  |8=>zb (qO T 197 r) λt r=>zb (zn T 198 r) λl r=>zb (zX T 196 b r) λx r=>zm (.pM k t l x) (zX T 196 b r)
  |9=>zb (qO T 197 r) λt r=>zb (zn T 198 r) λl r=>zm (.pj k t l) (zXs T b r)
  |o=>zb (zn T 198 r) λe r=>zb (qO T 197 r) λs r=>zb (qO T 197 r) λt r=>match o with
   |7=>(.ir k e s t,r)
   |o=>zb (zX T 196 b r) λm r=>zb (zX T 196 b r) λx r=>match o with
    |6=>(.lookup k e true s t m x,r)
    |_=>zm (.ic k e s t m x) (zX T 196 b r)
def zeu(x:Zx)(b:Nat)(o:Nat)(r:Nat):lQ×Nat:=
 match o with
 |1=>zm (λt=>.mv (.tm t)) (zt T 98 b r)
 |2=>zb (qO T 99 r) λt r=>zm (λx=>.load t (.tm x)) (zt T 100 b r)
 |3=>zb (zn T 101 r) λj r=>zb (qO T 102 r) λt r=>zm (λx=>.oW j t (.tm x)) (zt T 103 b r)
 |5=>zb (zn T 104 r) λk r=>zb (zX T 105 b r) λx r=>zm (λy=>.bin (zeZ k) x y) (zX T 106 b r)
 |6=>zm .mv (zX T 107 b r)
 |7=>zb (qO T 108 r) λt r=>zb (zX T 109 b r) λx r=>zm (λi=>.qA t x i) (zX T 110 b r)
 |8=>zb (qO T 111 r) λt r=>zb (zX T 112 b r) λx r=>zm (λi=>.store t x i) (zX T 113 b r)
 |9=>zm (.len false) (zX T 114 b r)
 |10=>zb (zn T 90 r) λf r=>zb (Gx T 115 (zbs T b) r) λl r=>zm (λq=>.call false f l q) (zsh T r)
 |12=>zm .rR (zX T 116 b r)
 |13=>zb (zX T 117 b r) λx r=>zm (.ext x) (zn T 118 r)
 |14=>zm (.un .not) (zX T 119 b r)
 |15=>zb (zn T 120 r) λo r=>ze0 T x b o r
 |17=>zb (zn T 121 r) λt r=>zm (λi=>.alloc t (yK [] T.zs i)) (zn T 93 r)
 |18=>zb (zn T 122 r) λt r=>zb (qO T 123 r) λu r=>zm (.qj t u) (zX T 124 b r)
 |19=>zb (zn T 93 r) λi r=>zm (.build (yK [] T.zs i)) (Gx T 125 (λr=>zb (zn T 126 r) λa r=>zb (zn T 126 r) λc r=>zm (λx=>(a,c,x)) (zX T 127 b r)) r)
 |20=>zb (zn T 89 r) λo r=>zb (zn T 128 r) λt r=>zb (qO T 123 r) λu r=>zb (zn T 128 r) λl r=>zm (λp=>.bI (a_ o 1) t u l p) (Gx T 125 (zX T 124 b) r)
 |21=>zb (zn T 129 r) λt r=>zb (qO T 130 r) λu r=>zb (zn T 129 r) λs r=>zb (zX T 131 b r) λx r=>zm (.append t u s x) (zX T 132 b r)
 |22=>zb (zn T 133 r) λm r=>zb (Gx T 125 (zn T 86) r) λB r=>zb (zn T 90 r) λf r=>zb (Gx T 115 (zbs T b) r) λl r=>zm (λq=>.gP (j_ 2 m) (a_ (m%2) 1) B f l q) (zsh T r)
 |23=>zb (zn T 128 r) λt r=>zb (qO T 123 r) λu r=>zb (zn T 128 r) λs r=>zb (zX T 124 b r) λx r=>zm (.cO t u s x) (zX T 124 b r)
 |24=>zb (zn T 101 r) λj r=>zb (qO T 134 r) λt r=>zm (.Iy j t) (zX T 135 b r)
 |25=>zb (zn T 136 r) λt r=>zm (.box t) (zX T 124 b r)
 |26=>zb (zn T 89 r) λm r=>zb (zX T 137 b r) λx r=>zm (.G8 (a_ m 1) x) (zX T 137 b r)
 |27=>zb (zX T 138 b r) λx r=>zm (.qC x) (zX T 139 b r)
 |28=>zm (.len true) (zX T 114 b r)
 |29=>zb (zn T 89 r) λm r=>zb (zn T 128 r) λt r=>zb (qO T 123 r) λu r=>zb (zX T 137 b r) λx r=>zm (.sL (a_ m 1) t u x) (zX T 137 b r)
 |30=>zb (zn T 90 r) λf r=>zb (Gx T 115 (zbs T b) r) λl r=>zm (λq=>.call true f l q) (zsh T r)
 |31=>zb (zX T 140 b r) λx r=>zb (zox T b r) λl r=>zm (.qJ x l) (zox T b r)
 |_=>zb (zn T 89 r) λm r=>zb (qO T 141 r) λt r=>zb (zX T 142 b r) λx r=>zb (zox T b r) λl r=>zb (zox T b r) λh r=>zm (.Je (a_ m 1) t x l h) (zox T b r)
def zop(x:Zx)(b:Nat)(o:Nat)(r:Nat):lQ×Nat:=match o with
 |33=>zb (zn T 143 r) λs r=>zb (zn T 33 r) λo r=>zm (.uq s) (zeu T x b o r)
 |o=>zeu T x b o r
def zdf(n:Nat):B2×Nat:=match zn T 144 n with
 |(o,r)=>match o with
  |0=>zm B2.freeze (zn T 145 r)
  |1=>zb (zn T 145 r) λk r=>zb (zn T 145 r) λty r=>zm (.We k ty) (qO T 146 r)
  |2=>zb (zn T 145 r) λi r=>zb (zn T 145 r) λj r=>zb (zn T 145 r) λty r=>zm (.Pz i j ty) (qO T 146 r)
  |3=>zb (Gx T 125 (zn T 145) r) λa r=>zm (.sel a) (zas T r)
  |4=>zm B2.drop (Gx T 125 (zn T 145) r)
  |5=>zb (zn T 145 r) λi r=>zb (zn T 145 r) λk r=>zb (zn T 145 r) λj r=>zm (.focus i k j) (qO T 146 r)
  |6=>zm B2.close (zn T 145 r)
  |7=>zb (zn T 145 r) λk r=>zb (zn T 145 r) λty r=>zb (zk T r) λkk r=>zm (.PC k ty kk) (qO T 146 r)
  |_=>zb (zn T 145 r) λi r=>zb (zn T 145 r) λj r=>zb (zn T 145 r) λty r=>zb (zk T r) λkk r=>zm (.JM i j ty kk) (qO T 146 r)
def zR(x:Zx):Nat->Nat->Nat->Nat->RC×Nat×Nat
 |0,_,b,n=>(.nil,b,n)
 |f+1,p,b,n=>match zn T p n with
  |(o,r)=>match o with
   |0=>(.nil,b,r)
   |4=>match zn T 38 r with
    |(c,r)=>match zn T 101 r with
     |(j,r)=>match qO T 102 r with
      |(t,r)=>match zt T 103 b r with
       |(k,r)=>zy (zdi b c) λc=>match zR x f 4 (c+2) r with
        |(l,e,r)=>(.op (some c) (.oW j t (.tm k)) (.op (some (c+1)) (.load t (.tm c)) l),e,r)
   |11=>match zn T 89 r with
    |(m,r)=>match zt T 147 b r with
     |(t,r)=>match qO T 148 r with
      |(ty,r)=>match zR x f 0 b r with
       |(k,b,r)=>match zX T 149 b r with
        |(u,r)=>match zX T 150 b r with
         |(al,r)=>match zn T 45 r with
          |(d,r)=>zy (zdi b d) λd=>match zR x f 11 (d+1) r with
           |(l,e,r)=>(.gb t (a_ m 1) k ty u al d l,e,r)
   |16=>match Gx T 125 (zdf T) r with
    |(a,r)=>match zR x f 16 b r with
     |(l,e,r)=>(.mz a l,e,r)
   |o=>match zd T (34+o) b r with
    |(d,r)=>match zop T x b o r with
     |(op,r)=>zy (match d with|none=>b|some d=>d+1) λb=>match zR x f o b r with
      |(l,e,r)=>(.op d op l,e,r)
def zob(n:Nat):Ob×Nat:=match zn T 151 n with
 |(o,r)=>match o with
  |0=>(.gone,r)
  |1=>zb (zn T 152 r) λt r=>zm (.box t) (Gx T 88 (zV T 9) r)
  |2=>zb (zn T 152 r) λt r=>zm (λu=>.vec t u []) (qO T 153 r)
  |3=>zb (zn T 152 r) λt r=>zb (zk T r) λk r=>zm (λu=>.tree t k u [] none) (qO T 153 r)
  |4=>zb (zn T 152 r) λt r=>zb (zk T r) λk r=>zb (qO T 153 r) λu r=>zb (zn T 86 r) λj r=>zm (λs=>.tree t k u [] (some (0,j,.sl s))) (zn T 86 r)
  |5=>zb (zn T 152 r) λk r=>zb (zn T 152 r) λty r=>zb (qO T 153 r) λa r=>zm (λc=>.map k ty a c []) (qO T 153 r)
  |_=>(.free,r)
def zew(n:Nat):Slot×Nat:=match zn T 154 n with
 |(o,r)=>match o with
  |0=>zb (zn T 155 r) λk r=>zm (.tm k) (qO T 156 r)
  |1=>zb (zn T 86 r) λk r=>zb (zn T 86 r) λj r=>zm (.cell k j) (qO T 156 r)
  |2=>zb (zn T 86 r) λk r=>zb (zn T 86 r) λj r=>zm (.vec k j) (qO T 156 r)
  |3=>zb (zn T 86 r) λk r=>zb (zn T 86 r) λj r=>zb (zn T 86 r) λty r=>zb (qO T 156 r) λa r=>zm (.map k j ty a) (qO T 156 r)
  |4=>zb (zn T 86 r) λk r=>zb (zn T 86 r) λj r=>zb (zk T r) λty r=>zm (.tree k j ty) (qO T 156 r)
  |_=>zb (zn T 86 r) λk r=>zb (zn T 86 r) λj r=>zb (zk T r) λty r=>zb (qO T 156 r) λu r=>zb (zn T 86 r) λi r=>zm (.iM k j ty u i) (zn T 86 r)
def zfr(b n:Nat):(Nat×V)×Nat:=zb (zn T 157 n) λc r=>zm (λv=>(zev b c,v)) (zV T 9 r)
def zSh(h:Sh)(n:Nat):Sh×Nat:=
 zb (zas T n) λks r=>zb (zcp T (zfr T) (λx=>x.1+1) 174 200 0 0 h.sk.fr r) λfr r=>zb (zcp T (λ_=>zob T) (λ_=>0) 178 200 0 0 h.sk.hp r) λhp r=>zm (λsl=>⟨ks,⟨fr,hp⟩,sl⟩) (zcp T (λ_=>zew T) (λ_=>0) 182 200 0 0 h.sl r)
def zxs:Nat->Sh->Nat->List (Nat×Sh)×Sh×Nat
 |0,h,n=>([],h,n)
 |k+1,h,n=>match zn T 162 n with
  |(i,r)=>match zSh T h r with
   |(s,r)=>match zxs k s r with
    |(l,h,r)=>((i,s)::l,h,r)
def zPO(x:Zx)(b:Nat)(u:List Nat)(n:Nat):(PO×Option Nat×List Nat)×Nat:=
 zb (zn T 163 n) λj r=>zb (zn T 164 r) λc r=>zb (zn T 165 r) λm r=>zb (bif a_ m 0 then(u,r)else zdg T 166 (m - 1) 0 r) λus r=>zb (zn T 167 r) λo r=>zb (zd T (34+o) b r) λd r=>zb (zn T 168 r) λg r=>zm (λop=>(bif a_ g 0 then zeF j (a_ (c%2) 1) us d op else zeE j (a_ (c%2) 1) us (zdh b (g - 1)) (j_ 2 c) d op,d,us)) (zop T x b o r)
def zPs(x:Zx):Nat->Nat->List Nat->Nat->List PO×Nat×Nat
 |0,b,_,n=>([],b,n)
 |k+1,b,u,n=>match zPO T x b u n with
  |((p,d,u),r)=>zy (match d with|none=>b|some d=>d+1) λb=>match zPs x k b u r with
   |(l,b,r)=>(p::l,b,r)
def zaf:Nat->Nat->Nat->List (List Nat)×Nat
 |0,_,n=>([],n)
 |k+1,p,n=>zb (zn T 169 n) λc r=>zb (zl (λn=>zb (zn T 170 n) λv r=>zy (p - 1 - v) λv=>(v,r)) (c/2) r) λl r=>zb (bif a_ (c%2) 0 then(l,r)else zm (λm=>l++L_ (p - m)) (zn T 186 r)) λl r=>zm (List.cons l) (zaf k (p+1) r)
def zG(x:Zx):Nat->Nat->Sh->Nat->Nat->TC×Nat×Nat×Sh
 |0,_,h,b,n=>(.skip,b,n,h)
 |f+1,p,h,b,n=>match zn T p n with
  |(o,r)=>match o with
   |0=>(.skip,b,r,h)
   |1=>match zR T x 400 0 b r with
    |(l,b,r)=>(.region l,b,r,h)
   |2=>match zG x f 69 h b r with
    |(l,b,r,h)=>match zG x f 76 h b r with
     |(k,b,r,h)=>(.seq l k,b,r,h)
   |3=>match zX T 172 b r with
    |(c,r)=>match zG x f 70 h b r with
     |(l,b,r,h)=>match zG x f 77 h b r with
      |(k,b,r,h)=>(.cond c l k,b,r,h)
   |4=>match zn T 171 r with
    |(i,r)=>match zG x f 71 h b r with
     |(l,b,r,h)=>(.block i l,b,r,h)
   |5=>match zSh T h r with
    |(sh,r)=>match zn T 161 r with
     |(m,r)=>match zxs T m sh r with
      |(xs,h,r)=>match zG x f 72 h b r with
      |(l,b,r,h)=>(.loop sh xs l,b,r,h)
   |6=>match zn T 171 r with
    |(i,r)=>(.exit i,b,r,h)
   |7=>(.ret,b,r,h)
   |8=>match zn T 128 r with
    |(k,r)=>match(zb (zn T 187 r) λm r=>zaf T m 0 r)with
     |(af,r)=>match zR T x 400 0 b r with
      |(l,b,r)=>(.draw k l af,b,r,h)
   |9=>match Gx T 125 (zdf T) r with
    |(a,r)=>match zG x f 73 h b r with
     |(l,b,r,h)=>(.mz a l,b,r,h)
   |10=>match Gx T 125 (zdf T) r with
    |(a,r)=>match zG x f 74 h b r with
     |(l,b,r,h)=>(.after l a,b,r,h)
   |11=>match zn T 161 r with
    |(m,r)=>match zxs T m h r with
     |(xs,h,r)=>match zG x f 75 h b r with
     |(l,b,r,h)=>(.cut xs l,b,r,h)
   |12=>match zn T 128 r with
    |(k,r)=>match(zb (zn T 187 r) λm r=>zaf T m 0 r)with
     |(af,r)=>match zn T 173 r with
      |(m,r)=>match zPs T x m b [] r with
       |(pre,b,r)=>match zR T x 400 0 b r with
        |(l,b,r)=>(.kq k pre l af,b,r,h)
   |_=>match zn T 173 r with
    |(m,r)=>match zPs T x m b [] r with
     |(pre,b,r)=>(.HV pre,b,r,h)
def zrx(n:Nat):RX×Nat:=zb (zn T 193 n) λc r=>bif a_ (c%2) 0 then(.tm (c/2),r)else zm (λt=>.cell (c/2) t) (qO T 194 r)
def zE(l:List lQ)(n:Nat)(q:Sh):TF:=match zn T 190 n with
 |(m,r)=>match zn T 191 r with
  |(k,r)=>match Gx T 192 (zrx T) r with
   |(s,r)=>⟨(zG T ⟨l⟩ 400 68 ⟨[],⟨[],[]⟩,[]⟩ 0 r).1,s,k,q,m⟩
end
noncomputable def Gv(l:List (Nat×V))(t:Nat):Option V:=List.rec (motive:=λ_=>Option V) none (λx _ a=>E_ (motive:=λ_=>Option V) a (some x.2) (a_ t x.1)) l
def p7(t:Nat):∀l:List (Nat×V),Gv l t=lk l t
 |[]=>rfl
 |(k,a)::l=>by show(E_ (motive:=λ_=>Option V) (Gv l t) (some a) (a_ t k))=bif a_ t k then some a else lk l t;rw[p7 t l];cases a_ t k<;>rfl
noncomputable def S.l6(s:S)(x:X):Option V:=X.casesOn (motive:=λ_=>Option V) x (λk=>Gv s.fr k) (λt x=>some (.d t x)) (λt=>some (.nil t)) (λvs=>some (.agg vs)) (λn=>some (.HQ n [])) (λv=>some (.raw v))
theorem iR(s:S)(x:X):s.l6 x=s.get x:=by cases x<;>first|exact p7 _ _|rfl
def mM(m k:Nat):Bool:=a_ (V_ (Nat.shiftRight m k) 1) 1
def kK(m k:Nat):mM m k=m.testBit k:=by show a_ ((m>>>k)&&&1) 1=((1&&&(m>>>k)) != 0);rw[aD_ 1,aD_,Nat.one_and_eq_mod_two];rcases Nat.mod_two_eq_zero_or_one (m>>>k)with h|h<;>rw[h]<;>rfl
theorem rH(a b:List Nat)(k:Nat):kM (a++b) k=(kM a k||kM b k):=by simp[kM]
theorem oy(a b k:Nat):mM (O_ a b) k=(mM a k||mM b k):=by rw[kK,kK,kK];exact Nat.testBit_or a b k
def Bm(d k:Nat):mM (2^d) k=kM [d] k:=by
 rw[kK,Nat.testBit_two_pow];show decide (d=k)=(a_ k d||false);by_cases h:d=k;.subst h;simp
 grind[h_]
def jO(k:Nat):mM 0 k=kM [] k:=by rw[kK];simp[kM]
def zcc:Option Nat->Nat
 |some d=>2^d
 |none=>0
def R4(d:Option Nat)(k:Nat):mM (zcc d) k=kM (match d with|some d=>[d]|none=>[]) k:=by cases d with|none=>exact jO k|some d=>exact Bm d k
def RC.sn:RC->Nat
 | .nil=>0
 | .op d _ rest=>O_ (zcc d) rest.sn
 | .mz _ rest=>rest.sn
 | .gb _ _ ek _ _ _ dst rest=>O_ ek.sn (O_ (2^dst) rest.sn)
theorem RC.fI(k:Nat):∀r:RC,mM r.sn k=kM r.fp k
 | .nil=>jO k
 | .op d o rest=>by simp only[RC.sn,RC.fp,oy,rH,R4,RC.fI k rest]<;>rfl
 | .mz l rest=>by simp only[RC.sn,RC.fp,RC.fI k rest]
 | .gb a b ek c d e dst rest=>by simp only[RC.sn,RC.fp,oy,rH,RC.fI k rest,RC.fI k ek,Bm];rw[show dst::rest.fp=[dst]++rest.fp from rfl,rH]
def X3:List PO->Nat
 |[]=>0
 |p::l=>O_ (zcc p.d) (X3 l)
theorem K6(k:Nat):∀l:List PO,mM (X3 l) k=kM (l.flatMap λp=>match p.d with|some d=>[d]|none=>[]) k
 |[]=>jO k
 |p::l=>by simp only[X3,S_,oy,rH,R4,K6 k l]<;>rfl
def TC.sn:TC->Nat
 | .region ops=>ops.sn
 | .draw _ ops _=>ops.sn
 | .kq _ pre tl _=>O_ (X3 pre) tl.sn
 | .HV pre=>X3 pre
 | .seq a b=>O_ a.sn b.sn
 | .cond _ a b=>O_ a.sn b.sn
 | .block _ a=>a.sn
 | .loop _ _ a=>a.sn
 | .mz _ a=>a.sn
 | .after a _=>a.sn
 | .cut _ a=>a.sn
 |_=>0
theorem TC.fI(k:Nat):∀c:TC,mM c.sn k=kM c.fp k
 | .region ops=>RC.fI k ops
 | .draw _ ops _=>RC.fI k ops
 | .HV pre=>K6 k pre
 | .kq _ pre tl _=>by grind[TC.sn,TC.fp,oy,rH,RC.fI,K6]
 | .seq a b=>by simp only[TC.sn,TC.fp,oy,rH,TC.fI k a,TC.fI k b]
 | .cond _ a b=>by simp only[TC.sn,TC.fp,oy,rH,TC.fI k a,TC.fI k b]
 | .block _ a=>TC.fI k a
 | .loop _ _ a=>TC.fI k a
 | .mz _ a=>TC.fI k a
 | .after a _=>TC.fI k a
 | .cut _ a=>TC.fI k a
 | .skip=>jO k
 | .exit _=>jO k
 | .ret=>jO k
noncomputable def zaT(m:Nat)(fr:List (Nat×V))(k:Nat):Bool:=mM m k||(match Gv fr k with
 |some v=> !v.rJ
 |none=>false)
def tmQ(m:Nat->Bool):Slot->Bool
 | .tm k _=>m k
 |_=>true
noncomputable def okQ(sh:Sh)(m:Nat)(s:S):Bool:=sh.keep.all (λk=> !mM m k)&&sh.sl.all (tmQ (zaT m s.fr))&&sh.sk.fr.all (λx=>zaT m s.fr x.1)
theorem SD{m:Nat}{A:List Nat}(h:∀k,mM m k=kM A k)(fr:List (Nat×V))(k:Nat):zaT m fr k=mW A fr k:=by unfold zaT mW;rw[h,p7];all_goals rfl
def XW{m:Nat}{A:List Nat}(h:∀k,mM m k=kM A k)(sh:Sh)(s:S):okQ sh m s=sh.N5 A s:=by
 unfold okQ Sh.N5;congr 1
 .congr 1;.grind
  .congr 1;funext x;cases x<;>first|exact SD h _ _|rfl
 grind[SD]
noncomputable def VD(fr:List (Nat×V)):Nat:=List.rec (motive:=λ_=>Nat) 0 (λx _ a=>O_ (2^x.1) a) fr
def Ql(k:Nat):∀fr:List (Nat×V),mM (VD fr) k=(lk fr k).isSome
 |[]=>jO k
 |(j,v)::l=>by show mM (O_ (2^j) (VD l)) k=(bif a_ k j then some v else lk l k).isSome;rw[oy,Ql k l,Bm];show((a_ k j||false)||_)=_;grind
def XD(r:RC)(fr:List (Nat×V)):a_ (V_ r.sn (VD fr)) 0=r.fp.all (λk=>(lk fr k).isNone):=by
 cases b:r.fp.all (λk=>(lk fr k).isNone)
 .cases a:a_ (V_ r.sn (VD fr)) 0;.rfl
  .have a:=h_ a;rw[List.all_eq_false]at b;obtain⟨k,c,hn⟩:=b;have h1:(V_ r.sn (VD fr)).testBit k=(r.sn.testBit k&&(VD fr).testBit k):=ay_ _ _ _;rw[a,<-kK r.sn,<-kK (VD fr),RC.fI,Ql,ap_]at h1;have h2:kM r.fp k=true:=ak_.2 ⟨k,c,Nat.beq_refl k⟩;rw[h2]at h1;simp at h1;grind
 .have:V_ r.sn (VD fr)=0:=by refine Nat.eq_of_testBit_eq λk=>?_;have h1:(V_ r.sn (VD fr)).testBit k=(r.sn.testBit k&&(VD fr).testBit k):=ay_ _ _ _;rw[h1,<-kK r.sn,<-kK (VD fr),RC.fI,Ql,ap_];grind[kM,ak_,h_,p_,Option.isNone_iff_eq_none]
  rw[this];rfl
noncomputable def Qk(fr l:List (Nat×V)):Bool:=List.rec (motive:=λ_=>Bool) true (λx _ a=>x_ (motive:=λ_=>Bool) false (λw=>E_ (motive:=λ_=>Bool) false a (V.same x.2 w)) (Gv fr x.1)) l
def Iz(fr:List (Nat×V)):∀l,Qk fr l=EP fr l
 |[]=>rfl
 |(k,v)::l=>by
  show x_ (motive:=λ_=>Bool) false (λw=>E_ (motive:=λ_=>Bool) false (Qk fr l) (V.same v w)) (Gv fr k)=((match lk fr k with|some w=>V.same v w|none=>false)&&EP fr l)
  rw[p7,Iz fr l];cases lk fr k with|none=>rfl|some w=>show E_ (motive:=λ_=>Bool) false _ (V.same v w)=(V.same v w&&_);cases V.same v w<;>rfl
noncomputable def Tm(s:S)(x:Slot):Option x.ty.den:=Slot.casesOn (motive:=λx=>Option x.ty.den) x (λk t=>x_ (motive:=λ_=>Option t.den) none (λv=>cr t v) (Gv s.fr k)) (λa b c=>gL s (.cell a b c)) (λa b c=>gL s (.vec a b c)) (λa b c d e=>gL s (.map a b c d e)) (λa b c d=>gL s (.tree a b c d)) (λa b c d e f=>gL s (.iM a b c d e f))
def YQ(s:S)(x:Slot):Tm s x=gL s x:=by
 cases x<;>try rfl
 rename_i k t;show x_ none (λv=>cr t v) (Gv s.fr k)=match lk s.fr k with|some v=>cr t v|none=>none
 rw[p7];cases lk s.fr k<;>rfl
noncomputable def QC(s:S)(sl:List Slot):Option (HL sl):=List.rec (motive:=λsl=>Option (HL sl)) (some ()) (λx l a=>x_ (motive:=λ_=>Option (HL (x::l))) none (λc=>x_ (motive:=λ_=>Option (HL (x::l))) none (λr=>some (c,r)) a) (Tm s x)) sl
def IX(s:S):∀sl,QC s sl=FF s sl
 |[]=>rfl
 |x::l=>by
  show x_ (motive:=λ_=>Option (HL (x::l))) none (λc=>x_ (motive:=λ_=>Option (HL (x::l))) none (λr=>some (c,r)) (QC s l)) (Tm s x)=match gL s x with
   |some c=>match FF s l with
    |some r=>some (c,r)
    |none=>none
   |none=>none
  rw[YQ,IX s l];cases gL s x with|none=>rfl|some c=>cases FF s l<;>rfl
noncomputable def Wg(fr:List (Nat×V))(ks:List Nat):Bool:=List.rec (motive:=λ_=>Bool) true (λk _ a=>x_ (motive:=λ_=>Bool) false (λv=>E_ (motive:=λ_=>Bool) false a v.rJ) (Gv fr k)) ks
def Mf(fr:List (Nat×V)):∀ks,Wg fr ks=ks.all (W4 fr)
 |[]=>rfl
 |k::l=>by
  show x_ (motive:=λ_=>Bool) false (λv=>E_ (motive:=λ_=>Bool) false (Wg fr l) v.rJ) (Gv fr k)=((match lk fr k with|some v=>v.rJ|none=>false)&&l.all (W4 fr))
  rw[p7,Mf fr l];cases lk fr k with|none=>rfl|some v=>show E_ (motive:=λ_=>Bool) false _ v.rJ=(v.rJ&&_);cases v.rJ<;>rfl
noncomputable def IY(sh:Sh)(s:S):Option (HL sh.sl):=E_ (motive:=λ_=>Option (HL sh.sl)) none (QC s sh.sl) (Qk s.fr sh.sk.fr&&AT sh.sk.hp s.hp&&Wg s.fr sh.keep)
def FG(sh:Sh)(s:S):IY sh s=pack sh s:=by unfold IY pack S.fits;rw[Iz,Mf,IX];cases EP s.fr sh.sk.fr&&AT sh.sk.hp s.hp&&sh.keep.all (W4 s.fr)<;>rfl
noncomputable def Ny(fr:List (Nat×V))(ks:List Nat):List (Nat×V):=List.rec (motive:=λ_=>List (Nat×V)) [] (λk _ a=>x_ (motive:=λ_=>List (Nat×V)) a (λv=>E_ (motive:=λ_=>List (Nat×V)) a ((k,v)::a) v.rJ) (Gv fr k)) ks
def Nz(fr:List (Nat×V)):∀ks,Ny fr ks=dX fr ks
 |[]=>rfl
 |k::l=>by
  show x_ (motive:=λ_=>List (Nat×V)) (Ny fr l) (λv=>E_ (motive:=λ_=>List (Nat×V)) (Ny fr l) ((k,v)::Ny fr l) v.rJ) (Gv fr k)=match lk fr k with
   |some v=>bif v.rJ then(k,v)::dX fr l else dX fr l
   |none=>dX fr l
  rw[p7,Nz fr l];cases lk fr k with|none=>rfl|some v=>show E_ (motive:=λ_=>List (Nat×V)) _ _ v.rJ=bif v.rJ then _ else _;cases v.rJ<;>rfl
noncomputable def Sh.s9(sh:Sh)(s:S):S:=⟨Ny s.fr sh.keep++sh.sk.fr,sh.sk.hp⟩
def DR(sh:Sh)(s:S):sh.s9 s=sh.base s:=by unfold Sh.s9 Sh.base;rw[Nz]
noncomputable def EV:(xs:List (Nat×Sh))->Nat->S->Option (XT xs)
 |[],_,_=>none
 |[(k,sh)],key,s=>bif a_ k key then IY sh s else none
 |(k,sh)::a::l,key,s=>bif a_ k key then(match IY sh s with|some c=>some (.inl c)|none=>none)else(match EV (a::l) key s with|some c=>some (.inr c)|none=>none)
def KF(key:Nat)(s:S):∀xs,EV xs key s=inj xs key s
 |[]=>rfl
 |[(k,sh)]=>by simp[EV,inj,FG]
 |(k,sh)::a::l=>by simp only[EV,inj,FG,KF key s (a::l)]<;>rfl
noncomputable def jU{R:Type}(s:S)(κ:Nat->S->Option R):(xs:List (Nat×Sh))->XT xs->Option R
 |[],_=>none
 |[(k,sh)],c=>κ k (unpack sh.sl c (sh.s9 s))
 |(k,sh)::a::l,c=>aH_ (λc=>κ k (unpack sh.sl c (sh.s9 s))) (λc=>jU s κ (a::l) c) c
def re{R:Type}(s:S)(κ:Nat->S->Option R):∀xs c,jU s κ xs c=jg s κ xs c
 |[],_=>rfl
 |[(k,sh)],c=>by simp[jU,jg,DR]
 |(k,sh)::a::l,c=>by simp only[jU,jg,DR,re s κ (a::l)]
abbrev MQ(R:Type):Type:=bh->Option Nat->S->(S->Option R)->(S->Option R)->Option R
section
variable {R:Type}
noncomputable def zd8(x:X):MQ R:=λO d s κ kp=>match s.l6 x with
 |some v=>κ (s.aE d v)
 |none=>none
def zcS(c:X)(a:X)(b:X):MQ R:=λO d s κ kp=>aY O d (.pick c a b) s κ kp
noncomputable def zbM(op:BinOp)(x:X)(y:X):MQ R:=λO d s κ kp=>match s.l6 x,s.l6 y with
 |some (.d (.int k) a),some (.d (.int c) b)=>Z0 op k c a b λv=>κ (s.aE d v)
 |some (.d .str a),some (.d .str b)=>Z1 op a b λv=>κ (s.aE d v)
 |_,_=>none
noncomputable def zbN(neg:Bool)(x:X)(y:X):MQ R:=λO d s κ kp=>match s.l6 x,s.l6 y with
 |some (.d .bool a),some (.d .bool b)=>κ (s.aE d (.d .bool (neg ^^ (a==b))))
 |_,_=>none
def zd6(neg:Bool)(tid:TypeId)(t:Ty)(x:X)(y:X):MQ R:=λO d s κ kp=>aY O d (.sL neg tid t x y) s κ kp
noncomputable def zea(op:UnOp)(x:X):MQ R:=λO d s κ kp=>match op,s.l6 x with
 | .not,some (.d .bool a)=>κ (s.aE d (.d .bool (!a)))
 | .neg,some (.d (.int k) a)=>κ (s.aE d (.d (.int k) (k.wrap (0 - a))))
 |_,_=>none
noncomputable def q_len(str:Bool)(x:X):MQ R:=λO d s κ kp=>match str,s.l6 x with
 |true,some (.d .str a)=>κ (s.aE d (.d (.int .i64) a.length))
 |false,some (.d (.list _) a)=>κ (s.aE d (.d (.int .i64) a.length))
 |false,some (.nil _)=>κ (s.aE d (.d (.int .i64) 0))
 |false,some (.sl id)=>match s.hp[id]? with
  |some (.vec _ _ xs)=>κ (s.aE d (.d (.int .i64) xs.length))
  |some (.tree _ _ _ xs _)=>κ (s.aE d (.d (.int .i64) xs.length))
  |_=>none
 |_,_=>none
def zcP(k:TypeId)(e:TypeId)(x:X):MQ R:=λO d s κ kp=>aY O d (.oY k e x) s κ kp
def zcN(x:X)(i:X):MQ R:=λO d s κ kp=>aY O d (.qC x i) s κ kp
def zcO(n:Nat)(t:Ty)(x:X)(i:X):MQ R:=λO d s κ kp=>aY O d (.pX n t x i) s κ kp
noncomputable def Yl(t:Ty)(x:X)(i:X):MQ R:=λO d s κ kp=>match s.l6 x with
 |some (.sl id)=>match s.hp[id]? with
  |some (.vec _ u xs)=>bif decide (u=t)then intOf (s.l6 i) λn=>e_ (lx xs n) λ_=>κ (s.aE d (.jb id n.toNat 0))else none
  |some (.tree _ _ u xs _)=>bif decide (u=t)then intOf (s.l6 i) λn=>e_ (lx xs n) λ_=>κ (s.aE d (.jb id n.toNat 0))else none
  |_=>none
 |some (.d (.list u) xs)=>match bA (.list u) (.list t) xs with
  |some xs=>intOf (s.l6 i) λn=>e_ (lx xs n) λx=>κ (s.aE d (.dp t x))
  |none=>none
 |_=>none
def zcM(n:Nat)(t:Ty)(x:X)(i:X):MQ R:=λO d s κ kp=>aY O d (.qB n t x i) s κ kp
noncomputable def Yk(off:Nat)(t:Ty)(x:X):MQ R:=λO d s κ kp=>match s.l6 x with
 |some (.dp u y)=>match qG u off t y with
  |some z=>κ (s.aE d (.dp t z))
  |none=>none
 |some (.ptr id o)=>κ (s.aE d (.ptr id (o+off)))
 |some (.jb id i o)=>κ (s.aE d (.jb id i (o+off)))
 |_=>none
def zd7(off:Nat)(t:Ty)(x:X):MQ R:=λO d s κ kp=>aY O d (.Iy off t x) s κ kp
noncomputable def Ym(t:Ty)(x:X):MQ R:=λO d s κ kp=>loadT s.hp t (s.l6 x) λv=>κ (s.aE d v)
noncomputable def Te(t:Ty)(x:X)(v:X):MQ R:=λO d s κ kp=>match d with
 |none=>storeT s t (s.l6 x) (s.l6 v) κ
 |some _=>none
def za4(tid:TypeId)(zero:List V):MQ R:=λO d s κ kp=>aY O d (.alloc tid zero) s κ kp
def zd5(tid:TypeId)(x:X):MQ R:=λO d s κ kp=>aY O d (.box tid x) s κ kp
def zcI(tid:TypeId)(t:Ty)(x:X):MQ R:=λO d s κ kp=>aY O d (.qj tid t x) s κ kp
def za5(zero:List V)(parts:List (Nat×Nat×X)):MQ R:=λO d s κ kp=>aY O d (.build zero parts) s κ kp
def Yj(own:Bool)(tid:TypeId)(t:Ty)(len:Nat)(parts:List X):MQ R:=λO d s κ kp=>aY O d (.bI own tid t len parts) s κ kp
def Yp(tid:TypeId)(t:Ty)(bytes:Nat)(l:X)(c:X):MQ R:=λO d s κ kp=>aY O d (.cO tid t bytes l c) s κ kp
def Yi(tid:TypeId)(t:Ty)(bytes:Nat)(x:X)(y:X):MQ R:=λO d s κ kp=>aY O d (.append tid t bytes x y) s κ kp
def zcL(k:IntKind)(x:X):MQ R:=λO d s κ kp=>aY O d (.qm k x) s κ kp
def zd9(full:Bool)(t:Ty)(x:X)(lo:Option X)(a:Option X)(mx:Option X):MQ R:=λO d s κ kp=>aY O d (.Je full t x lo a mx) s κ kp
def zcT(x:X)(lo:Option X)(a:Option X):MQ R:=λO d s κ kp=>aY O d (.qJ x lo a) s κ kp
noncomputable def zbO(x:X)(i:Nat):MQ R:=λO d s κ kp=>match s.l6 x with
 |some (.dC vs)=>match vs[i]? with
  |some v=>bif (match v with| .agg _=>false| .dC _=>false|_=>true)then κ (s.aE d v)else none
  |none=>none
 |_=>none
noncomputable def Yq(x:X):MQ R:=λO d s κ kp=>match s.l6 x with
 |some v=>(match v with
  | .dp _ _=>κ (s.aE d v)
  | .ptr _ _=>κ (s.aE d v)
  | .LF _ _ _ _ _=>κ (s.aE d v)
  | .jb _ _ _=>κ (s.aE d v)
  | .kj _ _=>κ (s.aE d v)
  | .HQ _ _=>κ (s.aE d v)
  |_=>none)
 |none=>none
noncomputable def zcJ(bor:Bool)(f:FuncId)(args:List (Arg×X))(sh:Sh):MQ R:=λO d s κ kp=>match If s bor args with
 |some ars=>bif ars.all V.rJ&&sh.sk.fr.isEmpty&&(!bor||sh.sl.all Slot.flat)then
  e_ (gw O f ars [] sh) λc=>κ (s.aE d (res sh.n (unpack sh.sl c (sh.base ⟨[],[]⟩)).fr))else none
 |none=>none
noncomputable def za6(jG:Bool)(bor:Bool)(B:List Nat)(f:FuncId)(args:List (Arg×X))(sh:Sh):MQ R:=λO d s κ kp=>match kZ s bor B args with
 |some ars=>wg jG O s d bor B f ars sh κ kp
 |none=>none
def za8(jG:Bool)(bor:Bool)(B:List Nat)(num:Nat)(x:X)(args:List (Arg×X))(sh:Sh):MQ R:=λO d s κ kp=>aY O d (.fw jG bor B num x args sh) s κ kp
def zd4(x:X):MQ R:=λO d s κ kp=>aY O d (.G3 x) s κ kp
def zcQ(f:FuncId)(caps:List X):MQ R:=λO d s κ kp=>aY O d (.rQ f caps) s κ kp
def zba(k:TypeId)(e:TypeId)(a:Ty)(b:Ty):MQ R:=λO d s κ kp=>aY O d (.ir k e a b) s κ kp
def Yn(k:TypeId)(e:TypeId)(ok:Bool)(a:Ty)(b:Ty)(m:X)(x:X):MQ R:=λO d s κ kp=>aY O d (.lookup k e ok a b m x) s κ kp
def Yo(k:TypeId)(e:TypeId)(a:Ty)(b:Ty)(m:X)(x:X)(v:X):MQ R:=λO d s κ kp=>aY O d (.ic k e a b m x v) s κ kp
def zcK(tid:TypeId)(t:Ty)(x:X)(y:X):MQ R:=λO d s κ kp=>aY O d (.copy tid t x y) s κ kp
def zcR(mx:Bool)(k:IntKind)(x:X)(ys:List X):MQ R:=λO d s κ kp=>aY O d (.mX mx k x ys) s κ kp
def zbb(x:X):MQ R:=λO d s κ kp=>aY O d (.panic x) s κ kp
def za9(tid:TypeId)(x:X):MQ R:=λO d s κ kp=>aY O d (.iface tid x) s κ kp
def U6(tid:TypeId)(t:Ty)(len:Nat)(parts:List X):MQ R:=λO d s κ kp=>aY O d (.pj tid t len parts) s κ kp
def zcG(tid:TypeId)(t:Ty)(bytes:Nat)(x:X)(y:X):MQ R:=λO d s κ kp=>aY O d (.pM tid t bytes x y) s κ kp
def U7(tid:TypeId)(k:K)(t:Ty)(len:Nat)(parts:List X):MQ R:=λO d s κ kp=>aY O d (.eo tid k t len parts) s κ kp
def U8(tid:TypeId)(k:K)(u:Ty)(bytes:Nat)(l:X)(c:X):MQ R:=λO d s κ kp=>aY O d (.dE tid k u bytes l c) s κ kp
def zcH(tid:TypeId)(k:K)(t:Ty)(bytes:Nat)(x:X)(y:X):MQ R:=λO d s κ kp=>aY O d (.pN tid k t bytes x y) s κ kp
def za7(bor:Bool)(num:Nat)(x:X)(args:List (Arg×X))(sh:Sh):MQ R:=λO d s κ kp=>aY O d (.im bor num x args sh) s κ kp
def zeR(k:Nat)(op:lQ):MQ R:=λO d s κ kp=>aY O d (.uq k op) s κ kp
noncomputable def io(op:lQ):MQ R:=lQ.casesOn (motive:=λ_=>MQ R) op zd8 zcS zbM zbN zd6 zea q_len zcP zcN zcO Yl zcM Yk zd7 Ym Te za4 zd5 zcI za5 Yj Yp Yi zcL zd9 zcT zbO Yq zcJ za6 za8 zd4 zcQ zba Yn Yo zcK zcR zbb za9 U6 zcG U7 U8 zcH za7 zeR
theorem Ei(op:lQ)(O:bh)(d:Option Nat)(s:S)(κ kp:S->Option R):io op O d s κ kp=aY O d op s κ kp:=by
 cases op;case mv=>simp only[io,zd8,aY,iR]<;>rfl
 case bin=>simp only[io,zbM,aY,iR]<;>rfl
 case G8=>simp only[io,zbN,aY,iR]<;>rfl
 case un=>simp only[io,zea,aY,iR]<;>rfl
 case len=>simp only[io,q_len,aY,iR]<;>rfl
 case qA=>simp only[io,Yl,aY,iR]<;>rfl
 case oW=>simp only[io,Yk,aY,iR]<;>rfl
 case load=>simp[io,Ym,aY,iR]
 case store=>simp only[io,Te,aY,iR]<;>rfl
 case ext=>simp only[io,zbO,iR]<;>rfl
 case rR=>simp only[io,Yq,iR]<;>rfl
 case call=>rfl
 case gP=>rfl
 all_goals rfl
abbrev RQ:Type 1:=(R:Type)->S->(S->Option R)->(S->Option R)->Option R
def zec:RQ:=λ_ s κ _=>κ s
noncomputable def zeS(O:bh)(d:Option Nat)(o:lQ)(_:RC)(a:RQ):RQ:=λR s κ kp=>io o O d s (λs'=>a R s' κ kp) kp
def zeb(l:List B2)(_:RC)(a:RQ):RQ:=λR s κ kp=>vH l s λs=>a R s κ kp
noncomputable def zcU(t:Nat)(want:Bool)(ek:RC)(ty:Ty)(r alt:X)(dst:Nat)(_:RC)(a d:RQ):RQ:=λR s κ kp=>match Gv s.fr t,s.l6 alt with
 |some (.d .bool b),some e=>match(bif a_ (V_ ek.sn (VD s.fr)) 0 then cr ty e else none)with
  |some alt=>e_ (match want with
   |true=>bif b then a ty.den s (λs'=>match s'.l6 r with|some v=>cr ty v|none=>none) (λ_=>none)else some alt
   |false=>bif b then some alt else a ty.den s (λs'=>match s'.l6 r with|some v=>cr ty v|none=>none) (λ_=>none))
   λc=>d R (s.put dst (.d ty c)) κ kp
  |none=>none
 |_,_=>none
noncomputable def El(O:bh)(r:RC):RQ:=RC.rec (motive:=λ_=>RQ) zec (zeS O) zeb zcU r
theorem J7(O:bh)(r:RC):∀(R:Type) (s:S) (κ kp:S->Option R),El O r R s κ kp=Ek O R r s κ kp:=by
 induction r with
 |nil=>intro R s κ kp;rfl|op d o rest a=>intro R s κ kp;show io o O d s (λs'=>El O rest R s' κ kp) kp=aY O d o s (λs'=>Ek O R rest s' κ kp) kp;rw[Ei];grind|mz l rest a=>intro R s κ kp;show vH l s (λs=>El O rest R s κ kp)=vH l s λs=>Ek O R rest s κ kp;grind|gb t want ek ty r alt dst rest e a=>
  intro R s κ kp;have b:El O ek=λR s κ kp=>Ek O R ek s κ kp:=by grind
  have c:El O rest=λR s κ kp=>Ek O R rest s κ kp:=by grind
  show zcU t want ek ty r alt dst rest (El O ek) (El O rest) R s κ kp=_;rw[b,c];simp only[zcU,iR,p7,XD]<;>rfl
noncomputable def T7{R:Type}(O:bh)(l:List PO):List qV->S->(S->Option R)->(S->Option R)->Option R:=List.rec (motive:=λ_=>List qV->S->(S->Option R)->(S->Option R)->Option R) (λ_ s κ _=>κ s) (λp _ a A s κ kp=>
 match p.g with
 |none=>bif Ad A s p then io p.o O p.d s (λs'=>Va A s s' p (a (vA A s s' p) s' κ kp)) kp else none
 |some (t,want)=>match Gv s.fr t with
  |some (.d .bool b)=>bif want==b
   then(bif Ad A (s.put t (.d .bool want)) p then io p.o O p.d (s.put t (.d .bool want)) (λs'=>Va A (s.put t (.d .bool want)) s' p (a (vA A (s.put t (.d .bool want)) s' p) s' κ kp)) kp else none)
   else(bif Ad A (s.put t (.d .bool (!want))) p then Va A (s.put t (.d .bool (!want))) ((s.put t (.d .bool (!want))).aE p.d (.raw Go.undef)) p (a (vA A (s.put t (.d .bool (!want))) ((s.put t (.d .bool (!want))).aE p.d (.raw Go.undef)) p) ((s.put t (.d .bool (!want))).aE p.d (.raw Go.undef)) κ kp)else none)
  |_=>none) l
theorem Sd{R:Type}(O:bh):∀(l:List PO) (A:List qV) (s:S) (κ kp:S->Option R),T7 O l A s κ kp=sM O A l s κ kp
 |[],_,_,_,_=>rfl
 |p::l,A,s,κ,kp=>by
  show(match p.g with
  |none=>bif Ad A s p then io p.o O p.d s (λs'=>Va A s s' p (T7 O l (vA A s s' p) s' κ kp)) kp else none|some (t,want)=>match Gv s.fr t with
   |some (.d .bool b)=>bif want==b then(bif Ad A (s.put t (.d .bool want)) p then io p.o O p.d (s.put t (.d .bool want)) (λs'=>Va A (s.put t (.d .bool want)) s' p (T7 O l (vA A (s.put t (.d .bool want)) s' p) s' κ kp)) kp else none) else(bif Ad A (s.put t (.d .bool (!want))) p then Va A (s.put t (.d .bool (!want))) ((s.put t (.d .bool (!want))).aE p.d (.raw Go.undef)) p (T7 O l (vA A (s.put t (.d .bool (!want))) ((s.put t (.d .bool (!want))).aE p.d (.raw Go.undef)) p) ((s.put t (.d .bool (!want))).aE p.d (.raw Go.undef)) κ kp)else none)
   |_=>none)=_
  simp only[Sd O l,Ei,sM,p7]<;>rfl
noncomputable def Qd{R:Type}(O:bh)(l:List PO):S->(S->Option R)->(S->Option R)->Option R:=List.rec (motive:=λ_=>S->(S->Option R)->(S->Option R)->Option R) (λs κ _=>κ s) (λp _ a s κ kp=>
 match p.g with
 |none=>io p.o O p.d s (λs'=>a s' κ kp) kp
 |some (t,want)=>match Gv s.fr t with
  |some (.d .bool b)=>bif b
   then(match want with
    |true=>io p.o O p.d (s.put t (.d .bool true)) (λs'=>a s' κ kp) kp
    |false=>a ((s.put t (.d .bool true)).aE p.d (.raw Go.undef)) κ kp)
   else(match want with
    |true=>a ((s.put t (.d .bool false)).aE p.d (.raw Go.undef)) κ kp
    |false=>io p.o O p.d (s.put t (.d .bool false)) (λs'=>a s' κ kp) kp)
  |_=>none) l
theorem Sc{R:Type}(O:bh):∀(l:List PO) (s:S) (κ kp:S->Option R),Qd O l s κ kp=VB O l s κ kp
 |[],_,_,_=>rfl
 |p::l,s,κ,kp=>by
  show(match p.g with
  |none=>io p.o O p.d s (λs'=>Qd O l s' κ kp) kp|some (t,want)=>match Gv s.fr t with
   |some (.d .bool b)=>bif b
    then(match want with
     |true=>io p.o O p.d (s.put t (.d .bool true)) (λs'=>Qd O l s' κ kp) kp
     |false=>Qd O l ((s.put t (.d .bool true)).aE p.d (.raw Go.undef)) κ kp)
    else(match want with
     |true=>Qd O l ((s.put t (.d .bool false)).aE p.d (.raw Go.undef)) κ kp
     |false=>io p.o O p.d (s.put t (.d .bool false)) (λs'=>Qd O l s' κ kp) kp)
   |_=>none)=_
  simp only[Sc O l,Ei,VB,p7]<;>rfl
abbrev CQ:Type 1:=(R:Type)->S->(S->Option R)->(Nat->S->Option R)->(S->Option R)->(S->Option R)->Option R
def zca:CQ:=λ_ s kn _ _ _=>kn s
noncomputable def Wv(O:bh)(ops:RC):CQ:=λR s kn _ _ kp=>El O ops R s kn kp
noncomputable def zb7(O:bh)(_:Nat)(ops:RC)(_:List (List Nat)):CQ:=λR s kn _ _ kp=>El O ops R s kn kp
noncomputable def Z8(O:bh)(r:Nat)(pre:List PO)(tl:RC)(_:List (List Nat)):CQ:=λR s kn _ _ kp=>T7 O pre [] ⟨s.fr,s.hp++K_ r .free⟩ (λs=>El O tl R s kn kp) kp
noncomputable def zb9(O:bh)(pre:List PO):CQ:=λ_ s kn _ _ kp=>Qd O pre s kn kp
def zbB(_ _:TC)(a b:CQ):CQ:=λR s kn kx kr kp=>a R s (λs=>b R s kn kx kr kp) kx kr kp
noncomputable def PU(x:X)(_ _:TC)(a b:CQ):CQ:=λR s kn kx kr kp=>match s.l6 x with
 |some (.d .bool t)=>bif t then a R s kn kx kr kp else b R s kn kx kr kp
 |_=>none
def RJ(id:Nat)(_:TC)(a:CQ):CQ:=λR s kn kx kr kp=>a R s kn (λi s=>bif a_ i id then kn s else kx i s) kr kp
def zb8(id:Nat):CQ:=λ_ s _ kx _ _=>kx id s
def zdr:CQ:=λ_ s _ _ kr _=>kr s
def zbA(l:List B2)(_:TC)(a:CQ):CQ:=λR s kn kx kr kp=>vH l s λs=>a R s kn kx kr kp
def RI(_:TC)(l:List B2)(a:CQ):CQ:=λR s kn kx kr kp=>a R s (λs=>vH l s kn) kx kr kp
noncomputable def Wu(xs:List (Nat×Sh))(a:TC)(b:CQ):CQ:=λR s kn kx kr kp=>bif xs.all (λx=>okQ x.2 a.sn s)then
 e_ (b (XT xs) s (λs=>EV xs 0 s) (λi s=>EV xs (i+3) s) (λs=>EV xs 1 s) (λs=>EV xs 2 s))
  (jU s (λkey s=>match key with|0=>kn s|1=>kr s|2=>kp s|i+3=>kx i s) xs)else none
noncomputable def PW(n:Nat)(sh:Sh)(xs:List (Nat×Sh))(a:TC)(b:CQ):CQ:=λR s kn kx kr kp=>match IY sh s with
 |some c=>bif okQ sh a.sn s&&xs.all (λx=>okQ x.2 a.sn s)then e_ (ff n (λc=>b (HL sh.sl⊕XT xs) (unpack sh.sl c (sh.s9 s)) (λs=>match IY sh s with|some c=>some (.inl c)|none=>none)
  (λi s=>match EV xs (i+3) s with|some c=>some (.inr c)|none=>none) (λs=>match EV xs 1 s with|some c=>some (.inr c)|none=>none) (λs=>match EV xs 2 s with|some c=>some (.inr c)|none=>none)) c)
  (jU s (λkey s=>match key with|0=>kn s|1=>kr s|2=>kp s|i+3=>kx i s) xs)else none
 |none=>none
noncomputable def u5(O:bh)(n:Nat)(c:TC):CQ:=TC.rec (motive:=λ_=>CQ) zca (Wv O) (zb7 O) (Z8 O) (zb9 O) zbB PU RJ (PW n) zb8 zdr zbA RI Wu c
theorem R9(O:bh)(n:Nat)(c:TC):∀(R:Type) (s:S) (kn:S->Option R) (kx:Nat->S->Option R) (kr kp:S->Option R),u5 O n c R s kn kx kr kp=Ci O n R c s kn kx kr kp:=by
 have e:∀a:TC,(∀(R:Type) (s:S) (kn:S->Option R) (kx:Nat->S->Option R) (kr kp:S->Option R),u5 O n a R s kn kx kr kp=Ci O n R a s kn kx kr kp)->u5 O n a=λR s kn kx kr kp=>Ci O n R a s kn kx kr kp:=λa h=>by grind
 induction c with|skip=>intro R s kn kx kr kp;rfl|region ops=>intro R s kn kx kr kp;exact J7 O ops R s kn kp|draw k ops af=>intro R s kn kx kr kp;exact J7 O ops R s kn kp|kq r pre tl af=>intro R s kn kx kr kp;show T7 O pre [] _ (λs=>El O tl R s kn kp) kp=sM O [] pre _ (λs=>Ek O R tl s kn kp) kp;simp[Sd,J7]|HV pre=>intro R s kn kx kr kp;exact Sc O pre s kn kp|seq a b d f=>intro R s kn kx kr kp;show zbB a b (u5 O n a) (u5 O n b) R s kn kx kr kp=_;rw[e a d,e b f];rfl|cond x a b d f=>intro R s kn kx kr kp;show PU x a b (u5 O n a) (u5 O n b) R s kn kx kr kp=_;grind[PU,iR,Ci]|block id a d=>intro R s kn kx kr kp;show RJ id a (u5 O n a) R s kn kx kr kp=_;rw[e a d];rfl|loop sh xs a d=>intro R s kn kx kr kp;show PW n sh xs a (u5 O n a) R s kn kx kr kp=_;rw[e a d];have hd:∀(κ:Nat->S->Option R),jU s κ xs=jg s κ xs:=λκ=>funext λc=>re s κ xs c;simp only[PW,Ci,XW λk=>TC.fI k a,FG,DR,KF,hd]<;>rfl|exit id=>intro R s kn kx kr kp;rfl|ret=>intro R s kn kx kr kp;rfl|mz l a d=>intro R s kn kx kr kp;show zbA l a (u5 O n a) R s kn kx kr kp=_;rw[e a d];rfl|after a l d=>intro R s kn kx kr kp;show RI a l (u5 O n a) R s kn kx kr kp=_;rw[e a d];rfl|cut xs a d=>intro R s kn kx kr kp;show Wu xs a (u5 O n a) R s kn kx kr kp=_;rw[e a d];have hd:∀(κ:Nat->S->Option R),jU s κ xs=jg s κ xs:=λκ=>funext λc=>re s κ xs c;simp only[Wu,Ci,XW λk=>TC.fI k a,KF,hd]<;>rfl
end
noncomputable def WQ(O:bh)(n:Nat)(c:TF)(ars:List V)(os:List Ob):Option (Option S):=
 u5 O n c.code (Option S) ⟨dG 0 ars,os⟩ (EN c) (λ_ _=>none) (EN c) (λ_=>some none)
noncomputable def Sa(O:bh)(n:Nat)(d:TD)(ars:List V):Option (Option S):=
 u5 O n d.a (Option S) ⟨dG 0 ars,[]⟩ (λs=>bif vL s d.ta 0&&vL s d.tb 1&&noT s d.t8&&a_ s.hp.length 2 then
  u5 O n d.c.code (Option S) s (EN d.c) (λ_ _=>none) (EN d.c) (λs=>bif vL s d.ta 0&&vL s d.tb 1 then
   u5 O n d.h (Option S) ⟨[(0,.ptr 0 0),(1,.ptr 1 0)],s.hp⟩ (zap d) (λ_ _=>none) (zap d) (λ_=>none)else none)else none) (λ_ _=>none) (λ_=>none) (λ_=>none)
noncomputable def zal(tbl:Nat->Option gC)(n:Nat):bh:=Nat.rec (motive:=λ_=>bh) (λ_ _ _=>none) (λn a f ars os=>match tbl f with
 |some (.code c)=>bif a_ os.length c.m&&j_ ars.length c.ntmps then WQ a n c ars os else none
 |some (.dfr d)=>bif a_ os.length 0&&j_ ars.length d.c.ntmps then Sa a n d ars else none
 |some (.nat g)=>(match os with
  |[]=>(match g ars with
   |some s=>some (some s)
   |none=>none)
  |_=>none)
 |none=>none) n
theorem WR(O:bh)(n:Nat)(c:TF)(ars:List V)(os:List Ob):WQ O n c ars os=Qa O n c ars os:=R9 O n c.code _ _ _ _ _ _
theorem WT(O:bh)(n:Nat)(d:TD)(ars:List V):Sa O n d ars=WS O n d ars:=by simp only[Sa,WS,R9]
theorem Sb(tbl:Nat->Option gC):∀n,zal tbl n=sg tbl n
 |0=>rfl
 |n+1=>by funext f ars os;have a:=Sb tbl n;grind[sg,a_,j_,WQ,zal,Sa,WR,WT]
theorem Z9{tbl:Nat->Option gC}{n f:Nat}{ars:List V}{os:List Ob}{sh:Sh}{c:HL sh.sl}(h:gw (zal tbl n) f ars os sh=some c):gw (sg tbl n) f ars os sh=some c:=by grind[Sb]
def jv{tbl:Nat->Option gC}{f:Nat}{ars:List V}{os:List Ob}{sh:Sh}{c:HL sh.sl}{m:Nat}(h:∀k,gw (zal tbl (k+m)) f ars os sh=some c):∃a,∀n,a<=n->gw (sg tbl n) f ars os sh=some c:=⟨m,λn hn=>by obtain⟨k,rfl⟩:∃k,n=k+m:=⟨n - m,by omega⟩;grind[Z9]⟩
inductive L6:BV->BV->Prop
 |refl (x:BV):L6 x x
 |data (x:BV) (p:PV) (h:x.bF=some p):L6 x (.pv p)
 |any (x:BV):L6 x (.pv .any)
inductive JI:AV->AV->Prop
 |refl (x:AV):JI x x
 |data (x:AV) (p:PV) (h:x.bF=some p):JI x (.b (.pv p))
 |any (x:AV):JI x (.b (.pv .any))
 |agg (xs ys:List BV) (hl:xs.length=ys.length) (h:∀(i:Nat) (x y:BV),xs[i]? =some x->ys[i]? =some y->L6 x y):JI (.agg xs) (.agg ys)
 |dC (xs ys:List BV) (hl:xs.length=ys.length) (h:∀(i:Nat) (x y:BV),xs[i]? =some x->ys[i]? =some y->L6 x y):JI (.dC xs) (.dC ys)
inductive V0:aL->aL->Prop
 |refl (x:aL):V0 x x
 |gone (x:aL):V0 x .gone
 |box (t:TypeId) (xs ys:List BV) (hl:xs.length=ys.length) (h:∀(i:Nat) (x y:BV),xs[i]? =some x->ys[i]? =some y->L6 x y):V0 (.box t xs) (.box t ys)
section
variable {θ:List Av.Loc} {D:Nat->Prop} {w:World}
theorem L6.rel{x y:BV}(h:L6 x y){v:Value}(hr:RelB θ D w v x):RelB θ D w v y:=by cases h with|refl=>omega|data p h=>exact lH hr h|any=>exact aX.any v
theorem QL{vs:Array Value}{xs ys:List BV}(hl:xs.length=ys.length)(h:∀(i:Nat) (x y:BV),xs[i]? =some x->ys[i]? =some y->L6 x y)(h1:vs.size=xs.length)(h2:∀(i:Nat) (u:Value) (x:BV),vs[i]? =some u->xs[i]? =some x->RelB θ D w u x): vs.size=ys.length/\∀(i:Nat) (u:Value) (x:BV),vs[i]? =some u->ys[i]? =some x->RelB θ D w u x:=⟨by omega,λi u y c b=>by obtain⟨x,a⟩:=bw (l:=xs) hl b;exact(h i x y a b).rel (h2 i u x c a)⟩
theorem JI.rel{x y:AV}(h:JI x y){v:Value}(hr:RelA θ D w v x):RelA θ D w v y:=by
 cases h with
 |refl=>omega|data _ p h=>exact cQ hr h|any=>exact aX.any v|agg xs ys hl h=>obtain⟨vs,I,h1,h2⟩:=hr;obtain⟨E,H⟩:=QL hl h h1 h2;exact⟨vs,I,E,H⟩
 |dC xs ys hl h=>obtain⟨vs,I,h1,h2⟩:=hr;obtain⟨E,H⟩:=QL hl h h1 h2;exact⟨vs,I,E,H⟩
theorem V0.rel{x y:aL}(h:V0 x y){l:Av.Loc}(hr:cG θ D w l x):cG θ D w l y:=by
 cases h with
 |refl=>omega|gone=>cases l<;>trivial|box t xs ys hl h=>
  cases l<;>simp only[cG]at hr⊢<;>try exact hr.elim
  obtain⟨I,J,E,H⟩:=hr;obtain⟨N,U⟩:=QL hl h E H;grind
end
structure Pg(a b:St):Prop where
 fr:∀k y,Av.look b.fr k=some y->∃x,Av.look a.fr k=some x/\JI x y
 len:a.hp.length=b.hp.length
 hp:∀(i:Nat) (x y:aL),a.hp[i]? =some x->b.hp[i]? =some y->V0 x y
def Pg.r6{m:Nat}{a b:St}(h:Pg a b):gN m a b:=by
 rintro c ac w _ ⟨θ,D,E⟩;refine⟨θ,D,E.size,E.defers,⟨by rw[E.ok.len,h.len],E.ok.pO,E.ok.inj,E.ok.nj,λi l o N J=>?_⟩,E.keep,E.lW,E.nD,E.j4,λk y U=>?_,E.fix⟩;.obtain⟨x,H⟩:=bw (l:=a.hp) h.len J;exact(h.hp i x o H J).rel (E.ok.fQ i l x N H)
 .obtain⟨x,H,I⟩:=h.fr k y U;exact I.rel (E.fr k x H)
def Pg.frame{fr fr':List (Nat×AV)}{hp:List aL}(h:∀k y,Av.look fr' k=some y->Av.look fr k=some y):Pg ⟨fr,hp⟩ ⟨fr',hp⟩:=⟨λk y H=>⟨y,h k y H,.refl y⟩,rfl,λi x y I E=>by rw[I]at E;cases E;exact .refl x⟩
def aT(A:List Nat)(s s':S):Prop:=∀k,k∉A->(∀v,lk s.fr k=some v->v.rJ=true->lk s'.fr k=some v\/lk s'.fr k=none)/\(lk s.fr k=none->lk s'.fr k=none)
def Fg(g:V->V):∀(fr:List (Nat×V)) (k:Nat),lk (fr.map λx=>(x.1,g x.2)) k=(lk fr k).map g
 |[],_=>rfl
 |(j,v)::fr,k=>by
  simp only[l_,lk];cases a_ k j;.exact Fg g fr k
  simp
def aT.refl(A:List Nat)(s:S):aT A s s:=λ_ _=>⟨λ_ h _=>.inl h,id⟩
def aT.trans{A:List Nat}{a b c:S}(h:aT A a b)(k:aT A b c):aT A a c:=λi E=>by
 refine⟨λv H hd=>?_,λhn=>(k i E).2 ((h i E).2 hn)⟩;rcases(h i E).1 v H hd with h1|h1;.exact(k i E).1 v h1 hd
 .exact .inr ((k i E).2 h1)
theorem aT.sub{A B:List Nat}{a b:S}(h:aT A a b)(hs:∀x∈A,x∈B):aT B a b:=λi E=>h i λH=>E (hs i H)
def gm(d:Option Nat):List Nat:=match d with
 |some d=>[d]
 |none=>[]
def zaP(s:S)(d:Option Nat)(v:V)(k:Nat)(h:k∉gm d):lk (s.aE d v).fr k=lk s.fr k:=by
 cases d with
 |none=>rfl|some j=>
  have a:k≠j:=λe=>h (by simp[gm,e]);have:a_ k j=false:=by
   cases b:a_ k j;.rfl
   .exact absurd (h_ b) a
  show(bif a_ k j then some v else lk s.fr k)=_;grind
theorem aT.put(s:S)(d:Option Nat)(v:V):aT (gm d) s (s.aE d v):=λk E=>by rw[zaP s d v k E];exact⟨λ_ h _=>.inl h,id⟩
def aT.map(A:List Nat)(s s':S)(g:V->V)(hg:∀v,v.rJ=true->jD g v=v)(E:s'.fr=s.fr.map λx=>(x.1,jD g x.2)):aT A s s':=λk _=>by
 have:lk s'.fr k=(lk s.fr k).map (jD g):=by rw[E];exact Fg (jD g) s.fr k
 grind
def aT.fr{A:List Nat}{s s':S}(h:s'.fr=s.fr):aT A s s':=λk _=>by rw[h];exact⟨λ_ h _=>.inl h,id⟩
section
variable {R:Type} {P:Program} {O:bh} {d:Option Nat} {s:S} {κ kp:S->Option R} {r:R}
def Pu(P:Program)(s:S)(op:fh)(d:Option Nat)(κ:S->Option R)(r:R):Prop:=∃v,jp P (enc s) op (λy=>y=a8 v)/\κ (s.aE d v)=some r
theorem cP{c β:Type}{o:Option c}{f:c->Option β}{b:β}(h:e_ o f=some b):∃a,o=some a/\f a=some b:=by cases o with|none=>grind|some a=>grind
theorem bE{c:Type}{b:Bool}{x:Option c}{a:c}(h:bU b x=some a):b=true/\x=some a:=by
 cases b;.cases h
 .exact⟨rfl,h⟩
theorem aZ{c:Type}{b:Bool}{x:Option c}{a:c}(h:(bif b then x else none)=some a):b=true/\x=some a:=by
 cases b;.cases h
 .exact⟨rfl,h⟩
theorem C8{a:Type}{xs:List a}{i:Int}{x:a}(h:lx xs i=some x):0<=i/\xs[i.toNat]? =some x:=by unfold lx at h;grind
theorem zbK{x:X}(b:x.wf=true)(h:aY O d (.mv x) s κ kp=some r):Pu P s (.mv x.er) d κ r:=by
 simp only[aY]at h;split at h;.rename_i v a;exact⟨v,⟨_,aG b a,rfl⟩,h⟩
 grind
theorem Ij(a:List UInt8):(⟨a.toArray⟩:ByteArray).toList=a:=by rw[ByteArray.toList_eq]
theorem xG(a:List UInt8):(⟨a.toArray⟩:ByteArray).size=a.length:=by show a.toArray.size=a.length;simp
theorem TU(a b:List UInt8):(⟨a.toArray⟩:ByteArray)++(⟨b.toArray⟩:ByteArray)=⟨(a++b).toArray⟩:=by apply ByteArray.ext;simp
theorem PN{op:BinOp}{k e:IntKind}{a b:Int}{c:V->Option R}(h:Z0 op k e a b c=some r):∃v,JQ op (.int k a) (.int e b) (λu=>AV.v u=a8 v)/\c v=some r:=by
 cases op<;>simp only[Z0]at h;case shl=>obtain⟨h1,h2⟩:=bE h;exact⟨_,⟨by grind,rfl⟩,h2⟩
 case shr=>obtain⟨h1,h2⟩:=bE h;exact⟨_,⟨by grind,rfl⟩,h2⟩
 case quo=>obtain⟨h1,h2⟩:=aZ h;obtain⟨f,d⟩:=bE h2;exact⟨_,⟨by grind,by grind,rfl⟩,d⟩
 case rem=>obtain⟨h1,h2⟩:=aZ h;obtain⟨f,d⟩:=bE h2;exact⟨_,⟨by grind,by grind,rfl⟩,d⟩
 all_goals (obtain⟨h1,h2⟩:=aZ h;exact⟨_,⟨by grind,rfl⟩,h2⟩)
theorem PP{op:BinOp}{a b:List UInt8}{c:V->Option R}(h:Z1 op a b c=some r):∃v,JQ op (.string ⟨a.toArray⟩) (.string ⟨b.toArray⟩) (λu=>AV.v u=a8 v)/\c v=some r:=by
 cases op<;>simp only[Z1]at h;case add=>obtain⟨h1,h2⟩:=bE h;refine⟨_,⟨by rw[xG,xG];grind,?_⟩,h2⟩;rw[TU];rfl
 all_goals first
  |(cases h;done)
  |exact⟨_,by simp only[JQ,Ij];rfl,h⟩
theorem X9{op:BinOp}{x y:X}(c:x.wf=true/\y.wf=true)(h:aY O d (.bin op x y) s κ kp=some r):Pu P s (.bin op x.er y.er) d κ r:=by
 simp only[aY]at h;split at h;.rename_i k a g b e f;obtain⟨v,h1,h2⟩:=PN h;exact⟨v,⟨_,aG c.1 e,_,aG c.2 f,_,rfl,_,rfl,h1⟩,h2⟩
 .rename_i a b e f;obtain⟨v,h1,h2⟩:=PP h;exact⟨v,⟨_,aG c.1 e,_,aG c.2 f,_,rfl,_,rfl,h1⟩,h2⟩
 grind
theorem Tc{c a b:X}(f:c.wf=true/\a.wf=true/\b.wf=true)(h:aY O d (.pick c a b) s κ kp=some r):Pu P s (.pick c.er a.er b.er) d κ r:=by
 simp only[aY]at h;split at h
 .rename_i t x y u z hc g j;split at h
  .rename_i l k;obtain⟨n,rfl⟩:=bJ k;refine⟨_,⟨_,aG f.1 hc,_,rfl,t,rfl,λht=>⟨_,aG f.2.1 g,?_⟩,λht=>⟨_,aG f.2.2 j,?_⟩⟩,h⟩;.grind
   .subst ht;show AV.b (.pv (aM _ z))=AV.b (.pv (aM _ l));grind
  grind
 .rename_i t x u z hc g j;obtain⟨ht,h⟩:t=false/\κ (s.aE d (.d u z))=some r:=by grind
  exact⟨_,⟨_,aG f.1 hc,_,rfl,t,rfl,λe=>(by grind),λ_=>⟨_,aG f.2.2 j,rfl⟩⟩,h⟩
 .rename_i t u z x hc g j;obtain⟨ht,h⟩:t=true/\κ (s.aE d (.d u z))=some r:=by grind
  exact⟨_,⟨_,aG f.1 hc,_,rfl,t,rfl,λ_=>⟨_,aG f.2.1 g,rfl⟩,λe=>(by grind)⟩,h⟩
 grind
theorem Ya{neg:Bool}{x y:X}(c:x.wf=true/\y.wf=true)(h:aY O d (.G8 neg x y) s κ kp=some r):Pu P s (.G8 neg x.er y.er) d κ r:=by
 simp only[aY]at h;split at h;.rename_i a b e f;exact⟨_,⟨_,aG c.1 e,_,aG c.2 f,_,rfl,_,rfl,_,rfl,_,rfl,rfl⟩,h⟩
 grind
theorem zbL{op:UnOp}{x:X}(c:x.wf=true)(h:aY O d (.un op x) s κ kp=some r):Pu P s (.un op x.er) d κ r:=by
 simp only[aY]at h;split at h;.rename_i a b;exact⟨_,⟨_,aG c b,_,rfl,show _=_ from rfl⟩,h⟩
 .rename_i k a b;exact⟨_,⟨_,aG c b,_,rfl,show _=_ from rfl⟩,h⟩
 grind
theorem Ye{str:Bool}{x:X}(c:x.wf=true)(h:aY O d (.len str x) s κ kp=some r):Pu P s (.len str x.er) d κ r:=by
 simp only[aY]at h;split at h;.rename_i a b;refine⟨_,⟨_,aG c b,_,rfl,_,rfl,?_⟩,h⟩;show AV.v (.int .i64 ((⟨a.toArray⟩:ByteArray).size:Nat))=_;rw[xG];rfl
 .rename_i t a b;refine⟨_,⟨_,aG c b,.inr (.inl ⟨_,_,rfl,?_⟩)⟩,h⟩;show AV.v (.int .i64 ((a.map _).length:Nat))=_;rw[G_];rfl
 .rename_i t b;exact⟨_,⟨_,aG c b,.inl ⟨rfl,rfl⟩⟩,h⟩
 .rename_i id b;split at h;.rename_i e t xs f;refine⟨_,⟨_,aG c b,.inr (.inr (.inl ⟨id,e,_,_,rfl,by rw[bL,f];rfl,?_⟩))⟩,h⟩;show AV.v (.int .i64 ((xs.map _).length:Nat))=_;rw[G_];rfl
  .rename_i e k t xs hole f;refine⟨_,⟨_,aG c b,.inr (.inr (.inr (.inr ⟨id,e,_,k,_,_,rfl,by rw[bL,f];rfl,?_⟩)))⟩,h⟩;show AV.v (.int .i64 ((xs.map _).length:Nat))=_;rw[G_];rfl
  grind
 grind
theorem S7{k e:TypeId}{x:X}(j:x.wf=true)(h:aY O d (.oY k e x) s κ kp=some r):Pu P s (.oY k e x.er) d κ r:=by
 simp only[aY]at h;split at h
 .rename_i id l;split at h;.rename_i p n a b kvs g;obtain⟨h1,h2⟩:=aZ h;rw[f_]at h1;have c:=h_ h1.1;have f:=h_ h1.2;subst c;subst f;refine⟨_,⟨_,aG j l,id,_,rfl,by rw[bL,g];rfl,?_⟩,h2⟩;show AV.v (.int .i64 ((kvs.map _).length:Nat))=_;rw[G_];rfl
  grind
 grind
theorem fA{o:Option V}{f:Int->Option R}(h:intOf o f=some r):∃k n,o=some (.d (.int k) n)/\f n=some r:=by unfold intOf at h;grind
theorem S5{x i:X}(b:x.wf=true/\i.wf=true)(h:aY O d (.qC x i) s κ kp=some r):Pu P s (.qC x.er i.er) d κ r:=by
 simp only[aY]at h;split at h;.rename_i a j;obtain⟨k,n,f,h⟩:=fA h;obtain⟨c,hc,h⟩:=cP h;obtain⟨e,h1⟩:=C8 hc;have g:=(c_.1 h1).1;refine⟨_,⟨_,aG b.1 j,_,aG b.2 f,_,rfl,_,rfl,_,_,rfl,_,rfl,e,by rw[xG];omega,?_⟩,h⟩;rw[Ij];simp only[P_,h1,D_];rfl
 grind
theorem S0{k:IntKind}{x:X}(a:x.wf=true)(h:aY O d (.qm k x) s κ kp=some r):Pu P s (.qm k x.er) d κ r:=by
 simp only[aY]at h;split at h;.rename_i c n b;exact⟨_,⟨_,aG a b,_,rfl,_,_,rfl,rfl⟩,h⟩
 grind
theorem Yc{x:X}{i:Nat}(a:x.wf=true)(h:aY O d (.ext x i) s κ kp=some r):Pu P s (.ext x.er i) d κ r:=by
 simp only[aY]at h;split at h
 .rename_i vs b;split at h;.rename_i v c;obtain⟨h1,h2⟩:=aZ h;refine⟨v,⟨_,aG a b,.inr ⟨_,rfl,aU v,by grind,?_⟩⟩,h2⟩;cases v<;>first|rfl|grind
  grind
 grind
end
section
variable {R:Type} {P:Program} {O:bh} {d:Option Nat} {s:S} {κ kp:S->Option R} {r:R}
theorem Lr{p:PV}{off:Nat}{u:Ty}{y:u.den}(h2:((p.cells).drop off).take u.sz=aN u y)(h1:off+u.sz<=p.cells.length):p.sub off u.sz u.ag=aM u y:=by
 cases b:u.ag
 .have hs:=fN b;rw[hs,eR y b]at h2;have a:off<p.cells.length:=by omega
  rw[F_ a]at h2;simp only[aa_,az_,List.cons.injEq,and_true]at h2;simp only[PV.sub,P_,k_ a,D_];omega
 .simp only[PV.sub];rw[eQ y b,<-h2]
theorem y6(l:List PV):(l.map BV.pv).mapM BV.bF=some l:=by induction l with|nil=>rfl|cons x l a=>rw[l_,o_,a];rfl
theorem xR{a:Type}(l m:List a)(k n:Nat)(h:l.length=n):(l++m).drop (k+n)=m.drop k:=by rw[<-h,Nat.add_comm,am_];simp
def V3(t:Ty)(n:Nat)(m:Int)(c:t.den)(cs:List PV):Prop:=∃k:Nat,m=(k:Int)/\k<n/\(cs.drop (k*t.sz)).take t.sz=aN t c/\k*t.sz+t.sz<=cs.length
theorem F4{t:Ty}{n:Nat}{m:Int}{c x:t.den}{cs:List PV}{o:Option t.den}(h:(bif decide (m=0)then some x else o)=some c)(hr:o=some c->V3 t n (m - 1) c cs):V3 t (n+1) m c (aN t x++cs):=by
 by_cases a:m=0
 .subst a;simp only[decide_true,cond_true,b_]at h;subst h;refine⟨0,rfl,by simp,?_,?_⟩;.rw[Nat.zero_mul,I_,List.take_append_of_le_length (by rw[aQ];simp),w_ (by rw[aQ];simp)]
  .simp[aQ]
 .simp only[a,decide_false,cond_false]at h;obtain⟨k,d,b,h1,h2⟩:=hr h;refine⟨k+1,by omega,by omega,?_,?_⟩;.rw[ar_,aG_,xR _ _ _ _ (aQ t x),h1]
  .rw[H_,aQ t x,ar_];omega
theorem I5(t:Ty):∀(n:Nat) (v:V) (m:Int) (c:t.den) (cs:List PV),rowAt t n v m=some c->((dc v).map aU).mapM BV.bF=some cs->V3 t n m c cs:=by
 intro n;induction n with
 |zero=>intro v m c cs h;simp[rowAt]at h|succ n g=>
  intro v m c cs h hcs;cases v with
  |d u x=>
   cases u with
   |pair a b=>
    simp only[rowAt]at h;have hc:cs=aN a x.1++aN b x.2:=by rw[show dc (V.d (.pair a b) x)=gz (.pair a b) x from rfl,(dO (.pair a b) x).1,y6]at hcs;cases hcs;rfl
    split at h
    .rename_i y p;obtain⟨r,rfl⟩:=bJ p;have:aN a x.1=aN a y:=by grind
     rw[hc,this];exact F4 h λh=>g (.d b x.2) (m - 1) c _ h (by rw[show dc (V.d b x.2)=gz b x.2 from rfl,(dO b x.2).1,y6])
    grind
   |_=>simp[rowAt]at h
  |agg vs=>
   simp only[rowAt]at h;split at h;.rename_i x l k;obtain⟨j,rfl,f⟩:=uo t vs x l k;rw[show dc (V.agg (j++l))=j++l from rfl,q_,an_,f]at hcs;simp only[s_,aq_]at hcs;cases hl:(l.map aU).mapM BV.bF with|none=>grind|some e=>rw[hl]at hcs;simp only[aq_,B_,b_]at hcs;rw[<-hcs];exact F4 h λh=>g (.agg l) (m - 1) c e h hl
   grind
  |_=>simp[rowAt]at h
theorem mapM_len{a β:Type}{f:a->Option β}:∀{l:List a} {m:List β},l.mapM f=some m->m.length=l.length
 |[],m,h=>by grind
 |x::l,m,h=>by rw[o_]at h;cases b:f x with|none=>grind|some y=>cases hl:l.mapM f with|none=>grind|some m'=>rw[b,hl]at h;cases h;simp[mapM_len hl]
theorem QP(t:Ty):∀(n:Nat) (vs:List V) (m:Int) (c:t.den),rowAt t n (.agg vs) m=some c->∃j:Nat,m=(j:Int)/\j<n/\(((vs.drop (j*t.sz)).take t.sz).map aU).mapM BV.bF=some (aN t c)/\j*t.sz+t.sz<=vs.length:=by
 intro n;induction n with
 |zero=>intro vs m c h;simp[rowAt]at h|succ n g=>
  intro vs m c h;simp only[rowAt]at h;split at h
  .rename_i x l f;obtain⟨k,rfl,b⟩:=uo t vs x l f;have a:k.length=t.sz:=by have:=mapM_len b;rw[aQ,G_]at this;omega
   by_cases d:m=0;.grind
   .simp only[d,decide_false,cond_false]at h;obtain⟨j,p,e,h1,h2⟩:=g l (m - 1) c h;refine⟨j+1,by omega,by omega,?_,?_⟩;.rw[ar_,aG_,xR _ _ _ _ a];omega
    grind
  grind
theorem Bo(t:Ty)(cs:List V)(h:t.ag=false->cs≠[]):a8 (whole t cs)=mY t.ag (cs.map aU):=by
 unfold whole;cases ht:t.ag;.cases cs with|nil=>grind|cons v cs=>cases v<;>rfl
 .rfl
theorem uw:∀(vs:List V),vs.all V.RL=true->∃cs,(vs.map aU).mapM BV.bF=some cs
 |[],_=>⟨[],rfl⟩
 |v::vs,h=>by
  simp only[aA_,f_]at h;obtain⟨cs,hcs⟩:=uw vs h.2;have:∃p,(aU v).bF=some p:=by cases v<;>first|exact⟨_,rfl⟩|(have:=h.1;simp[V.RL]at this)
  obtain⟨p,hp⟩:=this;exact⟨p::cs,by grind⟩
theorem zb3{v:V}{cs:List PV}(h:((dc v).map aU).mapM BV.bF=some cs)(c:(∃a b x,v= .d (.pair a b) x)\/∃vs,v= .agg vs):∃p,(a8 v).bF=some p/\p.cells=cs/\p.isAgg=true:=by
 rcases c with⟨a,b,x,rfl⟩|⟨vs,rfl⟩;.rw[show dc (V.d (.pair a b) x)=gz (.pair a b) x from rfl,(dO (.pair a b) x).1,y6]at h;cases h;exact⟨_,rfl,rfl,rfl⟩
 .refine⟨.agg cs,?_,rfl,rfl⟩;show((vs.map aU).mapM BV.bF).map PV.agg=_;rw[show dc (V.agg vs)=vs from rfl]at h;grind
theorem QO{t:Ty}{n:Nat}{v:V}{m:Int}{c:t.den}(h:rowAt t n v m=some c):(∃a b x,v= .d (.pair a b) x)\/∃vs,v= .agg vs:=by
 cases n with
 |zero=>simp[rowAt]at h|succ n=>
  cases v with
  |d u x=>cases u with
   |pair a b=>grind
   |_=>simp[rowAt]at h
  |agg vs=>simp|_=>simp[rowAt]at h
theorem S6{n:Nat}{t:Ty}{x i:X}(z:x.wf=true/\i.wf=true)(h:aY O d (.pX n t x i) s κ kp=some r):Pu P s (.pX n t.sz t.ag x.er i.er) d κ r:=by
 simp only[aY]at h;split at h
 .rename_i v B;obtain⟨h1,h⟩:=aZ h;rw[f_]at h1;obtain⟨k,m,A,h⟩:=fA h;obtain⟨c,hc,e⟩:=cP h;have l:=QO hc;obtain⟨cs,hcs⟩:∃cs,((dc v).map aU).mapM BV.bF=some cs:=by
   rcases l with⟨a,b,y,rfl⟩|⟨vs,rfl⟩;.exact⟨_,by rw[show dc (V.d (.pair a b) y)=gz (.pair a b) y from rfl,(dO (.pair a b) y).1,y6]⟩
   .exact uw vs h1.2
  obtain⟨p,hp,g,f⟩:=zb3 hcs l;obtain⟨j,rfl,E,C,D⟩:=I5 t n v m c cs hc hcs;have w:cs.length=n*t.sz:=by have:=h_ h1.1;have h2:=congrArg aF_ g;have F:cs.length=((dc v).map aU).length:=mapM_len hcs;grind
  refine⟨_,⟨_,aG z.1 B,_,aG z.2 A,_,rfl,_,_,rfl,p,hp,by simp,by omega,fN,by grind,f,?_⟩,e⟩;show AV.p (p.sub ((j:Int).toNat*t.sz) t.sz t.ag)=AV.p (aM t c);rw[Lr (u:=t) (y:=c)];all_goals grind
 grind
theorem S3{t:Ty}{x i:X}(b:x.wf=true/\i.wf=true)(h:aY O d (.qA t x i) s κ kp=some r):Pu P s (.qA t.sz x.er i.er) d κ r:=by
 simp only[aY]at h;split at h
 .rename_i id n;split at h
  .rename_i e u xs v;obtain⟨h1,f⟩:=aZ h;have w:u=t:=by grind
   obtain⟨k,m,j,g⟩:=fA f;obtain⟨c,hc,p⟩:=cP g;clear h h1 f g;subst w;obtain⟨h2,a⟩:=C8 hc;have l:=(c_.1 a).1;refine⟨_,⟨_,aG b.1 n,_,aG b.2 j,_,rfl,_,_,rfl,.inr ⟨id,rfl,_,by rw[bL,v];rfl,.inl ⟨e,_,rfl,h2,?_,show _=_ from rfl⟩⟩⟩,p⟩;grind
  .rename_i e kk u xs hole v;obtain⟨h1,f⟩:=aZ h;have w:u=t:=by grind
   obtain⟨k,m,j,g⟩:=fA f;obtain⟨c,hc,p⟩:=cP g;clear h h1 f g;subst w;obtain⟨h2,a⟩:=C8 hc;have l:=(c_.1 a).1;refine⟨_,⟨_,aG b.1 n,_,aG b.2 j,_,rfl,_,_,rfl,.inr ⟨id,rfl,_,by rw[bL,v];rfl,.inr ⟨e,kk,_,_,rfl,h2,?_,show _=_ from rfl⟩⟩⟩,p⟩;grind
  grind
 .rename_i u xs n;split at h
  .rename_i ys z;obtain⟨y,A⟩:=bJ z;obtain⟨k,m,j,h⟩:=fA h;obtain⟨c,hc,h⟩:=cP h;obtain⟨h2,a⟩:=C8 hc;have l:=(c_.1 a).1;refine⟨_,⟨_,aG b.1 n,_,aG b.2 j,_,rfl,_,_,rfl,.inl ⟨ys.map (aM t),?_,h2,?_,?_⟩⟩,h⟩;.show AV.p (aM _ _)=_;rw[<-y];rfl
   .grind
   .show AV.p (.BS ((ys.map (aM t)).getD m.toNat .any))=_;simp only[P_,ah_,a,M_,D_];rfl
  grind
 grind
theorem S4{n:Nat}{t:Ty}{x i:X}(b:x.wf=true/\i.wf=true)(h:aY O d (.qB n t x i) s κ kp=some r):Pu P s (.qB n t.sz t.ag x.er i.er) d κ r:=by
 simp only[aY]at h;split at h;.rename_i id off k m f;obtain⟨h1,h⟩:=bE h;simp only[f_,decide_eq_true_eq]at h1;exact⟨_,⟨_,aG b.1 f,_,aG (s:=s) b.2 rfl,_,rfl,k,_,rfl,h1.1,h1.2,.inl ⟨id,off,rfl,rfl⟩⟩,h⟩
 .rename_i id off f v;obtain⟨k,m,g,h⟩:=fA h;obtain⟨h1,h⟩:=bE h;simp only[f_,decide_eq_true_eq]at h1;exact⟨_,⟨_,aG b.1 f,_,aG b.2 g,_,rfl,k,_,rfl,h1.1,h1.2,.inl ⟨id,off,rfl,rfl⟩⟩,h⟩
 .rename_i u y f;obtain⟨h1,h⟩:=aZ h;simp only[f_]at h1;have hsz:=h_ h1.1;obtain⟨k,m,g,h⟩:=fA h;obtain⟨c,hc,e⟩:=cP h;have hcs:((dc (.d u y)).map aU).mapM BV.bF=some (aN u y):=by rw[show dc (V.d u y)=gz u y from rfl,(dO u y).1,y6]
  obtain⟨j,rfl,w,l,p⟩:=I5 t n _ m c _ hc hcs;have a:(aM u y).sub ((j:Int).toNat*t.sz) t.sz t.ag=aM t c:=Lr l p;refine⟨_,⟨_,aG b.1 f,_,aG b.2 g,_,rfl,k,_,rfl,by simp,by omega,.inr ⟨aM u y,rfl,?_,fN,?_,?_⟩⟩,e⟩;.show(aN u y).length=_;rw[aQ,hsz]
  .rw[a,lR]
  .rw[a];rfl
 grind
theorem S2{off:Nat}{t:Ty}{x:X}(b:x.wf=true)(h:aY O d (.oW off t x) s κ kp=some r):Pu P s (.oW off t.sz t.ag x.er) d κ r:=by
 simp only[aY]at h;split at h
 .rename_i u y a;split at h
  .rename_i z e;obtain⟨h1,h2,c⟩:=yW e;refine⟨_,⟨_,aG b a,.inl ⟨aM u y,rfl,h1,h2,?_,?_⟩⟩,h⟩;.rw[c,lR]
   .rw[c];rfl
  grind
 .rename_i id o a;exact⟨_,⟨_,aG b a,.inr (.inl ⟨id,o,rfl,rfl⟩)⟩,h⟩
 .rename_i id i o a;exact⟨_,⟨_,aG b a,.inr (.inr ⟨id,i,o,rfl,rfl⟩)⟩,h⟩
 grind
theorem AP{a:Type}{l:List a}{n off:Nat}(h:off+n<=l.length)(hn:n=1):(l.drop off).take n≠[]:=by intro e;have:=congrArg aF_ e;grind
theorem Yd{off:Nat}{t:Ty}{x:X}(c:x.wf=true)(h:aY O d (.Iy off t x) s κ kp=some r):Pu P s (.Iy off t.sz t.ag x.er) d κ r:=by
 simp only[aY]at h;split at h
 .rename_i u y b;obtain⟨f,h⟩:=aZ h;split at h
  .rename_i z g;obtain⟨h1,h2,e⟩:=yW g;refine⟨_,⟨_,aG c b,.inl ⟨aM u y,rfl,?_,h1,h2,?_⟩⟩,h⟩;.rw[lR,f]
   .rw[e];rfl
  grind
 .rename_i vs b;obtain⟨h1,h⟩:=aZ h;have a:=y_ h1;refine⟨_,⟨_,aG c b,.inr ⟨_,rfl,by grind,fN,?_⟩⟩,h⟩;rw[Bo t _ λht=>AP a (fN ht),ad_,ac_]
 grind
theorem S8{t:Ty}{x:X}(B:x.wf=true)(h:aY O d (.load t x) s κ kp=some r):Pu P s (.load t.sz t.ag x.er) d κ r:=by
 simp only[aY,loadT]at h;split at h
 .rename_i u y f;split at h;.rename_i z C;obtain⟨Y,rfl⟩:=bJ C;refine⟨_,⟨_,aG B f,?_⟩,h⟩;show(aM u y).isAgg=_/\_/\AV.p (aM u y)=AV.p (aM u z);exact⟨lR u y,aQ u y,by grind⟩
  grind
 .rename_i id off f;split at h;.rename_i tid cs g;obtain⟨h1,h⟩:=aZ h;have E:=y_ h1;refine⟨_,⟨_,aG B f,?_⟩,h⟩;show aR _ _;refine⟨_,by rw[bL,g];rfl,tid,_,rfl,by grind,fN,.inl ?_⟩;rw[Bo t _ λht=>AP E (fN ht),ad_,ac_]
  grind
 .rename_i id off n u m f;split at h
  .rename_i tid cs g;obtain⟨h1,h⟩:=aZ h;simp only[f_,decide_eq_true_eq]at h1;obtain⟨h1,rfl⟩:=h1;have E:=y_ h1;obtain⟨c,hc,D⟩:=cP h;obtain⟨j,rfl,hj,a,_⟩:=QP u n _ m c hc;have el:j*u.sz+u.sz<=n*u.sz:=by grind
   have Q:((((cs.drop off).take (n*u.sz)).drop (j*u.sz)).take u.sz)=(cs.drop (off+j*u.sz)).take u.sz:=by rw[List.drop_take,List.take_take,List.drop_drop];grind
   rw[Q]at a;generalize R:(cs.drop (off+j*u.sz)).take u.sz=l0 at a;refine⟨_,⟨_,aG B f,?_⟩,D⟩;show aR _ _;refine⟨_,by rw[bL,g];rfl,tid,_,rfl,?_,fN,.inr ⟨aM u c,?_,rfl⟩⟩;.grind
   .show(mY u.ag (((cs.map aU).drop (off+(j:Int).toNat*u.sz)).take u.sz)).bF=_;rw[<-ac_,<-ad_,Int.toNat_natCast,R];cases hu:u.ag
    .rw[eR c hu]at a
     match l0,a with
     |[v],a=>simp only[l_,N_,o_,ab_]at a;cases hv:(aU v).bF with|none=>grind|some p=>rw[hv]at a;cases a;exact hv
     |[],a=>grind|v::w::l,a=>have:=mapM_len a;grind
    .show(((l0.map aU).mapM BV.bF).map PV.agg)=_;rw[a,eQ c hu];rfl
  grind
 .rename_i id i off f;split at h
  .rename_i e u xs g;obtain⟨T,h⟩:=aZ h;obtain⟨y,I,h⟩:=cP h;split at h
   .rename_i z C;obtain⟨h1,h2,A⟩:=yW C;have F:=(c_.1 I).1;have b:(xs.map (aM u)).getD i .any=aM u y:=by grind
    refine⟨_,⟨_,aG B f,?_⟩,h⟩;show aR _ _;refine⟨_,by rw[bL,g];rfl,.inl ⟨e,u.sz,_,rfl,by grind,by have:=h1;rw[show(aM u y).cells.length=u.sz from aQ u y]at this;omega,fN,?_⟩⟩;by_cases hs:t.sz=u.sz
    .obtain⟨g1,g2⟩:=nW u off t y z C;have H:off=0:=by omega
     subst H;have M:a_ t.sz u.sz=true:=by rw[hs];simp
     rw[M]at T;have U:u=t:=by grind
     subst U;have gc:aM u z=aM u y:=by rw[<-A];refine Lr ?_ (by omega);rw[I_,w_ (by rw[aQ];simp)]
     refine .inl ⟨rfl,rfl,?_,?_⟩;.rw[b,lR]
     .rw[b];show AV.p (aM u y)=AV.p (aM u z);grind
    .refine .inr ⟨hs,?_⟩;rw[b,A];rfl
   grind
  .rename_i e k u xs hole g;cases N:k.mJ off t.sz
   .rw[N]at h;simp only[cond_false]at h;split at h
    .rename_i hi hj v;obtain⟨h1,J⟩:=aZ h;simp only[f_,R_]at h1;obtain⟨⟨⟨h1,h2⟩,h5⟩,A⟩:=h1;obtain⟨y,I,L⟩:=cP J;obtain⟨h4,hb⟩:=bE L;have Y:=h_ h1;have e2:=h_ h4;have h6:=y_ h5;clear h h1 h4 h5;subst Y;subst e2;have F:=(c_.1 I).1;split at A;.refine⟨_,⟨_,aG B f,?_⟩,hb⟩;show aR _ _;refine⟨_,by rw[bL,g];rfl,.inr ⟨e,u.sz,k,_,_,rfl,by grind,?_,fN,.inr ⟨_,rfl,fN h2,h2,rfl⟩⟩⟩;rw[fN h2];omega
     grind
    grind
   .rw[N]at h;simp only[cond_true]at h;obtain⟨y,I,h⟩:=cP h;split at h
    .rename_i z C;obtain⟨h1,h2,A⟩:=yW C;have F:=(c_.1 I).1;have b:(xs.map (aM u)).getD i .any=aM u y:=by grind
     refine⟨_,⟨_,aG B f,?_⟩,h⟩;show aR _ _;refine⟨_,by rw[bL,g];rfl,.inr ⟨e,u.sz,k,_,_,rfl,by grind,by have:=h1;rw[show(aM u y).cells.length=u.sz from aQ u y]at this;omega,fN,.inl ⟨N,?_⟩⟩⟩;rw[b,A];rfl
    grind
  grind
 grind
end
end Go.Ev
