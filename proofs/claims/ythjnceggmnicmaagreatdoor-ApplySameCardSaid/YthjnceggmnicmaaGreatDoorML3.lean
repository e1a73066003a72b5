import Derived.Laws.StructEq
import Derived.Laws.CopyRow
import Derived.MapKept
import Derived.Test.YthjnceggmnicmaaGreatDoorML1
import Derived.Recover
import Derived.Tactics
import Derived.Tactics2
import Derived.Laws.Pointers
set_option linter.unusedVariables false
set_option linter.unusedSimpArgs false
open Array renaming getElem?_eq_getElem->m_,getElem?_toList->q_,replicate->w_,getElem?_append_left->K_,getElem?_eq_some_iff->V_,all_eq_true'->Y_,getElem?_setIfInBounds_ne->Z_,getD->ag_,mapM_eq_mapM_toList->ai_,getElem?_append->as_,size_append->aD_,ext'->aO_
open Bool renaming and_eq_true->n_,false_eq_true->p_,not_true->ad_,or_eq_true->ae_,not_eq_true'->ak_,not_false->av_,false_or->aQ_
open Classical renaming byContradiction->v_,epsilon_spec->aR_,epsilon->aW_
open List renaming getElem?_eq_getElem->a_,getElem?_eq_some_iff->b_,mem_flatMap->f_,mem_of_getElem?->g_,getElem?_set_ne->i_,all_eq_true->j_,getElem?_append_left->k_,mem_append->l_,getElem?_set_self->o_,eq_nil_of_length_eq_zero->r_,getElem?_append_right->u_,mem_range->y_,length_cons->A_,map_cons->B_,mapM_cons->C_,mem_map->D_,getElem?_eq_none->E_,getElem?_of_mem->F_,getElem?_map->H_,mem_cons->J_,length_nil->M_,map_append->N_,length_append->Q_,range->R_,mem_filter->S_,getD->W_,length_take->X_,contains_iff_mem->aa_,eq_nil_iff_forall_not_mem->ab_,getElem?_take->ah_,drop_eq_getElem_cons->aj_,ext_getElem?->al_,cons_append->an_,filter_cons->ao_,nil_append->ar_,length_singleton->au_,mem_of_mem_drop->aw_,mem_of_mem_take->ax_,getElem?_drop->az_,flatMap_cons->aE_,nodup_append->aF_,size_toArray->aG_,drop_length->aJ_,not_mem_nil->aK_,zipIdx_cons->aL_,find?_cons->aM_,nodup_cons->aN_,take_zero->aP_,map_map->aS_,map_nil->aT_,range'->aV_
open Nat renaming le_refl->t_,lt_or_ge->z_,mul_le_mul_right->G_,pos_of_ne_zero->L_,zero_add->O_,add_mul->P_,div_lt_iff_lt_mul->U_,div_add_mod->af_,add_assoc->am_,le_mul_of_pos_right->ap_,mul_comm->aq_,one_mul->ay_,eq_zero_or_pos->aA_,mod_lt->aB_,not_lt->aC_,le_trans->aH_,sub_self->aI_,add_zero->aU_
open Option renaming bind_eq_some_iff->c_,map_eq_some_iff->d_,isSome_iff_exists->s_,map_some->x_,bind_eq_bind->I_,pure_def->T_,getD_some->ac_
open Option.some renaming inj->e_,injEq->h_
namespace Go.Av
open Go Go.RowKit
section
variable {P:Program} {o:Oper} {c:Ctx} {θ:List Loc} {D:Nat->Prop} {st:St} {a:Act} {w:World}
theorem iY{v u:Value}(h:RelP D w v (.sc u)):v=u:=by cases h;rfl
def TR(P:Program)(D:Nat->Prop)(w:World)(d:Nat):Prop:=∀(t:TypeId) (p q:PV) (b:Bool) (v u:Value) (n:Nat),eqP P d t p q=some b->d<=n->RelP D w v p->RelP D w u q->(Op.equalIn n t v u).run P w= .ok b w
theorem QU{d:Nat}(A:TR P D w d):∀(l:List Field) (xs ys:List PV) (b:Bool) (vs us:Array Value) (n:Nat),eqP.eqFs P d l xs ys=some b->d<=n->RelP D w (.agg vs) (.agg xs)->RelP D w (.agg us) (.agg ys)->(Op.eqFields n vs us l).run P w= .ok b w:=by
 intro l;induction l with
 |nil=>intro xs ys b vs us n h _ _ _;simp only[eqP.eqFs,h_]at h;subst h;simp[Op.eqFields]|cons f l k=>
  intro xs ys b vs us n h hn v u;simp only[eqP.eqFs]at h;split at h;·cases h
  ·rename_i c;simp only[c_]at h;obtain⟨i,z,h⟩:=h;split at h;·cases h
   ·rename_i hc;simp only[not_or,aC_,not_and,Decidable.not_not,Option.isNone_iff_eq_none]at hc;obtain⟨x,r,s,y⟩:=hc;obtain⟨H,g⟩:=Option.ne_none_iff_exists'.1 x;simp only[c_]at h;obtain⟨p,j,h⟩:=h;have hsz:bJ P f.type=some i.size:=by simp[bJ,z]
    have a:gE P f.type=false->i.size=1:=λe=>y e;obtain⟨E,r1⟩:=vg (off:=f.offset) (sz:=i.size) v rfl r a;obtain⟨F,r2⟩:=vg (off:=f.offset) (sz:=i.size) u rfl s a;have B:=rz (P:=P) (w:=w) (t:=f.type) (cs:=vs) (off:=f.offset) g hsz (by rw[E];exact r) a;have C:=rz (P:=P) (w:=w) (t:=f.type) (cs:=us) (off:=f.offset) g hsz (by rw[F];exact s) a;have e:=A f.type _ _ p _ _ n j hn r1 r2;simp only[Op.eqFields];rw[if_pos c];simp only[Sem.run_bind,B,C,e,Result.andThen_ok];cases p;·simp only[p_,if_false,h_]at h;subst h;simp
    ·simp only[if_true]at h;simp only[ad_,p_,if_false];exact k xs ys b vs us n h hn v u
theorem Jc:∀(d:Nat),TR P D w d:=by
 intro d;induction d with
 |zero=>intro t p q b v u n h _ _ _;simp[eqP]at h|succ d x=>
  intro t p q b v u n h hn e c;obtain⟨m,rfl⟩:∃m,n=m+1:=⟨n - 1,by omega⟩;unfold eqP at h;split at h;·rename_i a;rw[iY e,iY c];cases h;exact run_equalIn_bool' w m t _ _ a
  ·rename_i a;rw[iY e,iY c];split at h;·rename_i s;subst s;cases h;exact run_equalIn_int w m t _ _ _ _ a
   ·cases h
  ·rename_i a;rw[iY e,iY c];cases h;rw[beq_toListBytes];exact run_equalIn_string w m t _ _ a
  ·rename_i l xs ys a;split at h;·cases h
   ·rename_i hs;have r:P.fieldsOf t=l:=by simp[Program.fieldsOf,a]
    cases e with|agg vs _ j f=>cases c with|agg us _ k g=>rw[run_equalIn_struct w m t vs us (by rw[r];exact a) (by simpa using hs),r];exact QU x l.toList xs ys b vs us m h (by omega) (.agg vs xs j f) (.agg us ys k g)
  ·cases h
theorem If(j:Inv c θ D st a w){K:AV->Prop}{op:BinOp}{neg:Bool}{t C:TypeId}{r:Array Field}{x y:Operand}(u:o.op= .binOp op t x y C)(k:op=if neg then .neq else .eql)(z:P.underlying t=some (.struct r))(hg:P.eqGuardType P.depth t=false) (h:jp P st (.eqT neg t (.of x) (.of y)) K):Yields P o a w (Res c θ st a K):=by
 obtain⟨E,A,F,B,p,hp,q,v,b,g,s⟩:=h;have r1:=cd (j.get A) hp;have r2:=cd (j.get B) v;refine aF j ?_ s (RelP.sc _);have e:=Jc (P:=P) (D:=D) (w:=w) 64 t p q b _ _ 10000 g (by decide) r1 r2;have f:∃xs ys,a.eval x= .agg xs/\a.eval y= .agg ys:=by
  unfold eqP at g;rw[z]at g;generalize a.eval x=H at r1⊢;generalize a.eval y=I at r2⊢;split at g;·rename_i d;cases d
  ·rename_i d;cases d
  ·rename_i d;cases d
  ·cases r1;cases r2;exact⟨_,_,rfl,rfl⟩
  ·cases g
 obtain⟨xs,ys,l,n⟩:=f;rw[l,n]at e;simp only[execOp,u,l,n,Sem.run_bind,run_eqGuard_agg w op t x y xs ys hg,Result.andThen_ok];subst k;cases neg;·simp only[p_,if_false,run_eql_struct,e,Result.andThen_ok,Sem.run_pure,Bool.false_xor]
 ·simp only[if_true,run_neq_struct,e,Result.andThen_ok,Sem.run_pure,Bool.true_xor]
theorem Hz{k:TypeId}{x:PV}:∀{l:List (PV×PV)} {i:Nat} {r:Option (Nat×PV)},tn P k x l i=some r->
 (r=none/\∀a∈l,eqP P 64 k x a.1=some false)\/(∃j a,r=some (i+j,a.2)/\l[j]? =some a/\eqP P 64 k x a.1=some true/\∀c∈l.take j,eqP P 64 k x c.1=some false)
 |[],i,r,h=>by simp only[tn,h_]at h;exact .inl ⟨h.symm,by simp⟩
 |a::l,i,r,h=>by
  simp only[tn,c_]at h;obtain⟨b,n,h⟩:=h;cases b
  ·simp only[p_,if_false]at h;rcases Hz h with⟨f,g⟩|⟨j,c,f,g,p,s⟩;·exact .inl ⟨f,λy d=>(J_.1 d).elim (λe=>by rw[e];exact n) (g y)⟩
   ·refine .inr ⟨j+1,c,by rw[f];simp;omega,by simpa using g,p,λy d=>?_⟩;simp only[List.take_succ_cons,J_]at d;rcases d with rfl|d;·exact n
    ·exact s y d
  ·simp only[if_true,h_]at h;exact .inr ⟨0,a,by rw[<-h];simp,rfl,n,by simp⟩
theorem uQ{k:TypeId}{v:Value}:∀(a:List MapEntry) (i:Nat) (f:MapEntry->Bool),(∀e∈a,(Op.equal k v e.key).run P w= .ok (f e) w)->
 (Instr.findAsking k v a i).run P w= .ok ((a.zipIdx i).find? (λe=>f e.1) |>.map λe=>(e.2,e.1.val)) w
 |[],i,f,_=>by simp[Instr.findAsking]
 |e::a,i,f,h=>by
  simp only[Instr.findAsking,Sem.run_bind,h e (by simp),Result.andThen_ok,aL_,aM_];cases c:f e;·simp only[p_,if_false];exact uQ a (i+1) f λy b=>h y (by simp[b])
  ·simp
theorem findNow_spec{d:TypeDesc}{v:Value}:∀(a:List MapEntry) (i:Nat) (f:MapEntry->Bool) {r:Option (Nat×Value)},(∀e∈a,∀b,Instr.sameNow d v e.key=some b->b=f e)->Instr.findNow d v a i=some r->
 r=((a.zipIdx i).find? (λe=>f e.1) |>.map λe=>(e.2,e.1.val))
 |[],i,f,r,_,h=>by simp only[Instr.findNow,h_]at h;subst h;simp
 |e::a,i,f,r,hs,h=>by
  simp only[Instr.findNow]at h;simp only[aL_,aM_];split at h;·rename_i c;rw[<-hs e (by simp) true c];simp only[h_]at h;subst h;rfl
  ·rename_i c;rw[<-hs e (by simp) false c];exact findNow_spec a (i+1) f (λy g=>hs y (by simp[g])) h
  ·cases h
theorem Td{b:List MapEntry}{l:List (PV×PV)}{k:TypeId}{x:PV}{i:Nat}{r:Option (Nat×PV)}{f:MapEntry->Bool}(hl:b.length=l.length)(A:∀(j:Nat) (e:MapEntry) (a:PV×PV),b[j]? =some e->l[j]? =some a->eqP P 64 k x a.1=some (f e))(h:tn P k x l i=some r):(r=none/\(b.zipIdx i).find? (λe=>f e.1)=none)\/∃j a e,r=some (i+j,a.2)/\l[j]? =some a/\b[j]? =some e/\(b.zipIdx i).find? (λe=>f e.1)=some (e,i+j):=by
 rcases Hz h with⟨z,s⟩|⟨j,a,z,s,D,E⟩;·refine .inl ⟨z,?_⟩;rw[List.find?_eq_none];rintro⟨e,n⟩ p;obtain⟨j,u⟩:=F_ p;rw[List.getElem?_zipIdx]at u;cases c:b[j]? with|none=>rw[c]at u;cases u|some H=>rw[c]at u;cases u;obtain⟨a,v⟩:=bb (l:=l) hl.symm c;have:=A j _ a c v;rw[s a (g_ v)]at this;cases g:f e<;>simp_all
 ·obtain⟨e,p⟩:=bb (l:=b) hl s;refine .inr ⟨j,a,e,z,s,p,?_⟩;have B:j<b.length:=(b_.1 p).1;rw[List.find?_eq_some_iff_getElem];have g:=A j e a p s;rw[D]at g;refine⟨by simpa using(e_ g).symm,j,by simpa using B,?_,λm F=>?_⟩;·have:b[j]=e:=(b_.1 p).2;simp[this,Nat.add_comm]
  ·have w:m<b.length:=by omega
   obtain⟨y,d⟩:=bb (l:=l) hl.symm (a_ w);have C:=A m _ y (a_ w) d;rw[E y (g_ (by rw[ah_,if_pos F];exact d))]at C;simpa using(e_ C).symm
theorem lF(em:Bool):∀(d n:Nat) (t:TypeId) (v:Value) (p:PV),BC P d t p=true->d<=n->RelP D w v p->(Instr.checkKey em n t v).run P w= .ok () w
 |0,n,t,v,p,h,_,_=>by simp[BC]at h
 |d+1,n,t,v,p,h,hn,k=>by
  obtain⟨m,rfl⟩:∃m,n=m+1:=⟨n - 1,by omega⟩;unfold BC at h;rw[Instr.checkKey];split at h;·rename_i c;rw[iY k];simp[run_underlying c]
  ·rename_i c;rw[iY k];simp[run_underlying c]
  ·rename_i c;rw[iY k];simp[run_underlying c]
  ·rename_i z xs c;cases k with
   |agg vs _ hs C=>
    have u:RelP D w (.agg vs) (.agg xs):=.agg vs xs hs C;simp only[Sem.run_bind,run_underlying c,Result.andThen_ok];rw[<-Array.forIn_toList];have a:=j_.1 h;revert a;generalize z.toList=l;intro a;induction l with
    |nil=>simp|cons f l F=>
     have b:=a f (by simp);simp only[n_,bne_iff_ne,ne_eq]at b;obtain⟨s,b⟩:=b;split at b
     ·rename_i i E;simp only[n_,decide_eq_true_eq,ae_]at b;obtain⟨⟨⟨A,y⟩,j⟩,B⟩:=b;obtain⟨J,r⟩:=s_.1 A;have hsz:bJ P f.type=some i.size:=by simp[bJ,E]
      have g:gE P f.type=false->i.size=1:=λe=>j.elim (λj=>by rw[e]at j;cases j) id;obtain⟨I,r1⟩:=vg (off:=f.offset) (sz:=i.size) u rfl y g;have H:=rz (P:=P) (w:=w) (t:=f.type) (cs:=vs) (off:=f.offset) r hsz (by rw[I];exact y) g;have e:=lF em d m f.type _ _ B (by omega) r1;have x:=F λf b=>a f (by simp[b]);simp only[List.forIn_cons,Sem.run_bind,Sem.run_ite,s,not_false_eq_true,ne_eq,if_true,H,Result.andThen_ok,e,Sem.run_pure];simpa using x
     ·cases b
  ·cases h
theorem BQ{k:TypeId}{v:Value}{a:Array MapEntry}{f:MapEntry->Bool}{d:TypeDesc}(hd:P.underlying k=some d)(h:∀e∈a.toList,(Op.equal k v e.key).run P w= .ok (f e) w)(hs:∀e∈a.toList,∀b,Instr.sameNow d v e.key=some b->b=f e):(Instr.findKey k v a.toList).run P w= .ok ((a.toList.zipIdx 0).find? (λe=>f e.1) |>.map λe=>(e.2,e.1.val)) w:=by simp only[Instr.findKey,Sem.run_bind,run_underlying hd,Result.andThen_ok];cases hn:Instr.findNow d v a.toList 0 with|none=>exact uQ a.toList 0 f h|some r=>rw[findNow_spec a.toList 0 f hs hn];simp
theorem No{k:TypeId}{d:TypeDesc}{v u:Value}{b c:Bool}(hd:P.underlying k=some d)(h:Instr.sameNow d v u=some b)(a:(Op.equal k v u).run P w= .ok c w):b=c:=by
 have e:(Op.equal k v u)=Op.equalIn (9999+1) k v u:=rfl;rw[e]at a;unfold Instr.sameNow at h;split at h
 ·split at h;·rename_i f;subst f;cases h;rw[run_equalIn_int w 9999 k _ _ _ _ hd]at a;cases a;rfl
  ·cases h
 ·cases h;rw[run_equalIn_string w 9999 k _ _ hd,<-beq_toListBytes]at a;cases a;rfl
 ·cases h;rw[run_equalIn_bool' w 9999 k _ _ hd]at a;cases a;rfl
 ·cases h
theorem Ls(Q:Inv c θ D st a w){k:TypeId}{kvs:List (PV×PV)}{n:Array MapEntry}{v:Value}{p:PV}{r:Option (Nat×PV)}(E:n.size=kvs.length) (x:∀(i:Nat) (e:MapEntry) (g:PV×PV),n[i]? =some e->kvs[i]? =some g->RelP D w e.key g.1/\RelP D w e.val g.2) (O:RelP D w v p) (hr:tn P k p kvs 0=some r) (s:∀g∈kvs,(eqP P 64 k p g.1).isSome=true) (hd:(P.underlying k).isSome=true): ∃res,(Instr.findKey k v n.toList).run P w= .ok res w/\((r=none/\res=none)\/∃j g e,r=some (j,g.2)/\kvs[j]? =some g/\n[j]? =some e/\res=some (j,e.val)/\eqP P 64 k p g.1=some true):=by
 have _:=Q;obtain⟨d,hd⟩:=s_.1 hd;have u:∀e∈n.toList,∃(i:Nat) (g:PV×PV) (b:Bool),n[i]? =some e/\kvs[i]? =some g/\eqP P 64 k p g.1=some b/\(Op.equal k v e.key).run P w= .ok b w:=by
  intro e I;obtain⟨i,H⟩:=F_ I;rw[q_]at H;have L:i<kvs.length:=by rw[<-E];exact(V_.1 H).1
  have l:=a_ L;obtain⟨b,y⟩:=s_.1 (s _ (g_ l));exact⟨i,_,b,H,l,y,Jc (P:=P) (D:=D) (w:=w) 64 k p _ b v e.key 10000 y (by decide) O (x i e _ H l).1⟩
 classical
 let f:MapEntry->Bool:=λe=>if h:e∈n.toList then(u e h).choose_spec.choose_spec.choose else false;have J:∀e,(h:e∈n.toList)->(Op.equal k v e.key).run P w= .ok (f e) w:=λe h=>by have:=(u e h).choose_spec.choose_spec.choose_spec.2.2.2;simp only[f,dif_pos h];exact this
 have z:=BQ (f:=f) hd J λe h b y=>No hd y (J e h);refine⟨_,z,?_⟩;have F:∀(j:Nat) (e:MapEntry) (g:PV×PV),n.toList[j]? =some e->kvs[j]? =some g->eqP P 64 k p g.1=some (f e):=by intro j e g N l;obtain⟨b,y⟩:=s_.1 (s _ (g_ l));have B:=Jc (P:=P) (D:=D) (w:=w) 64 k p _ b v e.key 10000 y (by decide) O (x j e g (by rw[<-q_];exact N) l).1;have A:=J e (g_ N);have C:(Op.equal k v e.key).run P w= .ok b w:=B;rw[A]at C;cases C;exact y
 rcases Td (by simpa using E) F hr with⟨B,A⟩|⟨j,g,e,B,A,C,M⟩;·exact .inl ⟨B,by rw[A];rfl⟩
 ·refine .inr ⟨j,g,e,by simpa using B,A,by rw[<-q_];exact C,by rw[M];simp,?_⟩;have:=F j e g C A;rw[this];have:=List.find?_some M;simpa using this
theorem pn{g:Nat}{b:Array MapEntry}{a:Nat}(h:w.heap[g]? =some (.map b a)):(getObj g).run P w= .ok (.map b a) w:=MapKept.run_getObj_map h
theorem JB(C:Inv c θ D st a w){K:AV->Prop}{t k e:TypeId}{m x:Operand}{d:Bool}{z:Value}(Y:o.op= .lookup t m x d)(ht:P.underlying t=some (.map k e))(hz:cX P e=some z) (h:jp P st (.lookup k e d z (.of m) (.of x)) K):Yields P o a w (Res c θ st a K):=by
 obtain⟨am,hm,ax,A,id,kvs,rfl,O,p,hp,J,hd,F,r,hr,I⟩:=h;obtain⟨g,hg,y⟩:=C.get hm;obtain⟨es,L,T,h2,U⟩:=C.ok.objs id _ _ hg O;have f:=cd (C.get A) hp;obtain⟨res,l,s⟩:=Ls C h2 U f hr F hd;have H:∀em,(Instr.checkKey em 10000 k (a.eval x)).run P w= .ok () w:=λem=>lF em 64 10000 k _ p J (by decide) f;simp only[cX,c_]at hz;obtain⟨it,N,Q⟩:=hz;have B:(zeroValue e).run P w= .ok z w:=by simp[zeroValue,typeInfo,N,Q]
 have E:∀(u:Value) (q:PV) (b:Bool),RelP D w u q->(execOp a.eval o).run P w= .ok (.value (if d then .tuple #[u,.bool b]else u)) w->K (match d with|true=>.tup [.pv q,.pv (.sc (.bool b))]|false=>.p q)->Yields P o a w (Res c θ st a K):=by
  intro u q b hu n I;cases d;·exact aF C n I hu
  ·refine aF C n I ⟨#[u,.bool b],rfl,rfl,λi v x y A=>?_⟩
   match i with|0=>simp at y A;subst y;subst A;exact hu|1=>simp at y A;subst y;subst A;exact RelP.sc _|i+2=>simp at A
 rcases s with⟨rfl,rfl⟩|⟨j,kv,R,rfl,hj,M,rfl,_⟩;·refine E z (.sc z) false (RelP.sc z) ?_ (by cases d<;>exact I);simp[execOp,Y,Instr.lookup,run_underlying ht,y,pn T,H,l,B]
 ·refine E R.val kv.2 true (U j R kv M hj).2 ?_ (by cases d<;>exact I);simp[execOp,Y,Instr.lookup,run_underlying ht,y,pn T,H,l]
theorem NC(l:Inv c θ D st a w){K:AV->Prop}{x:Operand}{t k e:TypeId}{f:Call}(v:o.op= .call f)(n:f.callee= .builtin .len)(b:f.args= #[x])(d:f.argTypes= #[t]) (y:P.underlying t=some (.map k e)) (h:jp P st (.lenM k e (.of x)) K):Yields P o a w (Res c θ st a K):=by obtain⟨B,A,id,kvs,rfl,p,u⟩:=h;obtain⟨g,hg,z⟩:=l.get A;obtain⟨C,j,r,s,E⟩:=l.ok.objs id _ _ hg p;refine aF l ?_ u (RelP.sc _);simp[execOp,v,resolve,n,b,d,invoke,builtin,Builtin.len_,run_underlying y,z,goInt,pn r,s]
theorem Lv(g:Inv c θ D st a w)(hd:∀k,o.dst=some k->k<c.n){K KP:St->Prop}{t k e:TypeId}(n:o.op= .makeMap t none){pl:Option Nat} (h:GG st (.mkmap k e) λob mk=>Ai st pl/\K ((st.new pl ob).putO o.dst (.b (mk (st.nid pl))))):Leaves P o c K KP a w:=by
 intro next Q hn _;obtain⟨f,h⟩:=h;obtain⟨θ',d,hid⟩:=g.allocAt f (l:=.mp w.heap.size) (o:=.map k e []) (ob:=.map #[] 0) (λ_ h=>h) λθ' p=>⟨#[],0,ek w _,rfl,λi r s j=>by simp at j⟩;have b:(execOp a.eval o).run P w= .ok (.value (.map (some w.heap.size))) (w.alloc (.map #[] 0)):=by simp[execOp,n,Instr.makeMap]
 unfold Oper.wp;rw[b];exact hn _ _ ⟨_,h,_,_,d.put hd ⟨w.heap.size,hid,rfl⟩⟩
theorem LY(b:Inv c θ D st a w)(hd:∀k,o.dst=some k->k<c.n){K KP:St->Prop}{t k e:TypeId}(d:o.op= .makeMap t none)(h:sexec P o.dst (.mkmap k e) st K KP):Leaves P o c K KP a w:=Lv b hd d (pl:=none) ⟨trivial,h⟩
theorem EV:∀{p q:PV} {v u:Value},p.plain=true->RelP D w v p->RelP D w u p->Instr.sameBits 10000 v u=true:=by
 intro p q v u hp h g;cases p with
 |sc s=>rw[iY h,iY g];cases s<;>simp[PV.plain]at hp<;>simp[Instr.sameBits,beq_toListBytes]|agg xs=>
  cases h with
  |agg vs _ j k=>
   cases g with
   |agg us _ r l=>
    simp only[PV.plain,j_]at hp;show((vs.size==us.size)&&_)=true;simp only[n_,beq_iff_eq,j_];refine⟨by omega,λx n=>?_⟩;obtain⟨i,f⟩:=F_ n;rw[List.getElem?_zip_eq_some]at f;obtain⟨c,e⟩:=f;rw[q_]at c e;have d:i<xs.length:=by rw[<-j];exact(V_.1 c).1
    have b:=a_ d;have a:=hp _ (g_ b);have r1:=k i _ _ c b;have r2:=l i _ _ e b;revert r1 r2 a;generalize xs[i]=y;intro a r1 r2;cases y with|sc s=>rw[iY r1,iY r2];cases s<;>simp at a<;>simp[Instr.sameBits,beq_toListBytes]|_=>simp at a
 |_=>simp[PV.plain]at hp
theorem H8{h:Array Obj}{g k:Nat}{ob:Obj}(a:k≠g):(h.setIfInBounds g ob)[k]? =h[k]? :=Z_ (Ne.symm a)
theorem AB(H:Inv c θ D st a w)(Bk:o.dst=none){K KP:St->Prop}{t k e:TypeId}{m x y:Operand}(I:o.op= .mapUpdate t m x y\/o.op= .insert t m x y)(ht:P.underlying t=some (.map k e)) (h:sexec P o.dst (.mapset k e (.of m) (.of x) (.of y)) st K KP):Leaves P o c K KP a w:=by
 intro next Q hn _;obtain⟨am,hm,ax,hx,ay,hy,id,kvs,rfl,CT,p,hp,q,hq,_,F,ph,hd,el,r,hr,U,hk⟩:=h;obtain⟨g,hg,hv⟩:=H.get hm;obtain⟨es,u,h1,h2,h3⟩:=H.ok.objs id _ _ hg CT;have n:=cd (H.get hx) hp;have M:=cd (H.get hy) hq;obtain⟨res,J,O⟩:=Ls H h2 h3 n hr el hd;have gc:∀em,(Instr.checkKey em 10000 k (a.eval x)).run P w= .ok () w:=λem=>lF em 64 10000 k _ p ph (by decide) n;have Bx:g<w.heap.size:=(H.ok.olt id _ g hg rfl).1;have Y:∀(ob:Obj) (s:List (PV×PV)),(execOp a.eval o).run P w= .ok .skip {w with heap:=w.heap.setIfInBounds g ob}->(∃(z:Array MapEntry) (l:Nat),ob= .map z l/\z.size=s.length/\∀(i:Nat) (B:MapEntry) (E:PV×PV),z[i]? =some B->s[i]? =some E->RelP D w B.key E.1/\RelP D w B.val E.2)->K {st with hp:=st.hp.set id (.map k e s)}->o.wp P a w next Q:=by
  rintro ob s rg ⟨z,l,rfl,CD,C⟩ hk
  have hD:∀b,D b->({w with heap:=w.heap.setIfInBounds g (.map z l)}:World).heap[b]? =w.heap[b]? :=λb hb=>H8 λe=>(H.ok.olt id _ g hg rfl).2 (e▸hb)
  have At:=H.store (o':=.map k e s) (w':={w with heap:=w.heap.setIfInBounds g (.map z l)}) hg rfl rfl rfl rfl (by simp) (λk' BT=>H8 BT) ⟨z,l,by simp[Bx],CD,λi B E A f=>⟨(C i B E A f).1.mono (λ_ h=>h) hD,(C i B E A f).2.mono (λ_ h=>h) hD⟩⟩
  unfold Oper.wp
  rw[rg]
  refine hn _ _ ⟨_,hk,θ,D,?_⟩
  have:=At.put (d:=none) (v:=undef) (x:=.v undef) (λ_ h=>by cases h) (RelP.sc _)
  rw[Bk]
  exact this
 have L:∀(ob:Obj),(setObj g ob).run P w= .ok () {w with heap:=w.heap.setIfInBounds g ob}:=λob=>MapKept.run_setObj_map ob h1;rcases O with⟨rfl,rfl⟩|⟨j,E,B,rfl,hj,R,rfl,_⟩
 ·refine Y (.map (es.push {key:=a.eval x,val:=a.eval y,born:=u}) (u+1)) (kvs++[(p,q)]) ?_ ⟨_,_,rfl,by simp[h2],λi B E A f=>?_⟩ hk;·rcases I with I|I<;>simp only[execOp,I,Instr.mapUpdate,Sem.run_bind,run_underlying ht,Result.andThen_ok,hv,pn h1,gc,J,L,Sem.run_pure]
  ·rw[Array.getElem?_push]at A;split at A;·rename_i hi;rw[hi,h2,u_ (t_ _),aI_]at f;cases A;simp at f;subst f;exact⟨n,M⟩
   ·rename_i hi;have DA:i<es.size:=(V_.1 A).1;rw[k_ (by omega)]at f;exact h3 i B E A f
 ·obtain⟨u',ur⟩:=U j E.2 rfl;rw[hj]at ur;cases ur;have qr:((es[j]?).map (·.key)).getD (a.eval x)=B.key:=by rw[R];rfl
  have N:=EV (q:=p) F (h3 j B _ R hj).1 n;refine Y (.map (es.modify j λe=>{e with key:=a.eval x,val:=a.eval y}) u) (kvs.set j (p,q)) ?_ ⟨_,_,rfl,by simp[h2],λi wr Dg A f=>?_⟩ hk;·rcases I with I|I<;>simp only[execOp,I,Instr.mapUpdate,Sem.run_bind,run_underlying ht,Result.andThen_ok,hv,pn h1,gc,J,qr,Instr.keyThatStays,N,if_true,Sem.run_pure,L]
  ·rw[Array.getElem?_modify]at A;rw[List.getElem?_set]at f;by_cases T:j=i;·subst T;rw[if_pos rfl,R]at A;rw[if_pos rfl,if_pos (b_.1 hj).1]at f;simp at A f;subst A;subst f;exact⟨n,M⟩
   ·rw[if_neg T]at A;rw[if_neg T]at f;exact h3 i wr Dg A f
theorem NF(B:Inv c θ D st a w){K:AV->Prop}{f:FuncId}{first caps:Array Operand}(T:o.op= .makeFunc (.func f) first caps)(R:first= #[])(h:jp P st (.mkfn f (caps.toList.map SX.of)) K):Yields P o a w (Res c θ st a K):=by
 obtain⟨ars,C,d⟩:=h;obtain⟨H,U⟩:=mapM_some C;subst R;have b:(execOp a.eval o).run P w= .ok (.value (.func (.func f) #[] (caps.map a.eval))) w:=by simp[execOp,T,Instr.makeFunc]
 have e:∀(i:Nat) (x:AV),ars[i]? =some x->∃y,caps.toList[i]? =some y/\RelA θ D w (a.eval y) x:=λi x z=>by obtain⟨s,hs⟩:=bb (l:=caps.toList.map SX.of) H z;have hg:=U i s x hs z;rw[H_]at hs;cases hc:caps.toList[i]? with|none=>rw[hc]at hs;cases hs|some y=>rw[hc]at hs;cases hs;exact⟨y,rfl,B.get hg⟩
 rcases d with⟨ids,rfl,u⟩|⟨Y,rfl,u⟩
 ·refine aF B b u ?_;have hg:∀(i:Nat),i<ids.length->∃g:Nat,∀id y,ids[i]? =some id->caps.toList[i]? =some y->θ[id]? =some (.blk g)/\a.eval y= .pointer (some ⟨g,0,none⟩):=λi p=>by obtain⟨y,j,hr⟩:=e i (.b (.ptr ids[i] 0)) (by simp[a_ p]);obtain⟨g,N,O⟩:=hr;exact⟨g,λid y' J L=>by rw[a_ p]at J;cases J;rw[j]at L;cases L;exact⟨N,O⟩⟩
  obtain⟨A,Q,I⟩:=fW hg;refine⟨A,Q,λk id g hid E=>?_,?_⟩;·have u:k<ids.length:=(b_.1 hid).1;obtain⟨y,j,_⟩:=e k (.b (.ptr id 0)) (by simp[hid]);exact(I k g E id y hid j).1
  ·congr 1;apply aO_;apply al_;intro i;simp only[Array.toList_map,H_];have M:caps.toList.length=ids.length:=by simpa using H
   rcases z_ i ids.length with p|p;·have n:=a_ (l:=A) (i:=i) (by omega);have r:=a_ (l:=caps.toList) (i:=i) (by omega);rw[n,r];simp only[x_];rw[(I i _ n _ _ (a_ p) r).2]
   ·rw[E_ (by omega:caps.toList.length<=i),E_ (by omega:A.length<=i)];rfl
 ·refine aF B b u (RelP.fn _ _ _ (by simpa using H) λi v x F z=>?_);obtain⟨y,j,hr⟩:=e i (.p x) (by simp[z]);rw[Array.getElem?_map]at F;rw[q_]at j;rw[j]at F;cases F;exact hr
theorem Nt(s:Inv c θ D st a w)(hd:∀k,o.dst=some k->k<c.n){K KP:St->Prop}{t:TypeId}{x:Operand}(O:o.op= .box t x)(h:jp P st (.boxD t (.of x)) λx=>K (st.putO o.dst x)):Leaves P o c K KP a w:=by
 intro next Q hn _;obtain⟨F,R,p,hp,g,C,N⟩:=h;have M:=s.get R;obtain⟨J,L⟩:=pi M g;have n:(execOp a.eval o).run P w= .ok (.value (.pointer (some ⟨w.heap.size,0,none⟩))) (w.alloc (.cells (a.eval x).cells t)):=by simp[execOp,O,Instr.box,newVar,newRow]
 have B:=s.below (D':=λb=>D b\/(w.heap.size<=b/\b<(w.alloc (.cells (a.eval x).cells t)).heap.size)) (j3 w _) s.w0le (λb f=>.inl f) (λb f=>f);unfold Oper.wp;rw[n];refine hn _ _ ⟨_,N,θ,_,B.put hd ?_⟩;have v:∀(j:Nat) (y:PV),p.cells[j]? =some y->∃z,F.cells[j]? =some z/\z.toPV=some y:=by
  intro j y d;cases F with
  |tup xs=>simp[AV.ok,AV.cells,BV.cellOk,PV.cellOk]at g|agg xs=>simp only[AV.toPV,d_]at hp;obtain⟨Y,E,rfl⟩:=hp;obtain⟨T,U⟩:=mapM_some E;simp only[PV.cells]at d;obtain⟨z,v⟩:=bb (l:=xs) T d;exact⟨z,v,U j z y v d⟩
  |b I=>
   cases I with
   |pv q=>cases hp;exact⟨.pv y,by simp[AV.cells,d],rfl⟩|nils=>cases hp;simp only[PV.cells]at d;cases j with|zero=>simp at d;subst d;exact⟨.nils,rfl,rfl⟩|succ j=>simp at d
   |full q=>exact absurd rfl (C q)|_=>cases hp
 have e:∀(j:Nat) (y:PV),p.cells[j]? =some y->∃u,(a.eval x).cells[j]? =some u/\RelP D w u y:=by
  intro j y d;obtain⟨z,r,A⟩:=v j y d;have H:j<(a.eval x).cells.size:=by rw[J];exact(b_.1 r).1
  exact⟨_,m_ H,mg (L j _ z (m_ H) r).1 A⟩
 exact qw (b:=w.heap.size) (o:=0) (.inr ⟨t_ _,by simp⟩) λj y d=>by obtain⟨u,r,A⟩:=e j y d;refine⟨u,?_,A.mono (λb f=>.inl f) (λb f=>dJ w _ b (s.ok.dlt b f))⟩;rw[O_,cell_of_row _ _ _ (a.eval x).cells t (0,0) (ek w _)];exact r
theorem LX(e:Inv c θ D st a w){K:AV->Prop}{t:TypeId}{x:Operand}(g:o.op= .makeInterface t x)(b:(match P.underlying t with|some (.interface _)=>false|some _=>true|none=>false)=true)(h:jp P st (.iface t (.of x)) K):Yields P o a w (Res c θ st a K):=by obtain⟨j,k,f⟩:=h;cases hd:P.underlying t with|none=>rw[hd]at b;cases b|some d=>refine aF e (v:=.iface t (a.eval x)) ?_ f ⟨t,a.eval x,rfl⟩;rw[hd]at b;cases d<;>simp at b<;>simp[execOp,g,Instr.makeInterface,run_underlying hd]
theorem Lt{k:IntKind}(mx:Bool):∀(d:List Int) (n:Int),((d.map λn=>Value.int k n).foldlM (if mx then Builtin.max2 else Builtin.min2) (.int k n)).run P w= .ok (.int k (d.foldl (λa b=>if mx then max a b else min a b) n)) w
 |[],n=>by simp
 |m::d,n=>by
  have c:=Lt (k:=k) mx d (if mx then max n m else min n m);simp only[B_,List.foldlM_cons,List.foldl_cons,Sem.run_bind];cases mx
  ·have:(Builtin.min2 (.int k n) (.int k m)).run P w= .ok (.int k (min n m)) w:=by simp only[Builtin.min2,Sem.run_pure];congr 2;split<;>omega
   simp only[p_,if_false,this,Result.andThen_ok]at c⊢;exact c
  ·have:(Builtin.max2 (.int k n) (.int k m)).run P w= .ok (.int k (max n m)) w:=by simp only[Builtin.max2,Sem.run_pure];congr 2;split<;>omega
   simp only[if_true,this,Result.andThen_ok]at c⊢;exact c
theorem EZ(u:Inv c θ D st a w){K:AV->Prop}{mx:Bool}{k:IntKind}{x:Operand}{ys:List Operand}{r:Call}(z:o.op= .call r)(d:r.callee= .builtin (if mx then .max else .min))(e:r.args.toList=x::ys) (h:jp P st (.mnmx mx k (.of x) (ys.map SX.of)) K):Yields P o a w (Res c θ st a K):=by
 obtain⟨I,E,C⟩:=h;obtain⟨p,n,hn,ars,v,g,rfl,rfl,B⟩:=ci (u.get E) C;obtain⟨F,H⟩:=mapM_some v;have f:ys.map a.eval=g.map λn=>Value.int p n:=by
  apply al_;intro i;simp only[H_];have hl:ys.length=g.length:=by simpa using F
  rcases z_ i g.length with y|y;·have A:=a_ (l:=ys) (i:=i) (by omega);have j:=a_ y;rw[A,j];have:=H i (SX.of ys[i]) (.v (.int p g[i])) (by rw[H_,A];rfl) (by rw[H_,j];rfl);simp only[x_];rw[Ni (u.get this)]
  ·rw[E_ (by omega:ys.length<=i),E_ y];rfl
 have b:r.args.toList.map a.eval=Value.int p n::g.map λn=>Value.int p n:=by rw[e,B_,hn,f]
 refine aF u ?_ B (RelP.sc _);have s:=Lt (P:=P) (w:=w) (k:=p) mx g n;cases mx;·simp only[p_,if_false]at d s;simp[execOp,z,resolve,d,invoke,builtin,Builtin.min_,b,s]
 ·simp only[if_true]at d s;simp[execOp,z,resolve,d,invoke,builtin,Builtin.max_,b,s]
theorem L1(d:Inv c θ D st a w){K KP:St->Prop}{x:Operand}(f:o.op= .panic x)(h:sexec P o.dst (.panic (.of x)) st K KP):Leaves P o c K KP a w:=by
 intro next Q _ hp;obtain⟨k,j,rfl,e⟩:=h;obtain⟨t,u,g⟩:=d.get j;have b:(execOp a.eval o).run P w= .halt (.panic (.iface t u)) w:=by simp[execOp,f,g,Instr.panic,goPanic]
 unfold Oper.wp;rw[b];exact hp _ w ⟨⟨t,u,rfl⟩,st,e,θ,D,d⟩
theorem PU{L:List PV}{E:Option Addr}{cap sz n:Nat}(Y:Inv c θ D st a w)(N:0<sz)(F:∀p∈L,p.ok=true)(hn:n<=L.length) (e:0<L.length->∃b o,E=some ⟨b,o,none⟩/\b<w.heap.size/\(∀x∈L,x.cells.length=sz)/\∀(i j:Nat) (x y:PV),L[i]? =some x->x.cells[j]? =some y->∃u,w.cell? ⟨b,o+i*sz+j,none⟩=some u/\RelP D w u y): ∃d:List Value,d.length=n*sz/\(Builtin.firstCells sz n (.slice E L.length cap)).run P w= .ok d.toArray w/\(∀u∈d,u.oneCell'=true)/\(0<n->∀x∈L,x.cells.length=sz)/\∀(i j:Nat) (p q:PV),i<n->L[i]? =some p->p.cells[j]? =some q->∃u,d[i*sz+j]? =some u/\RelP D w u q:=by
 have _:=Y;rcases aA_ n with rfl|O;·refine⟨[],by simp,?_,λu H=>by simp at H,λh=>absurd h (by omega),λi j p q C=>absurd C (by omega)⟩;cases E with|none=>simp[Builtin.firstCells]|some R=>exact run_firstCells_some (P:=P) w sz 0 R L.length cap [] (by simp) (λj v f=>by simp at f)
 ·obtain⟨g,Q,rfl,hg,hsz,hc⟩:=e (by omega);obtain⟨d,I,J⟩:=fW (n:=n*sz) (p:=λk u=>w.cell? ⟨g,Q+k,none⟩=some u/\u.oneCell'=true/\∀(p q:PV),L[k/sz]? =some p->p.cells[k%sz]? =some q->RelP D w u q) (λk hk=>by
   have C:k/sz<n:=(U_ N).2 hk;have f:k%sz<sz:=aB_ _ N;have hp:=a_ (l:=L) (i:=k/sz) (by omega);have el:=hsz _ (g_ hp);have s:=a_ (l:=(L[k/sz]'(by omega)).cells) (i:=k%sz) (by omega);obtain⟨u,T,M⟩:=hc _ _ _ _ hp s;refine⟨u,?_,?_,λp q A B=>?_⟩;·rw[<-T,am_,aq_,af_]
   ·have r:=F _ (g_ hp);simp only[PV.ok,j_]at r;exact iE M (r _ (g_ s))
   ·rw[hp]at A;cases A;rw[s]at B;cases B;exact M)
  refine⟨d,I,run_firstCells_some (P:=P) w sz n ⟨g,Q,none⟩ L.length cap d I (λj v f=>by rw[addr_add];exact(J j v f).1),λu H=>?_,λ_=>hsz,λi j p q C hp s=>?_⟩;·obtain⟨j,f⟩:=F_ H;exact(J j u f).2.1
  ·have f:j<sz:=by rw[<-hsz p (g_ hp)];exact(b_.1 s).1
   have z:i*sz+j<d.length:=by rw[I];have:(i+1)*sz<=n*sz:=G_ _ C;rw[P_,ay_]at this;omega
   refine⟨d[i*sz+j],a_ z,?_⟩;obtain⟨U,f2⟩:=flat_get (i:=i) f;exact(J _ _ (a_ z)).2.2 p q (by rw[U];exact hp) (by rw[f2];exact s)
theorem Nv(C:Inv c θ D st a w)(hd:∀k,o.dst=some k->k<c.n){K KP:St->Prop}{t u e:TypeId}{sz:Nat}{x y:Operand}{cl:Call}(ho:o.op= .call cl)(ph:cl.callee= .builtin .copy)(E:cl.args= #[x,y])(Y:cl.argTypes= #[t,u]) (he:eQ P t=some e) (hs:bJ P e=some sz) (h0:0<sz) (h:sexec P o.dst (.copy e sz (.of x) (.of y)) st K KP):Leaves P o c K KP a w:=by
 intro next Q hn _;obtain⟨ax,hx,ay,hy,hl⟩:=h;obtain⟨L,ad,v,⟨ur,id,rfl,_,ob,F,xs,rfl,hk⟩,el,_,_,B⟩:=mf C.ok (C.get hy) hl;obtain⟨l,A,hh⟩:=C.get hx;have H:=C.ok.objs id l _ A F;have hu:P.underlying t=some (.slice e):=by
  unfold eQ at he;split at he;·cases he;assumption
  ·cases he
 have hsz:(sizeOf e).run P w= .ok sz w:=run_sizeOf hs;obtain⟨d,n1,n2,n3,n4,n5⟩:=PU (P:=P) (cap:=v) (n:=min L.length xs.length) C h0 ur (Nat.min_le_left _ _) B;have I:∀(w':World) (Bx:St),(Builtin.copy_ #[t,u] o.type #[a.eval x,a.eval y]).run P w= .ok (goInt ((min L.length xs.length:Nat):Int)) w'->Inv c θ D {st with hp:=st.hp.set id (.vec e sz (L.take xs.length++xs.drop L.length))} a w'->o.wp P a w next Q:=by
  intro w' _ hr gc;unfold Oper.wp;have:(execOp a.eval o).run P w= .ok (.value (goInt ((min L.length xs.length:Nat):Int))) w':=by simp[execOp,ho,resolve,ph,E,Y,invoke,builtin,hr]
  rw[this];refine hn _ _ ⟨_,hk,θ,D,gc.put hd ?_⟩;rw[Nat.min_comm];exact RelP.sc _
 cases l<;>simp only[RelO,Loc.head]at H hh
 ·rename_i a0;subst H;have M:min L.length ([]:List PV).length=0:=by simp
  have N:d=[]:=r_ (by rw[n1,M,Nat.zero_mul]);subst N;have qr:((min L.length ([]:List PV).length:Nat):Int)=0:=by rw[M];rfl
  refine I w st ?_ ?_;·rw[hh,el,qr];rw[M]at n2;have z:(Builtin.lenOf (.slice ad L.length v)).run P w= .ok L.length w:=rfl;cases a0<;>simp[Builtin.copy_,run_underlying hu,z,hsz,n2,storeCells]
  ·have R:st.hp.set id (.vec e sz (L.take ([]:List PV).length++([]:List PV).drop L.length))=st.hp:=by
    apply al_;intro i;by_cases J:i=id;·subst J;rw[o_ (b_.1 F).1,F];simp
    ·rw[i_ (Ne.symm J)]
   rw[R];exact C
 ·rename_i g m cap s O;obtain⟨rfl,rfl,h3,h4,h5,r,h6,h7,h8⟩:=H;have At:min L.length xs.length*s<=r.size:=by rw[h7];exact G_ _ (by omega)
  have U:=run_storeCells_at P g 0 e d 0 r w h6 (by rw[n1];omega) n3;simp only[O_,aU_,aP_,ar_]at U;have T:=jV r 0 d (by rw[n1];omega);simp only[aP_,ar_,O_]at T;obtain⟨s1,s2⟩:=T;refine I (w.setRow g (d++r.toList.drop d.length).toArray) st ?_ (C.store (w':=w.setRow g (d++r.toList.drop d.length).toArray) (l:=.hdr g xs.length cap s O) A (.inl rfl) rfl rfl rfl (by simp) (λk hk=>setRow_other _ _ _ _ hk) ?_);·rw[hh,el];have z:(Builtin.lenOf (.slice ad L.length v)).run P w= .ok L.length w:=rfl;have rg:Nat.min L.length xs.length=min L.length xs.length:=rfl;simp[Builtin.copy_,run_underlying hu,z,hsz,rg,n2,U]
  ·have hD:∀b,D b->(w.setRow g (d++r.toList.drop d.length).toArray).heap[b]? =w.heap[b]? :=λb hb=>setRow_other _ _ _ _ λe=>(C.ok.olt id _ g A (.inl rfl)).2 (e▸hb);refine⟨rfl,by rw[Q_,X_,List.length_drop];omega,h3,h4,λp hp=>?_,_,setRow_heap _ _ _ _ _ _ h6,by rw[s1,h7],λi j p q hp hq=>?_⟩
   ·rcases l_.1 hp with hp|hp
    ·by_cases M:0<min L.length xs.length;·exact n4 M p (ax_ hp)
     ·have:L.take xs.length=[]:=r_ (by rw[X_];omega);rw[this]at hp;cases hp
    ·exact h5 p (aw_ hp)
   ·by_cases hi:i<min L.length xs.length;·rw[k_ (by rw[X_];omega),ah_,if_pos (by omega)]at hp;obtain⟨u,e1,e2⟩:=n5 i j p q hi hp hq;refine⟨u,?_,e2.mono (λ_ h=>h) hD⟩;have Bk:=(b_.1 e1).1;rw[s2,if_pos ⟨by omega,by omega⟩];simpa using e1
    ·rw[u_ (by rw[X_];omega),az_]at hp;have f:L.length+(i - (L.take xs.length).length)=i\/L.length+(i - (L.take xs.length).length)>=xs.length:=by rw[X_];omega
     rcases f with f|f;·rw[f]at hp;obtain⟨u,e1,e2⟩:=h8 i j p q hp hq;refine⟨u,?_,e2.mono (λ_ h=>h) hD⟩;have wr:min L.length xs.length*s<=i*s:=G_ _ (by omega);rw[s2,if_neg (by rw[n1];omega)];exact e1
     ·rw[E_ f]at hp;cases hp
end
section
variable {P:Program} {o:Oper} {c:Ctx} {θ:List Loc} {D:Nat->Prop} {st:St} {a:Act} {w:World}
theorem Pz(hI:Inv c θ D st a w)(hd:∀k,o.dst=some k->k<c.n){K KP:St->Prop}{t e:TypeId}{sz bytes:Nat}{z:Value}{x y:Operand}{cl:Call}(ho:o.op= .call cl)(Dg:cl.callee= .builtin .append)(R:cl.args= #[x,y])(ur:cl.argTypes= #[t,t]) (he:eQ P t=some e) (hs:bJ P e=some sz) (hb:iw P e=some bytes) (hz:cX P e=some z) (Fk:z.cells.size=sz) (h0:0<sz) (BT:0<bytes) {pl:Option Nat} (h:GG st (.append e sz bytes (.of x) (.of y)) λob mk=>Ai st pl/\K ((st.new pl ob).putO o.dst (.b (mk (st.nid pl))))):Leaves P o c K KP a w:=by
 intro next Q hn _;obtain⟨ax,hx,ay,hy,hL⟩:=h;have hX:=hI.get hx;obtain⟨L,ad,m,⟨DM,DQ,CT,Y,hk⟩,At,In,Fm,F⟩:=mf hI.ok (hI.get hy) hL;have hu:P.underlying t=some (.slice e):=by
  unfold eQ at he;split at he;·cases he;assumption
  ·cases he
 simp only[bJ,d_]at hs;obtain⟨f,H,rfl⟩:=hs;have DS:f.zero=some z:=by simpa[cX,H]using hz
 have CD:f.bytes=bytes:=by simpa[iw,H]using hb
 subst CD;have el:∀(v:Value) (w':World) (J:St),(Builtin.append_ #[t,t] o.type #[a.eval x,a.eval y]).run P w= .ok v w'->K J->Rel c J (a.put o.dst v) w'->o.wp P a w next Q:=by
  intro v w' J hr hk rg;unfold Oper.wp;have:(execOp a.eval o).run P w= .ok (.value v) w':=by simp[execOp,ho,resolve,Dg,R,ur,invoke,builtin,hr]
  rw[this];exact hn _ _ ⟨J,hk,rg⟩
 have U:0<L.length->∃(ab:Addr) (d:List Value),ad=some ab/\d.length=L.length*f.size/\(∀(j:Nat) (u:Value),d[j]? =some u->w.cell? (ab.add j)=some u)/\(∀u∈d,u.oneCell'=true)/\(∀p∈L,p.cells.length=f.size)/\∀(i j:Nat) (p q:PV),L[i]? =some p->p.cells[j]? =some q->∃u,d[i*f.size+j]? =some u/\RelP D w u q:=by
  intro hl
  obtain⟨g,og,rfl,hg,hsz,hc⟩:=F hl
  obtain⟨d,n1,n2⟩:=fW (n:=L.length*f.size) (p:=λk u=>w.cell? ⟨g,og+k,none⟩=some u/\u.oneCell'=true/\∀(p q:PV),L[k/f.size]? =some p->p.cells[k%f.size]? =some q->RelP D w u q) (λk hk=>by
   have T:k/f.size<L.length:=(U_ h0).2 hk;have C:k%f.size<f.size:=aB_ _ h0;have hp:=a_ T;have Y:=hsz _ (g_ hp);have A:=a_ (l:=(L[k/f.size]).cells) (i:=k%f.size) (by omega);obtain⟨u,N,e2⟩:=hc _ _ _ _ hp A;refine⟨u,?_,?_,λp q ph qr=>?_⟩;·rw[<-N,am_,aq_,af_]
   ·have M:=DM _ (g_ hp);simp only[PV.ok,j_]at M;exact iE e2 (M _ (g_ A))
   ·rw[hp]at ph;cases ph;rw[A]at qr;cases qr;exact e2)
  refine⟨_,d,rfl,n1,λj u C=>by rw[addr_add];exact(n2 j u C).1,λu hu=>?_,hsz,λi j p q hp A=>?_⟩
  ·obtain⟨j,C⟩:=F_ hu;exact(n2 j u C).2.1
  ·have C:j<f.size:=by rw[<-hsz p (g_ hp)];exact(b_.1 A).1
   have T:i<L.length:=(b_.1 hp).1;have gc:i*f.size+j<d.length:=by rw[n1];have:(i+1)*f.size<=L.length*f.size:=G_ _ T;rw[P_,ay_]at this;omega
   refine⟨d[i*f.size+j],a_ gc,?_⟩;obtain⟨f1,f2⟩:=flat_get (i:=i) C;exact(n2 _ _ (a_ gc)).2.2 p q (by rw[f1];exact hp) (by rw[f2];exact A)
 have I:∀(w':World) (r d:List Value) (xs:List PV) (cv:Array Value) (k:Nat),(∀b,D b->w'.heap[b]? =w.heap[b]?)->r.length=xs.length*f.size->cv.size=k*f.size->(∀j,j<r.length->cv[j]? =r[j]?)->(∀j,j<d.length->cv[r.length+j]? =d[j]?)->(∀p∈xs,p.cells.length=f.size)->(∀p∈L,p.cells.length=f.size)->d.length=L.length*f.size->(∀(i j:Nat) (p q:PV),xs[i]? =some p->p.cells[j]? =some q->∃u,r[i*f.size+j]? =some u/\RelP D w u q)->(∀(i j:Nat) (p q:PV),L[i]? =some p->p.cells[j]? =some q->∃u,d[i*f.size+j]? =some u/\RelP D w u q)->∀(i j:Nat) (p q:PV),(xs++L)[i]? =some p->p.cells[j]? =some q->∃u,cv[i*f.size+j]? =some u/\RelP D w' u q:=by
  intro w' r d xs cv k E DP Hx DE DB KK GS JT ro rn i j p q hp A
  rcases z_ i xs.length with T|T
  ·rw[k_ T]at hp;obtain⟨u,N,e2⟩:=ro i j p q hp A;exact⟨u,by rw[DE _ (b_.1 N).1];exact N,e2.mono (λ_ h=>h) E⟩
  ·rw[u_ T]at hp;obtain⟨u,N,e2⟩:=rn _ j p q hp A;refine⟨u,?_,e2.mono (λ_ h=>h) E⟩;have:=DB _ (b_.1 N).1;rw[N]at this;rw[<-this,DP];congr 1;have:i*f.size=xs.length*f.size+(i - xs.length)*f.size:=by rw[<-P_];congr 1;omega
   omega
 have B:∀(k:Nat),L.length*f.bytes<=k->L.length<=k:=λk h=>aH_ (ap_ _ BT) h;obtain⟨s,wr⟩:∃s,a.eval x= .slice s 0 0:=by
  rcases DQ with rfl|rfl;·exact⟨none,hX⟩
  ·obtain⟨h1,a0,n0,h2⟩:=hX;refine⟨a0,?_⟩;rw[h2]at h1⊢;cases h1;rfl
 have Fr:L.length<=140737488355328:=B _ CT;by_cases O:L.length=0;·have Bx:L=[]:=r_ O;subst Bx;obtain⟨θ',hp,hid⟩:=hI.pushAt Y (l:=.nil s) (o:=.vec e f.size []) (λθ' _=>rfl) (λg hg=>by cases hg);refine el (.slice s 0 0) w _ ?_ hk ⟨_,D,hp.put hd ⟨.nil s,hid,rfl⟩⟩;rw[wr,At];exact cH hu H s 0 0 (t_ _) ad m
 ·obtain⟨ab,d,rfl,n1,n2,n3,n4,n5⟩:=U (L_ O);have hr:=eg (P:=P) (w:=w) (ty:=o.type) hu H DS s ab L.length m d n1 n2 (L_ O) (by omega) (by omega);have DH:=grownCap_ge w L.length 0 e;have DA:grownCap w L.length 0 e<=maxLen:=grownCap_le_maxLen w _ 0 e (by simp only[maxLen];omega);have hcs:(d.toArray++Builtin.zeroCells z.cells (grownCap w L.length 0 e - L.length)).size=grownCap w L.length 0 e*f.size:=by simp only[aD_,aG_,fU,Fk,n1,<-P_];congr 1;omega
  have E:∀b,D b->(w.drew.alloc (.cells (d.toArray++Builtin.zeroCells z.cells (grownCap w L.length 0 e - L.length)) e)).heap[b]? =w.heap[b]? :=λb hb=>dJ w.drew _ b (hI.ok.dlt b hb);obtain⟨θ',Bk,hid⟩:=hI.drew.allocAt Y (l:=.hdr w.heap.size L.length (grownCap w L.length 0 e) f.size none') (o:=.vec e f.size L) (ob:=.cells (d.toArray++Builtin.zeroCells z.cells (grownCap w L.length 0 e - L.length)) e) (λ_ h=>h.elim (λh=>h) False.elim) λθ' MT=>⟨rfl,rfl,DH,DA,n4,_,ek w.drew _,hcs,λi j p q hp A=>by have:=I _ [] d [] _ _ E (by simp) hcs (λj C=>by simp at C) (λj C=>by simp only[M_,O_];rw[K_ (by simpa using C)];simp) (λp hp=>by cases hp) n4 n1 (λi j p q hp=>by simp at hp) n5 i j p q (by simpa using hp) A;exact this⟩
  refine el _ _ _ ?_ hk ⟨_,D,Bk.put hd ⟨_,hid,rfl⟩⟩;rw[wr,At];exact hr
theorem Nr(hI:Inv c θ D st a w)(hd:∀k,o.dst=some k->k<c.n){K KP:St->Prop}{t e:TypeId}{sz bytes:Nat}{z:Value}{x y:Operand}{cl:Call}(ho:o.op= .call cl)(Hx:cl.callee= .builtin .append)(At:cl.args= #[x,y])(DP:cl.argTypes= #[t,t]) (he:eQ P t=some e) (hs:bJ P e=some sz) (N:iw P e=some bytes) (hz:cX P e=some z) (Pa:z.cells.size=sz) (h0:0<sz) (Fr:0<bytes) (h:jp P st (.appD e sz bytes (.of x) (.of y)) λx=>K (st.putO o.dst x)):Leaves P o c K KP a w:=by
 intro next Q hn _;obtain⟨ax,hx,ay,hy,hL⟩:=h;have hX:=hI.get hx;obtain⟨L,ad,m,⟨MT,r,DQ,Bk,hk⟩,DS,PB,Pb,Y⟩:=mf hI.ok (hI.get hy) hL;have hu:P.underlying t=some (.slice e):=by
  unfold eQ at he;split at he;·cases he;assumption
  ·cases he
 simp only[bJ,d_]at hs;obtain⟨s,H,rfl⟩:=hs;have Fk:s.zero=some z:=by simpa[cX,H]using hz
 have GS:s.bytes=bytes:=by simpa[iw,H]using N
 subst GS;have CT:∀(v:Value) (w':World) (qr:St),(Builtin.append_ #[t,t] o.type #[a.eval x,a.eval y]).run P w= .ok v w'->K qr->Rel c qr (a.put o.dst v) w'->o.wp P a w next Q:=by
  intro v w' qr hr hk DM;unfold Oper.wp;have:(execOp a.eval o).run P w= .ok (.value v) w':=by simp[execOp,ho,resolve,Hx,At,DP,invoke,builtin,hr]
  rw[this];exact hn _ _ ⟨qr,hk,DM⟩
 have Bx:0<L.length->∃(ab:Addr) (f:List Value),ad=some ab/\f.length=L.length*s.size/\(∀(j:Nat) (u:Value),f[j]? =some u->w.cell? (ab.add j)=some u)/\(∀u∈f,u.oneCell'=true)/\(∀p∈L,p.cells.length=s.size)/\∀(i j:Nat) (p q:PV),L[i]? =some p->p.cells[j]? =some q->∃u,f[i*s.size+j]? =some u/\RelP D w u q:=by
  intro hl
  obtain⟨g,og,rfl,hg,hsz,hc⟩:=Y hl
  obtain⟨f,O,n2⟩:=fW (n:=L.length*s.size) (p:=λk u=>w.cell? ⟨g,og+k,none⟩=some u/\u.oneCell'=true/\∀(p q:PV),L[k/s.size]? =some p->p.cells[k%s.size]? =some q->RelP D w u q) (λk hk=>by
   have F:k/s.size<L.length:=(U_ h0).2 hk;have B:k%s.size<s.size:=aB_ _ h0;have hp:=a_ F;have Nd:=hsz _ (g_ hp);have A:=a_ (l:=(L[k/s.size]).cells) (i:=k%s.size) (by omega);obtain⟨u,C,E⟩:=hc _ _ _ _ hp A;refine⟨u,?_,?_,λp q J M=>?_⟩;·rw[<-C,am_,aq_,af_]
   ·have rg:=MT _ (g_ hp);simp only[PV.ok,j_]at rg;exact iE E (rg _ (g_ A))
   ·rw[hp]at J;cases J;rw[A]at M;cases M;exact E)
  refine⟨_,f,rfl,O,λj u B=>by rw[addr_add];exact(n2 j u B).1,λu hu=>?_,hsz,λi j p q hp A=>?_⟩
  ·obtain⟨j,B⟩:=F_ hu;exact(n2 j u B).2.1
  ·have B:j<s.size:=by rw[<-hsz p (g_ hp)];exact(b_.1 A).1
   have F:i<L.length:=(b_.1 hp).1;have I:i*s.size+j<f.length:=by rw[O];have:(i+1)*s.size<=L.length*s.size:=G_ _ F;rw[P_,ay_]at this;omega
   refine⟨f[i*s.size+j],a_ I,?_⟩;obtain⟨f1,f2⟩:=flat_get (i:=i) B;exact(n2 _ _ (a_ I)).2.2 p q (by rw[f1];exact hp) (by rw[f2];exact A)
 have ph:∀(w':World) (d f:List Value) (xs:List PV) (cv:Array Value) (k:Nat),(∀b,D b->w'.heap[b]? =w.heap[b]?)->d.length=xs.length*s.size->cv.size=k*s.size->(∀j,j<d.length->cv[j]? =d[j]?)->(∀j,j<f.length->cv[d.length+j]? =f[j]?)->(∀p∈xs,p.cells.length=s.size)->(∀p∈L,p.cells.length=s.size)->f.length=L.length*s.size->(∀(i j:Nat) (p q:PV),xs[i]? =some p->p.cells[j]? =some q->∃u,d[i*s.size+j]? =some u/\RelP D w u q)->(∀(i j:Nat) (p q:PV),L[i]? =some p->p.cells[j]? =some q->∃u,f[i*s.size+j]? =some u/\RelP D w u q)->∀(i j:Nat) (p q:PV),(xs++L)[i]? =some p->p.cells[j]? =some q->∃u,cv[i*s.size+j]? =some u/\RelP D w' u q:=by
  intro w' d f xs cv k T el PA JT In CD Pc PJ ro rn i j p q hp A
  rcases z_ i xs.length with F|F
  ·rw[k_ F]at hp;obtain⟨u,C,E⟩:=ro i j p q hp A;exact⟨u,by rw[JT _ (b_.1 C).1];exact C,E.mono (λ_ h=>h) T⟩
  ·rw[u_ F]at hp;obtain⟨u,C,E⟩:=rn _ j p q hp A;refine⟨u,?_,E.mono (λ_ h=>h) T⟩;have:=In _ (b_.1 C).1;rw[C]at this;rw[<-this,el];congr 1;have:i*s.size=xs.length*s.size+(i - xs.length)*s.size:=by rw[<-P_];congr 1;omega
   omega
 have Dg:r.length+L.length<=140737488355328:=aH_ (ap_ _ Fr) Bk;obtain⟨R,BT,DH⟩:∃R:Option Addr,a.eval x= .slice R r.length r.length/\(0<r.length->∃b o',R=some ⟨b,o',none⟩/\(∀p∈r,p.cells.length=s.size)/\∃d:List Value,d.length=r.length*s.size/\(∀(j:Nat) (u:Value),d[j]? =some u->w.cell? ⟨b,o'+j,none⟩=some u)/\∀(i j:Nat) (p q:PV),r[i]? =some p->p.cells[j]? =some q->∃u,d[i*s.size+j]? =some u/\RelP D w u q):=by
  rcases DQ with⟨rfl,rfl⟩|rfl
  ·exact⟨none,hX,λh=>absurd h (by simp)⟩
  ·obtain⟨h1,R,n0,h2⟩:=hX;obtain⟨a1,cap,C,E,e3⟩:=pm h1;rw[h2]at C;cases C;refine⟨R,h2,λhl=>?_⟩;obtain⟨b,o',rfl,N,hsz,hc⟩:=e3 hl;obtain⟨d,O,n2⟩:=fW (n:=r.length*s.size) (p:=λk u=>w.cell? ⟨b,o'+k,none⟩=some u/\∀(p q:PV),r[k/s.size]? =some p->p.cells[k%s.size]? =some q->RelP D w u q) (λk hk=>by
    have F:k/s.size<r.length:=(U_ h0).2 hk;have B:k%s.size<s.size:=aB_ _ h0;have hp:=a_ F;have Nd:=hsz _ (g_ hp);have A:=a_ (l:=(r[k/s.size]).cells) (i:=k%s.size) (by omega);obtain⟨u,C,E⟩:=hc _ _ _ _ hp A;refine⟨u,?_,λp q J M=>?_⟩;·rw[<-C,am_,aq_,af_]
    ·rw[hp]at J;cases J;rw[A]at M;cases M;exact E)
   refine⟨b,o',rfl,hsz,d,O,λj u B=>(n2 j u B).1,λi j p q hp A=>?_⟩;have B:j<s.size:=by rw[<-hsz p (g_ hp)];exact(b_.1 A).1
   have F:i<r.length:=(b_.1 hp).1;have I:i*s.size+j<d.length:=by rw[O];have:(i+1)*s.size<=r.length*s.size:=G_ _ F;rw[P_,ay_]at this;omega
   refine⟨d[i*s.size+j],a_ I,?_⟩;obtain⟨f1,f2⟩:=flat_get (i:=i) B;exact(n2 _ _ (a_ I)).2 p q (by rw[f1];exact hp) (by rw[f2];exact A)
 by_cases U:L.length=0
 ·have wr:L=[]:=r_ U;subst wr;refine CT (.slice R r.length r.length) w _ ?_ hk ⟨θ,D,hI.put hd ?_⟩;·rw[BT,DS];exact cH hu H R _ _ (t_ _) ad m
  ·rw[List.append_nil];rcases DQ with⟨rfl,rfl⟩|rfl;·exact .nil _ _
   ·obtain⟨h1,_⟩:=hX;rw[BT]at h1;exact h1
 ·obtain⟨ab,f,rfl,O,n2,n3,n4,n5⟩:=Bx (L_ U);have grow:∀(d:List Value),d.length=r.length*s.size->(∀p∈r,p.cells.length=s.size)->(∀(i j:Nat) (p q:PV),r[i]? =some p->p.cells[j]? =some q->∃u,d[i*s.size+j]? =some u/\RelP D w u q)->(Builtin.append_ #[t,t] o.type #[.slice R r.length r.length,.slice (some ab) L.length m]).run P w= .ok (.slice (some ⟨w.heap.size,0,none⟩) (r.length+L.length) (grownCap w (r.length+L.length) r.length e)) (w.drew.alloc (.cells (d.toArray++f.toArray++Builtin.zeroCells z.cells (grownCap w (r.length+L.length) r.length e - (r.length+L.length))) e))->o.wp P a w next Q:=by
   intro d el CD ro ur
   have KK:=grownCap_ge w (r.length+L.length) r.length e
   have hcs:(d.toArray++f.toArray++Builtin.zeroCells z.cells (grownCap w (r.length+L.length) r.length e - (r.length+L.length))).size=grownCap w (r.length+L.length) r.length e*s.size:=by simp only[aD_,aG_,fU,Pa,el,O,<-P_];congr 1;omega
   generalize gc:w.drew.alloc (.cells (d.toArray++f.toArray++Builtin.zeroCells z.cells (grownCap w (r.length+L.length) r.length e - (r.length+L.length))) e)=w' at ur
   have T:∀b,D b->w'.heap[b]? =w.heap[b]? :=λb N=>by rw[<-gc];exact dJ w.drew _ b (hI.ok.dlt b N)
   have DE:w'.heap[w.heap.size]? =some (.cells (d.toArray++f.toArray++Builtin.zeroCells z.cells (grownCap w (r.length+L.length) r.length e - (r.length+L.length))) e):=by rw[<-gc];exact ek w.drew _
   have DB:w.heap.size<w'.heap.size:=by rw[<-gc];simp
   have Fm:=hI.drew.below (D':=λb=>D b\/(w.heap.size<=b/\b<w'.heap.size)) (w':=w') (by rw[<-gc];exact j3 w.drew _) hI.w0le (λb N=>.inl N) (λb N=>N)
   refine CT (.slice (some ⟨w.heap.size,0,none⟩) (r.length+L.length) (grownCap w (r.length+L.length) r.length e)) w' _ ?_ hk ⟨θ,_,Fm.put hd ?_⟩
   ·rw[BT,DS];exact ur
   ·have hh:RelP (λb=>D b\/(w.heap.size<=b/\b<w'.heap.size)) w' (.slice (some ⟨w.heap.size,0,none⟩) (r++L).length (grownCap w (r.length+L.length) r.length e)) (mb s.size (r++L)):=by
     refine f7 (by simpa using KK) λ_=>⟨w.heap.size,0,rfl,.inr ⟨t_ _,DB⟩,λp hp=>(l_.1 hp).elim (CD p) (n4 p),λi j p q hp A=>?_⟩;obtain⟨u,C,E⟩:=ph w' d f r _ _ T el hcs (λj B=>by rw[K_ (by simp;omega),K_ (by simpa using B)];simp) (λj B=>by rw[K_ (by simp;omega),Array.getElem?_append_right (by simp)];simp) CD n4 O ro n5 i j p q hp A
     refine⟨u,?_,E.mono (λb N=>.inl N) (λ_ _=>rfl)⟩;rw[O_,cell_of_row _ _ _ _ e (0,0) DE];exact C
    rw[Q_]at hh;exact hh
  by_cases DA:r.length=0;·have wr:r=[]:=r_ DA;subst wr;have hr:=eg (P:=P) (w:=w) (ty:=o.type) hu H Fk R ab L.length m f O n2 (L_ U) (by simp only[M_]at Dg;omega) (by simp only[M_,O_]at Bk;omega);refine grow [] (by simp) (λp hp=>by cases hp) (λi j p q hp=>by simp at hp) ?_;simpa using hr
  ·obtain⟨b,o',rfl,hsz,d,m1,m2,m3⟩:=DH (L_ DA);have q1:0<L.length:=L_ U;have q2:r.length<r.length+L.length:=Nat.lt_add_of_pos_right q1;have q3:0<r.length+L.length:=Nat.add_pos_right _ q1;have q4:r.length+L.length<=9223372036854775807:=aH_ Dg (by decide);have q5:((r.length+L.length:Nat):Int)<=9223372036854775807:=Int.ofNat_le.2 q4;have hr:=run_append_grow (P:=P) w t o.type e s z hu H Fk ⟨b,o',none⟩ r.length r.length d m1 (λj u B=>by rw[addr_add];exact m2 j u B) ab L.length m f O n2 (by first|exact q1|exact q2|exact q5) (by first|exact q1|exact q2|exact q5) (growslice_fits (by first|exact q1|exact q2|exact q3|exact q5|exact q5) Bk)
   exact grow d m1 hsz m3 hr
end
section
variable {P:Program} {o:Oper} {c:Ctx} {θ:List Loc} {D:Nat->Prop} {st:St} {a:Act} {w:World}
theorem j0{α:Type}{xs:Array α}{x:α}(h:xs.toList=[x]):xs= #[x]:=by apply aO_;simpa using h
theorem gL{α:Type}{xs:Array α}{x y:α}(h:xs.toList=[x,y]):xs= #[x,y]:=by apply aO_;simpa using h
theorem a7{s s':SOp}(a:∀k q,s≠.atq k q)(h:s.canon=s')(c:∀e z l r,s'≠.bslice false e z l r)(d:∀f xs,s'≠.call false f xs)(g:∀t x,s'≠.box t x)(j:∀x xs,s'≠.callv false [] x xs)(n:∀e z b x y,s'≠.append e z b x y)(p:∀e z b v x y,s'≠.mslice e z b v x y:=by simp):s=s':=by cases s<;>simp only[SOp.canon]at h<;>first|exact h|exact absurd h.symm (c _ _ _ _)|exact absurd h.symm (d _ _)|exact absurd h.symm (g _ _)|exact absurd h.symm (j _ _)|exact absurd h.symm (n _ _ _ _ _)|exact absurd h.symm (p _ _ _ _ _ _)|exact absurd rfl (a _ _)
theorem pZ(g:Inv c θ D st a w){q:Option Operand}{b:Nat}{e:Nat->Prop}(h:bnd st (q.map SX.of) b e): ∃n,e n/\((q=none/\n=b)\/∃x k,∃m:Int,q=some x/\a.eval x= .int k m/\0<=m/\n=m.toNat):=by cases q with|none=>exact⟨b,h,.inl ⟨rfl,rfl⟩⟩|some x=>obtain⟨p,d,h⟩:=h;obtain⟨k,m,l,f,j⟩:=ci (g.get d) h;exact⟨_,j,.inr ⟨x,k,m,rfl,l,f,rfl⟩⟩
theorem iZ{k:IntKind}{m:Int}{y:Nat}{code:BoundsCode}(a:0<=m)(c:m.toNat<=y):(Instr.sliceBound (.int k m) y code).run P w= .ok m.toNat w:=by
 have b:m<=(y:Int):=by omega
 simp only[Instr.sliceBound,asIntOf,Sem.run_bind,Sem.run_pure,Result.andThen_ok];rw[if_pos ⟨a,b⟩];rfl
theorem yh(v:Inv c θ D st a w){lo f mx:Option Operand}{isS:Bool}{len cap l h m:Nat} (hl:(lo=none/\l=0)\/∃x k,∃m:Int,lo=some x/\a.eval x= .int k m/\0<=m/\l=m.toNat) (z:(f=none/\h=len)\/∃x k,∃m:Int,f=some x/\a.eval x= .int k m/\0<=m/\h=m.toNat) (A:(mx=none/\m=len)\/∃x k,∃p:Int,mx=some x/\a.eval x= .int k p/\0<=p/\m=p.toNat) (b:mx.isSome=true->f.isSome=true) (n:l<=h) (u:h<=m) (B:m<=len) (C:len<=cap):(Instr.sliceBounds isS len cap (lo.map a.eval) (f.map a.eval) (mx.map a.eval)).run P w= .ok (l,h,if mx.isSome then m else cap) w:=by
 have _:=v;rcases A with⟨rfl,rfl⟩|⟨O,H,L,rfl,r,s,rfl⟩<;>rcases z with⟨rfl,rfl⟩|⟨N,F,J,rfl,d,e,rfl⟩<;>rcases hl with⟨rfl,rfl⟩|⟨M,E,I,rfl,g,j,rfl⟩;·simp[Instr.sliceBounds]
 ·simp[Instr.sliceBounds,g,iZ j n]
 ·simp[Instr.sliceBounds,d,iZ (y:=cap) e (by omega)]
 ·simp[Instr.sliceBounds,d,g,iZ (y:=cap) e (by omega),iZ j n]
 ·simp at b
 ·simp at b
 ·simp[Instr.sliceBounds,r,d,iZ (y:=cap) s (by omega),iZ e u]
 ·simp[Instr.sliceBounds,r,d,g,iZ (y:=cap) s (by omega),iZ e u,iZ j n]
theorem P3(d:Inv c θ D st a w){K:AV->Prop}{t e:TypeId}{sz:Nat}{x:Operand}{lo O mx:Option Operand}(ho:o.op= .slice t x lo O mx)(ht:P.underlying t=some (.slice e))(hs:bJ P e=some sz) (h:jp P st (.slc sz (.of x) (lo.map .of) (O.map .of) (mx.map .of)) K):Yields P o a w (Res c θ st a K):=by
 obtain⟨ax,hx,⟨q,U,L,rfl,f⟩|⟨id,rfl,o',T,e',k',L,g',rfl,f⟩⟩:=h
 rotate_left
 ·obtain⟨n,b,cap,hn,hcap,Y⟩:∃n b cap,n=L.length/\n<=cap/\a.eval x= .slice b n cap:=by
   obtain⟨l,hl,A⟩:=d.get hx;have C:=d.ok.objs id l _ hl T;cases l<;>simp only[RelO,Loc.head]at C A;·obtain⟨rfl,_⟩:=C;exact⟨0,_,0,rfl,t_ _,A⟩
   ·obtain⟨_,rfl,E,_⟩:=C;exact⟨_,_,_,rfl,E,A⟩
  obtain⟨l,f,hl⟩:=pZ d f;obtain⟨h,f,A⟩:=pZ d f;obtain⟨m,⟨k,J,M,E,rfl,B⟩,Q⟩:=pZ d f;subst hn;have hr:=yh (P:=P) (isS:=true) d hl A Q (by simpa using k) J M E hcap;refine aF d (v:=.slice (if(if mx.isSome then m else cap)=h then b else b.map (·.add (h*sz))) 0 ((if mx.isSome then m else cap) - h)) ?_ B (.nil _ _);simp only[execOp,ho,Instr.sliceAt,Sem.run_bind,run_underlying ht,Result.andThen_ok,Instr.slice,Y,hr,run_sizeOf hs,Sem.run_pure,aI_]
 obtain⟨b,cap,Y,hcap,r⟩:=pm (cd (d.get hx) U);obtain⟨l,f,hl⟩:=pZ d f;obtain⟨hn,f,A⟩:=pZ d f;obtain⟨m,⟨k,J,M,E,B⟩,Q⟩:=pZ d f;have H:mx.isSome=true->O.isSome=true:=by simpa using k
 have hr:=yh (P:=P) (isS:=true) d hl A Q H J M E hcap;generalize I:(if mx.isSome then m else cap)=z at hr;have el:hn<=z/\z<=cap:=by rw[<-I];split<;>omega
 have y:(execOp a.eval o).run P w= .ok (.value (.slice (if z=l then b else b.map (·.add (l*sz))) (hn - l) (z - l))) w:=by simp only[execOp,ho,Instr.sliceAt,Sem.run_bind,run_underlying ht,Result.andThen_ok,Instr.slice,Y,hr,run_sizeOf hs,Sem.run_pure]
 have s:RelP D w (.slice (if z=l then b else b.map (·.add (l*sz))) (hn - l) (z - l)) (mb sz ((L.take hn).drop l)):=by
  have F:((L.take hn).drop l).length=hn - l:=by simp;omega
  rw[<-F];refine f7 (by omega) λgc=>?_;obtain⟨g,og,rfl,hg,hsz,hc⟩:=r (by omega);rw[if_neg (by omega)];refine⟨g,og+l*sz,by simp[addr_add],hg,λp hp=>hsz p (ax_ (aw_ hp)),λi j p q hp U=>?_⟩;rw[az_,ah_]at hp;split at hp;·obtain⟨u,e1,e2⟩:=hc (l+i) j p q hp U;refine⟨u,?_,e2⟩;rw[<-e1,P_];congr 2;omega
  ·cases hp
 rcases B with B|⟨R,N,B⟩;·exact aF d y B s
 ·have k:z=hn:=by rw[<-I,if_pos (by simpa using R)];exact N.symm
  refine aF d (x:=.b (.full (mb sz ((L.take hn).drop l)))) y B ⟨s,(if z=l then b else b.map (·.add (l*sz))),hn - l,?_⟩;rw[k]
theorem NI(b:Inv c θ D st a w){K:AV->Prop}{t:TypeId}{x:Operand}{lo e:Option Operand}(n:o.op= .slice t x lo e none)(p:P.underlying t=some .string) (h:jp P st (.slcS (.of x) (lo.map .of) (e.map .of)) K):Yields P o a w (Res c θ st a K):=by obtain⟨v,u,r⟩:=h;obtain⟨s,hs,d⟩:=ci (b.get u) r;obtain⟨l,d,hl⟩:=pZ b d;obtain⟨hn,⟨f,g,k⟩,j⟩:=pZ b d;have hr:=yh (P:=P) (isS:=false) (mx:=none) (m:=s.size) b hl j (.inl ⟨rfl,rfl⟩) (by simp) f g (t_ _) (t_ _);refine aF b ?_ k (RelP.sc _);simp only[Option.map_none]at hr;simp[execOp,n,Instr.sliceAt,run_underlying p,Instr.slice,hs,hr]
end
section
variable {P:Program} {o:Oper} {c:Ctx} {θ:List Loc} {D:Nat->Prop} {st:St} {a:Act} {w:World}
theorem MF{s:SOp}{f:FuncId}{xs:List SX}(a:∀k q,s≠.atq k q)(h:s.canon= .call false f xs):(∃b,s= .call b f xs)\/∃b B,s= .callA b B f xs:=by cases s<;>simp_all[SOp.canon]
theorem KG{s:SOp}{x:SX}{xs:List SX}(a:∀k q,s≠.atq k q)(h:s.canon= .callv false [] x xs):(∃b B,s= .callv b B x xs)\/∃b,s= .callp b x xs:=by cases s<;>simp_all[SOp.canon]
theorem Pe{s:SOp}{e:TypeId}{x:SX}(a:∀k q,s≠.atq k q)(h:s.canon= .box e x):s= .box e x\/s= .boxD e x:=by cases s<;>simp_all[SOp.canon]
theorem IL{s:SOp}{e:TypeId}{z l:Nat}{xs:List SX}(a:∀k q,s≠.atq k q)(h:s.canon= .bslice false e z l xs):(∃b,s= .bslice b e z l xs)\/s= .bsliceN e z l xs:=by cases s<;>simp_all[SOp.canon]
theorem IM{s:SOp}{e:TypeId}{z b:Nat}{v:Value}{x y:SX}(a:∀k q,s≠.atq k q)(h:s.canon= .mslice e z b v x y):s= .mslice e z b v x y\/∃k,s= .msliceT k e z b v x y:=by cases s<;>simp_all[SOp.canon]
theorem IK{s:SOp}{e:TypeId}{z b:Nat}{x y:SX}(a:∀k q,s≠.atq k q)(h:s.canon= .append e z b x y):s= .append e z b x y\/s= .appD e z b x y\/∃k,s= .appT k e z b x y:=by cases s<;>simp_all[SOp.canon]
def Vk(P:Program)(o:Oper):Bool:=match o.op with
 | .binOp _ t _ _ _=>match P.underlying t with
  |some (.struct _)=> !P.eqGuardType P.depth t
  |_=>true
 | .makeInterface t _=>match P.underlying t with
  |some (.interface _)=>false
  |some _=>true
  |none=>false
 | .panic x=>match x with
  | .tmp _=>true
  |_=>false
 |_=>true
theorem F2(r:Inv c θ D st a w)(hd:∀k,o.dst=some k->k<c.n){s:SOp}{K KP:St->Prop}(g:∀k q,s≠.atq k q)(hc:gO P o=some s.canon)(L:Vk P o=true)(h:sexec P o.dst s st K KP):Leaves P o c K KP a w:=by
 have d:Yields P o a w (Res c θ st a λx=>K (st.putO o.dst x))->Leaves P o c K KP a w:=λhy=>BE hd hy λ_ h=>h;unfold gO at hc;split at hc;·rename_i x j;cases a7 g (e_ hc).symm (by simp) (by simp) (by simp) (by simp) (by simp);exact d (LZ r (.inl j) h)
 ·rename_i x j;cases a7 g (e_ hc).symm (by simp) (by simp) (by simp) (by simp) (by simp);exact d (LZ r (.inr j) h)
 ·rename_i x y z j;cases a7 g (e_ hc).symm (by simp) (by simp) (by simp) (by simp) (by simp);exact d (NH r j h)
 ·rename_i op t x y t' j;split at hc;·cases a7 g (e_ hc).symm (by simp) (by simp) (by simp) (by simp) (by simp);exact d (Ic r j h)
  ·cases a7 g (e_ hc).symm (by simp) (by simp) (by simp) (by simp) (by simp);exact d (Ic r j h)
  ·rename_i F;split at hc;·cases a7 g (e_ hc).symm (by simp) (by simp) (by simp) (by simp) (by simp);exact d (Ie (neg:=false) r j F h)
   ·cases a7 g (e_ hc).symm (by simp) (by simp) (by simp) (by simp) (by simp);exact d (Ie (neg:=true) r j F h)
   ·cases hc
  ·rename_i fs F;have hg:P.eqGuardType P.depth t=false:=by unfold Vk at L;rw[j]at L;simp only[F]at L;simpa using L
   split at hc;·cases a7 g (e_ hc).symm (by simp) (by simp) (by simp) (by simp) (by simp);exact d (If (neg:=false) r j rfl F hg h)
   ·cases a7 g (e_ hc).symm (by simp) (by simp) (by simp) (by simp) (by simp);exact d (If (neg:=true) r j rfl F hg h)
   ·cases hc
  ·cases hc
 ·rename_i op t x j;cases a7 g (e_ hc).symm (by simp) (by simp) (by simp) (by simp) (by simp);exact d (Su r j h)
 ·rename_i cl j;split at hc
  ·rename_i A;split at hc
   ·rename_i x t p C;split at hc;·rename_i e F;cases a7 g (e_ hc).symm (by simp) (by simp) (by simp) (by simp) (by simp);exact d (P2 r j A (j0 p) (j0 C) F h)
    ·rename_i F;cases a7 g (e_ hc).symm (by simp) (by simp) (by simp) (by simp) (by simp);exact d (ND r j A (j0 p) (j0 C) F h)
    ·rename_i n e F;cases a7 g (e_ hc).symm (by simp) (by simp) (by simp) (by simp) (by simp);refine d (LW r ?_ h);simp[execOp,j,resolve,A,j0 p,j0 C,invoke,builtin,Builtin.len_,run_underlying F,goInt]
    ·rename_i k e F;cases a7 g (e_ hc).symm (by simp) (by simp) (by simp) (by simp) (by simp);exact d (NC r j A (j0 p) (j0 C) F h)
    ·cases hc
   ·cases hc
  ·rename_i A;split at hc
   ·rename_i x y t u p C;split at hc
    ·rename_i el;subst el;simp only[c_]at hc;obtain⟨e,M,s',hs,b,Q,z,J,hc⟩:=hc;split at hc
     ·rename_i E;obtain⟨I,N,T⟩:=E;rcases IK g (e_ hc).symm with rfl|rfl|⟨k,rfl⟩;·exact Jz r hd j A (gL p) (gL C) M hs Q J I N T h
      ·exact Nr r hd j A (gL p) (gL C) M hs Q J I N T h
      ·exact Ns r hd j A (gL p) (gL C) M hs Q J I N T h
     ·cases hc
    ·cases hc
   ·cases hc
  ·rename_i A;split at hc
   ·rename_i x y t u p C;simp only[c_]at hc;obtain⟨e,M,e',gc,s',hs,hc⟩:=hc;split at hc;·rename_i E;obtain⟨rfl,h0⟩:=E;cases a7 g (e_ hc).symm (by simp) (by simp) (by simp) (by simp) (by simp);exact Nv r hd j A (gL p) (gL C) M hs h0 h
    ·cases hc
   ·cases hc
  ·rename_i A;split at hc
   ·rename_i x ys t l p C;split at hc;·cases a7 g (e_ hc).symm (by simp) (by simp) (by simp) (by simp) (by simp);exact d (EZ (mx:=false) r j A p h)
    ·cases hc
   ·cases hc
  ·rename_i A;split at hc
   ·rename_i x ys t l p C;split at hc;·cases a7 g (e_ hc).symm (by simp) (by simp) (by simp) (by simp) (by simp);exact d (EZ (mx:=true) r j A p h)
    ·cases hc
   ·cases hc
  ·rename_i f A;split at hc
   ·rename_i R;rcases MF g (e_ hc).symm with⟨bor,rfl⟩|⟨bor,B,rfl⟩;·exact Nu r hd j A R h
    ·exact LS r hd j A R h
   ·cases hc
  ·rename_i t A;rcases KG g (e_ hc).symm with⟨bor,B,rfl⟩|⟨bor,rfl⟩;·exact LV r hd j A h
   ·exact LU r hd j A h
  ·cases hc
 ·rename_i t x i j;split at hc;·rename_i F;cases a7 g (e_ hc).symm (by simp) (by simp) (by simp) (by simp) (by simp);exact d (NA r j F h)
  ·rename_i n e F;split at hc;·rename_i H;obtain⟨U,H⟩:=s_.1 H;simp only[d_]at hc;obtain⟨sz,hs,hc⟩:=hc;cases a7 g hc.symm (by simp) (by simp) (by simp) (by simp) (by simp);exact d (NB r j F H hs h)
   ·cases hc
  ·cases hc
 ·rename_i t x i j;split at hc;·rename_i e F;simp only[d_]at hc;obtain⟨sz,hs,hc⟩:=hc;cases a7 g hc.symm (by simp) (by simp) (by simp) (by simp) (by simp);exact d (Ny r j F hs h)
  ·rename_i n e F;simp only[d_]at hc;obtain⟨sz,hs,hc⟩:=hc;cases a7 g hc.symm (by simp) (by simp) (by simp) (by simp) (by simp);exact d (Nz r j F hs h)
  ·cases hc
 ·rename_i t x f j;simp only[c_]at hc;obtain⟨fd,R,sz,hs,hc⟩:=hc;split at hc;·cases hc
  ·rename_i hsz;cases a7 g (e_ hc).symm (by simp) (by simp) (by simp) (by simp) (by simp);exact d (Nx r j R hs hsz h)
 ·rename_i t x f j;simp only[c_]at hc;obtain⟨fd,R,hc⟩:=hc;split at hc;·rename_i H;obtain⟨U,H⟩:=s_.1 H;simp only[d_]at hc;obtain⟨sz,hs,hc⟩:=hc;cases a7 g hc.symm (by simp) (by simp) (by simp) (by simp) (by simp);exact d (P1 r j R H hs h)
  ·cases hc
 ·rename_i t x j;simp only[c_]at hc;obtain⟨sz,hs,hc⟩:=hc;split at hc;·rename_i H;obtain⟨U,H⟩:=s_.1 H;cases a7 g (e_ hc).symm (by simp) (by simp) (by simp) (by simp) (by simp);exact d (NE r j H hs h)
  ·cases hc
 ·rename_i t x v j;simp only[d_]at hc;obtain⟨sz,hs,hc⟩:=hc;cases a7 g hc.symm (by simp) (by simp) (by simp) (by simp) (by simp);have O:o.dst=none:=by obtain⟨_,_,_,_,I,_⟩:=h;exact I
  exact L2 r O j hs h
 ·rename_i e j;simp only[d_]at hc;obtain⟨z,J,hc⟩:=hc;cases a7 g hc.symm (by simp) (by simp) (by simp) (by simp) (by simp);exact LQ r hd j J h
 ·rename_i e x j;rcases Pe g (e_ hc).symm with rfl|rfl;·exact PZ r hd j h
  ·exact Nt r hd j h
 ·rename_i t parts j;simp only[c_,d_]at hc;obtain⟨z,J,ps,Y,hc⟩:=hc;cases a7 g hc.symm (by simp) (by simp) (by simp) (by simp) (by simp);exact d (LR r j J Y h)
 ·rename_i t len parts j;simp only[c_]at hc;obtain⟨e,M,sz,hs,z,J,hc⟩:=hc;split at hc
  ·rename_i E;obtain⟨I,N⟩:=E;rcases IL g (e_ hc).symm with⟨own,rfl⟩|rfl
   rotate_left
   ·exact GH r hd j M hs J I N h
   cases own;·exact JA r hd j M hs J I N h
   ·exact GI r hd j M hs J I N h
  ·cases hc
 ·rename_i t l m j;simp only[c_,d_]at hc;obtain⟨e,M,sz,hs,b,Q,z,J,hc⟩:=hc;rcases IM g hc.symm with rfl|⟨k,rfl⟩;·exact JC r hd j M hs Q J h
  ·exact GJ r hd j M hs Q J h
 ·rename_i s' U x j;split at hc;·rename_i ds k I N;cases a7 g (e_ hc).symm (by simp) (by simp) (by simp) (by simp) (by simp);exact d (Nw r j I N h)
  ·rename_i e I N;split at hc;·rename_i T;cases a7 g (e_ hc).symm (by simp) (by simp) (by simp) (by simp) (by simp);exact d (PY r j I N T h)
   ·cases hc
  ·cases hc
 ·rename_i t x lo hi mx j;split at hc;·rename_i e F;simp only[d_]at hc;obtain⟨sz,hs,hc⟩:=hc;cases a7 g hc.symm (by simp) (by simp) (by simp) (by simp) (by simp);exact d (P3 r j F hs h)
  ·rename_i F;split at hc;·cases a7 g (e_ hc).symm (by simp) (by simp) (by simp) (by simp) (by simp);exact d (NI r j F h)
   ·cases hc
  ·cases hc
 ·rename_i x i j;cases a7 g (e_ hc).symm (by simp) (by simp) (by simp) (by simp) (by simp);exact d (P0 r j h)
 ·rename_i x j;cases a7 g (e_ hc).symm (by simp) (by simp) (by simp) (by simp) (by simp);exact d (NG r j h)
 ·rename_i f first caps j
  split at hc;·rename_i E;simp only[n_]at E;cases a7 g (e_ hc).symm (by simp) (by simp) (by simp) (by simp) (by simp);exact d (NF r j (by simpa using E.1) h)
  ·cases hc
 ·rename_i t j;split at hc;·cases a7 g (e_ hc).symm (by simp) (by simp) (by simp) (by simp) (by simp);exact LY r hd j h
  ·cases hc
 ·rename_i t m x ok j;split at hc;·rename_i k e F;simp only[d_]at hc;obtain⟨z,J,hc⟩:=hc;cases a7 g hc.symm (by simp) (by simp) (by simp) (by simp) (by simp);exact d (JB r j F J h)
  ·cases hc
 ·rename_i t m x v j;split at hc
  ·rename_i k e F;cases a7 g (e_ hc).symm (by simp) (by simp) (by simp) (by simp) (by simp);have O:o.dst=none:=by obtain⟨_,_,_,_,_,_,_,_,_,_,_,_,_,_,I,_⟩:=h;exact I
   exact AB r O (.inl j) F h
  ·cases hc
 ·rename_i t m x v j;split at hc
  ·rename_i k e F;cases a7 g (e_ hc).symm (by simp) (by simp) (by simp) (by simp) (by simp);have O:o.dst=none:=by obtain⟨_,_,_,_,_,_,_,_,_,_,_,_,_,_,I,_⟩:=h;exact I
   exact AB r O (.inr j) F h
  ·cases hc
 ·rename_i x j;cases a7 g (e_ hc).symm (by simp) (by simp) (by simp) (by simp) (by simp);exact L1 r j h
 ·rename_i t x j;cases a7 g (e_ hc).symm (by simp) (by simp) (by simp) (by simp) (by simp);refine d (LX r j ?_ h);unfold Vk at L;rw[j]at L;exact L
 ·cases hc
theorem MH{t:TypeId}{zl:List Value}(hc:gO P o=some (.alloc t zl)):∃z,o.op= .alloc t/\cX P t=some z/\zl=z.cells.toList:=by
 unfold gO at hc
 (repeat' split at hc)<;>simp_all[c_,d_]
 obtain⟨z,a,rfl,rfl⟩:=hc;exact⟨rfl,z,a,rfl⟩
theorem QQ{t:TypeId}{x:SX}(hc:gO P o=some (.box t x)):∃y,o.op= .box t y/\x= .of y:=by
 unfold gO at hc
 (repeat' split at hc)<;>simp_all[c_,d_]
theorem MI{k e:TypeId}(hc:gO P o=some (.mkmap k e)):∃t,o.op= .makeMap t none:=by
 unfold gO at hc
 (repeat' split at hc)<;>simp_all[c_,d_]
theorem KL{own:Bool}{e:TypeId}{sz len:Nat}{xs:List SX}(hc:gO P o=some (.bslice own e sz len xs)):∃t parts z,o.op= .buildSlice t len parts/\eQ P t=some e/\bJ P e=some sz/\cX P e=some z/\qm parts.toList=true/\z.cells.size=sz/\xs=parts.toList.map λq=>SX.of q.2:=by
 unfold gO at hc
 (repeat' split at hc)<;>simp_all[c_,d_]
 obtain⟨g,a,s',b,z,c,⟨d,f⟩,_,rfl,rfl,rfl,rfl⟩:=hc;exact⟨_,_,⟨rfl,rfl,rfl⟩,a,b,z,c,d,f,rfl⟩
theorem KM{e:TypeId}{sz b:Nat}{z:Value}{l m:SX}(hc:gO P o=some (.mslice e sz b z l m)):∃t x y,o.op= .makeSlice t x y/\eQ P t=some e/\bJ P e=some sz/\iw P e=some b/\cX P e=some z/\l= .of x/\m= .of y:=by
 unfold gO at hc
 (repeat' split at hc)<;>simp_all[c_,d_]
 obtain⟨h,a,s',c,g,d,j,f,rfl,rfl,rfl,rfl,rfl,rfl⟩:=hc;exact⟨_,_,_,⟨rfl,rfl,rfl⟩,a,c,d,f,rfl,rfl⟩
theorem KJ{e:TypeId}{sz b:Nat}{l m:SX}(hc:gO P o=some (.append e sz b l m)):∃a x y t z,o.op= .call a/\a.callee= .builtin .append/\a.args= #[x,y]/\a.argTypes= #[t,t]/\eQ P t=some e/\bJ P e=some sz/\iw P e=some b/\cX P e=some z/\z.cells.size=sz/\0<sz/\0<b/\l= .of x/\m= .of y:=by
 unfold gO at hc
 (repeat' split at hc)<;>simp_all[c_,d_]
 rename_i a _ s _ _ x y t u j k v;obtain⟨r,d,s',f,p,g,n,h,c,rfl,rfl,rfl,rfl,rfl⟩:=hc;exact⟨x,y,gL j,u,gL k,d,f,g,n,h,c.1,c.2.1,c.2.2,rfl,rfl⟩
theorem Ss(n:Inv c θ D st a w)(hd:∀k,o.dst=some k->k<c.n){k:Nat}{q:SOp}{K KP:St->Prop}(hc:gO P o=some q.canon)(h:sexec P o.dst (.atq k q) st K KP):Leaves P o c K KP a w:=by
 cases q with
 |alloc t zl=>obtain⟨z,d,g,rfl⟩:=MH hc;exact Lu n hd (pl:=some k) d g h
 |box t x=>obtain⟨y,d,rfl⟩:=QQ hc;exact Rn n hd (pl:=some k) d h
 |mkmap t e=>obtain⟨t,d⟩:=MI hc;exact Lv n hd (pl:=some k) d h
 |bslice own e sz len xs=>cases own with|false=>exact h.elim|true=>obtain⟨t,parts,z,d,p,hs,g,r,j,rfl⟩:=KL hc;exact HO n hd d p hs g r j (pl:=some k) h
 |mslice e sz b z l m=>obtain⟨t,x,y,d,p,hs,u,g,rfl,rfl⟩:=KM hc;exact HP n hd d p hs u g (pl:=some k) h
 |append e sz b l m=>obtain⟨C,x,y,t,z,d,A,f,s,p,hs,u,g,j,B,v,rfl,rfl⟩:=KJ hc;exact Pz n hd d A f s p hs u g j B v (pl:=some k) h
 |_=>exact h.elim
theorem zj(f:Inv c θ D st a w)(hd:∀k,o.dst=some k->k<c.n){s:SOp}{K KP:St->Prop}(hc:gO P o=some s.canon)(d:Vk P o=true)(h:sexec P o.dst s st K KP):Leaves P o c K KP a w:=by
 by_cases b:∀k q,s≠.atq k q;·exact F2 f hd b hc d h
 ·have:∃k q,s= .atq k q:=v_ λhn=>b λk q e=>hn ⟨k,q,e⟩;obtain⟨k,q,rfl⟩:=this;exact Ss f hd (k:=k) (q:=q) hc h
def uu(P:Program)(n:Nat)(ops:Array Oper)(o:Oper)(s:SOper):Prop:=
 (gO P o=some s.op.canon/\Vk P o=true)/\s.dst=o.dst/\(∀k,o.dst=some k->k<n)/\
  match o.guard with
  |none=>s.gd=none
  |some (j,want)=>∃t,(ops[j]?).bind (·.dst)=some t/\s.gd=some (t,want)
theorem NP{ops:Array Oper}{j t:Nat}(a:(ops[j]?).bind (·.dst)=some t)(tmps:Array Value):yielded ops tmps j=yv (tmps.getD t undef):=by
 unfold yielded;rw[a];simp only[Option.bind_some];rcases z_ t tmps.size with h|h;·simp only[m_ h,ag_,h,dif_pos];show _=yv tmps[t];cases tmps[t]<;>rfl
 ·simp only[Array.getElem?_eq_none h,ag_,aC_.2 h,dif_neg,not_false_eq_true];rfl
theorem pp{n:Nat}{ops:Array Oper}{s:SOper}{K KP:St->Prop}(p:Inv c θ D st a w)(hn:c.n=n)(hc:uu P n ops o s)(h:iF P s st K KP)(next:Act->World->Prop)(Q:Exit->Act->World->Prop) (b:∀A w',(∃d,K d/\Rel c d A w')->next A w') (hp:∀B w',(rU B/\∃d,KP d/\Rel c d a w')->Q (.panic B) a w'):if Region.wanted o (yielded ops a.tmps)then o.wp P a w next Q else next (a.put o.dst undef) w:=by
 obtain⟨l,u,C,e⟩:=hc;have hd:∀k,o.dst=some k->k<c.n:=by rw[hn];exact C
 unfold iF at h;unfold Region.wanted;cases hg:o.guard with
 |none=>rw[hg]at e;simp only at e;rw[e]at h;simp only[if_true];rw[u]at h;exact zj p hd l.1 l.2 h next Q b hp
 |some H=>
  obtain⟨j,want⟩:=H;rw[hg]at e;obtain⟨t,E,x⟩:=e;rw[x]at h;obtain⟨g,y,v,rfl,f,z⟩:=h;have F:=Ni (p.fr t _ y);simp only[NP E,F];by_cases r:yv v=some want;·rw[if_pos (by simpa using r)];have:=f r;rw[u]at this;exact zj p hd l.1 l.2 this next Q b hp
  ·rw[if_neg (by simpa using r)];have:=z r;rw[u]at this;exact b _ _ ⟨_,this,θ,D,p.put hd (RelP.sc _)⟩
end
section
variable {P:Program} {c:Ctx} {st:St} {a:Act} {w:World}
def rZ(P:Program)(n:Nat)(ops:Array Oper):List Oper->List SOper->Prop
 |[],[]=>True
 |o::l,s::m=>uu P n ops o s/\rZ P n ops l m
 |_,_=>False
theorem uv{n:Nat}{ops:Array Oper}:∀{l:List Oper} {m:List SOper},rZ P n ops l m->l.length=m.length/\∀(i:Nat) (o:Oper) (s:SOper),l[i]? =some o->m[i]? =some s->uu P n ops o s
 |[],[],_=>⟨rfl,λi o s h=>by simp at h⟩
 |o::l,s::m,h=>by obtain⟨b,c⟩:=h;obtain⟨d,e⟩:=uv c;refine⟨by simp[d],λi o' s' a hs=>?_⟩;cases i with|zero=>simp at a hs;subst a;subst hs;exact b|succ i=>exact e i o' s' (by simpa using a) (by simpa using hs)
theorem Nq{n m:Nat}{ops:Array Oper}(hn:c.n=n)(u:c.th.length<=m){K KP:St->Prop}{Q:Exit->Act->World->Prop}(A:∀a w,(∃b,K b/\Rel c b a w)->Q .normal a w)(z:∀j a w,(rU j/\∃b,KP b/\Rel c b a w)->Q (.panic j) a w): ∀(d:List Oper) (e:List SOper) (k:Nat),(∀i,d[i]? =ops[k+i]?)->rZ P n ops d e->∀(st:St) (a:Act) (w:World),sops P m e st K KP->Rel c st a w->wpOps P ops Q (aV_ k d.length) a w:=by
 intro d;induction d with
 |nil=>intro e k _ hc st a w h hr;cases e with|cons s e=>exact hc.elim|nil=>simp only[sops]at h;obtain⟨b,f,l⟩:=h;exact A a w ⟨b,l,f _ _ _ u hr⟩
 |cons o d C=>
  intro e k l hc st a w h hr;cases e with
  |nil=>exact hc.elim|cons s e=>
   obtain⟨v,x⟩:=hc;simp only[sops]at h;obtain⟨st1,f,h⟩:=h;obtain⟨θ,D,y⟩:=f _ _ _ u hr;have B:ops[k]? =some o:=by simpa using(l 0).symm
   have:=pp y hn v h (λp w'=>wpOps P ops Q (aV_ (k+1) d.length) p w') Q (λp w' ⟨b,r,g⟩=>C e (k+1) (λi=>by have:=l (i+1);simp only[List.getElem?_cons_succ]at this;rw[this];congr 1;omega) x b p w' r g) (λj w' hp=>z j a w' hp);simp only[A_,List.range'_succ,wpOps,B];split;·rename_i f;rw[if_pos f]at this;exact .inl this
   ·rename_i f;rw[if_neg f]at this;exact this
theorem Jv{id n m:Nat}{ops:Array Oper}{d:List SOper}(hn:c.n=n)(j:c.th.length<=m)(hc:rZ P n ops ops.toList d){K KP:St->Prop}{Q:Exit->Act->World->Prop}(h:sops P m d st K KP)(hr:Rel c st a w) (g:∀a w,(∃b,K b/\Rel c b a w)->Q .normal a w) (f:∀e a w,(rU e/\∃b,KP b/\Rel c b a w)->Q (.panic e) a w):(Code.region id ops false).wp P Q a w:=by refine wp_region ?_;have:=Nq hn j g f ops.toList d 0 (λi=>by simp) hc st a w h hr;rw[List.range_eq_range'];simpa using this
def SX.rd:SX->List Nat
 | .tm k=>[k]
 |_=>[]
def SOp.rd:SOp->List Nat
 | .mv x| .un _ x| .len _ x| .lenM _ _ x| .fldA _ _ _ x| .fld _ _ _ x| .load _ _ x| .box _ x| .boxD _ x| .cvtI _ x| .ext x _| .nilc x| .b2s x| .panic x| .iface _ x=>x.rd
 | .pick c a b=>c.rd++a.rd++b.rd
 | .bin _ x y| .eqB _ x y| .eqT _ _ x y| .idxS x y| .idxV _ _ _ x y| .idxA _ x y| .idxP _ _ _ x y| .store _ x y| .mslice _ _ _ _ x y| .append _ _ _ x y| .appD _ _ _ x y| .msliceT _ _ _ _ _ x y| .appT _ _ _ _ x y| .lookup _ _ _ _ x y| .copy _ _ x y=>x.rd++y.rd
 | .mapset _ _ x y z=>x.rd++y.rd++z.rd
 | .alloc _ _| .mkmap _ _=>[]
 | .build _ E=>E.flatMap λq=>q.2.2.rd
 | .bslice _ _ _ _ E=>E.flatMap SX.rd
 | .bsliceN _ _ _ E=>E.flatMap SX.rd
 | .slc _ x lo H mx=>x.rd++(lo.map SX.rd).getD []++(H.map SX.rd).getD []++(mx.map SX.rd).getD []
 | .slcS x lo H=>x.rd++(lo.map SX.rd).getD []++(H.map SX.rd).getD []
 | .call _ _ xs| .callA _ _ _ xs| .mkfn _ xs=>xs.flatMap SX.rd
 | .callv _ _ x xs| .mnmx _ _ x xs| .callp _ x xs=>x.rd++xs.flatMap SX.rd
 | .atq _ op=>op.rd
def SOper.rd(o:SOper):List Nat:=o.op.rd++(o.gd.map λg=>[g.1]).getD []
theorem aQ{st a:St}{x:SX}(h:∀t∈x.rd,look a.fr t=look st.fr t):a.get x=st.get x:=by cases x<;>simp only[St.get];exact h _ (by simp[SX.rd])
theorem eb{α β:Type}{f g:α->Option β}:∀{l:List α},(∀x∈l,f x=g x)->l.mapM f=l.mapM g
 |[],_=>rfl
 |x::l,h=>by rw[C_,C_,h x (by simp),eb (l:=l) λy a=>h y (by simp[a])]
theorem q7{st a:St}{x:Option SX}(h:∀t∈(x.map SX.rd).getD [],look a.fr t=look st.fr t)(d:Nat)(K:Nat->Prop):bnd a x d K=bnd st x d K:=by cases x with|none=>rfl|some x=>simp only[bnd,aQ (x:=x) (by simpa using h)]
theorem PX{st d:St}{s:SOp}(n:d.hp=st.hp)(h:∀t∈s.rd,look d.fr t=look st.fr t)(K:AV->Prop):jp P d s K=jp P st s K:=by
 cases s<;>simp only[SOp.rd,l_]at h<;>simp only[jp,n];case mv x=>rw[aQ h]
 case pick x y z=>rw[aQ (x:=x) λt a=>h t (.inl (.inl a)),aQ (x:=y) λt a=>h t (.inl (.inr a)),aQ (x:=z) λt a=>h t (.inr a)]
 case un op x=>rw[aQ h]
 case len b x=>rw[aQ h]
 case fldA x=>rw[aQ h]
 case fld x=>rw[aQ h]
 case load x=>rw[aQ h]
 case cvtI x=>rw[aQ h]
 case ext x i=>rw[aQ h]
 case nilc x=>rw[aQ h]
 case b2s x=>rw[aQ h]
 case lenM k e x=>rw[aQ h]
 case boxD k x=>rw[aQ h]
 case iface k x=>rw[aQ h]
 case appD e sz p x y=>rw[aQ (x:=x) λt a=>h t (.inl a),aQ (x:=y) λt a=>h t (.inr a)]
 case eqT op t x y=>rw[aQ (x:=x) λt a=>h t (.inl a),aQ (x:=y) λt a=>h t (.inr a)]
 case lookup k e ok z x y=>rw[aQ (x:=x) λt a=>h t (.inl a),aQ (x:=y) λt a=>h t (.inr a)]
 case mkfn f xs=>rw[eb (l:=xs) λq c=>aQ (x:=q) λt a=>h t (f_.2 ⟨q,c,a⟩)]
 case mnmx mx k x xs=>rw[aQ (x:=x) λt a=>h t (.inl a),eb (l:=xs) λq c=>aQ (x:=q) λt a=>h t (.inr (f_.2 ⟨q,c,a⟩))]
 case bin op x y=>rw[aQ (x:=x) λt a=>h t (.inl a),aQ (x:=y) λt a=>h t (.inr a)]
 case eqB op x y=>rw[aQ (x:=x) λt a=>h t (.inl a),aQ (x:=y) λt a=>h t (.inr a)]
 case idxS x y=>rw[aQ (x:=x) λt a=>h t (.inl a),aQ (x:=y) λt a=>h t (.inr a)]
 case idxV x y=>rw[aQ (x:=x) λt a=>h t (.inl a),aQ (x:=y) λt a=>h t (.inr a)]
 case idxA x y=>rw[aQ (x:=x) λt a=>h t (.inl a),aQ (x:=y) λt a=>h t (.inr a)]
 case idxP x y=>rw[aQ (x:=x) λt a=>h t (.inl a),aQ (x:=y) λt a=>h t (.inr a)]
 case build z g=>rw[eb (l:=g) λq c=>by rw[aQ (x:=q.2.2) λt a=>h t (f_.2 ⟨q,c,a⟩)]]
 case bslice b e sz l g=>
  cases b;·simp only;rw[eb (l:=g) λq c=>by rw[aQ (x:=q) λt a=>h t (f_.2 ⟨q,c,a⟩)]]
  ·rfl
 case bsliceN e sz l g=>rw[eb (l:=g) λq c=>by rw[aQ (x:=q) λt a=>h t (f_.2 ⟨q,c,a⟩)]]
 case call b f xs=>rw[eb (l:=xs) λq c=>by rw[aQ (x:=q) λt a=>h t (f_.2 ⟨q,c,a⟩)]]
 case callp b x xs=>rw[aQ (x:=x) λt a=>h t (.inl a),eb (l:=xs) λq c=>by rw[aQ (x:=q) λt a=>h t (.inr (f_.2 ⟨q,c,a⟩))]]
 case slc sz x lo j mx=>simp only[aQ (x:=x) λt a=>h t (.inl (.inl (.inl a))),q7 (x:=lo) λt a=>h t (.inl (.inl (.inr a))),q7 (x:=j) λt a=>h t (.inl (.inr a)),q7 (x:=mx) λt a=>h t (.inr a)]
 case slcS x lo j=>simp only[aQ (x:=x) λt a=>h t (.inl (.inl a)),q7 (x:=lo) λt a=>h t (.inl (.inr a)),q7 (x:=j) λt a=>h t (.inr a)]
def fq(P:Program)(o:SOper)(st:St)(x:AV):Prop:=
 match o.gd with
 |none=>jp P st o.op λy=>y=x
 |some (t,want)=>aM (look st.fr t) λg=>Be g λv=>(yv v=some want->jp P st o.op λy=>y=x)/\(yv v≠some want->x= .v undef)
theorem JE{o:SOper}{st a:St}{x:AV}(d:a.hp=st.hp)(h:∀t∈o.rd,look a.fr t=look st.fr t)(b:fq P o st x):fq P o a x:=by
 simp only[SOper.rd,l_]at h;have c:=PX (P:=P) (s:=o.op) d λt e=>h t (.inl e);unfold fq at b⊢;split at b;·rename_i hg;rw[c];exact b
 ·rename_i t want hg;rw[hg]at h;rw[h t (.inr (by simp)),c];exact b
theorem ae{α:Type}{o:Option α}{K b:α->Prop}(h:aM o K)(e:∀x,K x->b x):aM o b:=let⟨a,c,d⟩:=h;⟨a,c,e a d⟩
theorem be{a:AV}{K b:Value->Prop}(h:Be a K)(e:∀x,K x->b x):Be a b:=let⟨v,c,d⟩:=h;⟨v,c,e v d⟩
theorem bE{v:Value}{K a:IntKind->Int->Prop}(h:isInt v K)(d:∀k n,K k n->a k n):isInt v a:=let⟨k,n,b,c⟩:=h;⟨k,n,b,d k n c⟩
theorem na{v:Value}{K a:Bool->Prop}(h:isBool v K)(e:∀x,K x->a x):isBool v a:=let⟨b,c,d⟩:=h;⟨b,c,e b d⟩
theorem oW{v:Value}{K a:ByteArray->Prop}(h:Lk v K)(e:∀x,K x->a x):Lk v a:=let⟨b,c,d⟩:=h;⟨b,c,e b d⟩
theorem M3{hp:List AObj}{a:AV}{K f:Nat->Prop}(h:isLen hp a K)(c:∀x,K x->f x):isLen hp a f:=by
 rcases h with⟨h,b⟩|⟨sz,L,h,b⟩|⟨id,e,sz,L,h,d,b⟩|⟨sz,L,h,b⟩|⟨id,e,sz,k,L,g,h,d,b⟩;·exact .inl ⟨h,c _ b⟩
 ·exact .inr (.inl ⟨sz,L,h,c _ b⟩)
 ·exact .inr (.inr (.inl ⟨id,e,sz,L,h,d,c _ b⟩))
 ·exact .inr (.inr (.inr (.inl ⟨sz,L,h,c _ b⟩)))
 ·exact .inr (.inr (.inr (.inr ⟨id,e,sz,k,L,g,h,d,c _ b⟩)))
theorem x8{hp:List AObj}{k e:TypeId}{a:AV}{K b:Nat->List (PV×PV)->Prop}(h:isMap hp k e a K)(g:∀i x,K i x->b i x):isMap hp k e a b:=let⟨id,kvs,c,d,f⟩:=h;⟨id,kvs,c,d,g _ _ f⟩
theorem fJ{st:St}{x:Option SX}{d:Nat}{K a:Nat->Prop}(h:bnd st x d K)(b:∀n,K n->a n):bnd st x d a:=by cases x with|none=>exact b _ h|some x=>exact ae h λ_ h=>be h λ_ h=>bE h λ_ _ h=>⟨h.1,b _ h.2⟩
theorem O8{op:BinOp}{x y:Value}{K b:Value->Prop}(h:IG op x y K)(a:∀v,K v->b v):IG op x y b:=by
 unfold IG at h⊢;split at h;·cases op<;>simp only at h⊢<;>first|exact⟨h.1,a _ h.2⟩|exact⟨h.1,h.2.1,a _ h.2.2⟩
 ·cases op<;>simp only at h⊢<;>first|exact a _ h|exact⟨h.1,a _ h.2⟩|exact h
 ·exact h
theorem Sy{op:UnOp}{x:Value}{K a:Value->Prop}(h:Vl op x K)(b:∀v,K v->a v):Vl op x a:=by
 unfold Vl at h⊢;split at h;·exact b _ h
 ·exact b _ h
 ·exact h
theorem EB{hp:List AObj}{sz:Nat}{ag:Bool}{a:AV}{K u:AV->Prop}(h:Cj hp sz ag a K)(b:∀v,K v->u v):Cj hp sz ag a u:=by
 unfold Cj at h⊢;split at h;·exact⟨h.1,h.2.1,b _ h.2.2⟩
 ·exact ae h λ_ ⟨t,cs,c,d,f,g⟩=>⟨t,cs,c,d,f,g.imp (b _) λh=>ae h λ_ h=>b _ h⟩
 ·refine ae h λ_ h=>h.imp (fun⟨e,s,xs,c,d,f,g,n⟩=>⟨e,s,xs,c,d,f,g,?_⟩) fun⟨e,s,k,xs,x,c,d,f,g,n⟩=>⟨e,s,k,xs,x,c,d,f,g,n.imp (λh=>⟨h.1,b _ h.2⟩) fun⟨w,j,l,p,r⟩=>⟨w,j,l,p,b _ r⟩⟩;rcases n with⟨j,l,p,r⟩|⟨j,l⟩;·exact .inl ⟨j,l,p,b _ r⟩
  ·exact .inr ⟨j,b _ l⟩
 ·exact h
theorem fc{hp:List AObj}{sz:Nat}{a:AV}{K d:List PV->Prop}(h:nC hp sz a K)(c:∀x,K x->d x):nC hp sz a d:=by
 rcases h with⟨h,b⟩|⟨L,h,b⟩|⟨id,e,L,h,f,b⟩|⟨L,h,b⟩;·exact .inl ⟨h,c _ b⟩
 ·exact .inr (.inl ⟨L,h,c _ b⟩)
 ·exact .inr (.inr (.inl ⟨id,e,L,h,f,c _ b⟩))
 ·exact .inr (.inr (.inr ⟨L,h,c _ b⟩))
theorem AA{st:St}{s:SOp}{K w:AV->Prop}(h:jp P st s K)(c:∀x,K x->w x):jp P st s w:=by
 cases s<;>simp only[jp]at h⊢;case mv=>exact ae h c
 case pick=>exact ae h λ_ h=>be h λ_ h=>na h λ_ h=>⟨λe=>ae (h.1 e) c,λe=>ae (h.2 e) c⟩
 case bin=>exact ae h λ_ h=>ae h λ_ h=>be h λ_ h=>be h λ_ h=>O8 h λ_ h=>c _ h
 case eqB=>exact ae h λ_ h=>ae h λ_ h=>be h λ_ h=>be h λ_ h=>na h λ_ h=>na h λ_ h=>c _ h
 case un=>exact ae h λ_ h=>be h λ_ h=>Sy h λ_ h=>c _ h
 case len str x=>
  refine ae h λ_ h=>?_;cases str;·exact M3 h λ_ h=>c _ h
  ·exact be h λ_ h=>oW h λ_ h=>c _ h
 case idxS=>exact ae h λ_ h=>ae h λ_ h=>be h λ_ h=>be h λ_ h=>bE h λ_ _ h=>oW h λ_ h=>⟨h.1,h.2.1,c _ h.2.2⟩
 case idxV=>exact ae h λ_ h=>ae h λ_ h=>be h λ_ h=>bE h λ_ _ h=>ae h λ_ ⟨b,a,d,j,l,n⟩=>⟨b,a,d,j,l,c _ n⟩
 case idxA=>
  refine ae h λ_ h=>ae h λ_ h=>be h λ_ h=>bE h λ_ _ h=>?_;rcases h with⟨L,b,a,d,j⟩|⟨id,b,a⟩;·exact .inl ⟨L,b,a,d,c _ j⟩
  ·exact .inr ⟨id,b,ae a λ_ h=>h.imp (fun⟨e,L,d,j,l,n⟩=>⟨e,L,d,j,l,c _ n⟩) fun⟨e,k,L,B,d,j,l,n⟩=>⟨e,k,L,B,d,j,l,c _ n⟩⟩
 case idxP=>
  refine ae h λ_ h=>ae h λ_ h=>be h λ_ h=>bE h λ_ _ ⟨b,a,h⟩=>⟨b,a,?_⟩;rcases h with⟨id,off,d,j⟩|⟨p,d,j,l,n,v⟩;·exact .inl ⟨id,off,d,c _ j⟩
  ·exact .inr ⟨p,d,j,l,n,c _ v⟩
 case lenM=>exact ae h λ_ h=>x8 h λ_ _ h=>c _ h
 case boxD=>exact ae h λ_ h=>ae h λ_ h=>⟨h.1,h.2.1,c _ h.2.2⟩
 case iface=>exact ae h λ_ h=>c _ h
 case eqT=>exact ae h λ_ h=>ae h λ_ h=>ae h λ_ h=>ae h λ_ h=>ae h λ_ h=>c _ h
 case lookup=>exact ae h λ_ h=>ae h λ_ h=>x8 h λ_ _ h=>ae h λ_ ⟨b,a,d,h⟩=>⟨b,a,d,ae h λ_ h=>c _ h⟩
 case mkfn=>
  refine ae h λ_ h=>?_;rcases h with⟨ids,b,a⟩|⟨y,b,a⟩;·exact .inl ⟨ids,b,c _ a⟩
  ·exact .inr ⟨y,b,c _ a⟩
 case mnmx=>exact ae h λ_ h=>be h λ_ h=>bE h λ_ _ h=>ae h λ_ ⟨C,b,a,d⟩=>⟨C,b,a,c _ d⟩
 case fldA=>
  refine ae h λ_ h=>?_;rcases h with⟨p,b,a,d,j,l⟩|⟨id,o,b,a⟩|⟨id,i,o,b,a⟩;·exact .inl ⟨p,b,a,d,j,c _ l⟩
  ·exact .inr (.inl ⟨id,o,b,c _ a⟩)
  ·exact .inr (.inr ⟨id,i,o,b,c _ a⟩)
 case fld=>
  refine ae h λ_ h=>?_;rcases h with⟨p,b,a,d,j,l⟩|⟨cs,b,a,d,j⟩;·exact .inl ⟨p,b,a,d,j,c _ l⟩
  ·exact .inr ⟨cs,b,a,d,c _ j⟩
 case load=>exact ae h λ_ h=>EB h c
 case cvtI=>exact ae h λ_ h=>be h λ_ h=>bE h λ_ _ h=>c _ h
 case slc=>
  refine ae h λ_ h=>?_;rcases h with h|⟨id,b,h⟩
  ·refine .inl (ae h λ_ ⟨L,b,h⟩=>⟨L,b,fJ h λ_ h=>fJ h λ_ h=>fJ h λ_ ⟨a,d,j,l,n⟩=>⟨a,d,j,l,?_⟩⟩);rcases n with n|⟨n,v,A⟩;·exact .inl (c _ n)
   ·exact .inr ⟨n,v,c _ A⟩
  ·exact .inr ⟨id,b,ae h λ_ ⟨e,k,L,g,a,h⟩=>⟨e,k,L,g,a,fJ h λ_ h=>fJ h λ_ h=>fJ h λ_ ⟨a,d,j,l,n,v⟩=>⟨a,d,j,l,n,c _ v⟩⟩⟩
 case slcS=>exact ae h λ_ h=>be h λ_ h=>oW h λ_ h=>fJ h λ_ h=>fJ h λ_ ⟨a,d,j⟩=>⟨a,d,c _ j⟩
 case ext=>
  refine ae h λ_ h=>?_;rcases h with⟨xs,b,a⟩|⟨xs,b,a⟩;·exact .inl ⟨xs,b,ae a λ_ h=>c _ h⟩
  ·exact .inr ⟨xs,b,ae a λ_ h=>c _ h⟩
 case b2s=>exact ae h λ_ h=>fc h λ_ h=>ae h λ_ h=>c _ h
 case nilc=>exact ae h λ_ h=>⟨h.1,c _ h.2⟩
 case build=>exact ae h λ_ h=>⟨h.1,c _ h.2⟩
 case call=>exact ae h λ_ h=>ACalls.mono h λ_ ⟨r,u,b,a,d,j⟩=>⟨r,u,b,a,d,c _ j⟩
 case callp=>exact ae h λ_ ⟨f,cs,b,a,d⟩=>⟨f,cs,b,a,ae d λ_ h=>ACalls.mono h λ_ ⟨r,u,b,a,d,j⟩=>⟨r,u,b,a,d,c _ j⟩⟩
 case bslice own e sz len y=>
  cases own;·exact ae h λ_ ⟨b,a,d,j,l⟩=>⟨b,a,d,j,l.imp (c _) (c _)⟩
  ·exact h
 case bsliceN=>exact ae h λ_ ⟨b,a,d,j,l⟩=>⟨b,a,d,j,c _ l⟩
 case appD=>exact ae h λ_ h=>ae h λ_ h=>fc h λ_ ⟨b,z,a,d,j⟩=>⟨b,z,a,d,c _ j⟩
theorem nD{o:SOper}{st:St}{x:AV}{K KP:St->Prop}(h:fq P o st x)(a:K (st.putO o.dst x)):iF P o st K KP:=by
 have key:∀s,(jp P st s λy=>y=x)->sexec P o.dst s st K KP:=by
  intro s hs;have b:jp P st s λy=>K (st.putO o.dst y):=AA hs λy c=>by rw[c];exact a
  unfold sexec;split<;>first|exact b|exact hs.elim
 unfold fq at h;unfold iF;split at h;·rename_i hg;rw[hg];exact key _ h
 ·rename_i t want hg;rw[hg];refine ae h λ_ h=>be h λv h=>⟨λe=>key _ (h.1 e),λe=>by rw[<-h.2 e];exact a⟩
end
def sdraw(P:Program)(m:Nat):Nat->List SOper->St->(St->Prop)->(St->Prop)->Prop
 |0,l,st,K,KP=>sops P m l st K KP
 |_+1,[],st,K,_=>K st
 |k+1,o::l,st,K,KP=>∃x,fq P o st x/\sdraw P m k l (st.putO o.dst x) K KP
def fH:List (List Nat)->List (List Nat)->List (List Nat)
 |a,[]=>a
 |a,l::ls=>fH (a++[l.flatMap λe=>e::a.getD e []]) ls
def Bn(x y:SOper):Bool:=
 (match x.dst with|some d=> !y.rd.contains d&&y.dst != some d|none=>true)&&(match y.dst with|some d=> !x.rd.contains d|none=>true)
def MO(ops:List SOper)(a:List (List Nat))(k:Nat):Bool:=
 (R_ ops.length).all λj=>(R_ j).all λi=>(a.getD j []).contains i||(decide (j<k)&&(match ops[i]?,ops[j]? with|some x,some y=>Bn x y|_,_=>false))
def rW(ops:Array Oper):List (List Nat):=ops.toList.map λo=>(o.after.toList.filter (Region.binds .any)).map (·.on)
def BF(after:List (List Nat)):Bool:=(R_ after.length).all λi=>(after.getD i []).all λe=>decide (e<i)
section
variable {P:Program} {c:Ctx} {w:World} {a:Act}
def cF(p:Nat->Bool):Nat->Option Nat
 |0=>none
 |k+1=>if p k then some k else cF p k
theorem jQ{p q:Nat->Bool}:∀{k:Nat},(∀j,j<k->p j=q j)->cF p k=cF q k
 |0,_=>rfl
 |k+1,h=>by have a:=jQ (p:=p) (q:=q) (k:=k) λj b=>h j (by omega);simp only[cF,h k (by omega),a]
theorem sA{p:Nat->Bool}:∀{k i:Nat},i<=k->(∀j,i<=j->j<k->p j=false)->cF p k=cF p i
 |0,i,h,_=>by
  have:i=0:=by omega
  subst this;rfl
 |k+1,i,h,hp=>by
  rcases z_ i (k+1)with a|a;·simp only[cF,hp k (by omega) (by omega),p_,if_false];exact sA (by omega) λj b c=>hp j b (by omega)
  ·have:i=k+1:=by omega
   subst this;rfl
def Fx(d:Nat->Option Nat)(X:Nat->AV)(st:St)(S:Nat->Bool):Nat->St
 |0=>st
 |k+1=>if S k then(Fx d X st S k).putO (d k) (X k)else Fx d X st S k
theorem yk(d:Nat->Option Nat)(X:Nat->AV)(st:St)(S:Nat->Bool):∀k,(Fx d X st S k).hp=st.hp
 |0=>rfl
 |k+1=>by
  simp only[Fx];split;·cases d k<;>simp[St.putO,St.put,yk d X st S k]
  ·exact yk d X st S k
theorem eC(st:St)(d:Option Nat)(x:AV)(t:Nat):look (st.putO d x).fr t=if d=some t then some x else look st.fr t:=by
 cases d with
 |none=>simp[St.putO]|some k=>
  simp only[St.putO,St.put,look,h_];by_cases h:t=k;·subst h;simp
  ·rw[if_neg h,if_neg (Ne.symm h)]
theorem nj(d:Nat->Option Nat)(X:Nat->AV)(st:St)(S:Nat->Bool)(t:Nat):∀k,look (Fx d X st S k).fr t=(match cF (λj=>S j&&d j==some t) k with|some j=>some (X j)|none=>look st.fr t)
 |0=>rfl
 |k+1=>by
  simp only[Fx,cF];by_cases a:S k=true
  ·rw[if_pos a,eC];by_cases hd:d k=some t;·simp[a,hd]
   ·rw[if_neg hd,nj d X st S t k];simp[hd]
  ·rw[if_neg a,nj d X st S t k];simp[a]
theorem Rel.congr{st E:St}(H:E.hp=st.hp)(h:∀t,look E.fr t=look st.fr t)(hr:Rel c st a w):Rel c E a w:=by obtain⟨θ,D,z⟩:=hr;exact⟨θ,D,z.size,z.defers,by rw[H];exact z.ok,z.keep,z.dsub,z.dnew,z.onew,λk x I=>z.fr k x (by rw[<-h];exact I),z.fix⟩
theorem PW{m:Nat}:∀(k:Nat) (ops:List SOper) (st:St) (K KP:St->Prop),sdraw P m k ops st K KP->k<=ops.length->∃X:Nat->AV,(∀i s,i<k->ops[i]? =some s->fq P s (Fx (λj=>(ops[j]?).bind (·.dst)) X st (λ_=>true) i) (X i))/\sops P m (ops.drop k) (Fx (λj=>(ops[j]?).bind (·.dst)) X st (λ_=>true) k) K KP:=by
 intro k;induction k with
 |zero=>intro ops st K KP h _;exact⟨λ_=>default,λi s c=>absurd c (by omega),h⟩|succ k b=>
  intro ops st K KP h hl;cases ops with|nil=>exact absurd hl (by simp)|cons o ops=>
  simp only[sdraw]at h;obtain⟨x,f,h⟩:=h;obtain⟨X,d,e⟩:=b ops _ K KP h (by simpa using hl);have a:∀i,Fx (λj=>((o::ops)[j]?).bind (·.dst)) (λj=>match j with|0=>x|j+1=>X j) st (λ_=>true) (i+1)=Fx (λj=>(ops[j]?).bind (·.dst)) X (st.putO o.dst x) (λ_=>true) i:=by intro i;induction i with|zero=>simp[Fx]|succ i b=>rw[Fx,b];simp[Fx]
  refine⟨λj=>match j with|0=>x|j+1=>X j,λi s c hs=>?_,?_⟩
  ·cases i with|zero=>simp at hs;subst hs;exact f|succ i=>rw[a];exact d i s (by omega) (by simpa using hs)
  ·rw[a];simpa using e
theorem Kq:∀(ls a:List (List Nat)),(fH a ls).length=a.length+ls.length
 |[],a=>rfl
 |l::ls,a=>by rw[fH,Kq ls];simp;omega
theorem DF:∀(ls a:List (List Nat)) (i:Nat),i<a.length->(fH a ls)[i]? =a[i]?
 |[],a,i,_=>rfl
 |l::ls,a,i,h=>by rw[fH,DF ls _ i (by simp;omega),k_ h]
theorem y9:∀(ls a:List (List Nat)) (j:Nat) (l:List Nat),ls[j]? =some l->(fH a ls).getD (a.length+j) []=l.flatMap λe=>e::(fH a (ls.take j)).getD e []
 |[],a,j,l,h=>by simp at h
 |m::ls,a,0,l,h=>by
  simp at h;subst h;have:(fH a (m::ls))[a.length]? =some (m.flatMap λe=>e::a.getD e []):=by rw[fH,DF ls _ _ (by simp)];simp
  show((fH a (m::ls))[a.length+0]?).getD []=_;rw[aU_,this];rfl
 |m::ls,a,j+1,l,h=>by have:=y9 ls (a++[m.flatMap λe=>e::a.getD e []]) j l (by simpa using h);simp only[Q_,au_]at this;rw[show a.length+(j+1)=a.length+1+j by omega,fH,this];rfl
theorem O6(ls:List (List Nat))(j e:Nat)(h:e<j)(k:j<=ls.length):(fH [] (ls.take j)).getD e []=(fH [] ls).getD e []:=by
 have key:∀(b c a:List (List Nat)),fH a (b++c)=fH (fH a b) c:=by intro b;induction b with|nil=>intro c a;rfl|cons m b f=>intro c a;simp only[an_,fH,f]
 have g:(fH [] (ls.take j)).length=j:=by rw[Kq];simp;omega
 have:=key (ls.take j) (ls.drop j) [];rw[List.take_append_drop]at this;have d:(fH [] ls)[e]? =(fH [] (ls.take j))[e]? :=by rw[this,DF _ _ e (by omega)]
 simp only[W_,d]
theorem oO{after:List (List Nat)}(a:BF after=true){S:Nat->Prop}(k:∀i l,after[i]? =some l->S i->∀e∈l,S e):∀(n i j:Nat),i<=n->S i->(((fH [] after).getD i []).contains j)=true->i<after.length->S j:=by
 intro n;induction n with
 |zero=>
  intro i j p hs hc b;have h:i=0:=by omega
  subst h;have hl:=a_ b;have:=y9 after [] 0 _ hl;simp only[M_,O_]at this;rw[this]at hc;simp only[aa_,f_]at hc;obtain⟨e,f,_⟩:=hc;simp only[BF,j_,y_,decide_eq_true_eq]at a;have:=a 0 b e (by simpa[W_,hl]using f);omega
 |succ n r=>
  intro i j p hs hc b;have hl:=a_ b;have hg:=y9 after [] i _ hl;simp only[M_,O_]at hg;rw[hg]at hc;simp only[aa_,f_]at hc;obtain⟨e,f,c⟩:=hc;have d:=k i _ hl hs e f;simp only[BF,j_,y_,decide_eq_true_eq]at a;have g:=a i b e (by simpa[W_,hl]using f);simp only[J_]at c;rcases c with rfl|c;·exact d
  ·rw[O6 after i e g (by omega)]at c;exact r e j (by omega) d (by simpa using c) (by omega)
theorem de{n:Nat}{a:Array Bool}(hn:a.size=n){i j:Nat}(b:i<n):(a.setIfInBounds i true).getD j false=(if j=i then true else a.getD j false):=by
 by_cases h:j=i;·subst h;simp[hn,b]
 ·simp[h,Z_ (Ne.symm h)]
theorem conflict{x y:SOper}{t:Nat}(h:Bn x y=true):(x.dst=some t->t∉y.rd/\y.dst≠some t)/\(y.dst=some t->t∉x.rd):=by
 unfold Bn at h;rw[n_]at h;obtain⟨a,b⟩:=h;refine⟨λc=>?_,λd=>?_⟩;·rw[c]at a;simpa using a
 ·rw[d]at b;simpa using b
theorem MP{id n k ml:Nat}{ops:Array Oper}{f:List SOper}{after:List (List Nat)}(hm:P.follows .mixedOrders=true)(hn:c.n=n)(Pa:c.th.length<=ml)(hc:rZ P n ops ops.toList f)(Fr:after=rW ops)(F:BF after=true)(Pb:MO f (fH [] after) k=true)(In:k<=f.length) {st:St} {K KP:St->Prop} {Q:Exit->Act->World->Prop} (h:sdraw P ml k f st K KP) (hr:Rel c st a w) (hQ:∀a w,(∃u,K u/\Rel c u a w)->Q .normal a w) (hP:∀ch a w,(rU ch/\∃u,KP u/\Rel c u a w)->Q (.panic ch) a w):(Code.region id ops true).wp P Q a w:=by
 obtain⟨KK,DE⟩:=uv hc;have hsz:ops.size=f.length:=by simpa using KK
 obtain⟨X,hX,ur⟩:=PW k f st K KP h In;generalize hd:(λj:Nat=>(f[j]?).bind (λs:SOper=>s.dst))=d at hX ur;have hdj:∀(j:Nat) (s:SOper),f[j]? =some s->d j=s.dst:=λj s hs=>by rw[<-hd];simp[hs]
 have SW:after.length=f.length:=by rw[Fr];simp[rW,hsz]
 have Dg:∀(i:Nat) (o:Oper),ops[i]? =some o->after[i]? =some ((o.after.toList.filter (Region.binds .any)).map (·.on)):=λi o ho=>by rw[Fr];simp[rW,ho]
 have r:∀(b:Array Bool) (i:Nat),b.size=f.length->(i∈Region.ready .any ops b↔i<f.length/\b.getD i true=false/\∀l:List Nat,after[i]? =some l->∀e∈l,b.getD e false=true):=by
  intro b i g;unfold Region.ready;simp only[S_,y_,n_,ak_,hsz];constructor;·rintro⟨z,A,T⟩;refine⟨z,A,λl hl e O=>?_⟩;have ho:ops[i]? =some ops[i]:=m_ (by omega);rw[Dg i _ ho]at hl;cases hl;rw[ho]at T;simp only[x_,ac_,Y_]at T;simp only[D_,S_]at O;obtain⟨ed,⟨h4,h5⟩,rfl⟩:=O;have:=T ed (by simpa using h4);simpa[h5]using this
  ·rintro⟨z,A,T⟩;refine⟨z,A,?_⟩;have ho:ops[i]? =some ops[i]:=m_ (by omega);rw[ho];simp only[x_,ac_,Y_];intro ed PJ;by_cases M:Region.binds .any ed=true;·have:=T _ (Dg i _ ho) ed.on (D_.2 ⟨ed,S_.2 ⟨by simpa using PJ,M⟩,rfl⟩);simp only[M,ad_,aQ_];exact this
   ·simp[M]
 have el:∀i j,i<j->j<f.length->((fH [] after).getD j []).contains i=true\/(j<k/\∃x y,f[i]? =some x/\f[j]? =some y/\Bn x y=true):=by
  intro i j DP B;simp only[MO,j_,y_,ae_,n_,decide_eq_true_eq]at Pb;rcases Pb j B i DP with z|⟨z,A⟩;·exact .inl z
  ·refine .inr ⟨z,f[i],f[j],a_ (by omega),a_ B,?_⟩;simpa[a_ (show i<f.length by omega),a_ B]using A
 have CD:∀(m j:Nat) (b:Array Bool) (u:St) (a:Act) (w:World),j<=f.length->f.length<=j+m->k<=j->b.size=f.length->(∀i,i<f.length->b.getD i false=decide (i<j))->sops P ml (f.drop j) u K KP->Rel c u a w->wpAny P .any ops Q m b a w:=by
  have Fm:∀(b:Array Bool) (u:St) (a:Act) (w:World),b.size=f.length->(∀i,i<f.length->b.getD i false=decide (i<f.length))->sops P ml (f.drop f.length) u K KP->Rel c u a w->Region.ready .any ops b=[]/\Q .normal a w:=by
   intro b u a w g J hs hr;rw[aJ_]at hs;simp only[sops]at hs;obtain⟨st1,DS,hs⟩:=hs;refine⟨?_,hQ a w ⟨st1,hs,DS _ _ _ Pa hr⟩⟩;apply ab_.2;intro i C;obtain⟨z,A,_⟩:=(r b i g).1 C;have T:=J i z;have h4:i<b.size:=by omega
   simp[h4,z]at A T;rw[T]at A;cases A
  intro m
  induction m with
  |zero=>
   intro j b u a w B hm _ g J hs hr;have DQ:j=f.length:=by omega
   subst DQ;exact Fm b u a w g J hs hr
  |succ m ih=>
   intro j b u a w B hm Wf g J hs hr;rcases z_ j f.length with I|I;case inr=>
    have DQ:j=f.length:=by omega
    subst DQ;obtain⟨f1,f2⟩:=Fm b u a w g J hs hr;exact⟨λ_=>f2,λi C=>by rw[f1]at C;cases C⟩
   have Hx:∀i,i<f.length->b.getD i true=decide (i<j):=λi C=>by
    have h4:i<b.size:=by omega
    have:=J i C;simp[h4]at this⊢;exact this
   have Pc:∀i,i∈Region.ready .any ops b↔i=j:=by
    intro i;rw[r b i g];constructor
    ·rintro⟨z,A,T⟩;rw[Hx i z]at A;simp only[decide_eq_false_iff_not,aC_]at A;rcases z_ j i with h4|h4
     ·rcases el j i h4 z with h5|⟨h5,_⟩
      ·have qr:=oO F (S:=λx=>x<j\/x=i) (λx l hl Y e O=>by
        have v:=F;simp only[BF,j_,y_,decide_eq_true_eq]at v;have Fk:=(b_.1 hl).1;have GS:=v x Fk e (by simpa[W_,hl]using O);rcases Y with Y|rfl;·exact .inl (by omega)
        ·have:=T l hl e O;rw[J e (by omega)]at this;exact .inl (by simpa using this)) i i j (t_ _) (.inr rfl) h5 (by omega)
       omega
      ·omega
     ·omega
    ·rintro rfl;refine⟨I,by rw[Hx _ I];simp,λl hl e O=>?_⟩;have v:=F;simp only[BF,j_,y_,decide_eq_true_eq]at v;have Fk:=(b_.1 hl).1;have GS:=v i Fk e (by simpa[W_,hl]using O);rw[J e (by omega)];simpa using GS
   refine⟨λh0=>?_,λi C=>?_⟩;·have:=(Pc j).2 rfl;rw[h0]at this;cases this
   ·have:=(Pc i).1 C;subst this;have ho:ops[i]? =some ops[i]:=m_ (by omega);have R:=a_ I;have DM:=DE i _ _ (by rw[q_];exact ho) R;rw[aj_ I]at hs;simp only[sops]at hs;obtain⟨st1,DS,hs⟩:=hs;obtain⟨θ,D,hI⟩:=DS _ _ _ Pa hr;have:=pp hI hn DM hs (λa' w'=>wpAny P .any ops Q m (b.setIfInBounds i true) a' w') Q (λa' w' ⟨DH,z,A⟩=>
     ih (i+1) _ DH a' w' (by omega) (by omega) (by omega) (by simpa using g) (λx Y=>by
      rw[de g (by omega),J x Y];by_cases L:x=i;·subst L;simp
      ·rw[if_neg L];apply decide_eq_decide.2;omega) z A) (λch w' hp=>hP ch a w' hp)
    unfold wpOp;rw[ho];simp only;split;·rename_i hw;rw[if_pos hw]at this;exact .inl this
    ·rename_i hw;rw[if_neg hw]at this;exact this
 have BT:∀(m:Nat) (b:Array Bool) (a:Act) (w:World),b.size=f.length->(∀i,i<f.length->b.getD i false=true->i<k)->(∀(i:Nat) (l:List Nat),after[i]? =some l->b.getD i false=true->∀e∈l,b.getD e false=true)->((R_ f.length).filter λi=> !b.getD i false).length<=m->Rel c (Fx d X st (λj=>b.getD j false) k) a w->wpAny P .any ops Q m b a w:=by
  have full:∀(m:Nat) (b:Array Bool) (a:Act) (w:World),b.size=f.length->(∀i,i<f.length->b.getD i false=true->i<k)->(∀i,i<k->b.getD i false=true)->f.length<=k+m->Rel c (Fx d X st (λj=>b.getD j false) k) a w->wpAny P .any ops Q m b a w:=by
   intro m b a w g E N hm hr;refine CD m k b (Fx d X st (λ_=>true) k) a w In hm (t_ _) g (λi C=>?_) ur (Rel.congr ?_ (λt=>?_) hr)
   ·rcases z_ i k with z|z;·rw[N i z];simp[z]
    ·cases M:b.getD i false with|true=>have:=E i C M;omega|false=>simp;omega
   ·rw[yk,yk]
   ·rw[nj,nj,jQ (p:=λj=>(λ_=>true) j&&d j==some t) (q:=λj=>b.getD j false&&d j==some t) (k:=k) λj B=>by simp only[N j B]]
  have CT:∀(b:Array Bool),(∀i,i<f.length->b.getD i false=true->i<k)->f.length<=k+((R_ f.length).filter λi=> !b.getD i false).length:=by
   intro b E;have:∀n,n<=f.length->n<=k+((R_ n).filter λi=> !b.getD i false).length:=by intro n;induction n with|zero=>intro _;omega|succ n ih=>intro hn;have:=ih (by omega);rw[List.range_succ,List.filter_append,Q_];cases M:b.getD n false with|true=>have:=E n (by omega) M;omega|false=>simp only[ao_,M,av_,if_true,List.filter_nil,au_];omega
   exact this _ (t_ _)
  intro m
  induction m with
  |zero=>intro b a w g E qr DB hr;refine full 0 b a w g E (λi C=>?_) (by have:=CT b E;omega) hr;have h0:=r_ (Nat.le_zero.1 DB);have:=List.filter_eq_nil_iff.1 h0 i (by simp;omega);simpa using this|succ m ih=>
   intro b a w g E qr DB hr;by_cases N:∀i,i<k->b.getD i false=true;·exact full (m+1) b a w g E N (by have:=CT b E;omega) hr
   ·obtain⟨U,Vc,PB,Nd⟩:∃U,U<k/\b.getD U false=false/\∀j,j<U->b.getD j false=true:=by
     have:∀n,(∃i,i<n/\b.getD i false=false)->∃U,U<n/\b.getD U false=false/\∀j,j<U->b.getD j false=true:=by
      intro n;induction n with
      |zero=>rintro⟨i,C,_⟩;omega
      |succ n SM=>
       rintro⟨i,C,hu⟩;by_cases z:∃i,i<n/\b.getD i false=false;·obtain⟨U,A,T⟩:=SM z;exact⟨U,by omega,T⟩
       ·refine⟨n,by omega,?_,λj B=>?_⟩
        ·have:i=n:=by
          rcases z_ i n with A|A;·exact absurd ⟨i,A,hu⟩ z
          ·omega
         subst this;exact hu
        ·cases M:b.getD j false with|true=>rfl|false=>exact absurd ⟨j,B,M⟩ z
     refine this k ?_;apply v_;intro RW;refine N λi C=>?_;cases M:b.getD i false with|true=>rfl|false=>exact absurd ⟨i,C,M⟩ RW
    have v:=F;simp only[BF,j_,y_,decide_eq_true_eq]at v;have PA:∀i,i<f.length->b.getD i true=b.getD i false:=λi C=>by
     have h4:i<b.size:=by omega
     simp[h4]
    refine⟨λh0=>?_,λi C=>?_⟩;·have:U∈Region.ready .any ops b:=(r b U g).2 ⟨by omega,by rw[PA U (by omega)];exact PB,λl hl e O=>Nd e (v U (by omega) e (by simpa[W_,hl]using O))⟩;rw[h0]at this;cases this
    ·obtain⟨r1,r2,r3⟩:=(r b i g).1 C;rw[PA i r1]at r2;have DA:∀j,((fH [] after).getD i []).contains j=true->j=i\/b.getD j false=true:=λj B=>by
      have:=oO F (S:=λx=>x=i\/b.getD x false=true) (λx l hl Y e O=>by
       rcases Y with rfl|Y;·exact .inr (r3 l hl e O)
       ·exact .inr (qr x l hl Y e O)) i i j (t_ _) (.inl rfl) B (by omega)
      exact this
     have Rg:i<k:=by
      apply v_;intro WD;rcases el U i (by omega) r1 with z|⟨z,_⟩
      ·rcases DA U z with A|A;·omega
       ·rw[PB]at A;cases A
      ·omega
     have ho:ops[i]? =some ops[i]:=m_ (by omega);have R:f[i]? =some f[i]:=a_ r1;have DM:=DE i _ _ (by rw[q_];exact ho) R;have wr:∀j,i<j->j<k->b.getD j false=true->∃y,f[j]? =some y/\Bn f[i] y=true:=λj DP At hl=>by
      rcases el i j DP (by omega)with z|⟨_,x,y,Y,hy,A⟩;·have:=oO F (S:=λx=>b.getD x false=true) (λx l hl Y e O=>qr x l hl Y e O) j j i (t_ _) hl z (by omega);rw[r2]at this;cases this
      ·rw[R]at Y;cases Y;exact⟨y,hy,A⟩
     have gc:∀j,j<i->b.getD j false=false->∃y,f[j]? =some y/\Bn y f[i]=true:=λj rg hl=>by
      rcases el j i rg r1 with z|⟨_,x,y,Y,hy,A⟩
      ·rcases DA j z with T|T;·omega
       ·rw[hl]at T;cases T
      ·rw[R]at hy;cases hy;exact⟨x,Y,A⟩
     have Bk:∀t∈f[i].rd,look (Fx d X st (λj=>b.getD j false) k).fr t=look (Fx d X st (λ_=>true) i).fr t:=by
      intro t ht;rw[nj,nj];have e1:cF (λj=>b.getD j false&&d j==some t) k=cF (λj=>b.getD j false&&d j==some t) i:=sA (by omega) λj B At=>by
       rcases Nat.eq_or_lt_of_le B with rfl|B;·rw[r2];rfl
       ·cases M:b.getD j false with|false=>rfl|true=>obtain⟨y,hy,ph⟩:=wr j B At M;rw[hdj j y hy];cases H:(y.dst==some t)with|false=>rfl|true=>exact absurd ht ((conflict ph).2 (by simpa using H))
      have e2:cF (λj=>b.getD j false&&d j==some t) i=cF (λj=>(λ_=>true) j&&d j==some t) i:=jQ λj B=>by cases M:b.getD j false with|true=>rfl|false=>obtain⟨y,hy,ph⟩:=gc j B M;rw[hdj j y hy];cases H:(y.dst==some t)with|false=>rfl|true=>exact absurd ht ((conflict ph).1 (by simpa using H)).1
      rw[e1,e2]
     have hy:fq P f[i] (Fx d X st (λj=>b.getD j false) k) (X i):=JE (by rw[yk,yk]) Bk (hX i _ Rg R);obtain⟨θ,D,hI⟩:=hr;have:=pp (hp:=λ_ _ h=>h.2.elim λ_ h=>h.1.elim) hI hn DM (nD (KP:=λ_=>False) (K:=λu=>u=(Fx d X st (λj=>b.getD j false) k).putO f[i].dst (X i)) hy rfl) (λa' w'=>wpAny P .any ops Q m (b.setIfInBounds i true) a' w') Q (λa' w' ⟨DH,z,A⟩=>by
      subst z;refine ih _ a' w' (by simpa using g) (λj B hl=>?_) (λj l hl I e O=>?_) ?_ (Rel.congr ?_ (λt=>?_) A)
      ·rw[de g r1]at hl;split at hl;·omega
       ·exact E j B hl
      ·rw[de g r1]at I⊢;split at I
       ·rename_i rg;subst rg;split;·rfl
        ·exact r3 l hl e O
       ·split;·rfl
        ·exact qr j l hl I e O
      ·have RM:∀(l:List Nat),i∈l->(l.filter λj=> !(b.setIfInBounds i true).getD j false).length<(l.filter λj=> !b.getD j false).length:=by
        intro l;have RK:∀(l:List Nat),(l.filter λj=> !(b.setIfInBounds i true).getD j false).length<=(l.filter λj=> !b.getD j false).length:=by
         intro l;induction l with
         |nil=>exact t_ _|cons x l Bx=>
          simp only[ao_,de g r1]at Bx⊢;by_cases L:x=i;·subst L;simp only[if_true,ad_,p_,if_false,r2,av_,A_];omega
          ·simp only[L,if_false];split<;>(try simp only[A_])<;>omega
        induction l with
        |nil=>intro h;cases h|cons x l Bx=>
         intro MT;have JT:=RK l;simp only[ao_,de g r1]at Bx JT⊢;by_cases L:x=i;·subst L;simp only[if_true,ad_,p_,if_false,r2,av_,A_];omega
         ·have RT:i∈l:=by
           rcases J_.1 MT with h|h;·exact absurd h.symm L
           ·exact h
          have:=Bx RT;simp only[L,if_false];split<;>(try simp only[A_])<;>omega
       have:=RM (R_ f.length) (by simpa using r1);omega
      ·cases Th:f[i].dst<;>simp[St.putO,St.put,yk]
      ·rw[eC,nj,nj];by_cases H:f[i].dst=some t
       ·rw[if_pos H];have e1:cF (λj=>(b.setIfInBounds i true).getD j false&&d j==some t) k=cF (λj=>(b.setIfInBounds i true).getD j false&&d j==some t) (i+1):=sA (by omega) λj B At=>by rw[de g r1,if_neg (by omega)];cases M:b.getD j false with|false=>rfl|true=>obtain⟨y,So,ph⟩:=wr j (by omega) At M;rw[hdj j y So];have:=((conflict ph).1 H).2;simpa using this
        rw[e1,cF,de g r1,if_pos rfl,hdj i _ R,H];simp
       ·rw[if_neg H];rw[jQ (p:=λj=>(b.setIfInBounds i true).getD j false&&d j==some t) (q:=λj=>b.getD j false&&d j==some t) λj B=>by
         rw[de g r1];split;·rename_i rg;subst rg;rw[hdj j _ R,r2];simpa using H
         ·rfl])
     unfold wpOp;rw[ho];simp only;split;·rename_i hw;rw[if_pos hw]at this;exact .inl this
     ·rename_i hw;rw[if_neg hw]at this;exact this
 refine wp_region_any hm ?_;have h0:=BT ops.size (w_ ops.size false) a {w with drawn:=w.drawn+1} (by simp[hsz]) (λi C hl=>by simp[hsz,C]at hl) (λi l hl A=>by
  have C:i<ops.size:=by have:=(b_.1 hl).1;omega
  simp[C]at A) (by have:=List.length_filter_le (λi=> !(w_ ops.size false).getD i false) (R_ f.length);simpa[hsz]using this) ?_
 ·exact h0
 ·have:∀j,Fx d X st (λj=>(w_ ops.size false).getD j false) j=st:=by
   intro j;induction j with
   |zero=>rfl|succ j ih=>
    rw[Fx,ih];have:(w_ ops.size false).getD j false=false:=by by_cases B:j<ops.size<;>simp[B]
    rw[this];rfl
  rw[this];obtain⟨θ,D,hI⟩:=hr;exact⟨θ,D,hI.drew⟩
end
theorem Es(v:Value):(bn v).ids=[]:=by unfold bn;split<;>rfl
theorem HE(v:Value):(fM v).ids=[]:=by
 unfold fM;split;·simp only[AV.ids,List.flatMap_map,List.flatMap_eq_nil_iff];intro x _;exact Es x
 ·exact Es _
structure Foot(rd:List Nat)(a b:St):Prop where
 fr:∀k∈rd,∀y,look b.fr k=some y->look a.fr k=some y
 hp:∀k∈rd,∀y,look b.fr k=some y->∀i∈y.ids,∀ob,b.hp[i]? =some ob->a.hp[i]? =some ob
def Ki(y:AV)(h h':List AObj):Prop:=∀i∈y.ids,∀ob,h[i]? =some ob->h'[i]? =some ob
section
variable {P:Program} {rd:List Nat} {a b:St}
theorem Foot.get(h:Foot rd a b){x:SX}(H:∀t∈x.rd,t∈rd){y:AV}(z:b.get x=some y):a.get x=some y/\Ki y b.hp a.hp:=by cases x with|tm k=>exact⟨h.fr k (H k (by simp[SX.rd])) y z,h.hp k (H k (by simp[SX.rd])) y z⟩|c v=>simp only[St.get,h_]at z⊢;subst z;exact⟨rfl,λi E=>by rw[HE]at E;cases E⟩|g n=>simp only[St.get,h_]at z⊢;subst z;exact⟨rfl,λi E=>by cases E⟩|f n=>simp only[St.get,h_]at z⊢;subst z;exact⟨rfl,λi E=>by cases E⟩
theorem Foot.bind(h:Foot rd a b){x:SX}(R:∀t∈x.rd,t∈rd){K z:AV->Prop}(hs:aM (b.get x) K)(N:∀y,Ki y b.hp a.hp->K y->z y):aM (a.get x) z:=by obtain⟨y,E,H⟩:=hs;obtain⟨I,J⟩:=h.get R E;exact⟨y,I,N y J H⟩
theorem Foot.bnd(h:Foot rd a b){x:Option SX}(I:∀t∈(x.map SX.rd).getD [],t∈rd){d:Nat}{K z:Nat->Prop}(hs:bnd b x d K)(E:∀n,K n->z n):bnd a x d z:=by cases x with|none=>exact E _ hs|some x=>exact h.bind (by simpa using I) hs λy _ J=>be J λv H=>bE H λ_ n hn=>⟨hn.1,E _ hn.2⟩
theorem oZ{α β:Type}{f g:α->Option β}:∀{l:List α} {m:List β},(∀x∈l,∀y,f x=some y->g x=some y)->l.mapM f=some m->l.mapM g=some m
 |[],m,_,a=>a
 |x::l,m,h,a=>by simp only[C_,I_,T_,c_,h_]at a⊢;obtain⟨z,b,e,c,rfl⟩:=a;exact⟨z,h x (by simp) _ b,e,oZ (λy d=>h y (by simp[d])) c,rfl⟩
theorem Foot.bindM(h:Foot rd a b){β:Type}{l:List SX}(hl:∀x∈l,∀t∈x.rd,t∈rd){g E:AV->Option β}(hg:∀y z,Ki y b.hp a.hp->g y=some z->E y=some z){K:List β->Prop}(hs:aM (l.mapM λx=>(b.get x).bind g) K):aM (l.mapM λx=>(a.get x).bind E) K:=by obtain⟨ys,R,U⟩:=hs;refine⟨ys,oZ (λx Y y hy=>?_) R,U⟩;obtain⟨u,H,I⟩:=c_.1 hy;obtain⟨J,N⟩:=h.get (hl x Y) H;rw[J];exact hg u y N I
theorem BB{h h':List AObj}{sz:Nat}{y:AV}{K b:List PV->Prop}(c:Ki y h h')(hs:nC h sz y K)(a:∀L,K L->b L):nC h' sz y b:=by
 rcases hs with⟨rfl,hs⟩|⟨L,rfl,hs⟩|⟨id,e,L,rfl,d,hs⟩|⟨L,rfl,hs⟩;·exact .inl ⟨rfl,a _ hs⟩
 ·exact .inr (.inl ⟨L,rfl,a _ hs⟩)
 ·exact .inr (.inr (.inl ⟨id,e,L,rfl,c id (by simp[AV.ids,BV.ids]) _ d,a _ hs⟩))
 ·exact .inr (.inr (.inr ⟨L,rfl,a _ hs⟩))
theorem Ra{h h':List AObj}{y:AV}{K c:Nat->Prop}(d:Ki y h h')(hs:isLen h y K)(a:∀L,K L->c L):isLen h' y c:=by
 rcases hs with⟨rfl,hs⟩|⟨sz,L,rfl,hs⟩|⟨id,e,sz,L,rfl,b,hs⟩|⟨sz,L,rfl,hs⟩|⟨id,e,sz,k,L,hole,rfl,b,hs⟩;·exact .inl ⟨rfl,a _ hs⟩
 ·exact .inr (.inl ⟨sz,L,rfl,a _ hs⟩)
 ·exact .inr (.inr (.inl ⟨id,e,sz,L,rfl,d id (by simp[AV.ids,BV.ids]) _ b,a _ hs⟩))
 ·exact .inr (.inr (.inr (.inl ⟨sz,L,rfl,a _ hs⟩)))
 ·exact .inr (.inr (.inr (.inr ⟨id,e,sz,k,L,hole,rfl,d id (by simp[AV.ids,BV.ids]) _ b,a _ hs⟩)))
theorem Lj{h h':List AObj}{k e:TypeId}{y:AV}{K a:Nat->List (PV×PV)->Prop}(b:Ki y h h')(hs:isMap h k e y K)(c:∀i L,K i L->a i L):isMap h' k e y a:=by obtain⟨id,kvs,rfl,d,hs⟩:=hs;exact⟨id,kvs,rfl,b id (by simp[AV.ids,BV.ids]) _ d,c _ _ hs⟩
theorem Rf{h h':List AObj}{sz:Nat}{ag:Bool}{y:AV}{K c:AV->Prop}(d:Ki y h h')(hs:Cj h sz ag y K)(e:∀L,K L->c L):Cj h' sz ag y c:=by
 have a:=EB hs e;revert a;unfold Cj;split;·exact λh=>h
 ·rename_i id off;rintro⟨o,b,a⟩;exact⟨o,d id (by simp[AV.ids,BV.ids]) _ b,a⟩
 ·rename_i id i off;rintro⟨o,b,a⟩;exact⟨o,d id (by simp[AV.ids,BV.ids]) _ b,a⟩
 ·exact λh=>h
theorem NS{h h':List AObj}{bor:Bool}{y:BV}{p:PV}(b:∀i∈y.ids,∀ob,h[i]? =some ob->h'[i]? =some ob)(hs:za h bor y=some p):za h' bor y=some p:=by
 cases y with
 |sl id=>
  simp only[za]at hs⊢;cases bor;·exact hs
  ·simp only[if_true,J5]at hs⊢;cases a:h[id]? with|none=>rw[a]at hs;cases hs|some ob=>rw[a]at hs;rw[b id (by simp[BV.ids]) _ a];exact hs
 |_=>exact hs
theorem Kv{h h':List AObj}{bor:Bool}{y:AV}{p:PV}(d:Ki y h h')(hs:kF h bor y=some p):kF h' bor y=some p:=by
 cases y with
 |b x=>exact NS (λi a ob c=>d i a ob c) hs|agg xs=>simp only[kF,d_]at hs⊢;obtain⟨j,e,rfl⟩:=hs;refine⟨j,oZ (λx f y g=>NS (λi a ob c=>d i (f_.2 ⟨x,f,a⟩) ob c) g) e,rfl⟩
 |tup xs=>exact hs
theorem Az{s:SOp}{K:AV->Prop}(h:Foot s.rd a b)(hs:jp P b s K):jp P a s K:=by
 cases s<;>simp only[SOp.rd]at h<;>simp only[jp]at hs⊢;case mv=>exact h.bind (λ_ h=>h) hs λ_ _ h=>h
 case pick x y z=>exact h.bind (λt c=>by simp[c]) hs λ_ _ hs=>be hs λ_ hs=>na hs λ_ hs=>⟨λe=>h.bind (λt c=>by simp[c]) (hs.1 e) λ_ _ h=>h,λe=>h.bind (λt c=>by simp[c]) (hs.2 e) λ_ _ h=>h⟩
 case bin=>exact h.bind (λt c=>by simp[c]) hs λ_ _ hs=>h.bind (λt c=>by simp[c]) hs λ_ _ h=>h
 case eqB=>exact h.bind (λt c=>by simp[c]) hs λ_ _ hs=>h.bind (λt c=>by simp[c]) hs λ_ _ h=>h
 case un=>exact h.bind (λ_ h=>h) hs λ_ _ h=>h
 case len str x=>
  refine h.bind (λ_ h=>h) hs λ_ d hs=>?_;cases str;·exact Ra d hs λ_ h=>h
  ·exact hs
 case lenM=>exact h.bind (λ_ h=>h) hs λ_ d hs=>Lj d hs λ_ _ h=>h
 case idxS=>exact h.bind (λt c=>by simp[c]) hs λ_ _ hs=>h.bind (λt c=>by simp[c]) hs λ_ _ h=>h
 case idxV=>exact h.bind (λt c=>by simp[c]) hs λ_ _ hs=>h.bind (λt c=>by simp[c]) hs λ_ _ h=>h
 case idxA=>
  exact h.bind (λt c=>by simp[c]) hs λx d hs=>h.bind (λt c=>by simp[c]) hs λ_ _ hs=>be hs λ_ hs=>bE hs λ_ _ hs=>by
   rcases hs with hs|⟨id,rfl,ob,C,hs⟩;·exact .inl hs
   ·exact .inr ⟨id,rfl,ob,d id (by simp[AV.ids,BV.ids]) _ C,hs⟩
 case idxP=>exact h.bind (λt c=>by simp[c]) hs λ_ _ hs=>h.bind (λt c=>by simp[c]) hs λ_ _ h=>h
 case fldA=>exact h.bind (λ_ h=>h) hs λ_ _ h=>h
 case fld=>exact h.bind (λ_ h=>h) hs λ_ _ h=>h
 case load=>exact h.bind (λ_ h=>h) hs λ_ d hs=>Rf d hs λ_ h=>h
 case cvtI=>exact h.bind (λ_ h=>h) hs λ_ _ h=>h
 case slc sz x lo F mx=>refine h.bind (λt c=>by simp[c]) hs λ_ d hs=>hs.imp (λhs=>ae hs λq ⟨L,l,w⟩=>⟨L,l,h.bnd (λt c=>by simp[c]) w λ_ A=>h.bnd (λt c=>by simp[c]) A λ_ B=>h.bnd (λt c=>by simp[c]) B λ_ h=>h⟩) ?_;rintro⟨id,rfl,ob,C,e,k,L,g,l,w⟩;exact⟨id,rfl,ob,d id (by simp[AV.ids,BV.ids]) _ C,e,k,L,g,l,h.bnd (λt c=>by simp[c]) w λ_ A=>h.bnd (λt c=>by simp[c]) A λ_ B=>h.bnd (λt c=>by simp[c]) B λ_ h=>h⟩
 case slcS x lo F=>exact h.bind (λt c=>by simp[c]) hs λ_ _ hs=>be hs λ_ hs=>oW hs λ_ hs=>h.bnd (λt c=>by simp[c]) hs λ_ hs=>h.bnd (λt c=>by simp[c]) hs λ_ h=>h
 case ext=>exact h.bind (λ_ h=>h) hs λ_ _ h=>h
 case nilc=>exact h.bind (λ_ h=>h) hs λ_ _ h=>h
 case build z v=>obtain⟨ys,n,l⟩:=hs;refine⟨ys,oZ (λq j y r=>?_) n,l⟩;obtain⟨u,D,E⟩:=d_.1 r;rw[(h.get (λt c=>f_.2 ⟨q,j,c⟩) D).1,<-E];rfl
 case call=>exact h.bindM (λq j t c=>f_.2 ⟨q,j,c⟩) (λy z d p=>Kv d p) hs
 case callp=>exact h.bind (λt c=>by simp[c]) hs λ_ _ ⟨f,cs,n,l,hs⟩=>⟨f,cs,n,l,h.bindM (λq j t c=>l_.2 (.inr (f_.2 ⟨q,j,c⟩))) (λy z d p=>Kv d p) hs⟩
 case boxD=>exact h.bind (λ_ h=>h) hs λ_ _ h=>h
 case b2s=>exact h.bind (λ_ h=>h) hs λ_ d hs=>BB d hs λ_ h=>h
 case bslice own e sz len v=>
  cases own;·exact h.bindM (λq j t c=>f_.2 ⟨q,j,c⟩) (λy z _ p=>p) hs
  ·exact hs
 case bsliceN e sz len v=>exact h.bindM (λq j t c=>f_.2 ⟨q,j,c⟩) (λy z _ p=>p) hs
 case mkfn f v=>obtain⟨ys,n,l⟩:=hs;exact⟨ys,oZ (λq j y r=>(h.get (λt c=>f_.2 ⟨q,j,c⟩) r).1) n,l⟩
 case lookup=>exact h.bind (λt c=>by simp[c]) hs λ_ d hs=>h.bind (λt c=>by simp[c]) hs λ_ _ hs=>Lj d hs λ_ _ h=>h
 case eqT=>exact h.bind (λt c=>by simp[c]) hs λ_ _ hs=>h.bind (λt c=>by simp[c]) hs λ_ _ h=>h
 case mnmx mx k x v=>refine h.bind (λt c=>by simp[c]) hs λ_ _ hs=>be hs λ_ hs=>bE hs λ_ _ hs=>?_;obtain⟨ys,n,l⟩:=hs;exact⟨ys,oZ (λq j y r=>(h.get (λt c=>l_.2 (.inr (f_.2 ⟨q,j,c⟩))) r).1) n,l⟩
 case iface=>exact h.bind (λ_ h=>h) hs λ_ _ h=>h
 case appD=>exact h.bind (λt c=>by simp[c]) hs λ_ _ hs=>h.bind (λt c=>by simp[c]) hs λ_ d hs=>BB d hs λ_ h=>h
theorem rB{st:St}{s:SOp}{R j:AObj->(Nat->BV)->Prop}(hs:GG st s R)(a:∀o m,R o m->j o m):GG st s j:=by
 cases s<;>simp only[GG]at hs⊢;case alloc=>exact a _ _ hs
 case box=>exact ae hs λ_ h=>⟨h.1,a _ _ h.2⟩
 case bslice own e sz len n=>
  cases own;·exact hs
  ·exact ae hs λ_ ⟨b,c,d,f,g⟩=>⟨b,c,d,f,a _ _ g⟩
 case mslice=>exact ae hs λ_ hs=>ae hs λ_ hs=>be hs λ_ hs=>be hs λ_ hs=>bE hs λ_ _ hs=>bE hs λ_ _ ⟨b,c,d,f,g,k,l⟩=>⟨b,c,d,f,g,k,ae l λ_ h=>⟨h.1,a _ _ h.2⟩⟩
 case append=>exact ae hs λ_ hs=>ae hs λ_ hs=>fc hs λ_ ⟨b,c,d,f⟩=>⟨b,c,d,a _ _ f⟩
 case mkmap=>exact a _ _ hs
theorem LP{s:SOp}{R:AObj->(Nat->BV)->Prop}(h:Foot s.rd a b)(hs:GG b s R):GG a s R:=by
 cases s<;>simp only[SOp.rd]at h<;>simp only[GG]at hs⊢;case alloc=>exact hs
 case box=>exact h.bind (λ_ h=>h) hs λ_ _ h=>h
 case bslice own e sz len j=>
  cases own;·exact hs
  ·exact h.bindM (λq f t c=>f_.2 ⟨q,f,c⟩) (λy z _ g=>g) hs
 case mslice=>exact h.bind (λt c=>by simp[c]) hs λ_ _ hs=>h.bind (λt c=>by simp[c]) hs λ_ _ h=>h
 case append=>exact h.bind (λt c=>by simp[c]) hs λ_ _ hs=>h.bind (λt c=>by simp[c]) hs λ_ d hs=>BB d hs λ_ h=>h
 case mkmap=>exact hs
theorem L4{o:SOper}{x:AV}(h:Foot o.rd a b)(hs:fq P o b x):fq P o a x:=by
 have hr:Foot o.op.rd a b:=⟨λk c=>h.fr k (by simp[SOper.rd,c]),λk c=>h.hp k (by simp[SOper.rd,c])⟩;unfold fq at hs⊢;split at hs;·rename_i hg;exact Az hr hs
 ·rename_i t want hg;obtain⟨g,d,v,rfl,f,j⟩:=hs;exact⟨_,h.fr t (by simp[SOper.rd,hg]) _ d,v,rfl,λe=>Az hr (f e),j⟩
theorem L3{hp:List AObj}{sz:Nat}{a v:AV}{K y:List AObj->Prop}(h:BS hp sz a v K)(u:∀x,K x->y x):BS hp sz a v y:=by
 unfold BS at h⊢;split at h;·exact ae h λ_ ⟨t,cs,j,l,n,p,c⟩=>⟨t,cs,j,l,n,p,u _ c⟩
 ·refine ae h λ_ h=>h.imp (fun⟨e,s,xs,j,l,n⟩=>⟨e,s,xs,j,l,ae n λ_ ⟨p,c,r⟩=>⟨p,c,?_⟩⟩) fun⟨e,s,k,xs,A,j,l,n,p⟩=>⟨e,s,k,xs,A,j,l,n,p.imp (fun⟨c,r,d⟩=>⟨c,r,ae d λ_ ⟨f,g,w⟩=>⟨f,g,u _ w⟩⟩) fun⟨b,z,c,r,d,f,g⟩=>⟨b,z,c,r,d,f,u _ g⟩⟩;rcases r with⟨d,f,g⟩|⟨d,f,g⟩;·exact .inl ⟨d,f,u _ g⟩
  ·exact .inr ⟨d,f,u _ g⟩
 ·exact h
theorem DO{st:St}{d:Option Nat}{bor:Bool}{B:List Nat}{f:FuncId}{ars:List AV}{os:List AObj}{K e KP b:St->Prop}(h:sexec.callK P st d bor B f ars os K KP)(n:∀x,K x->e x)(c:∀x,KP x->b x):sexec.callK P st d bor B f ars os e b:=by
 obtain⟨g,j,k,l⟩:=h;refine⟨g,j,k,l.mono λo a=>?_⟩
 match o,a with|some (_,_),a=>exact⟨a.1,n _ a.2⟩|none,a=>exact c _ a
theorem mh{d:Option Nat}{op:SOp}{st:St}{K v KP u:St->Prop}(h:sexec P d op st K KP)(j:∀x,K x->v x)(s:∀x,KP x->u x):sexec P d op st v u:=by
 have r:(jp P st op λa=>K (st.putO d a))->jp P st op λa=>v (st.putO d a):=λh=>AA h λ_ h=>j _ h;cases op<;>simp only[sexec]at h⊢<;>try exact r h
 case store=>exact ae h λ_ h=>ae h λ_ h=>⟨h.1,L3 h.2 λ_ h=>j _ h⟩
 case alloc=>exact j _ h
 case box=>exact ae h λ_ h=>⟨h.1,j _ h.2⟩
 case bslice own e sz len y=>
  cases own;·exact r h
  ·exact ae h λ_ ⟨k,l,b,c,g⟩=>⟨k,l,b,c,j _ g⟩
 case mslice=>exact ae h λ_ h=>ae h λ_ h=>be h λ_ h=>be h λ_ h=>bE h λ_ _ h=>bE h λ_ _ ⟨k,l,b,c,g,n,p⟩=>⟨k,l,b,c,g,n,ae p λ_ h=>⟨h.1,j _ h.2⟩⟩
 case append=>
  refine ae h λ_ h=>ae h λ_ h=>fc h λ_ ⟨k,l⟩=>⟨k,?_⟩;rcases l with⟨id,b,c⟩|⟨b,c,g⟩;·exact .inl ⟨id,b,ae c λ_ ⟨xs,g,n,p⟩=>⟨xs,g,n,j _ p⟩⟩
  ·exact .inr ⟨b,c,j _ g⟩
 case msliceT=>exact ae h λ_ h=>ae h λ_ h=>be h λ_ h=>be h λ_ h=>bE h λ_ _ h=>bE h λ_ _ ⟨k,l,b,c,g,n,p⟩=>⟨k,l,b,c,g,n,ae p λ_ h=>⟨h.1,h.2.1,j _ h.2.2⟩⟩
 case appT=>
  refine ae h λ_ h=>ae h λ_ h=>fc h λ_ ⟨k,l⟩=>⟨k,?_⟩;rcases l with⟨id,b,c⟩|⟨b,c,g⟩;·exact .inl ⟨id,b,ae c λ_ ⟨xs,g,n,p⟩=>⟨xs,g,n,j _ p⟩⟩
  ·exact .inr ⟨b,c,j _ g⟩
 case callA=>exact ae h λ_ h=>ae h λ_ h=>DO h j s
 case callv=>exact ae h λ_ ⟨f,caps,k,l,b⟩=>⟨f,caps,k,l,ae b λ_ h=>ae h λ_ h=>DO h j s⟩
 case mkmap=>exact j _ h
 case mapset=>exact ae h λ_ h=>ae h λ_ h=>ae h λ_ h=>x8 h λ_ _ h=>ae h λ_ h=>ae h λ_ ⟨k,l,b,c,g,n⟩=>⟨k,l,b,c,g,ae n λ_ ⟨p,w⟩=>⟨p,j _ w⟩⟩
 case copy=>exact ae h λ_ h=>ae h λ_ h=>fc h λ_ ⟨k,id,l,b,c⟩=>⟨k,id,l,b,ae c λ_ ⟨xs,g,n⟩=>⟨xs,g,j _ n⟩⟩
 case panic=>exact ae h λ_ h=>⟨h.1,s _ h.2⟩
 case atq =>exact rB h λ_ _ h=>⟨h.1,j _ h.2⟩
theorem sI{o:SOper}{st:St}{K d KP a:St->Prop}(h:iF P o st K KP)(c:∀x,K x->d x)(b:∀x,KP x->a x):iF P o st d a:=by
 unfold iF at h⊢;split at h;·exact mh h c b
 ·exact ae h λ_ h=>be h λ_ h=>⟨λe=>mh (h.1 e) c b,λe=>c _ (h.2 e)⟩
end
theorem sB{α:Type}{f:α->α}:∀{l:List α},(∀x∈l,f x=x)->l.map f=l
 |[],_=>rfl
 |x::l,h=>by rw[B_,h x (by simp),sB λy a=>h y (by simp[a])]
def BV.kids:BV->List Nat
 | .sl id=>[id]
 | .elt id _ _=>[id]
 |_=>[]
def AV.kids:AV->List Nat
 | .b x=>x.kids
 | .agg xs=>xs.flatMap BV.kids
 | .tup xs=>xs.flatMap BV.kids
def AObj.kids:AObj->List Nat
 | .box _ cs=>cs.flatMap BV.kids
 | .tree _ _ _ _ (some (_,_,b))=>b.kids
 |_=>[]
theorem BV.kids_ids{x:BV}{i:Nat}(h:i∈x.kids):i∈x.ids:=by cases x<;>first|exact h|cases h
theorem AV.kids_ids{x:AV}{i:Nat}(h:i∈x.kids):i∈x.ids:=by
 have z:∀xs:List BV,i∈xs.flatMap BV.kids->i∈xs.flatMap BV.ids:=λxs h=>by obtain⟨y,H,E⟩:=f_.1 h;exact f_.2 ⟨y,H,BV.kids_ids E⟩
 cases x with|b x=>exact BV.kids_ids h|agg xs=>exact z xs h|tup xs=>exact z xs h
theorem BV.kill_off{id:Nat}{x:BV}(h:id∉x.kids):x.kill id=x:=by
 cases x<;>simp only[BV.kill]<;>simp only[BV.kids,List.mem_singleton]at h;·rw[if_neg (λe=>h e.symm)]
 ·rw[if_neg (λe=>h e.symm)]
theorem AV.kill_off{id:Nat}{x:AV}(h:id∉x.kids):x.kill id=x:=by cases x with|b x=>simp only[AV.kill,BV.kill_off h]|agg xs=>simp only[AV.kill,AV.agg.injEq];exact sB (λy E=>BV.kill_off λz=>h (f_.2 ⟨y,E,z⟩))|tup xs=>simp only[AV.kill,AV.tup.injEq];exact sB (λy E=>BV.kill_off λz=>h (f_.2 ⟨y,E,z⟩))
theorem AObj.kill_off{id:Nat}{o:AObj}(h:id∉o.kids):o.kill id=o:=by
 cases o<;>simp only[AObj.kill];case tree e sz k xs hole=>cases hole with|none=>rfl|some q=>obtain⟨i,j,b⟩:=q;simp only[Jo,BV.kill_off (show id∉b.kids from h)]
 simp only[AObj.box.injEq,true_and];exact sB (λy E=>BV.kill_off λz=>h (f_.2 ⟨y,E,z⟩))
theorem BV.killB_off{B:List Nat}{x:BV}(h:∀i∈x.kids,i∉B):x.killB B=x:=by
 cases x<;>simp only[BV.killB];·rename_i k;have:=h k (by simp[BV.kids]);simp[this]
 ·rename_i k i o;have:=h k (by simp[BV.kids]);simp[this]
theorem AV.killB_off{B:List Nat}{x:AV}(h:∀i∈x.kids,i∉B):x.killB B=x:=by cases x with|b x=>simp only[AV.killB,BV.killB_off h]|agg xs=>simp only[AV.killB,AV.agg.injEq];exact sB (λy E=>BV.killB_off λi z=>h i (f_.2 ⟨y,E,z⟩))|tup xs=>simp only[AV.killB,AV.tup.injEq];exact sB (λy E=>BV.killB_off λi z=>h i (f_.2 ⟨y,E,z⟩))
theorem AObj.killB_off{B:List Nat}{o:AObj}(h:∀i∈o.kids,i∉B):o.killB B=o:=by
 cases o<;>simp only[AObj.killB];case tree e sz k xs hole=>cases hole with|none=>rfl|some q=>obtain⟨i,j,b⟩:=q;simp only[Jo,BV.killB_off (show ∀i∈b.kids,i∉B from h)]
 simp only[AObj.box.injEq,true_and];exact sB (λy E=>BV.killB_off λi z=>h i (f_.2 ⟨y,E,z⟩))
def SOp.lent:SOp->List Nat
 | .callA _ B _ _=>B
 | .callv _ B _ _=>B
 | .atq s op=>s::op.lent
 |_=>[]
def touch(st:St)(o:SOper):List Nat:=(o.rd.flatMap λk=>match look st.fr k with|some a=>a.ids|none=>[])++o.op.lent
def Over(d:Option Nat)(x:AV)(st st1:St):Prop:=st1.hp=st.hp/\∀t,look st1.fr t=if d=some t then some x else look st.fr t
structure Conf(T:List Nat)(d:Option Nat)(st st':St):Prop where
 fr:∀t,d≠some t->(∀y,look st.fr t=some y->∀i∈y.kids,i∉T)->look st'.fr t=look st.fr t
 hp:∀i ob,st.hp[i]? =some ob->i∉T->(∀j∈ob.kids,j∉T)->st'.hp[i]? =some ob
def KO(T:List Nat)(e:Option Nat)(d:Option Nat)(x:AV)(st:St)(K:St->Prop):St->Prop:=λb=>Conf T e st b/\∃a,Over d x b a/\K a
section
variable {P:Program} {T:List Nat} {e d:Option Nat} {x:AV} {st st1:St} {K:St->Prop} {KP:Prop}
theorem EG(hO:Over d x st st1)(hd:∀t,d=some t->e≠some t)(y:AV):Over d x (st.putO e y) (st1.putO e y):=by
 refine⟨by cases e<;>exact hO.1,λt=>?_⟩;rw[eC,eC,hO.2];by_cases a:e=some t;·rw[if_pos a,if_pos a,if_neg (λb=>hd t b a)]
 ·rw[if_neg a,if_neg a]
theorem NQ(hO:Over d x st st1)(hd:∀t,d=some t->e≠some t){h':List AObj}{y:AV}(hc:∀i ob,st.hp[i]? =some ob->i∉T->(∀j∈ob.kids,j∉T)->h'[i]? =some ob) (f:K (St.putO {st1 with hp:=h'} e y)):KO T e d x st K (St.putO {st with hp:=h'} e y):=by
 refine⟨⟨λt g _=>?_,λi ob c a b=>?_⟩,_,EG (st:={st with hp:=h'}) (st1:={st1 with hp:=h'}) ⟨rfl,hO.2⟩ hd y,f⟩;·rw[eC,if_neg g]
 ·have:(St.putO {st with hp:=h'} e y).hp=h':=by cases e<;>rfl
  rw[this];exact hc i ob c a b
theorem Kj(hO:Over d x st st1)(hd:∀t,d=some t->e≠some t){id:Nat}{o:AObj}{y:AV}(a:id∈T)(n:∀i∈x.kids,i∉T)(k:K ((st1.moved id o).putO e y)):KO T e d x st K ((st.moved id o).putO e y):=by
 have g:∀s:St,((s.moved id o).putO e y).hp=(s.hp.map (AObj.kill id)).set id o:=λs=>by cases e<;>rfl
 refine⟨⟨λt l p=>?_,λi ob j c f=>?_⟩,_,EG (st:=st.moved id o) (st1:=st1.moved id o) ⟨by simp only[St.moved,hO.1],λt=>?_⟩ hd y,k⟩;·rw[eC,if_neg l];simp only[St.moved,ni];cases hl:look st.fr t with|none=>rfl|some z=>simp only[x_,AV.kill_off λh=>p z hl id h a]
 ·rw[g,i_ (λb=>c (by rw[<-b];exact a)),H_,j];simp only[x_,AObj.kill_off λh=>f id h a]
 ·simp only[St.moved,ni,hO.2];by_cases h:d=some t;·rw[if_pos h,if_pos h];simp only[x_,AV.kill_off λh=>n id h a]
  ·rw[if_neg h,if_neg h]
theorem MA{B:List Nat}{hp os:List AObj}{i:Nat}{ob:AObj}(b:hp[i]? =some ob)(c:i∉B):(uk B hp os)[i]? =some (ob.killB B):=by unfold uk;have a:i<hp.length:=(b_.1 b).1;rw[k_ (by simpa using a),List.getElem?_mapIdx,b];simp[c]
theorem SQ(hO:Over d x st st1)(hd:∀t,d=some t->e≠some t){B:List Nat}{os:List AObj}{y:AV}(c:∀i∈B,i∈T)(r:∀i∈x.kids,i∉T)(n:K ((st1.back B os).putO e y)):KO T e d x st K ((st.back B os).putO e y):=by
 have k:∀s:St,((s.back B os).putO e y).hp=uk B s.hp os:=λs=>by cases e<;>rfl
 refine⟨⟨λt p u=>?_,λi ob b f g=>?_⟩,_,EG (st:=st.back B os) (st1:=st1.back B os) ⟨by simp only[St.back,hO.1],λt=>?_⟩ hd y,n⟩;·rw[eC,if_neg p];simp only[St.back,ni];cases hl:look st.fr t with|none=>rfl|some z=>simp only[x_,AV.killB_off λi b a=>u z hl i b (c i a)]
 ·rw[k,MA b (λa=>f (c i a)),AObj.killB_off λj l a=>g j l (c j a)]
 ·simp only[St.back,ni,hO.2];by_cases h:d=some t;·rw[if_pos h,if_pos h];simp only[x_,AV.killB_off λi b a=>r i b (c i a)]
  ·rw[if_neg h,if_neg h]
theorem oz{op:SOp}{st:St}{b:St->Prop}(hs:jp P st op λa=>K (st.putO e a)):sexec P e op st K b:=by unfold sexec;split<;>first|exact hs|exact hs.elim
theorem Np{op:SOp}(hO:Over d x st st1)(At:∀t,d=some t->t∉op.rd)(hd:∀t,d=some t->e≠some t)(hT:∀t∈op.rd,∀y,look st.fr t=some y->∀i∈y.ids,i∈T)(qr:∀i∈op.lent,i∈T) (hx:∀i∈x.kids,i∉T) (h:sexec P e op st1 K λ_=>KP):sexec P e op st (KO T e d x st K) (λ_=>KP):=by
 have hl:∀t∈op.rd,look st1.fr t=look st.fr t:=λt w=>by rw[hO.2,if_neg λh=>At t h w]
 have hF:Foot op.rd st st1:=⟨λk j y hy=>by rw[<-hl k j];exact hy,λk j y hy i F ob O=>by rw[<-hO.1];exact O⟩;have hg:∀q:SX,(∀t∈q.rd,t∈op.rd)->st1.get q=st.get q:=λq z=>aQ λt w=>hl t (z t w);have hid:∀(q:SX) (y:AV),(∀t∈q.rd,t∈op.rd)->st.get q=some y->∀i∈y.ids,i∈T:=λq y z hy=>by cases q with|tm k=>exact hT k (z k (by simp[SX.rd])) y hy|c v=>simp only[St.get,h_]at hy;subst hy;intro i F;rw[HE]at F;cases F|g n=>simp only[St.get,h_]at hy;subst hy;intro i F;cases F|f n=>simp only[St.get,h_]at hy;subst hy;intro i F;cases F
 have gc:jp P st1 op (λa=>K (st1.putO e a))->sexec P e op st (KO T e d x st K) (λ_=>KP):=λhs=>oz (AA (Az hF hs) λa ha=>NQ (h':=st.hp) hO hd (λi ob F _ _=>F) (by rw[<-hO.1];exact ha));have H:∀(o:AObj) (y:AV),K (St.putO {st1 with hp:=st1.hp++[o]} e y)->KO T e d x st K (St.putO {st with hp:=st.hp++[o]} e y):=λo y j=>NQ hO hd (λi ob F _ _=>get_append F) (by rw[<-hO.1];exact j);have D:∀(id:Nat) (o:AObj) (y:AV),id∈T->K (St.putO {st1 with hp:=st1.hp.set id o} e y)->KO T e d x st K (St.putO {st with hp:=st.hp.set id o} e y):=λid o y hid j=>NQ hO hd (λi ob F A _=>by rw[i_ λe'=>A (by rw[<-e'];exact hid)];exact F) (by rw[<-hO.1];exact j);have Y:∀(bor:Bool) (B:List Nat) (l:List SX),(∀q∈l,∀t∈q.rd,t∈op.rd)->(l.mapM λx=>(st1.get x).bind (s8 st1.hp bor B))=(l.mapM λx=>(st.get x).bind (s8 st.hp bor B)):=λbor B l hl=>by rw[hO.1];exact eb λq z=>by rw[hg q (hl q z)]
 have el:∀(bor:Bool) (B:List Nat) (f:FuncId) (ars:List AV) (os:List AObj),(∀i∈B,i∈T)->sexec.callK P st1 e bor B f ars os K (λ_=>KP)->sexec.callK P st e bor B f ars os (KO T e d x st K) (λ_=>KP):=λbor B f ars os hB ⟨A,C,I,J⟩=>by refine⟨A,C,I,J.mono λo O=>?_⟩;cases o with|none=>exact O|some r=>refine⟨O.1,SQ hO hd hB hx ?_⟩;have:=O.2;rw[hO.1]at this;exact this
 cases op with
 |store sz q v=>
  obtain⟨E,z,N,Q,he,hs⟩:=h;have Bk:=z;rw[hg q (λt w=>by simp[SOp.rd,w])]at z;rw[hg v (λt w=>by simp[SOp.rd,w])]at Q;have M:=hid q E (λt w=>by simp[SOp.rd,w]) z;refine⟨E,z,N,Q,he,?_⟩;subst he;rw[hO.1]at hs;revert hs;unfold BS;split;·rename_i id off;rintro⟨o,A,t,cs,C,I,J,R,j⟩;have:=D id (.box t (splice cs off N.cells)) N (M id (by simp[AV.ids,BV.ids])) (by rw[hO.1];exact j);exact⟨o,A,t,cs,C,I,J,R,this⟩
  ·rename_i id i off;have F:=M id (by simp[AV.ids,BV.ids]);rintro⟨o,A,⟨t,s,xs,C,I,p,J,R,h6,j⟩|⟨t,s,k,xs,O,C,I,J,j⟩⟩
   ·refine⟨o,A,.inl ⟨t,s,xs,C,I,p,J,R,h6,?_⟩⟩;rcases j with⟨U,h8,j⟩|⟨U,h8,j⟩;·exact .inl ⟨U,h8,D id _ N F (by rw[hO.1];exact j)⟩
    ·exact .inr ⟨U,h8,D id _ N F (by rw[hO.1];exact j)⟩
   ·refine⟨o,A,.inr ⟨t,s,k,xs,O,C,I,J,?_⟩⟩;rcases j with⟨R,h6,p,U,h8,h9,j⟩|⟨b,b',R,h6,U,h8,j⟩;·exact .inl ⟨R,h6,p,U,h8,h9,D id _ N F (by rw[hO.1];exact j)⟩
    ·exact .inr ⟨b,b',R,h6,U,h8,D id _ N F (by rw[hO.1];exact j)⟩
  ·exact λh=>h
 |alloc t zero=>exact H _ _ (by have:=h;simp only[sexec,hO.1]at this⊢;exact this)|box t q=>obtain⟨E,z,A,j⟩:=h;rw[hg q (λt w=>by simp[SOp.rd,w])]at z;exact⟨E,z,A,H _ _ (by rw[hO.1]at j⊢;exact j)⟩
 |bslice own t sz len ps=>cases own with|false=>exact gc h|true=>obtain⟨qs,z,A,C,I,J,j⟩:=h;rw[eb (g:=λx=>(st.get x).bind AV.toPV) λq z=>by rw[hg q (λt w=>f_.2 ⟨q,z,w⟩)]]at z;exact⟨qs,z,A,C,I,J,H _ _ (by rw[hO.1]at j⊢;exact j)⟩
 |mslice t sz ph zero l c=>obtain⟨al,z,ac,hc,j⟩:=h;rw[hg l (λt w=>by simp[SOp.rd,w])]at z;rw[hg c (λt w=>by simp[SOp.rd,w])]at hc;exact⟨al,z,ac,hc,be j λ_ j=>be j λ_ j=>bE j λ_ _ j=>bE j λ_ _ ⟨A,C,I,J,R,h6,U⟩=>⟨A,C,I,J,R,h6,ae U λ_ h=>⟨h.1,H _ _ (by have:=h.2;rw[hO.1]at this⊢;exact this)⟩⟩⟩
 |append t sz ph q v=>
  obtain⟨E,z,N,Q,hs⟩:=h;rw[hg q (λt w=>by simp[SOp.rd,w])]at z;rw[hg v (λt w=>by simp[SOp.rd,w])]at Q;have M:=hid q E (λt w=>by simp[SOp.rd,w]) z;refine⟨E,z,N,Q,?_⟩;rw[hO.1]at hs;refine fc hs λL hs=>⟨hs.1,?_⟩;rcases hs.2 with⟨id,rfl,o,O,xs,rfl,A,j⟩|⟨A,C,j⟩;·exact .inl ⟨id,rfl,_,O,xs,rfl,A,Kj hO hd (M id (by simp[AV.ids,BV.ids])) hx j⟩
  ·exact .inr ⟨A,C,H _ _ (by rw[hO.1];exact j)⟩
 |msliceT kk t sz ph zero l c=>obtain⟨al,z,ac,hc,j⟩:=h;rw[hg l (λt w=>by simp[SOp.rd,w])]at z;rw[hg c (λt w=>by simp[SOp.rd,w])]at hc;exact⟨al,z,ac,hc,be j λ_ j=>be j λ_ j=>bE j λ_ _ j=>bE j λ_ _ ⟨A,C,I,J,R,h6,U⟩=>⟨A,C,I,J,R,h6,ae U λ_ h=>⟨h.1,h.2.1,H _ _ (by have:=h.2.2;rw[hO.1]at this⊢;exact this)⟩⟩⟩
 |appT kk t sz ph q v=>
  obtain⟨E,z,N,Q,hs⟩:=h;rw[hg q (λt w=>by simp[SOp.rd,w])]at z;rw[hg v (λt w=>by simp[SOp.rd,w])]at Q;have M:=hid q E (λt w=>by simp[SOp.rd,w]) z;refine⟨E,z,N,Q,?_⟩;rw[hO.1]at hs;refine fc hs λL hs=>⟨hs.1,?_⟩;rcases hs.2 with⟨id,rfl,o,O,xs,rfl,A,j⟩|⟨A,C,j⟩;·exact .inl ⟨id,rfl,_,O,xs,rfl,A,Kj hO hd (M id (by simp[AV.ids,BV.ids])) hx j⟩
  ·exact .inr ⟨A,C,H _ _ (by rw[hO.1];exact j)⟩
 |callA bor B f args=>obtain⟨ars,A,os,C,j⟩:=h;rw[Y bor B args (λq z t w=>f_.2 ⟨q,z,w⟩)]at A;rw[hO.1]at C;exact⟨ars,A,os,C,el bor B f ars os qr j⟩
 |callv bor B q args=>obtain⟨E,z,f,caps,h0,rg,ars,A,os,C,j⟩:=h;rw[hg q (λt w=>by simp[SOp.rd,w])]at z;rw[Y bor B args (λq z t w=>l_.2 (.inr (f_.2 ⟨q,z,w⟩)))]at A;rw[hO.1]at C;exact⟨E,z,f,caps,h0,rg,ars,A,os,C,el bor B f _ os qr j⟩
 |mkmap k t=>exact H _ _ (by have:=h;simp only[sexec,hO.1]at this⊢;exact this)|mapset k t m q v=>obtain⟨am,hm,E,z,N,Q,hs⟩:=h;rw[hg m (λt w=>by simp[SOp.rd,w])]at hm;rw[hg q (λt w=>by simp[SOp.rd,w])]at z;rw[hg v (λt w=>by simp[SOp.rd,w])]at Q;have wr:=hid m am (λt w=>by simp[SOp.rd,w]) hm;refine⟨am,hm,E,z,N,Q,?_⟩;rw[hO.1]at hs;obtain⟨id,kvs,rfl,O,p,A,r,C,he,I,J,R,h6,u,U,h8,j⟩:=hs;refine⟨id,kvs,rfl,O,p,A,r,C,he,I,J,R,h6,u,U,h8,?_⟩;subst he;exact D id _ N (wr id (by simp[AV.ids,BV.ids])) (by rw[hO.1];exact j)
 |copy t sz q v=>obtain⟨E,z,N,Q,hs⟩:=h;rw[hg q (λt w=>by simp[SOp.rd,w])]at z;rw[hg v (λt w=>by simp[SOp.rd,w])]at Q;have M:=hid q E (λt w=>by simp[SOp.rd,w]) z;refine⟨E,z,N,Q,?_⟩;rw[hO.1]at hs;refine fc hs λL ⟨A,id,C,I,o,O,xs,J,j⟩=>?_;subst C;exact⟨A,id,rfl,I,o,O,xs,J,D id _ _ (M id (by simp[AV.ids,BV.ids])) (by rw[hO.1];exact j)⟩
 |panic q=>obtain⟨E,z,A,j⟩:=h;rw[hg q (λt w=>by simp[SOp.rd,w])]at z;exact⟨E,z,A,j⟩
 | atq s q=>
  have ur:Foot q.rd st st1:=hF;have h':GG st1 q λo m=>Ai st1 (some s)/\K ((st1.new (some s) o).putO e (.b (m s))):=h;show GG st q λo m=>Ai st (some s)/\KO T e d x st K ((st.new (some s) o).putO e (.b (m s)));refine rB (LP ur h') λo m ⟨A,j⟩=>⟨?_,?_⟩;·simp only[Ai]at A⊢;rw[<-hO.1];exact A
  ·exact D s o _ (qr s (by simp[SOp.lent])) j
 |_=>exact gc h
end
structure Eff where
 x:AV
 slot:Option (Nat×AObj)
def St.app(st:St)(d:Option Nat)(E:Eff):St:=St.putO ⟨st.fr,match E.slot with|none=>st.hp|some (s,ob)=>st.hp.set s ob⟩ d E.x
def tM(P:Program)(o:SOper)(st:St)(E:Eff):Prop:=match E.slot with
 |none=>fq P o st E.x
 |some (s,ob)=>o.gd=none/\∃q,o.op= .atq s q/\GG st q λa mk=>a=ob/\E.x= .b (mk s)/\st.hp[s]? =some .free
def Eqs(a b:St):Prop:=a.hp=b.hp/\∀t,look a.fr t=look b.fr t
theorem Eqs.refl(a:St):Eqs a a:=⟨rfl,λ_=>rfl⟩
theorem Eqs.symm{a b:St}(h:Eqs a b):Eqs b a:=⟨h.1.symm,λt=>(h.2 t).symm⟩
theorem Eqs.trans{a b c:St}(h:Eqs a b)(k:Eqs b c):Eqs a c:=⟨h.1.trans k.1,λt=>(h.2 t).trans (k.2 t)⟩
def comm(r:Rec)(T:List Nat)(o:SOper)(b:Bool):Prop:=
 (∀t,r.d=some t->t∉o.rd/\o.dst≠some t)/\(∀t,o.dst=some t->t∉r.rd)/\(∀s,r.s=some s->s∉T)/\(b=true->∀s∈o.op.lent,s∉r.F)/\(b=false->r.s=none/\∀i∈T,i∉r.G)
def SOp.hf:SOp->Bool
 | .mv _=>true
 |_=>false
def dj(st:St)(o:SOper):List Nat:=if o.op.hf=true/\o.gd=none then []else touch st o
def Us(F:List Nat)(st:St)(o:SOper)(E:Eff):Prop:=
 (∀i∈dj st o,i∈F/\∃ob,st.hp[i]? =some ob/\∀j∈ob.kids,j∈F)/\∀i∈E.x.kids,i∈F
def Wb(G:List Nat)(st:St)(o:SOper)(E:Eff):Prop:=(∀i∈E.x.kids,i∈G)/\∀t∈o.rd,∀y,look st.fr t=some y->∀i∈y.kids,i∈G
def Wd(P:Program)(S:List AObj->Prop)(F:List Nat)(st:St)(o:SOper)(E:Eff):Prop:=∀a:St,S a.hp->(∀t∈o.rd,look a.fr t=look st.fr t)->tM P o a E/\Us F a o E
def Qx(un:Nat->Nat->Bool)(R:List (Rec×(List AObj->Prop)))(j:Nat)(T:List Nat)(hp:List AObj):Prop:=∀r∈R,un r.1.i j=true->(∀i∈T,i∉r.1.F)\/r.2 hp
def sH(P:Program)(un:Nat->Nat->Bool)(K:St->Prop)(KP:Prop):List (Rec×(List AObj->Prop))->List (Nat×Bool×SOper)->St->Prop
 |_,[],st=>∃b,Eqs b st/\K b
 |R,(j,true,o)::l,st=>(∀r∈R,un r.1.i j=true->comm r.1 (dj st o) o true)/\∃E F G S,tM P o st E/\Us F st o E/\Wb G st o E/\Wd P S F st o E/\sH P un K KP (R++[(⟨j,o.dst,o.rd,E.slot.map (·.1),F,G⟩,S)]) l (st.app o.dst E)
 |R,(j,false,o)::l,st=>(∀r∈R,un r.1.i j=true->comm r.1 (touch st o) o false)/\iF P o st (λa=>Qx un R j (touch st o) a.hp/\sH P un K KP R l a) λ_=>KP
section
variable {P:Program} {un:Nat->Nat->Bool} {K:St->Prop} {KP:Prop}
theorem uR{α β:Type}{f g:α->List β}:∀{l:List α},(∀x∈l,f x=g x)->l.flatMap f=l.flatMap g
 |[],_=>rfl
 |x::l,h=>by rw[aE_,aE_,h x (by simp),uR λy a=>h y (by simp[a])]
theorem Ff{a b:St}{o:SOper}(h:∀t∈o.rd,look a.fr t=look b.fr t):touch a o=touch b o:=by unfold touch;congr 1;exact uR λk c=>by rw[h k c]
theorem rE{a b:St}{o:SOper}(h:∀t∈o.rd,look a.fr t=look b.fr t):dj a o=dj b o:=by unfold dj;rw[Ff h]
theorem Me{st:St}{o:SOper}{t:Nat}{y:AV}{i:Nat}(b:t∈o.rd)(c:look st.fr t=some y)(a:i∈y.ids):i∈touch st o:=l_.2 (.inl (f_.2 ⟨t,b,by rw[c];exact a⟩))
theorem yn{st:St}{o:SOper}{i:Nat}(a:i∈o.op.lent):i∈touch st o:=l_.2 (.inr a)
theorem jz(st:St)(d:Option Nat)(E:Eff)(t:Nat):look (st.app d E).fr t=if d=some t then some E.x else look st.fr t:=eC _ _ _ _
theorem sw(st:St)(d:Option Nat)(E:Eff):(st.app d E).hp=match E.slot with|none=>st.hp|some (s,ob)=>st.hp.set s ob:=by unfold St.app;cases d<;>rfl
theorem vR{st:St}{d:Option Nat}{E:Eff}{i:Nat}(h:∀s,E.slot.map (·.1)=some s->i≠s):(st.app d E).hp[i]? =st.hp[i]? :=by rw[sw];cases hs:E.slot with|none=>rfl|some q=>simp only;rw[i_ (λe=>h q.1 (by rw[hs];rfl) e.symm)]
theorem E0{o:SOper}{T:List Nat}{d:Option Nat}{x:AV}{st st1:St}(hO:Over d x st st1)(a:∀t,d=some t->t∉o.rd/\o.dst≠some t)(f:∀i∈touch st o,i∈T)(n:∀i∈x.kids,i∉T) (h:iF P o st1 K λ_=>KP):iF P o st (KO T o.dst d x st K) (λ_=>KP):=by
 have ex:sexec P o.dst o.op st1 K (λ_=>KP)->sexec P o.dst o.op st (KO T o.dst d x st K) (λ_=>KP):=λh=>Np hO (λt b hr=>(a t b).1 (by simp[SOper.rd,hr])) (λt b=>(a t b).2) (λt b y p i c=>f i (Me (by simp[SOper.rd,b]) p c)) (λi c=>f i (yn c)) n h;unfold iF at h⊢;split at h;·exact ex h
 ·rename_i t want hg;obtain⟨g,j,v,rfl,k,l⟩:=h;have b:look st1.fr t=look st.fr t:=by rw[hO.2,if_neg λe=>(a t e).1 (by simp[SOper.rd,hg])]
  refine⟨_,by rw[<-b];exact j,v,rfl,λe=>ex (k e),λe=>NQ (h':=st.hp) hO (λt b=>(a t b).2) (λi ob c _ _=>c) (by rw[<-hO.1];exact l e)⟩
theorem HJ{o:SOper}{a b:St}{E:Eff}(h:Foot o.rd a b)(r:∀s,E.slot.map (·.1)=some s->b.hp[s]? =some .free->a.hp[s]? =some .free)(c:tM P o b E):tM P o a E:=by
 unfold tM at c⊢;cases hs:E.slot with
 |none=>rw[hs]at c;exact L4 h c|some q=>
  rw[hs]at c;obtain⟨l,p,d,n⟩:=c;refine⟨l,p,d,rB (LP ⟨λk e=>h.fr k ?_,λk e=>h.hp k ?_⟩ n) λo m ⟨f,g,j⟩=>⟨f,g,r _ (by rw[hs];rfl) j⟩⟩;·simp only[SOper.rd,d,SOp.rd,l_];exact .inl e
  ·simp only[SOper.rd,d,SOp.rd,l_];exact .inl e
theorem x9{o:SOper}{a b:St}{E:Eff}(d:∀k∈o.rd,∀y,look b.fr k=some y->look a.fr k=some y)(g:∀i∈dj b o,∀ob,b.hp[i]? =some ob->a.hp[i]? =some ob) (u:∀s,E.slot.map (·.1)=some s->b.hp[s]? =some .free->a.hp[s]? =some .free) (c:tM P o b E):tM P o a E:=by
 by_cases j:o.op.hf=true/\o.gd=none
 ·obtain⟨f,n⟩:=j;unfold tM at c⊢;cases hs:E.slot with
  |none=>
   rw[hs]at c;cases e:o.op<;>rw[e]at f<;>try (cases f;done)
   rename_i x;simp only[fq,n,e,jp]at c⊢;obtain⟨y,h,l⟩:=c;refine⟨y,?_,l⟩;cases x with|tm k=>exact d k (by simp[SOper.rd,e,SOp.rd,SX.rd]) y h|_=>exact h
  |some q=>rw[hs]at c;obtain⟨_,p,r,_⟩:=c;rw[r]at f;cases f
 ·have z:dj b o=touch b o:=if_neg j;exact HJ ⟨d,λk w y A i v ob e=>g i (by rw[z];exact Me w A v) ob e⟩ u c
theorem HK{o:SOper}{a:St}{E:Eff}(c:tM P o a E):∀s,E.slot.map (·.1)=some s->a.hp[s]? =some .free/\s∈o.op.lent:=by
 intro s hs;unfold tM at c;cases e:E.slot with
 |none=>rw[e]at hs;cases hs|some q=>
  rw[e]at c hs;simp only[x_,h_]at hs;obtain⟨f,p,d,b⟩:=c;rw[d,<-hs];refine⟨?_,by simp[SOp.lent]⟩;clear d;cases p<;>simp only[GG]at b;case alloc=>exact b.2.2
  case box=>obtain⟨_,_,_,h⟩:=b;exact h.2.2
  case bslice own _ _ _ _=>
   cases own;·exact b.elim
   ·obtain⟨_,_,_,_,_,_,h⟩:=b;exact h.2.2
  case mslice=>obtain⟨_,_,_,_,_,_,_,_,_,_,_,_,_,_,_,_,_,_,_,_,_,_,_,h⟩:=b;exact h.2.2
  case append=>obtain⟨_,_,_,_,h⟩:=b;rcases h with⟨_,_,_,_,h⟩|⟨_,_,_,_,_,h⟩|⟨_,_,_,_,_,_,_,_,h⟩|⟨_,_,_,_,_,h⟩<;>exact h.2.2
  case mkmap=>exact b.2.2
theorem GK{o:SOper}{st:St}{E:Eff}{K b:St->Prop}(h:tM P o st E)(a:K (st.app o.dst E)):iF P o st K b:=by
 unfold tM at h;cases hs:E.slot with
 |none=>
  rw[hs]at h;refine nD h ?_;have:st.app o.dst E=st.putO o.dst E.x:=by unfold St.app;rw[hs]
  rw[<-this];exact a
 |some q=>
  rw[hs]at h;obtain⟨f,p,g,j⟩:=h;unfold iF;rw[f,g];show GG st p λo' mk=>Ai st (some q.1)/\K ((st.new (some q.1) o').putO o.dst (.b (mk q.1)));refine rB j λob m ⟨c,d,e⟩=>⟨e,?_⟩;have:st.app o.dst E=(st.new (some q.1) ob).putO o.dst (.b (m q.1)):=by unfold St.app;rw[hs,c,d];rfl
  rw[<-this];exact a
theorem QW{a b:St}(h:Eqs a b):Over none (.v undef) b a:=⟨h.1,λt=>by rw[h.2 t];simp⟩
theorem QV{a b:St}(h:Eqs a b)(rd:List Nat):Foot rd b a:=⟨λk _ y d=>by rw[<-h.2];exact d,λk _ y _ i _ ob c=>by rw[<-h.1];exact c⟩
theorem Tb{a b:St}(h:Eqs a b)(d:Option Nat)(E:Eff):Eqs (a.app d E) (b.app d E):=⟨by rw[sw,sw,h.1],λt=>by rw[jz,jz,h.2 t]⟩
theorem Jy{S:List AObj->Prop}{F:List Nat}{a b:St}{o:SOper}{E:Eff}(h:∀t∈o.rd,look b.fr t=look a.fr t)(hs:Wd P S F a o E):Wd P S F b o E:=λc e f=>hs c e λt d=>(f t d).trans (h t d)
theorem Jg{G:List Nat}{a b:St}{o:SOper}{E:Eff}(h:∀t∈o.rd,look b.fr t=look a.fr t)(hs:Wb G a o E):Wb G b o E:=⟨hs.1,λt c y d=>hs.2 t c y (by rw[<-h t c];exact d)⟩
theorem rC:∀(l:List (Nat×Bool×SOper)) (R:List (Rec×(List AObj->Prop))) (a b:St),Eqs a b->sH P un K KP R l a->sH P un K KP R l b
 |[],R,a,b,h,hs=>by obtain⟨p,d,f⟩:=hs;exact⟨p,d.trans h,f⟩
 |(j,true,o)::l,R,a,b,h,hs=>by obtain⟨d,E,F,G,S,f,k,hg,w,v⟩:=hs;have g:dj b o=dj a o:=rE λt _=>(h.2 t).symm;refine⟨λr hr n=>by rw[g];exact d r hr n,E,F,G,S,HJ (QV h _) (λs _ x=>by rw[<-h.1];exact x) f,⟨λi c=>?_,k.2⟩,Jg (λt _=>(h.2 t).symm) hg,Jy (λt _=>(h.2 t).symm) w,rC l _ _ _ (Tb h _ _) v⟩;rw[g]at c;exact⟨(k.1 i c).1,by rw[<-h.1];exact(k.1 i c).2⟩
 |(j,false,o)::l,R,a,b,h,hs=>by obtain⟨d,f⟩:=hs;have g:touch b o=touch a o:=Ff λt _=>(h.2 t).symm;refine⟨λr hr n=>by rw[g];exact d r hr n,?_⟩;refine sI (E0 (T:=touch b o) (QW h) (λt e=>by cases e) (λi c=>c) (λi c=>by cases c) f) (λy ⟨_,st1,hO,u⟩=>?_) λ_ h=>h;exact⟨by rw[g,<-hO.1];exact u.1,rC l _ _ _ ⟨hO.1,λt=>by rw[hO.2];simp⟩ u.2⟩
theorem BR:∀(l:List (Nat×Bool×SOper)) (R b:List (Rec×(List AObj->Prop))) (a:St),(∀r∈b,r∈R)->sH P un K KP R l a->sH P un K KP b l a
 |[],R,b,a,_,hs=>hs
 |(j,true,o)::l,R,b,a,h,hs=>by obtain⟨d,E,F,G,S,e,f,hg,k,g⟩:=hs;refine⟨λr hr=>d r (h r hr),E,F,G,S,e,f,hg,k,BR l _ _ _ (λr hr=>?_) g⟩;simp only[l_]at hr⊢;exact hr.imp (h r) id
 |(j,false,o)::l,R,b,a,h,hs=>⟨λr hr=>hs.1 r (h r hr),sI hs.2 (λn c=>⟨λr hr=>c.1 r (h r hr),BR l _ _ _ h c.2⟩) λ_ h=>h⟩
def Hd(P:Program)(un:Nat->Nat->Bool)(K:St->Prop)(KP:Prop)(R:List (Rec×(List AObj->Prop)))(l:List (Nat×Bool×SOper))(st:St)(j:Nat)(o:SOper):Bool->Prop
 |true=>∃G,tM P o st G/\sH P un K KP R l (st.app o.dst G)
 |false=>iF P o st (λa=>Qx un R j (touch st o) a.hp/\sH P un K KP R l a) λ_=>KP
theorem VE{l2:List (Nat×Bool×SOper)}{j:Nat}{b:Bool}{o:SOper}:∀(l1:List (Nat×Bool×SOper)) (R:List (Rec×(List AObj->Prop))) (st:St),sH P un K KP R (l1++(j,b,o)::l2) st->(∀u∈l1,u.2.1=true/\un u.1 j=true)->(∀r∈R,un r.1.i j=true->comm r.1 (match b with|true=>dj st o|false=>touch st o) o b)/\Hd P un K KP R (l1++l2) st j o b:=by
 intro l1;induction l1 with
 |nil=>
  intro R st h _;cases b with
  |true=>obtain⟨h1,E,F,G,S,h2,_,_,_,h4⟩:=h;exact⟨h1,E,h2,BR l2 _ _ _ (λr hr=>l_.2 (.inl hr)) h4⟩
  |false=>exact h
 |cons q l1 ih=>
  intro R st h hu;obtain⟨i,bu,u⟩:=q;obtain⟨hb,U⟩:=hu _ (List.mem_cons_self ..);simp only at hb U;subst hb;obtain⟨h1,E,F,G0,S,h2,B,hg,hS,h4⟩:=h;obtain⟨hA,hB⟩:=ih _ _ h4 λv hv=>hu v (List.mem_cons_of_mem _ hv);obtain⟨c1,c2,c3,c4,c5⟩:=hA (⟨i,u.dst,u.rd,E.slot.map (·.1),F,G0⟩,S) (by simp) U;simp only at c1 c2 c3 c4 c5;have M:∀t∈o.rd,look (st.app u.dst E).fr t=look st.fr t:=λt ht=>by rw[jz,if_neg λe=>(c1 t e).1 ht]
  have Q:touch (st.app u.dst E) o=touch st o:=Ff M;have z:dj (st.app u.dst E) o=dj st o:=rE M;have ph:=HK h2;cases b with
  |true=>
   refine⟨λr hr f=>by have:=hA r (l_.2 (.inl hr)) f;simp only at this;rw[z]at this;exact this,?_⟩;simp only at c3 c5;rw[z]at c3;obtain⟨G,g1,g2⟩:=hB;have C:=HK g1;have gc:tM P o st G:=by
    refine x9 (λk L y Y=>by rw[<-M k L];exact Y) (λi a ob w=>?_) (λs hs hf=>?_) g1;·rw[z]at a;rw[<-vR (d:=u.dst) (E:=E) λs hs e=>c3 s hs (e▸a)];exact w
    ·rw[<-vR (d:=u.dst) (E:=E) λs' x e=>?_];·exact hf
     ·have D:=(C s hs).2;by_cases J:o.op.hf=true/\o.gd=none
      ·cases w:o.op<;>rw[w]at J<;>try (cases J.1;done)
       rw[w]at D;cases D
      ·refine c3 s' x (e▸?_);rw[show dj st o=touch st o from if_neg J];exact yn D
   have c:∀t∈u.rd,look (st.app o.dst G).fr t=look st.fr t:=λt ht=>by rw[jz,if_neg λe=>c2 t e ht]
   have A:dj (st.app o.dst G) u=dj st u:=rE c;have n:∀i∈dj st u,(st.app o.dst G).hp[i]? =st.hp[i]? :=λi a=>vR λs hs e=>c4 rfl s (C s hs).2 (e▸(B.1 i a).1);have g:∀s,E.slot.map (·.1)=some s->s∈F:=λs hs=>by
    have D:=(ph s hs).2;by_cases J:u.op.hf=true/\u.gd=none
    ·cases w:u.op<;>rw[w]at J<;>try (cases J.1;done)
     rw[w]at D;cases D
    ·exact(B.1 s (by rw[show dj st u=touch st u from if_neg J];exact yn D)).1
   refine⟨G,gc,λr hr f=>by rw[A];exact h1 r hr f,E,F,G0,S,?_,⟨λi a=>?_,B.2⟩,Jg c hg,Jy c hS,rC _ _ _ _ ⟨?_,λt=>?_⟩ g2⟩;·refine x9 (λk L y Y=>by rw[c k L];exact Y) (λi a ob w=>by rw[n i a];exact w) (λs hs hf=>?_) h2;rw[vR λs' x e=>c4 rfl s' (C s' x).2 (e▸g s hs)];exact hf
   ·rw[A]at a;exact⟨(B.1 i a).1,by rw[n i a];exact(B.1 i a).2⟩
   ·rw[sw,sw,sw,sw];cases hs:E.slot with|none=>rfl|some p=>cases x:G.slot with|none=>rfl|some p'=>simp only;exact List.set_comm _ _ λe=>c4 rfl p'.1 (C p'.1 (by rw[x];rfl)).2 (e▸g p.1 (by rw[hs];rfl))
   ·rw[jz,jz,jz,jz];by_cases e1:o.dst=some t;·rw[if_pos e1,if_pos e1,if_neg λe2=>(c1 t e2).2 e1]
    ·rw[if_neg e1,if_neg e1]
  |false=>
   refine⟨λr hr f=>by have:=hA r (l_.2 (.inl hr)) f;simp only at this;rw[Q]at this;exact this,?_⟩;have el:=c5 rfl;rw[Q]at el;obtain⟨c6,c7⟩:=el;have N:E.slot=none:=by cases hs:E.slot with|none=>rfl|some p=>rw[hs]at c6;cases c6
   have hO:Over u.dst E.x st (st.app u.dst E):=⟨by rw[sw,N],λt=>jz _ _ _ t⟩;refine sI (E0 (T:=touch st o) hO c1 (λi a=>a) (λi a I=>c7 i I (hg.1 i a)) hB) (λl ⟨hC,st1,H,O,L⟩=>?_) λ_ h=>h;rw[Q,H.1]at O;have c:∀t∈u.rd,look l.fr t=look st.fr t:=λt ht=>hC.fr t (λe=>c2 t e ht) λy Y i a I=>c7 i I (hg.2 t ht y Y i a);have A:dj l u=dj st u:=rE c;have key:tM P u l E/\Us F l u E:=by
    rcases O (⟨i,u.dst,u.rd,E.slot.map (·.1),F,G0⟩,S) (by simp) U with hdj|hs
    ·have n:∀i∈dj st u,l.hp[i]? =st.hp[i]? :=λi a=>by obtain⟨h5,ob,h6,h7⟩:=B.1 i a;rw[h6];exact hC.hp i ob h6 (λI=>hdj i I h5) λj hj I=>hdj j I (h7 j hj)
     refine⟨x9 (λk L y Y=>by rw[c k L];exact Y) (λi a ob w=>by rw[n i a];exact w) (λs hs=>by rw[N]at hs;cases hs) h2,⟨λi a=>?_,B.2⟩⟩;rw[A]at a;exact⟨(B.1 i a).1,by rw[n i a];exact(B.1 i a).2⟩
    ·exact hS l hs c
   refine⟨λr hr=>O r (l_.2 (.inl hr)),λr hr f=>by rw[A];exact h1 r hr f,E,F,G0,S,key.1,key.2,Jg c hg,Jy c hS,?_⟩;refine rC _ _ _ _ ⟨?_,λt=>?_⟩ L;·rw[sw,N];exact H.1
   ·rw[jz,H.2]
end
def NK(n:Nat)(a:List (List Nat))(k:Nat):Bool:=(R_ n).all λj=>decide (j<k)||(R_ j).all λi=>(a.getD j []).contains i
def uX(a:List (List Nat)):List (Nat×Bool)->Bool
 |[]=>true
 |u::l=>l.all (λo=> !(a.getD u.1 []).contains o.1&&((a.getD o.1 []).contains u.1||u.2))&&uX a l
theorem uW:∀(k:Nat) (L:List Nat),L.Nodup->(∀x∈L,x<k)->L.length<=k
 |0,L,_,h=>by cases L with|nil=>exact t_ _|cons x L=>exact absurd (h x (by simp)) (Nat.not_lt_zero _)
 |k+1,L,hn,h=>by
  by_cases c:k∈L
  ·have:=uW k (L.erase k) (hn.erase k) λx a=>by have b:=(hn.mem_erase_iff).1 a;have:=h x b.2;have:=b.1;omega
   rw[List.length_erase_of_mem c]at this;omega
  ·have:=uW k L hn λx a=>by have b:=h x a;have:x≠k:=λe=>c (e▸a);omega
   omega
section
variable {P:Program} {c:Ctx} {w:World} {a:Act}
theorem HT{a:List (List Nat)}:∀{l1 l2:List (Nat×Bool)} {o:Nat×Bool},uX a (l1++o::l2)=true->∀u∈l1,((a.getD o.1 []).contains u.1=true\/u.2=true)
 |[],_,_,_,u,b=>by cases b
 |v::l1,l2,o,h,u,b=>by
  simp only[an_,uX,n_,j_,ae_]at h;rcases J_.1 b with rfl|b;·exact(h.1 o (by simp)).2
  ·exact HT h.2 u b
theorem EF{a:List (List Nat)}:∀{l1 l2:List (Nat×Bool)} {o:Nat×Bool},uX a (l1++o::l2)=true->uX a (l1++l2)=true
 |[],l2,o,h=>by simp only[ar_,uX,n_]at h⊢;exact h.2
 |v::l1,l2,o,h=>by simp only[an_,uX,n_,j_]at h⊢;exact⟨λx b=>h.1 x (by simp only[l_,J_]at b⊢;rcases b with h|h;exact .inl h;exact .inr (.inr h)),EF h.2⟩
theorem KU{id n k ml:Nat}{ops:Array Oper}{z:List SOper}{after:List (List Nat)}{l:List (Nat×Bool×SOper)}(hm:P.follows .mixedOrders=true)(hn:c.n=n)(JT:c.th.length<=ml)(hc:rZ P n ops ops.toList z)(DP:after=rW ops)(L:BF after=true) (Nd:NK z.length (fH [] after) k=true) (GS:k<=z.length) (B:uX (fH [] after) (l.map λu=>(u.1,u.2.1))=true) (Bk:∀u∈l,u.1<k/\z[u.1]? =some u.2.2) (MT:(l.map (·.1)).Nodup) (Hx:l.length=k) {st:St} {K KP:St->Prop} {KC:Prop} {Q:Exit->Act->World->Prop} (h:sH P (λi j=> !((fH [] after).getD j []).contains i) (λst=>sops P ml (z.drop k) st K KP) KC [] l st) (hr:Rel c st a w) (hQ:∀a w,(∃f,K f/\Rel c f a w)->Q .normal a w) (hP:∀ch a w,(rU ch/\∃f,KP f/\Rel c f a w)->Q (.panic ch) a w) (RK:KC->∀ch a w,(rU ch/\∃f,Rel c f a w)->Q (.panic ch) a w):(Code.region id ops true).wp P Q a w:=by
 obtain⟨CT,At⟩:=uv hc;have hsz:ops.size=z.length:=by simpa using CT
 have WD:after.length=z.length:=by rw[DP];simp[rW,hsz]
 have ur:∀(i:Nat) (o:Oper),ops[i]? =some o->after[i]? =some ((o.after.toList.filter (Region.binds .any)).map (·.on)):=λi o U=>by rw[DP];simp[rW,U]
 have g:∀(d:Array Bool) (i:Nat),d.size=z.length->(i∈Region.ready .any ops d↔i<z.length/\d.getD i true=false/\∀l:List Nat,after[i]? =some l->∀e∈l,d.getD e false=true):=by
  intro d i p;unfold Region.ready;simp only[S_,y_,n_,ak_,hsz];constructor;·rintro⟨y,F,Y⟩;refine⟨y,F,λl hl e C=>?_⟩;have U:ops[i]? =some ops[i]:=m_ (by omega);rw[ur i _ U]at hl;cases hl;rw[U]at Y;simp only[x_,ac_,Y_]at Y;simp only[D_,S_]at C;obtain⟨ed,⟨h4,h5⟩,rfl⟩:=C;have:=Y ed (by simpa using h4);simpa[h5]using this
  ·rintro⟨y,F,Y⟩;refine⟨y,F,?_⟩;have U:ops[i]? =some ops[i]:=m_ (by omega);rw[U];simp only[x_,ac_,Y_];intro ed RT;by_cases N:Region.binds .any ed=true;·have:=Y _ (ur i _ U) ed.on (D_.2 ⟨ed,S_.2 ⟨by simpa using RT,N⟩,rfl⟩);simp only[N,ad_,aQ_];exact this
   ·simp[N]
 have Bx:∀i j,i<j->j<z.length->k<=j->((fH [] after).getD j []).contains i=true:=by
  intro i j RW hj SM;simp only[NK,j_,y_,ae_,decide_eq_true_eq]at Nd;rcases Nd j hj with h|h;·omega
  ·exact h i RW
 have T:∀(m j:Nat) (d:Array Bool) (f:St) (a:Act) (w:World),j<=z.length->z.length<=j+m->k<=j->d.size=z.length->(∀i,i<z.length->d.getD i false=decide (i<j))->sops P ml (z.drop j) f K KP->Rel c f a w->wpAny P .any ops Q m d a w:=by
  have DM:∀(d:Array Bool) (f:St) (a:Act) (w:World),d.size=z.length->(∀i,i<z.length->d.getD i false=decide (i<z.length))->sops P ml (z.drop z.length) f K KP->Rel c f a w->Region.ready .any ops d=[]/\Q .normal a w:=by
   intro d f a w p r hs hr;rw[aJ_]at hs;simp only[sops]at hs;obtain⟨st1,DB,hs⟩:=hs;refine⟨?_,hQ a w ⟨st1,hs,DB _ _ _ JT hr⟩⟩;apply ab_.2;intro i E;obtain⟨y,F,_⟩:=(g d i p).1 E;have Y:=r i y;have h4:i<d.size:=by omega
   simp[h4,y]at F Y;rw[Y]at F;cases F
  intro m
  induction m with
  |zero=>
   intro j d f a w hj hm _ p r hs hr;have CD:j=z.length:=by omega
   subst CD;exact DM d f a w p r hs hr
  |succ m ih=>
   intro j d f a w hj hm SM p r hs hr;rcases z_ j z.length with I|I;case inr=>
    have CD:j=z.length:=by omega
    subst CD;obtain⟨f1,f2⟩:=DM d f a w p r hs hr;exact⟨λ_=>f2,λi E=>by rw[f1]at E;cases E⟩
   have Fm:∀i,i<z.length->d.getD i true=decide (i<j):=λi E=>by
    have h4:i<d.size:=by omega
    have:=r i E;simp[h4]at this⊢;exact this
   have Pb:∀i,i∈Region.ready .any ops d↔i=j:=by
    intro i;rw[g d i p];constructor
    ·rintro⟨y,F,Y⟩;rw[Fm i y]at F;simp only[decide_eq_false_iff_not,aC_]at F;rcases z_ j i with h4|h4
     ·rcases(Or.inl (Bx j i h4 y (by omega)):_\/False)with h5|h5
      ·have gc:=oO L (S:=λx=>x<j\/x=i) (λx l hl hx e C=>by
        have s:=L;simp only[BF,j_,y_,decide_eq_true_eq]at s;have DE:=(b_.1 hl).1;have Fk:=s x DE e (by simpa[W_,hl]using C);rcases hx with hx|rfl;·exact .inl (by omega)
        ·have:=Y l hl e C;rw[r e (by omega)]at this;exact .inl (by simpa using this)) i i j (t_ _) (.inr rfl) h5 (by omega)
       omega
      ·exact h5.elim
     ·omega
    ·rintro rfl;refine⟨I,by rw[Fm _ I];simp,λl hl e C=>?_⟩;have s:=L;simp only[BF,j_,y_,decide_eq_true_eq]at s;have DE:=(b_.1 hl).1;have Fk:=s i DE e (by simpa[W_,hl]using C);rw[r e (by omega)];simpa using Fk
   refine⟨λh0=>?_,λi E=>?_⟩;·have:=(Pb j).2 rfl;rw[h0]at this;cases this
   ·have:=(Pb i).1 E;subst this;have U:ops[i]? =some ops[i]:=m_ (by omega);have Th:=a_ I;have BT:=At i _ _ (by rw[q_];exact U) Th;rw[aj_ I]at hs;simp only[sops]at hs;obtain⟨st1,DB,hs⟩:=hs;obtain⟨θ,D,hI⟩:=DB _ _ _ JT hr;have:=pp hI hn BT hs (λa' w'=>wpAny P .any ops Q m (d.setIfInBounds i true) a' w') Q (λa' w' ⟨M,y,F⟩=>
     ih (i+1) _ M a' w' (by omega) (by omega) (by omega) (by simpa using p) (λx hx=>by
      rw[de p (by omega),r x hx];by_cases Rg:x=i;·subst Rg;simp
      ·rw[if_neg Rg];apply decide_eq_decide.2;omega) y F) (λch w' hp=>hP ch a w' hp)
    unfold wpOp;rw[U];simp only;split;·rename_i hw;rw[if_pos hw]at this;exact .inl this
    ·rename_i hw;rw[if_neg hw]at this;exact this
 have DQ:∀i,i<k->i∈l.map (·.1):=by
  intro i E;refine v_ λhn=>?_;have:=uW k (i::l.map (·.1)) (aN_.2 ⟨hn,MT⟩) λx hx=>by
   rcases J_.1 hx with rfl|hx;·exact E
   ·obtain⟨u,hu,rfl⟩:=D_.1 hx;exact(Bk u hu).1
  simp only[A_,List.length_map,Hx]at this;omega
 have s:=L;simp only[BF,j_,y_,decide_eq_true_eq]at s;have rg:∀(m:Nat) (l':List (Nat×Bool×SOper)) (d:Array Bool) (f:St) (a:Act) (w:World),d.size=z.length->(∀i,i<z.length->(d.getD i false=true↔i<k/\i∉l'.map (·.1)))->l'.Sublist l->uX (fH [] after) (l'.map λu=>(u.1,u.2.1))=true->(∀(i:Nat) (l:List Nat),after[i]? =some l->d.getD i false=true->∀e∈l,d.getD e false=true)->z.length+l'.length<=k+m->sH P (λi j=> !((fH [] after).getD j []).contains i) (λst=>sops P ml (z.drop k) st K KP) KC [] l' f->Rel c f a w->wpAny P .any ops Q m d a w:=by
  intro m
  induction m with
  |zero=>
   intro l' d f a w p r R B gc H hs hr;cases l' with
   |cons u l'=>simp only[A_]at H;omega|nil=>
    obtain⟨DH,C,hk⟩:=hs;refine T 0 k d DH a w GS (by simpa using H) (t_ _) p (λi E=>?_) hk (Rel.congr C.1 C.2 hr);have:=r i E;simp only[aT_,aK_,not_false_eq_true,and_true]at this;cases N:d.getD i false with
    |true=>simp[this.1 N]|false=>
     have:¬i<k:=λh=>by have:=this.2 h;rw[N]at this;cases this
     simp[this]
  |succ m ih=>
   intro l' d f a w p r R B gc H hs hr;cases ph:l' with
   |nil=>
    subst ph;obtain⟨DH,C,hk⟩:=hs;refine T (m+1) k d DH a w GS (by simpa using H) (t_ _) p (λi E=>?_) hk (Rel.congr C.1 C.2 hr);have:=r i E;simp only[aT_,aK_,not_false_eq_true,and_true]at this;cases N:d.getD i false with
    |true=>simp[this.1 N]|false=>
     have:¬i<k:=λh=>by have:=this.2 h;rw[N]at this;cases this
     simp[this]
   |cons q l0=>
    have PB:∀i,i<z.length->d.getD i true=d.getD i false:=λi E=>by
     have h4:i<d.size:=by omega
     simp[h4]
    have J:∀u∈l',u.1<k/\z[u.1]? =some u.2.2:=λu hu=>Bk u (R.subset hu);have DA:∀u∈l',d.getD u.1 false=false:=λu hu=>by cases N:d.getD u.1 false with|false=>rfl|true=>exact absurd (D_.2 ⟨u,hu,rfl⟩) ((r u.1 (by have:=(J u hu).1;omega)).1 N).2
    have hq:q∈l':=by rw[ph];simp
    have wr:∀i,i<z.length->(∀l:List Nat,after[i]? =some l->∀e∈l,d.getD e false=true)->∀j,((fH [] after).getD i []).contains j=true->j=i\/d.getD j false=true:=λi E Y j hj=>
     oO L (S:=λx=>x=i\/d.getD x false=true) (λx l hl hx e C=>by
      rcases hx with rfl|hx;·exact .inr (Y l hl e C)
      ·exact .inr (gc x l hl hx e C)) i i j (t_ _) (.inl rfl) hj (by omega)
    refine⟨λh0=>?_,λi E=>?_⟩
    ·have SW:=(J q hq).1;have:q.1∈Region.ready .any ops d:=(g d q.1 p).2 ⟨by omega,by rw[PB _ (by omega)];exact DA q hq,λlq In e C=>by
      have Xa:=s q.1 (by omega) e (by simpa[W_,In]using C);cases N:d.getD e false with
      |true=>rfl|false=>
       exfalso;have DS:e∈l'.map (·.1):=v_ λhn=>by have:=(r e (by omega)).2 ⟨by omega,hn⟩;rw[N]at this;cases this
       rw[ph,B_]at DS;rcases J_.1 DS with y|y;·omega
       ·obtain⟨u,hu,rfl⟩:=D_.1 y;rw[ph,B_,uX,n_,j_]at B;have:=B.1 (u.1,u.2.1) (D_.2 ⟨u,hu,rfl⟩);simp only[n_,ak_]at this;have hg:=y9 after [] q.1 lq In;simp only[M_,O_]at hg;have F:((fH [] after).getD q.1 []).contains u.1=true:=by rw[hg];simp only[aa_,f_];exact⟨u.1,C,by simp⟩
        rw[F]at this;exact absurd this.1 (by simp)⟩
     rw[h0]at this;cases this
    ·obtain⟨r1,r2,r3⟩:=(g d i p).1 E;rw[PB i r1]at r2;have Fr:i<k:=by
      apply v_;intro Xb;have SW:=(J q hq).1;rcases wr i r1 r3 q.1 (Bx q.1 i (by omega) r1 (by omega))with y|y;·omega
      ·rw[DA q hq]at y;cases y
     have So:i∈l'.map (·.1):=v_ λhn=>by have:=(r i r1).2 ⟨Fr,hn⟩;rw[r2]at this;cases this
     obtain⟨u,hu,PJ⟩:=D_.1 So;obtain⟨l1,l2,A⟩:=List.append_of_mem hu;obtain⟨i',b,o⟩:=u;simp only at PJ;subst PJ;have O:(l'.map (·.1)).Nodup:=(R.map _).nodup MT;have Pa:∀v∈l1,v.2.1=true/\(!((fH [] after).getD i' []).contains v.1)=true:=λv hv=>by
      have Wf:v∈l':=by rw[A];exact l_.2 (.inl hv)
      have KK:((fH [] after).getD i' []).contains v.1=false:=by
       cases N:((fH [] after).getD i' []).contains v.1 with
       |false=>rfl|true=>
        rcases wr i' r1 r3 v.1 N with y|y;·rw[A,N_,B_]at O;have:=(aF_.1 O).2.2 v.1 (D_.2 ⟨v,hv,rfl⟩) i' (by simp);exact absurd y this
        ·rw[DA v Wf]at y;cases y
      refine⟨?_,by rw[KK];rfl⟩;rw[A,N_,B_]at B;rcases HT B (v.1,v.2.1) (D_.2 ⟨v,hv,rfl⟩)with y|y;·simp only at y;rw[KK]at y;cases y
      ·exact y
     rw[A]at hs;have hh:=(VE l1 [] f hs Pa).2;have Vc:iF P o f (λf=>sH P (λi j=> !((fH [] after).getD j []).contains i) (λst=>sops P ml (z.drop k) st K KP) KC [] (l1++l2) f) λ_=>KC:=by
      cases b with
      |true=>obtain⟨G,g1,g2⟩:=hh;exact GK g1 g2
      |false=>exact sI hh (λ_ h=>h.2) λ_ h=>h
     have PA:=(J _ hu).2;simp only at PA;have U:ops[i']? =some ops[i']:=m_ (by omega);have BT:=At i' _ _ (by rw[q_];exact U) PA;obtain⟨θ,D,hI⟩:=hr;have:=pp (hp:=λch w' ⟨RM,M,hk,Pc⟩=>RK hk ch _ _ ⟨RM,M,Pc⟩) hI hn BT Vc (λa' w'=>wpAny P .any ops Q m (d.setIfInBounds i' true) a' w') Q (λa' w' ⟨M,y,F⟩=>by
      have Dg:(l1++l2).Sublist l':=by rw[A];exact List.Sublist.append_left (List.sublist_cons_self _ _) _
      refine ih (l1++l2) _ M a' w' (by simpa using p) (λj hj=>?_) (Dg.trans R) ?_ (λj lj qr I e C=>?_) ?_ y F
      ·rw[de p r1];have qr:=r j hj;by_cases el:j=i'
       ·subst el;simp only[if_true,true_iff];refine⟨Fr,λhm=>?_⟩;rw[A,N_,B_]at O;obtain⟨n1,n2,n3⟩:=aF_.1 O;rw[N_]at hm;rcases l_.1 hm with h5|h5;·exact n3 _ h5 j (by simp) rfl
        ·exact(aN_.1 n2).1 h5
       ·rw[if_neg el,qr,A];simp only[N_,B_,l_,J_,el,false_or]
      ·rw[A,N_,B_]at B;rw[N_];exact EF B
      ·rw[de p r1]at I⊢;split at I
       ·rename_i el;subst el;split;·rfl
        ·exact r3 lj qr e C
       ·split;·rfl
        ·exact gc j lj qr I e C
      ·rw[A]at H;simp only[Q_,A_]at H⊢;omega)
     unfold wpOp;rw[U];simp only;split;·rename_i hw;rw[if_pos hw]at this;exact .inl this
     ·rename_i hw;rw[if_neg hw]at this;exact this
 refine wp_region_any hm ?_;obtain⟨θ,D,hI⟩:=hr;refine rg ops.size l (w_ ops.size false) st a {w with drawn:=w.drawn+1} (by simp[hsz]) (λi E=>?_) (List.Sublist.refl _) B (λi l hl F=>by
  have E:i<ops.size:=by have:=(b_.1 hl).1;omega
  simp[E]at F) (by omega) h ⟨θ,D,hI.drew⟩
 have:(w_ ops.size false).getD i false=false:=by simp[hsz,E]
 rw[this];constructor;·intro h;cases h
 ·rintro⟨y,F⟩;exact absurd (DQ i y) F
end
inductive AC where
 |skip
 |region (ops:List SOper)
 |draw (k:Nat) (ops:List SOper) (after:List (List Nat))
 |draw2 (ord:List (Nat×Bool)) (ops:List SOper) (after:List (List Nat))
 |seq (a b:AC)
 |cond (c:SX) (thn els:AC)
 |block (id:Nat) (body:AC)
 |loop (body:AC)
 |exit (id:Nat)
 |ret
 deriving Inhabited
def TW(n:Nat)(d:Option Nat):Bool:=match d with
 |some k=>decide (k<n)
 |none=>true
def vM(P:Program)(n:Nat)(ops:Array Oper)(o:Oper):Option SOper:=
 (gO P o).bind λs=>
  if(TW n o.dst&&Vk P o)=true then
   match o.guard with
   |none=>some ⟨o.dst,s,none⟩
   |some (j,want)=>((ops[j]?).bind (·.dst)).map λt=>⟨o.dst,s,some (t,want)⟩
  else none
def bR(P:Program)(n:Nat):Code->Option AC
 | .skip=>some .skip
 | .region _ ops e=>(ops.toList.mapM (vM P n ops)).map λd=>if e then .draw 0 d (rW ops)else .region d
 | .seq a b=>(bR P n a).bind λx=>(bR P n b).map λy=>.seq x y
 | .cond c a b=>(bR P n a).bind λx=>(bR P n b).map λy=>.cond (.of c) x y
 | .block id a=>(bR P n a).map (.block id)
 | .loop a=>(bR P n a).map .loop
 | .exit id=>some (.exit id)
 | .ret=>some .ret
 |_=>none
def SOper.canon(o:SOper):SOper:={o with op:=o.op.canon}
def AC.canon:AC->AC
 | .region ops=>.region (ops.map SOper.canon)
 | .draw _ ops af=>.draw 0 (ops.map SOper.canon) af
 | .draw2 _ ops af=>.draw 0 (ops.map SOper.canon) af
 | .seq a b=>.seq a.canon b.canon
 | .cond c a b=>.cond c a.canon b.canon
 | .block id a=>.block id a.canon
 | .loop a=>.loop a.canon
 |x=>x
def AC.okB:AC->Bool
 | .draw k ops af=>BF af&&MO ops (fH [] af) k&&decide (k<=ops.length)
 | .draw2 ord ops af=>BF af&&NK ops.length (fH [] af) ord.length&&decide (ord.length<=ops.length)&&uX (fH [] af) ord&&ord.all (λu=>decide (u.1<ord.length))&&decide (ord.map (·.1)).Nodup
 | .seq a b=>a.okB&&b.okB
 | .cond _ a b=>a.okB&&b.okB
 | .block _ a=>a.okB
 | .loop a=>a.okB
 |_=>true
inductive AE where
 |normal
 |exit (id:Nat)
 |ret
 |pan
def AE.then(m:Nat)(f:St->Prop)(Q:AE->St->Prop):AE->St->Prop
 | .normal,s=>W m f s
 |e,s=>Q e s
def AE.inBlock(id:Nat)(Q:AE->St->Prop):AE->St->Prop
 | .exit i,s=>if i=id then Q .normal s else Q (.exit i) s
 |e,s=>Q e s
def Kp(m:Nat)(body:(AE->St->Prop)->St->Prop)(Q:AE->St->Prop):Nat->St->Prop
 |0,_=>False
 |n+1,st=>body (AE.then m (Kp m body Q n) Q) st
def J3(P:Program)(m:Nat):AC->(AE->St->Prop)->St->Prop
 | .skip,Q,st=>W m (Q .normal) st
 | .region d,Q,st=>sops P m d st (Q .normal) (Q .pan)
 | .draw k d _,Q,st=>W m (λst=>sdraw P m k d st (Q .normal) (Q .pan)) st
 | .draw2 ord d af,Q,st=>W m (λst=>sH P (λi j=> !((fH [] af).getD j []).contains i) (λst=>sops P m (d.drop ord.length) st (Q .normal) (Q .pan)) (∀s,Q .pan s) [] (ord.map λu=>(u.1,u.2,d.getD u.1 default)) st) st
 | .seq a b,Q,st=>J3 P m a (AE.then m (J3 P m b Q) Q) st
 | .cond c a b,Q,st=>W m (λst=>aM (st.get c) λv=>Be v λv=>isBool v λt=>(t=true->J3 P m a Q st)/\(t=false->J3 P m b Q st)) st
 | .block id a,Q,st=>J3 P m a (AE.inBlock id Q) st
 | .loop a,Q,st=>W m (λs=>∃n,Kp m (J3 P m a) Q n s) st
 | .exit id,Q,st=>W m (Q (.exit id)) st
 | .ret,Q,st=>W m (Q .ret) st
def AE.is:AE->Exit->Prop
 | .normal,e=>e= .normal
 | .exit i,e=>e= .exit i
 | .ret,e=>e= .ret
 | .pan,e=>∃z,rU z/\e= .panic z
theorem SY{x:AC}(h:AC.skip=x.canon):x= .skip:=by cases x<;>simp_all[AC.canon]
theorem OZ{x:AC}{s:List SOper}(h:AC.region s=x.canon):∃a,x= .region a/\s=a.map SOper.canon:=by cases x<;>simp_all[AC.canon]
theorem SS{x:AC}{s:List SOper}{af:List (List Nat)}(h:AC.draw 0 s af=x.canon):(∃k a,x= .draw k a af/\s=a.map SOper.canon)\/∃ord a,x= .draw2 ord a af/\s=a.map SOper.canon:=by
 cases x<;>simp_all[AC.canon];·exact⟨_,_,⟨rfl,rfl⟩,rfl⟩
 ·exact⟨_,_,⟨rfl,rfl⟩,rfl⟩
theorem Ux{x p q:AC}(h:AC.seq p q=x.canon):∃a b,x= .seq a b/\p=a.canon/\q=b.canon:=by cases x<;>simp_all[AC.canon];exact⟨_,_,⟨rfl,rfl⟩,rfl,rfl⟩
theorem SR{x p q:AC}{s:SX}(h:AC.cond s p q=x.canon):∃a b,x= .cond s a b/\p=a.canon/\q=b.canon:=by cases x<;>simp_all[AC.canon];exact⟨_,_,⟨rfl,rfl⟩,rfl,rfl⟩
theorem QA{x p:AC}{i:Nat}(h:AC.block i p=x.canon):∃a,x= .block i a/\p=a.canon:=by cases x<;>simp_all[AC.canon]
theorem SV{x p:AC}(h:AC.loop p=x.canon):∃a,x= .loop a/\p=a.canon:=by cases x<;>simp_all[AC.canon]
theorem SU{x:AC}{i:Nat}(h:AC.exit i=x.canon):x= .exit i:=by cases x<;>simp_all[AC.canon]
theorem Uw{x:AC}(h:AC.ret=x.canon):x= .ret:=by cases x<;>simp_all[AC.canon]
section
variable {P:Program} {c:Ctx}
def Pf(c:Ctx)(Q:AE->St->Prop):Exit->Act->World->Prop:=λe a w=>∃b st,AE.is b e/\Q b st/\Rel c st a w
theorem Hs{m:Nat}(p:c.th.length<=m){f:St->Prop}{Q:AE->St->Prop}{e:Exit}{a:Act}{w:World}(h:Pf c (AE.then m f Q) e a w):Exit.then (λa w=>∃st,f st/\Rel c st a w) (Pf c Q) e a w:=by
 obtain⟨k,st,b,d,hr⟩:=h;cases k with
 |normal=>cases b;obtain⟨s',l,n⟩:=d;exact⟨s',n,l _ _ _ p hr⟩
 |exit i=>cases b;exact⟨.exit i,st,rfl,d,hr⟩|ret=>cases b;exact⟨.ret,st,rfl,d,hr⟩|pan=>obtain⟨j,g,rfl⟩:=b;exact⟨.pan,st,⟨j,g,rfl⟩,d,hr⟩
theorem MJ{id:Nat}{Q:AE->St->Prop}{e:Exit}{a:Act}{w:World}(h:Pf c (AE.inBlock id Q) e a w):Exit.inBlock id (Pf c Q) e a w:=by
 obtain⟨j,st,d,b,hr⟩:=h;cases j with
 |normal=>cases d;exact⟨.normal,st,rfl,b,hr⟩|exit i=>
  cases d;simp only[Exit.inBlock];simp only[AE.inBlock]at b;split;·rename_i h;rw[if_pos h]at b;exact⟨.normal,st,rfl,b,hr⟩
  ·rename_i h;rw[if_neg h]at b;exact⟨.exit i,st,rfl,b,hr⟩
 |ret=>cases d;exact⟨.ret,st,rfl,b,hr⟩|pan=>obtain⟨g,f,rfl⟩:=d;exact⟨.pan,st,⟨g,f,rfl⟩,b,hr⟩
theorem IN{n:Nat}{ops:Array Oper}{o:Oper}{s:SOper}(h:vM P n ops o=some s.canon):uu P n ops o s:=by
 unfold vM at h;simp only[c_]at h;obtain⟨u,g,a⟩:=h;split at a
 ·rename_i hd;rw[n_]at hd;obtain⟨hd,c⟩:=hd;have b:∀k,o.dst=some k->k<n:=λk l=>by rw[l]at hd;simpa[TW]using hd
  unfold uu;cases hg:o.guard with
  |none=>rw[hg]at a;simp only[h_,SOper.canon]at a;cases s;simp only[SOper.mk.injEq]at a;obtain⟨d,e,f⟩:=a;exact⟨⟨by rw[g,e],c⟩,d.symm,b,f.symm⟩
  |some r=>obtain⟨j,want⟩:=r;rw[hg]at a;simp only[d_]at a;obtain⟨t,p,a⟩:=a;cases s;simp only[SOper.canon,SOper.mk.injEq]at a;obtain⟨d,e,f⟩:=a;exact⟨⟨by rw[g,e],c⟩,d.symm,b,t,p,f.symm⟩
 ·cases a
theorem p5{n:Nat}{ops:Array Oper}:∀{l:List Oper} {a:List SOper},l.mapM (vM P n ops)=some (a.map SOper.canon)->rZ P n ops l a
 |[],a,h=>by simp at h;cases a with|nil=>trivial|cons s a=>simp at h
 |o::l,a,h=>by simp only[C_,I_,T_,c_,h_]at h;obtain⟨s',c,m,d,b⟩:=h;cases a with|nil=>simp at b|cons s a=>simp only[B_,List.cons.injEq]at b;obtain⟨rfl,rfl⟩:=b;exact⟨IN c,p5 d⟩
theorem vJ(Y:P.follows .mixedOrders=true){n m:Nat}(hn:c.n=n)(g:c.th.length<=m):∀(code:Code) (x:AC) (Q:AE->St->Prop) (st:St) (a:Act) (w:World),bR P n code=some x.canon->x.okB=true->J3 P m x Q st->Rel c st a w->code.wp P (Pf c Q) a w:=by
 intro code;induction code with
 |skip=>intro x Q st a w hc b h hr;simp only[bR,h_]at hc;cases SY hc;obtain⟨s',f,j⟩:=h;exact wp_skip ⟨.normal,s',rfl,j,f _ _ _ g hr⟩
 |region id ops dr=>
  intro x Q st a w hc b h hr;simp only[bR,d_]at hc;obtain⟨el,C,hc⟩:=hc;cases dr;·simp only[p_,if_false]at hc;obtain⟨F,rfl,rfl⟩:=OZ hc;exact Jv hn g (p5 C) h hr (λa w ⟨d,f,j⟩=>⟨.normal,d,rfl,f,j⟩) (λB a w ⟨r,d,f,j⟩=>⟨.pan,d,⟨B,r,rfl⟩,f,j⟩)
  ·simp only[if_true]at hc;rcases SS hc with⟨k,F,rfl,rfl⟩|⟨ord,F,rfl,rfl⟩
   rotate_left
   ·simp only[AC.okB,n_,decide_eq_true_eq,j_]at b;obtain⟨⟨⟨⟨⟨o1,o2⟩,o3⟩,o4⟩,o5⟩,o6⟩:=b;obtain⟨M,A,h⟩:=h;refine KU (l:=ord.map λu=>(u.1,u.2,F.getD u.1 default)) Y hn g (p5 C) rfl o1 o2 o3 ?_ (λu hu=>?_) ?_ (by simp) h (A _ _ _ g hr) (λa w ⟨d,f,j⟩=>⟨.normal,d,rfl,f,j⟩) (λB a w ⟨r,d,f,j⟩=>⟨.pan,d,⟨B,r,rfl⟩,f,j⟩) λhk B a w ⟨r,d,j⟩=>⟨.pan,d,⟨B,r,rfl⟩,hk d,j⟩;·rw[aS_];have:((λu:Nat×Bool×SOper=>(u.1,u.2.1))∘λu:Nat×Bool=>(u.1,u.2,F.getD u.1 default))=λu=>u:=rfl;rw[this,List.map_id'];exact o4
    ·obtain⟨v,T,rfl⟩:=D_.1 hu;have:=o5 v T;refine⟨this,?_⟩;simp only[W_];rw[a_ (show v.1<F.length by omega)];rfl
    ·rw[aS_];have:((·.1)∘λu:Nat×Bool=>(u.1,u.2,F.getD u.1 default))=(·.1):=rfl;rw[this];exact o6
   simp only[AC.okB,n_,decide_eq_true_eq]at b;obtain⟨M,A,h⟩:=h;exact MP Y hn g (p5 C) rfl b.1.1 b.1.2 b.2 h (A _ _ _ g hr) (λa w ⟨d,f,j⟩=>⟨.normal,d,rfl,f,j⟩) (λB a w ⟨r,d,f,j⟩=>⟨.pan,d,⟨B,r,rfl⟩,f,j⟩)
 |seq p q z E=>intro x Q st a w hc b h hr;simp only[bR,c_,d_]at hc;obtain⟨U,f,x2,j,hc⟩:=hc;obtain⟨y1,y2,rfl,rfl,rfl⟩:=Ux hc;simp only[AC.okB,n_]at b;refine wp_seq (wp_mono (z _ _ st a w f b.1 h hr) λe a w J=>?_);have:=Hs g J;cases e<;>first|(obtain⟨d,H,I⟩:=this;exact E _ _ d a w j b.2 H I)|exact this
 |cond cc p q z E=>intro x Q st a w hc b h hr;simp only[bR,c_,d_]at hc;obtain⟨U,f,x2,j,hc⟩:=hc;obtain⟨y1,y2,rfl,rfl,rfl⟩:=SR hc;simp only[AC.okB,n_]at b;obtain⟨M,A,av,O,T⟩:=h;have R:=A _ _ _ g hr;obtain⟨θ,D,N⟩:=R;obtain⟨t,ht,H,I⟩:=ci (N.get O) T;exact wp_cond_split ht (λe=>z _ _ M a w f b.1 (H e) ⟨θ,D,N⟩) (λe=>E _ _ M a w j b.2 (I e) ⟨θ,D,N⟩)
 |block id p z=>intro x Q st a w hc b h hr;simp only[bR,d_]at hc;obtain⟨U,f,hc⟩:=hc;obtain⟨y1,rfl,rfl⟩:=QA hc;exact wp_block (wp_mono (z _ _ st a w f b h hr) λe a w J=>MJ J)
 |loop p z=>
  intro x Q st a w hc b h hr;simp only[bR,d_]at hc;obtain⟨U,f,hc⟩:=hc;obtain⟨y,rfl,rfl⟩:=SV hc;obtain⟨s0,hw,m0,h⟩:=h;have key:∀(L:Nat) (s:St) (a:Act) (w:World),Kp m (J3 P m y) Q L s->Rel c s a w->Code.rounds P p (Pf c Q) L a w:=by intro L;induction L with|zero=>intro s a w h _;exact h.elim|succ L ih=>intro s a w h hr;rw[rounds_succ];refine wp_mono (z _ _ s a w f b h hr) λe a w J=>?_;have:=Hs g J;cases e<;>first|(obtain⟨d,H,I⟩:=this;exact ih d a w H I)|exact this
  exact wp_loop_rounds m0 (key m0 s0 a w h (hw _ _ _ g hr))
 |exit id=>intro x Q st a w hc b h hr;simp only[bR,h_]at hc;cases SU hc;obtain⟨s',f,j⟩:=h;exact wp_exit ⟨.exit id,s',rfl,j,f _ _ _ g hr⟩
 |ret=>intro x Q st a w hc b h hr;simp only[bR,h_]at hc;cases Uw hc;obtain⟨s',f,j⟩:=h;exact wp_ret ⟨.ret,s',rfl,j,f _ _ _ g hr⟩
 |rangeFunc=>intro x Q st a w hc;cases hc|scope=>intro x Q st a w hc;cases hc|label=>intro x Q st a w hc;cases hc|goto=>intro x Q st a w hc;cases hc|refuse=>intro x Q st a w hc;cases hc
end
inductive RV where
 |tm (k:Nat)
 |cell (k sz:Nat) (ag:Bool)
def kJ(P:Program):ResultVar->Option RV
 | .tmp t=>some (.tm t)
 | .cell a t=>(bJ P t).bind λs=>if(P.underlying t).isSome then some (.cell a s (gE P t))else none
def GF(st:St):RV->Option AV
 | .tm k=>look st.fr k
 | .cell k sz ag=>(look st.fr k).bind fun
  | .b (.ptr id off)=>match st.hp[id]? with
   |some (.box _ cs)=>if off+sz<=cs.length/\(ag=false->sz=1)then some (mR ag ((cs.drop off).take sz))else none
   |_=>none
  |_=>none
def HF:List AV->AV->Prop
 |[x],r=>r=x
 |xs,r=>∃a:List BV,r= .tup a/\a.length=xs.length/\∀(i:Nat) (x:AV) (b:BV),xs[i]? =some x->a[i]? =some b->x= .b b\/∃p,x.toPV=some p/\b= .pv p
def uj:Nat->List AV->List (Nat×AV)
 |_,[]=>[]
 |k,p::a=>(k,p)::uj (k+1) a
theorem yb:∀(a:List AV) (k t:Nat) (x:AV),look (uj k a) t=some x->∃i,t=k+i/\a[i]? =some x
 |[],k,t,x,h=>by cases h
 |p::a,k,t,x,h=>by
  simp only[uj,look]at h;split at h;·rename_i b;cases h;exact⟨0,by omega,rfl⟩
  ·obtain⟨i,b,c⟩:=yb a (k+1) t x h;exact⟨i+1,by omega,by simpa using c⟩
def Cg(m:Nat)(c:List RV)(K:Dz->Prop):AE->St->Prop
 | .exit _,_=>False
 | .pan,_=>K none
 |_,st=>W m (λst=>∃xs r,c.mapM (GF st)=some xs/\HF xs r/\∃b a,(∀T,Weak m ⟨[(T,r)],st.hp⟩ ⟨[(T,b)],a⟩)/\K (some (b,a))/\m<=a.length) st
def Sf(tmps:Array Value)(r:ResultVar):Sem Value:=match r with
 | .tmp t=>pure (tmps.getD t undef)
 | .cell b t=>do loadVar t (<-asAddr (tmps.getD b undef))
theorem ES(fn:Func)(tmps:Array Value):results fn tmps=(do let vs<-fn.results.mapM (Sf tmps);pure (if h:vs.size=1 then vs[0]else .tuple vs)):=rfl
theorem LN{P:Program}{c:Ctx}{θ:List Loc}{D:Nat->Prop}{st:St}{a:Act}{w:World}(p:Inv c θ D st a w){r:ResultVar}{A:RV}{x:AV}(hc:kJ P r=some A)(hr:GF st A=some x): ∃u,(Sf a.tmps r).run P w= .ok u w/\RelA θ D w u x:=by
 cases r with
 |tmp t=>simp only[kJ,h_]at hc;subst hc;exact⟨_,rfl,p.fr t x hr⟩|cell b t=>
  simp only[kJ,c_]at hc;obtain⟨s,hs,hc⟩:=hc;split at hc
  ·rename_i hd;obtain⟨d,hd⟩:=s_.1 hd;cases hc;simp only[GF,c_]at hr;obtain⟨y,I,hr⟩:=hr;split at hr
   ·rename_i id off;split at hr
    ·rename_i J cs H;split at hr
     ·rename_i f;cases hr;obtain⟨z,e⟩:=f;obtain⟨g,hg,F⟩:=p.fr b _ I;obtain⟨n,B,C,E⟩:=p.ok.objs id _ _ hg H;have h:off+s<=n.size:=by omega
      have k:=Co (P:=P) (w:=w) (b:=g) (o:=off) hd hs (n.extract off (off+s)).toList (by simp;omega) e (λj v l=>by
       rw[cell_of_row w g _ n J (0,0) B];simp only[q_,Array.getElem?_extract]at l;split at l;·exact l
       ·cases l)
      rw[qo _ _ _ _ e h]at k;refine⟨_,?_,oy C E z e⟩;simp only[Sf,F,asAddr,Sem.run_bind,Sem.run_pure,Result.andThen_ok,k]
     ·cases hr
    ·cases hr
   ·cases hr
  ·cases hc
theorem LJ{θ:List Loc}{D:Nat->Prop}{w:World}{a:List Value}{xs:List AV}{r:AV}(hl:a.length=xs.length)(h:∀(i:Nat) (u:Value) (x:AV),a[i]? =some u->xs[i]? =some x->RelA θ D w u x)(hr:HF xs r): RelA θ D w (if h:a.toArray.size=1 then a.toArray[0]else .tuple a.toArray) r:=by
 have c:xs.length≠1->(∃e:List BV,r= .tup e/\e.length=xs.length/\∀(i:Nat) (x:AV) (b:BV),xs[i]? =some x->e[i]? =some b->x= .b b\/∃p,x.toPV=some p/\b= .pv p)->RelA θ D w (if h:a.toArray.size=1 then a.toArray[0]else .tuple a.toArray) r:=by
  rintro s ⟨e,rfl,f,g⟩;rw[dif_neg (by simp;omega)];refine⟨_,rfl,by simp;omega,λi u b n j=>?_⟩;obtain⟨x,k⟩:=bb (l:=xs) f.symm j;have d:=h i u x (by simpa using n) k;rcases g i x b k j with rfl|⟨p,hp,rfl⟩;·exact d
  ·exact cd d hp
 match xs,hl,h,hr with
 |[x],hl,h,hr=>
  simp only[HF]at hr
  subst hr
  match a,hl,h with|[u],_,h=>exact h 0 u r rfl rfl
 |[],_,_,hr=>exact c (by simp) hr|x::y::l,_,_,hr=>exact c (by simp) hr
theorem O4{P:Program}{f:FuncId}{fn:Func}{code:Code}{x:AC}{Y:List RV}{xs:List AV}{os:List AObj}{K:Dz->Prop}(hm:P.follows .mixedOrders=true)(hf:P.funcs[f]? =some fn)(hb:fn.body=some code)(hc:bR P fn.ntmps code=some x.canon)(qr:x.okB=true) (N:fn.results.toList.mapM (kJ P)=some Y) (DE:xs.length<=fn.ntmps) (h:J3 P os.length x (Cg os.length Y K) ⟨uj 0 xs,os⟩):ACalls P f xs os K:=by
 intro w θ D vs hG d Bx BT;have j:θ.length=os.length:=d.len;have hO:∀b,D b->¬owns θ b:=λb hb ⟨i,l,E,hl⟩=>(d.olt i l b E hl).2 hb;refine calls_of_wp hf hb (wp_mono (vJ hm (m:=os.length) (c:=⟨fn.ntmps,w,D,owns θ,[],θ,λw' z=>?_⟩) rfl (by simp[j]) code x _ ⟨uj 0 xs,os⟩ {tmps:=vs.toArray++w_ (fn.ntmps - vs.toArray.size) undef,defers:=[]} w hc qr h ?_) λe a w' M=>?_);·exact hG.mono z hO λ_ h=>h
 ·refine⟨θ,D,by simp;omega,rfl,d,Keep.refl _ _,λ_ h=>h,λ_ h=>.inl h,λi l g E hg=>.inl ⟨i,l,E,hg⟩,λk y z=>?_,λ_ _ h _=>h⟩;obtain⟨i,rfl,hp⟩:=yb xs 0 k y z;have E:i<vs.length:=by rw[Bx];exact(b_.1 hp).1
  have hv:=a_ E;have:(vs.toArray++w_ (fn.ntmps - vs.toArray.size) undef).getD (0+i) undef=vs[i]:=by simp[as_,E]
  rw[this];exact BT i _ y hv hp
 ·obtain⟨e',st,M,B,hr⟩:=M;have I:(∀st,Cg os.length Y K .normal st->True)->W os.length (λst=>∃xs r,Y.mapM (GF st)=some xs/\HF xs r/\∃F s,(∀T,Weak os.length ⟨[(T,r)],st.hp⟩ ⟨[(T,F)],s⟩)/\K (some (F,s))/\os.length<=s.length) st->a.defers=[]/\∃v,(results fn a.tmps).run P w'= .ok v w'/\Back θ D w K (.returned v) w':=by
   rintro _ ⟨DB,hw,ys,r,CT,O,F,s,CD,hK,ph⟩
   obtain⟨θ',D',n⟩:=hw _ _ _ (by simp[j]) hr
   refine⟨n.defers,?_⟩
   have H:∀(l:List ResultVar) (U:List RV) (pl:List AV),l.mapM (kJ P)=some U->U.mapM (GF DB)=some pl->∃p:List Value,(l.mapM (Sf a.tmps)).run P w'= .ok p w'/\p.length=pl.length/\∀(i:Nat) (u:Value) (q:AV),p[i]? =some u->pl[i]? =some q->RelA θ' D' w' u q:=by
    intro l;induction l with
    |nil=>intro U pl J L;simp at J;subst J;simp at L;subst L;exact⟨[],rfl,rfl,λi u q R=>by simp at R⟩|cons r l ih=>
     intro U pl J L;simp only[C_,I_,T_,c_,h_]at J;obtain⟨rv,Bk,DA,At,rfl⟩:=J;simp only[C_,I_,T_,c_,h_]at L;obtain⟨q0,ur,Dg,rg,rfl⟩:=L;obtain⟨u0,e1,e2⟩:=LN n Bk ur;obtain⟨p,e3,e4,e5⟩:=ih DA Dg At rg;refine⟨u0::p,?_,by simp[e4],λi u q R B=>?_⟩;·rw[C_,Sem.run_bind,e1];simp only[Result.andThen_ok,Sem.run_bind,e3,Sem.run_pure]
     ·cases i with|zero=>simp at R B;subst R;subst B;exact e2|succ i=>exact e5 i u q (by simpa using R) (by simpa using B)
   obtain⟨p,e1,e2,e3⟩:=H _ _ _ N CT
   have C:(results fn a.tmps).run P w'= .ok (if h:p.toArray.size=1 then p.toArray[0]else .tuple p.toArray) w':=by rw[ES,ai_];simp only[Sem.run_bind,Sem.run_map];rw[e1];rfl
   have Q:=LJ e2 e3 O
   generalize hv:(if h:p.toArray.size=1 then p.toArray[0]else .tuple p.toArray)=v at C Q
   have hsz:a.tmps.size=fn.ntmps:=n.size
   obtain⟨θ2,D2,A⟩:=CD fn.ntmps ⟨fn.ntmps+1,w,D,owns θ,[],θ,λw' z=>hG.mono z hO λ_ h=>h⟩ {tmps:=a.tmps.push v,defers:=[]} w' (by simp[j])
    ⟨θ',D',by simp[hsz],rfl,n.ok,n.keep,n.dsub,n.dnew,n.onew,(λk y z=>by
     simp only[look]at z;split at z
     ·rename_i gc;cases z;subst gc;have:(a.tmps.push v).getD fn.ntmps undef=v:=by rw[<-hsz];simp[ag_]
      rw[this];exact Q
     ·cases z),n.fix⟩
   have wr:RelA θ2 D2 w' v F:=by
    have:=A.fr fn.ntmps F (by simp[look]);have e:(a.tmps.push v).getD fn.ntmps undef=v:=by rw[<-hsz];simp[ag_]
    rw[e]at this;exact this
   exact⟨_,C,.inl ⟨_,F,s,θ2,D2,rfl,hK,wr,A.ok,A.keep,A.dsub,A.dnew,A.onew,A.fix,by rw[A.ok.len,j];exact ph⟩⟩
  cases e' with|normal=>cases M;exact I (λ_ _=>trivial) B|ret=>cases M;exact I (λ_ _=>trivial) B|exit i=>exact B.elim|pan=>obtain⟨ch,el,rfl⟩:=M;obtain⟨θ',D',n⟩:=hr;exact⟨n.defers,.inr ⟨ch,el,rfl,B,n.keep⟩⟩
def Loc.like(l l':Loc):Prop:=l'=l\/∃g n cap sz O z,l= .hdr g n cap sz O/\l'= .hdr g n cap sz z
section
variable {θ θ':List Loc} {D:Nat->Prop} {w:World}
theorem RelB.like(J:∀(k:Nat) (l:Loc),θ[k]? =some l->∃l',θ'[k]? =some l'/\l.like l'){v:Value}{x:BV}(h:RelB θ D w v x):RelB θ' D w v x:=by
 have H:∀(k:Nat) (l:Loc),θ[k]? =some l->l.fixed=true->θ'[k]? =some l:=λk l hl hf=>by
  obtain⟨l',E,z|⟨g,n,cap,sz,O,U,rfl,rfl⟩⟩:=J k l hl;·rw[E,z]
  ·cases hf
 cases x with
 |pv p=>exact h|nils=>exact h|sl k=>
  obtain⟨l,E,z⟩:=h;obtain⟨l',I,rfl|⟨g,n,cap,sz,O,U,rfl,rfl⟩⟩:=J k l E;·exact⟨l',I,z⟩
  ·exact⟨_,I,z⟩
 |ptr k off=>obtain⟨g,E,z⟩:=h;exact⟨g,H _ _ E rfl,z⟩
 |elt k i off=>
  obtain⟨g,n,cap,sz,O,E,z⟩:=h;obtain⟨l',I,rfl|⟨g',n',R,el,O1,Y,N,rfl⟩⟩:=J k _ E;·exact⟨g,n,cap,sz,O,I,z⟩
  ·cases N;exact⟨g,n,cap,sz,Y,I,z⟩
 |clo f ids=>obtain⟨gs,E,z,I⟩:=h;exact⟨gs,E,λk id g N e2=>H _ _ (z k id g N e2) rfl,I⟩
 |mp k=>obtain⟨g,E,z⟩:=h;exact⟨g,H _ _ E rfl,z⟩
 |full p=>exact h|ifc=>exact h
theorem RelA.like(z:∀(k:Nat) (l:Loc),θ[k]? =some l->∃l',θ'[k]? =some l'/\l.like l'){v:Value}{x:AV}(h:RelA θ D w v x):RelA θ' D w v x:=by
 cases x with
 |b x=>exact RelB.like z h|agg xs=>obtain⟨vs,J,E,H⟩:=h;exact⟨vs,J,E,λi u x I N=>(H i u x I N).like z⟩
 |tup xs=>obtain⟨vs,J,E,H⟩:=h;exact⟨vs,J,E,λi u x I N=>(H i u x I N).like z⟩
theorem RelO.like(z:∀(k:Nat) (l:Loc),θ[k]? =some l->∃l',θ'[k]? =some l'/\l.like l'){l:Loc}{o:AObj}(h:RelO θ D w l o):RelO θ' D w l o:=by
 cases l<;>cases o<;>simp only[RelO]at h⊢<;>try exact h
 case blk.box=>obtain⟨c,H,N,R⟩:=h;exact⟨c,H,N,λi u x hu U=>(R i u x hu U).like z⟩
 case hdr.tree hole=>obtain⟨H,N,R,h4,h5,c,Os,h6,h7,h8,h9,J,I⟩:=h;refine⟨H,N,R,h4,h5,c,Os,h6,h7,h8,h9,J,λi j x y U hy=>?_⟩;obtain⟨u,e1,E⟩:=I i j x y U hy;refine⟨u,e1,?_⟩;cases Y:cJ hole i j with|none=>rw[Y]at E;exact E|some b=>rw[Y]at E;exact E.like z
end
theorem IE:∀{k:K},k.allF=true->∀j,k.at j=none
 | .e,_,_=>rfl
 | .f _,_,0=>rfl
 | .f r,h,j+1=>IE (k:=r) h j
 | .s _ _ _ _,h,_=>by cases h
def lc(q:TypeId×Nat×K)(L:List PV):AObj:=if q.2.2.allF then .vec q.1 q.2.1 L else .tree q.1 q.2.1 q.2.2 L none
theorem RelT.inner{D:Nat->Prop}{w:World}{q:TypeId×Nat×K}{O:Nat->Prop}{v:Value}{p:PV}{L:List PV}(h:RelT D w (some q) O v p)(hp:p=mb q.2.1 L): ∃l:Loc,l.head v/\(∀b,l.has b->O b)/\l.fixed=false/\∀θ,RelO θ D w l (lc q L):=by
 cases h with
 |nil q O a=>
  have:L=[]:=by cases L with|nil=>rfl|cons x L=>simp[mb]at hp
  subst this;refine⟨.nil a,rfl,λ_ h=>h.elim,rfl,λθ=>?_⟩;unfold lc;split;·rfl
  ·exact⟨rfl,rfl⟩
 |hdr e sz k O g cap xs p cs val Os J hcap hmax hsz hg hcs I hOs hdj hc hr=>
  have:xs=L:=Oh (J.symm.trans hp);subst this;refine⟨.hdr g xs.length cap sz (λb=>O b/\b≠g),rfl,λb H=>H.elim (λe=>e▸I) λh=>h.1,rfl,λθ=>?_⟩;unfold lc;split;·rename_i N;refine⟨rfl,rfl,hcap,hmax,hsz,cs,hg,hcs,λi j x y z E=>⟨val i j,hc i j x y z E,?_⟩⟩;have:=hr i j x y z E;rw[IE N j]at this;cases this with|flat _ _ _ h=>exact h
  ·exact⟨rfl,rfl,hcap,hmax,hsz,cs,Os,hg,hcs,λi j b H=>⟨hOs i j b H,(hOs i j b H).2⟩,hdj,λ_ _ _ h=>(nomatch h),λi j x y z E=>⟨val i j,hc i j x y z E,hr i j x y z E⟩⟩
theorem NZ{α β:Type} [Inhabited α]{p:Nat->Nat->α->Prop}{q:Nat->Nat->β->Prop}(h:∀i j y,q i j y->∃u,p i j u):∃f:Nat->Nat->α,∀i j y,q i j y->p i j (f i j):=by refine⟨λi j=>aW_ (p i j),λi j y a=>?_⟩;exact aR_ (h i j y a)
theorem RelT.outer{θ:List Loc}{D:Nat->Prop}{w:World}{q:TypeId×Nat×K}{L:List PV}{l:Loc}{v:Value}(hl:l.head v)(h:RelO θ D w l (lc q L)):RelT D w (some q) l.has v (mb q.2.1 L):=by
 unfold lc at h;split at h
 ·rename_i hk;cases l<;>simp only[RelO,Loc.head]at h hl;·subst h;subst hl;exact .nil _ _ _
  ·rename_i g n cap s O;obtain⟨rfl,rfl,Y,h4,h5,cs,h6,h7,h8⟩:=h;subst hl;obtain⟨val,E⟩:=NZ (α:=Value) (β:=PV×PV) (p:=λi j u=>∀x y,L[i]? =some x->x.cells[j]? =some y->cs[i*q.2.1+j]? =some u/\RelP D w u y) (q:=λi j z=>L[i]? =some z.1/\z.1.cells[j]? =some z.2) (λi j z J=>by obtain⟨u,N,R⟩:=h8 i j _ _ J.1 J.2;exact⟨u,λx y H I=>by rw[J.1]at H;cases H;rw[J.2]at I;cases I;exact⟨N,R⟩⟩)
   exact .hdr q.1 q.2.1 q.2.2 _ g cap L _ cs val (λ_ _ _=>False) rfl Y h4 h5 h6 h7 (.inl rfl) (λ_ _ _ h=>h.elim) (λ_ _ _ _ _ h _=>h.elim) (λi j x y H I=>(E i j (x,y) ⟨H,I⟩ x y H I).1) λi j x y H I=>by rw[IE hk j];exact .flat _ _ _ (E i j (x,y) ⟨H,I⟩ x y H I).2
 ·cases l<;>simp only[RelO,Loc.head]at h hl;·obtain⟨rfl,-⟩:=h;subst hl;exact .nil _ _ _
  ·rename_i g n cap s O;obtain⟨rfl,rfl,Y,h4,h5,cs,Os,h6,h7,h9,U,-,h8⟩:=h;subst hl;obtain⟨val,E⟩:=NZ (α:=Value) (β:=PV×PV) (p:=λi j u=>∀x y,L[i]? =some x->x.cells[j]? =some y->cs[i*q.2.1+j]? =some u/\RelT D w (q.2.2.at j) (Os i j) u y) (q:=λi j z=>L[i]? =some z.1/\z.1.cells[j]? =some z.2) (λi j z J=>by obtain⟨u,N,R⟩:=h8 i j _ _ J.1 J.2;exact⟨u,λx y H I=>by rw[J.1]at H;cases H;rw[J.2]at I;cases I;exact⟨N,R⟩⟩)
   exact .hdr q.1 q.2.1 q.2.2 _ g cap L _ cs val Os rfl Y h4 h5 h6 h7 (.inl rfl) (λi j b h=>⟨.inr (h9 i j b h).1,(h9 i j b h).2⟩) U (λi j x y H I=>(E i j (x,y) ⟨H,I⟩ x y H I).1) λi j x y H I=>(E i j (x,y) ⟨H,I⟩ x y H I).2
theorem NN{m:Nat}{st:St}{id i j e sz:Nat}{k:K}{xs:List PV}{x y:PV}{q:TypeId×Nat×K}{L:List PV}(ho:st.hp[id]? =some (.tree e sz k xs none))(hx:xs[i]? =some x)(hy:x.cells[j]? =some y)(hk:k.at j=some q)(hL:y=mb q.2.1 L): Weak m st ⟨st.fr,st.hp.set id (.tree e sz k xs (some (i,j,.sl st.hp.length)))++[lc q L]⟩:=by
 rintro c a w _ ⟨θ,D,B⟩;have I:id<st.hp.length:=(b_.1 ho).1;have gc:id<θ.length:=by rw[B.ok.len];exact I
 obtain⟨l,hl⟩:∃l,θ[id]? =some l:=⟨θ[id],a_ gc⟩;have rg:=B.ok.objs id l _ hl ho;cases l<;>simp only[RelO]at rg;·rw[rg.1]at hx;simp at hx
 rename_i g n cap s O;obtain⟨rfl,rfl,h3,h4,h5,cv,Os,h6,h7,h8,h9,-,wr⟩:=rg;obtain⟨u,DH,ur⟩:=wr i j x y hx hy;simp only[cJ]at ur;rw[hk]at ur;obtain⟨li,Bx,Y,DQ,BT⟩:=ur.inner hL;let O1:Nat->Prop:=λb=>O b/\¬Os i j b;let l1:Loc:=.hdr g xs.length cap s O1;let θ':=θ.set id l1++[li];have U:(θ.set id l1).length=st.hp.length:=by simp[B.ok.len]
 have H:∀(k:Nat) (l:Loc),θ[k]? =some l->∃l',θ'[k]? =some l'/\l.like l':=λk l Q=>by
  have Bk:k<(θ.set id l1).length:=by simp;exact(b_.1 Q).1
  by_cases At:k=id;·subst At;rw[hl]at Q;cases Q;exact⟨l1,by show(θ.set k l1++[li])[k]? =_;rw[k_ Bk,o_ gc],.inr ⟨g,xs.length,cap,s,O,O1,rfl,rfl⟩⟩
  ·exact⟨l,by show(θ.set id l1++[li])[k]? =_;rw[k_ Bk,i_ (Ne.symm At)];exact Q,.inl rfl⟩
 have F:∀(p:Nat) (f:Loc),θ'[p]? =some f->(p≠id/\θ[p]? =some f)\/(p=id/\f=l1)\/(p=st.hp.length/\f=li):=λp f hp=>by
  rcases z_ p (θ.set id l1).length with E|E
  ·have A:(θ.set id l1)[p]? =some f:=by rw[<-hp];exact(k_ E).symm
   by_cases qr:p=id;·subst qr;rw[o_ gc]at A;cases A;exact .inr (.inl ⟨rfl,rfl⟩)
   ·rw[i_ (Ne.symm qr)]at A;exact .inl ⟨qr,A⟩
  ·have A:([li]:List Loc)[p - (θ.set id l1).length]? =some f:=by rw[<-hp];exact(u_ E).symm
   have h0:p - (θ.set id l1).length=0:=by
    rcases aA_ (p - (θ.set id l1).length)with N|N;·exact N
    ·rw[E_ (show [li].length<=_ from N)]at A;cases A
   rw[h0]at A;cases A;exact .inr (.inr ⟨by omega,rfl⟩)
 have C:∀(p:Nat) (f:Loc) (b:Nat),θ'[p]? =some f->f.has b->∃R l0,θ[R]? =some l0/\l0.has b/\((p≠id/\p<st.hp.length/\R=p)\/(R=id/\((p=id/\¬Os i j b)\/(p=st.hp.length/\Os i j b)))):=λp f b hp v=>by
  rcases F p f hp with⟨E,N⟩|⟨rfl,rfl⟩|⟨rfl,rfl⟩;·exact⟨p,f,N,v,.inl ⟨E,by rw[<-B.ok.len];exact(b_.1 N).1,rfl⟩⟩
  ·refine⟨_,_,hl,v.imp (λh=>h) λh=>h.1,.inr ⟨rfl,.inl ⟨rfl,λh=>?_⟩⟩⟩;rcases v with rfl|v;·exact(h8 i j _ h).2 rfl
   ·exact v.2 h
  ·exact⟨_,_,hl,.inr (h8 i j b (Y b v)).1,.inr ⟨rfl,.inr ⟨rfl,Y b v⟩⟩⟩
 refine⟨θ',D,B.size,B.defers,⟨?_,B.ok.dlt,λp r f lr b hp hr DA DB=>?_,λp f b hp v=>?_,λp f o hp ph=>?_⟩,B.keep,B.dsub,B.dnew,λp f b hp v=>?_,λt z hz=>(B.fr t z hz).like H,λt lt ht hf=>?_⟩;·simp[θ',B.ok.len]
 ·obtain⟨R,l0,M,T,e3⟩:=C p f b hp DA;obtain⟨r0,m0,f1,f2,f3⟩:=C r lr b hr DB;have:=B.ok.inj R r0 l0 m0 b M f1 T f2;subst this;rcases e3 with⟨a1,a2,rfl⟩|⟨a0,⟨a1,a2⟩|⟨a1,a2⟩⟩<;>rcases f3 with⟨b1,b2,b3⟩|⟨b0,⟨b1,b2⟩|⟨b1,b2⟩⟩;·exact b3
  ·exact absurd b0 a1
  ·exact absurd b0 a1
  ·subst b3;exact absurd a0 b1
  ·rw[a1,b1]
  ·exact absurd b2 a2
  ·subst b3;exact absurd a0 b1
  ·exact absurd a2 b2
  ·rw[a1,b1]
 ·obtain⟨R,l0,M,T,_⟩:=C p f b hp v;exact B.ok.olt R l0 b M T
 ·have P:(st.hp.set id (.tree e s k xs (some (i,j,.sl st.hp.length)))).length=st.hp.length:=by simp
  rcases F p f hp with⟨E,N⟩|⟨rfl,rfl⟩|⟨rfl,rfl⟩
  ·have DE:p<st.hp.length:=by rw[<-B.ok.len];exact(b_.1 N).1
   have d:(st.hp.set id (.tree e s k xs (some (i,j,.sl st.hp.length))))[p]? =some o:=by rw[<-ph];exact(k_ (by rw[P];exact DE)).symm
   rw[i_ (Ne.symm E)]at d;exact(B.ok.objs p f o N d).like H
  ·have d:(st.hp.set p (.tree e s k xs (some (i,j,.sl st.hp.length))))[p]? =some o:=by rw[<-ph];exact(k_ (by rw[P];exact I)).symm
   rw[o_ I]at d;cases d;refine⟨rfl,rfl,h3,h4,h5,cv,λi' J b=>Os i' J b/\¬(i'=i/\J=j),h6,h7,λi' J b v=>⟨⟨(h8 i' J b v.1).1,λh=>v.2 (h9 i' J i j b v.1 h)⟩,(h8 i' J b v.1).2⟩,λi1 j1 i2 j2 b CT Dg=>h9 i1 j1 i2 j2 b CT.1 Dg.1,λi' J b v=>by cases v;exact⟨(b_.1 hx).1,by rw[hk];rfl⟩,λi' J x' y' DM DP=>?_⟩
   obtain⟨u',M,T⟩:=wr i' J x' y' DM DP;refine⟨u',M,?_⟩;by_cases el:i=i'/\j=J;·obtain⟨rfl,rfl⟩:=el;simp only[cJ,and_self,if_true];rw[DH]at M;cases M;exact⟨li,by show(θ.set p l1++[li])[st.hp.length]? =_;rw[u_ (by rw[U];omega),U];simp,Bx⟩
   ·simp only[cJ,if_neg el];simp only[cJ]at T;refine T.mono (λ_ h=>h) (λ_ _=>rfl) (λ_ _=>rfl) |>.wide λb v=>⟨v,λh=>el ⟨h.1.symm,h.2.symm⟩⟩
  ·have d:([lc q L]:List AObj)[st.hp.length - (st.hp.set id (.tree e s k xs (some (i,j,.sl st.hp.length)))).length]? =some o:=by rw[<-ph];exact(u_ (by rw[P];omega)).symm
   rw[P,aI_]at d;cases d;exact BT _
 ·obtain⟨R,l0,M,T,_⟩:=C p f b hp v;exact B.onew R l0 b M T
 ·have E:=B.fix t lt ht hf;by_cases CD:t=id;·subst CD;rw[hl]at E;cases E;cases hf
  ·show(θ.set id l1++[li])[t]? =_;rw[k_ (by simp;exact(b_.1 E).1),i_ (Ne.symm CD)];exact E
def PV.setc(x:PV)(j:Nat)(y:PV):PV:=match x with
 | .agg cs=>.agg (cs.set j y)
 |_=>y
theorem yj{x y:PV}{j:Nat}(a:j<x.cells.length)(b:y.cells=[y]):(x.setc j y).cells=x.cells.set j y:=by
 cases x with
 |agg cs=>rfl|_=>
  simp only[PV.cells,A_,M_]at a;obtain rfl:j=0:=by omega
  exact b
theorem BG(sz:Nat)(L:List PV):(mb sz L).cells=[mb sz L]:=by cases L<;>rfl
theorem NM{m:Nat}{st:St}{id kid i j e sz:Nat}{k:K}{xs:List PV}{x:PV}{q:TypeId×Nat×K}{L:List PV}(ho:st.hp[id]? =some (.tree e sz k xs (some (i,j,.sl kid))))(hx:xs[i]? =some x)(hj:j<x.cells.length)(hk:k.at j=some q)(qr:st.hp[kid]? =some (lc q L))(DA:kid≠id): Weak m st ⟨st.fr.map λx=>(x.1,x.2.kill kid),((st.hp.map (AObj.kill kid)).set kid .gone).set id (.tree e sz k (xs.set i (x.setc j (mb q.2.1 L))) none)⟩:=by
 rintro c a w _ ⟨θ,D,A⟩;have wr:id<st.hp.length:=(b_.1 ho).1;have Q:kid<st.hp.length:=(b_.1 qr).1;have Nd:id<θ.length:=by rw[A.ok.len];exact wr
 have rg:kid<θ.length:=by rw[A.ok.len];exact Q
 obtain⟨l,hl⟩:∃l,θ[id]? =some l:=⟨θ[id],a_ Nd⟩;obtain⟨l2,C⟩:∃l,θ[kid]? =some l:=⟨θ[kid],a_ rg⟩;have DM:=A.ok.objs id l _ hl ho;have F:=A.ok.objs kid l2 _ C qr;cases l<;>simp only[RelO]at DM;·cases DM.2
 rename_i g n cap s O;obtain⟨rfl,rfl,h3,h4,h5,cv,Os,h6,h7,h8,h9,Pc,Bx⟩:=DM;have hi:i<xs.length:=(b_.1 hx).1;obtain⟨u,Pb,Hx⟩:=Bx i j x _ hx (a_ hj);simp only[cJ,and_self,if_true]at Hx;obtain⟨PA,ur,CT⟩:=Hx;rw[C]at ur;cases ur;have Fm:=RelT.outer CT F;have P:l2.fixed=false:=by unfold lc at F;split at F<;>cases l2<;>simp only[RelO]at F<;>rfl
 have DS:∀g,l2≠.blk g:=λg e=>by subst e;cases P
 have Fk:∀g,l2≠.mp g:=λg e=>by subst e;cases P
 let O1:Nat->Prop:=λb=>O b\/l2.has b;let l1:Loc:=.hdr g xs.length cap s O1;let B:=θ.set kid .no;let θ':=B.set id l1;have DQ:B[id]? =some (.hdr g xs.length cap s O):=by show(θ.set kid .no)[id]? =_;rw[i_ DA];exact hl
 have At:id<B.length:=(b_.1 DQ).1;have R:∀(k:Nat) (l:Loc),B[k]? =some l->∃l',θ'[k]? =some l'/\l.like l':=λk l Dg=>by
  by_cases DP:k=id;·subst DP;rw[DQ]at Dg;cases Dg;exact⟨l1,o_ At,.inr ⟨g,xs.length,cap,s,O,O1,rfl,rfl⟩⟩
  ·exact⟨l,by show(B.set id l1)[k]? =_;rw[i_ (Ne.symm DP)];exact Dg,.inl rfl⟩
 have M:∀(p:Nat) (f:Loc),θ'[p]? =some f->(p≠id/\p≠kid/\θ[p]? =some f)\/(p=id/\f=l1)\/(p=kid/\f= .no):=λp f hp=>by
  by_cases DE:p=id;·subst DE;rw[o_ At]at hp;cases hp;exact .inr (.inl ⟨rfl,rfl⟩)
  ·have DB:B[p]? =some f:=by rw[<-hp];exact(i_ (Ne.symm DE)).symm
   by_cases DH:p=kid;·subst DH;have:B[p]? =some .no:=o_ rg;rw[this]at DB;cases DB;exact .inr (.inr ⟨rfl,rfl⟩)
   ·refine .inl ⟨DE,DH,?_⟩;rw[<-DB];exact(i_ (Ne.symm DH)).symm
 have E:∀(p:Nat) (f:Loc) (b:Nat),θ'[p]? =some f->f.has b->∃Y l0,θ[Y]? =some l0/\l0.has b/\((p≠id/\p≠kid/\Y=p)\/(p=id/\(Y=id\/Y=kid))):=λp f b hp d=>by
  rcases M p f hp with⟨h1,Bk,h2⟩|⟨rfl,rfl⟩|⟨rfl,rfl⟩;·exact⟨p,f,h2,d,.inl ⟨h1,Bk,rfl⟩⟩
  ·rcases d with d|d|d;·exact⟨_,_,hl,.inl d,.inr ⟨rfl,.inl rfl⟩⟩
   ·exact⟨_,_,hl,.inr d,.inr ⟨rfl,.inl rfl⟩⟩
   ·exact⟨_,_,C,d,.inr ⟨rfl,.inr rfl⟩⟩
  ·exact d.elim
 refine⟨θ',D,A.size,A.defers,⟨?_,A.ok.dlt,λp r f lr b hp hr KK MT=>?_,λp f b hp d=>?_,λp f o hp Pa=>?_⟩,A.keep,A.dsub,A.dnew,λp f b hp d=>?_,λt z hz=>?_,λt lt ht hf=>?_⟩;·simp[θ',B,A.ok.len]
 ·obtain⟨Y,l0,e1,J,e3⟩:=E p f b hp KK;obtain⟨r0,m0,f1,f2,f3⟩:=E r lr b hr MT;have:=A.ok.inj Y r0 l0 m0 b e1 f1 J f2;subst this;rcases e3 with⟨T,a2,rfl⟩|⟨a0,T⟩<;>rcases f3 with⟨U,b2,b3⟩|⟨b0,U⟩;·exact b3
  ·rcases U with U|U;·exact absurd U T
   ·exact absurd U a2
  ·subst b3;rcases T with T|T;·exact absurd T U
   ·exact absurd T b2
  ·rw[a0,b0]
 ·obtain⟨Y,l0,e1,J,_⟩:=E p f b hp d;exact A.ok.olt Y l0 b e1 J
 ·have v:(((st.hp.map (AObj.kill kid)).set kid .gone).set id (.tree e s k (xs.set i (x.setc j (mb q.2.1 L))) none))[p]? =some o:=Pa;rcases M p f hp with⟨h1,Bk,h2⟩|⟨rfl,rfl⟩|⟨rfl,rfl⟩;·rw[i_ (Ne.symm h1),i_ (Ne.symm Bk),H_]at v;obtain⟨o0,BT,rfl⟩:=d_.1 v;exact((A.ok.objs p f o0 h2 BT).kill C DS Fk).like R
  ·rw[o_ (by simp;exact wr)]at v;cases v;have N:∀b,l2.has b->¬(b=g\/O b):=λb d CD=>DA (A.ok.inj kid p l2 _ b C hl d CD);refine⟨rfl,by simp,h3,h4,λy hy=>?_,cv,λi' I b=>(i'=i/\I=j/\l2.has b)\/(¬(i'=i/\I=j)/\Os i' I b),h6,h7,λi' I b d=>?_,λi1 j1 i2 j2 b JT CD=>?_,λ_ _ _ h=>(nomatch h),λi' I x' y' ph H=>?_⟩
   ·rcases List.mem_or_eq_of_mem_set hy with h|h;·exact h5 y h
    ·subst h;rw[yj hj (BG _ _),List.length_set];exact h5 x (g_ hx)
   ·rcases d with⟨_,_,d⟩|⟨_,d⟩;·exact⟨.inr d,λe=>N b d (.inl e)⟩
    ·exact⟨.inl (h8 i' I b d).1,(h8 i' I b d).2⟩
   ·rcases JT with⟨T,a2,a3⟩|⟨T,a2⟩<;>rcases CD with⟨U,b2,b3⟩|⟨U,b2⟩;·exact⟨T.trans U.symm,a2.trans b2.symm⟩
    ·exact(N b a3 (.inr (h8 _ _ b b2).1)).elim
    ·exact(N b b3 (.inr (h8 _ _ b a2).1)).elim
    ·exact h9 _ _ _ _ b a2 b2
   ·simp only[cJ];by_cases el:i'=i
    ·subst el;rw[o_ hi]at ph;cases ph;rw[yj hj (BG _ _)]at H;by_cases gc:I=j;·subst gc;rw[o_ hj]at H;cases H;exact⟨u,Pb,by rw[hk];exact Fm.wide λb d=>.inl ⟨rfl,rfl,d⟩⟩
     ·rw[i_ (Ne.symm gc)]at H;obtain⟨u',e1,J⟩:=Bx i' I x y' hx H;simp only[cJ,true_and,if_neg (show ¬(j=I)from λh=>gc h.symm)]at J;exact⟨u',e1,J.wide λb d=>.inr ⟨λh=>gc h.2,d⟩⟩
    ·rw[i_ (Ne.symm el)]at ph;obtain⟨u',e1,J⟩:=Bx i' I x' y' ph H;simp only[cJ,if_neg (show ¬(i=i'/\j=I)from λh=>el h.1.symm)]at J;exact⟨u',e1,J.wide λb d=>.inr ⟨λh=>el h.1,d⟩⟩
  ·rw[i_ (Ne.symm DA),o_ (by simp;exact Q)]at v;cases v;trivial
 ·obtain⟨Y,l0,e1,J,_⟩:=E p f b hp d;exact A.onew Y l0 b e1 J
 ·have In:look (st.fr.map λx=>(x.1,x.2.kill kid)) t=some z:=hz;rw[ni]at In;obtain⟨z0,BT,rfl⟩:=d_.1 In;exact((A.fr t z0 BT).kill C DS Fk).like R
 ·have h1:=A.fix t lt ht hf;by_cases Fr:t=id;·subst Fr;rw[hl]at h1;cases h1;cases hf
  ·by_cases GS:t=kid;·subst GS;rw[C]at h1;cases h1;rw[P]at hf;cases hf
   ·show((θ.set kid .no).set id l1)[t]? =_;rw[i_ (Ne.symm Fr),i_ (Ne.symm GS)];exact h1
section
variable {P:Program}
theorem LL{fn:Func}{rs:List RV}{K:Dz->Prop}{w w':World}{D:Nat->Prop}{c:Ctx}{st:St}{a:Act}(hn:c.n=fn.ntmps)(hw:c.w0=w)(hD:c.D0=D)(hO:c.O0=owns []) (F:fn.results.toList.mapM (kJ P)=some rs) (hr:Rel c st a w') {ys:List AV} {r L:AV} {s:List AObj} (ur:rs.mapM (GF st)=some ys) (H:HF ys r) (rg:∀T,Weak 0 ⟨[(T,r)],st.hp⟩ ⟨[(T,L)],s⟩) (hK:K (some (L,s))): ∃v,(results fn a.tmps).run P w'= .ok v w'/\Back [] D w K (.returned v) w':=by
 obtain⟨θ',D',j⟩:=hr;have z:∀(l:List ResultVar) (M:List RV) (pl:List AV),l.mapM (kJ P)=some M->M.mapM (GF st)=some pl->∃b:List Value,(l.mapM (Sf a.tmps)).run P w'= .ok b w'/\b.length=pl.length/\∀(i:Nat) (u:Value) (q:AV),b[i]? =some u->pl[i]? =some q->RelA θ' D' w' u q:=by
  intro l;induction l with
  |nil=>intro M pl A B;simp at A;subst A;simp at B;subst B;exact⟨[],rfl,rfl,λi u q J=>by simp at J⟩|cons r l ih=>
   intro M pl A B;simp only[C_,I_,T_,c_,h_]at A;obtain⟨rv,qr,At,ph,rfl⟩:=A;simp only[C_,I_,T_,c_,h_]at B;obtain⟨q0,el,wr,U,rfl⟩:=B;obtain⟨u0,N,O⟩:=LN j qr el;obtain⟨b,Q,e4,e5⟩:=ih At wr ph U;refine⟨u0::b,?_,by simp[e4],λi u q J Y=>?_⟩;·rw[C_,Sem.run_bind,N];simp only[Result.andThen_ok,Sem.run_bind,Q,Sem.run_pure]
   ·cases i with|zero=>simp at J Y;subst J;subst Y;exact O|succ i=>exact e5 i u q (by simpa using J) (by simpa using Y)
 obtain⟨b,N,O,Q⟩:=z _ _ _ F ur;have g:(results fn a.tmps).run P w'= .ok (if h:b.toArray.size=1 then b.toArray[0]else .tuple b.toArray) w':=by rw[ES,ai_];simp only[Sem.run_bind,Sem.run_map];rw[N];rfl
 have I:=LJ O Q H;generalize hv:(if h:b.toArray.size=1 then b.toArray[0]else .tuple b.toArray)=v at g I;have hsz:a.tmps.size=fn.ntmps:=by rw[<-hn];exact j.size
 have p:=c.gk;have d:=j.keep;have C:=j.dsub;have n:=j.dnew;have E:=j.onew;rw[hw,hO]at p d;rw[hD]at C n p;rw[hw,hO]at n E;obtain⟨θ2,D2,x⟩:=rg fn.ntmps ⟨fn.ntmps+1,w,D,owns [],[],[],p⟩ {tmps:=a.tmps.push v,defers:=[]} w' (by simp)
  ⟨θ',D',by simp[hsz],rfl,j.ok,d,C,n,E,(λk y f=>by
   simp only[look]at f;split at f
   ·rename_i R;cases f;subst R;have:(a.tmps.push v).getD fn.ntmps undef=v:=by rw[<-hsz];simp[ag_]
    rw[this];exact I
   ·cases f),λk l f=>by simp at f⟩
 have gc:RelA θ2 D2 w' v L:=by
  have:=x.fr fn.ntmps L (by simp[look]);have e:(a.tmps.push v).getD fn.ntmps undef=v:=by rw[<-hsz];simp[ag_]
  rw[e]at this;exact this
 exact⟨_,g,.inl ⟨_,L,s,θ2,D2,rfl,hK,gc,x.ok,x.keep,x.dsub,x.dnew,x.onew,λk l f=>by simp at f,Nat.zero_le _⟩⟩
structure Catch(P:Program)(h:FuncId)(CH:Code):Prop where
 ex:∃hn j t1 t2 p1 p2 a1 a2,P.funcs[h]? =some hn/\hn.ntmps=5/\hn.results= #[]/\
  hn.body=some (.seq (.region j #[⟨some 2,.call {callee:=.builtin .recover,args:= #[],argTypes:= #[]},t1,p1,a1,none⟩,⟨some 3,.binOp .neq t1 (.tmp 2) (.const .nilIface) t1,t2,p2,a2,none⟩] false) (.cond (.tmp 3) CH .skip))/\
  (∃ms,P.underlying t1=some (.interface ms))/\(hn.name== "runtime.NumGoroutine")=false
theorem Catch.idle{h:FuncId}{CH:Code}(hc:Catch P h CH)(U Y:Value)(w:World):CallsD P h #[U,Y] .returning w λe u' w'=>e= .returned (.tuple #[])/\u'= .returning/\w'=w:=by obtain⟨hn,j,t1,t2,p1,p2,a1,a2,N,E,I,J,⟨ms,H⟩,_⟩:=hc.ex;refine callsD_of_wpS N J λz cs R=>?_;apply wpS_seq;apply wpS_region;simp[wpOpsS,go_sem,recoverD,R,E,Exit.thenS,H];refine wpS_cond (t:=false) (by simp[Act.eval,w_]) ?_;simp only[p_,if_false];refine wpS_of_wp (wp_skip ?_);cases z;simp_all[bodyPostS,results]
theorem Catch.panicking{h:FuncId}{CH:Code}(hc:Catch P h CH)(Y pb:Value)(w:World)(t:TypeId)(v:Value){Post:World->Prop} (z:∀x y,CH.wp P (λe N w'=>(e= .normal\/e= .ret)/\N.defers=[]/\Post w') {tmps:= #[Y,pb,x,y,undef],defers:=[]} w): CallsD P h #[Y,pb] (.panicking [{v:=.iface t v,recovered:=false}]) w λe u' w'=>e= .returned (.tuple #[])/\u'= .panicking [{v:=.iface t v,recovered:=true}]/\Post w':=by obtain⟨hn,j,t1,t2,p1,p2,a1,a2,hf,H,U,hb,⟨ms,J⟩,_⟩:=hc.ex;refine callsD_of_wpS hf hb λR cs hu=>?_;apply wpS_seq;apply wpS_region;simp[wpOpsS,go_sem,recoverD,hu,H,Exit.thenS,J];refine wpS_cond (t:=true) (by simp[Act.eval,w_]) ?_;simp only[if_true];refine wpS_of_wp (wp_mono (z _ _) λe N w' he=>?_);obtain⟨E,el,I⟩:=he;rcases E with rfl|rfl<;>simp_all[bodyPostS,results]
theorem Inv.loose{c:Ctx}{θ:List Loc}{D:Nat->Prop}{st:St}{a:Act}{w:World}{ds:List Deferred}{th:List Loc}(h:Inv c θ D st a w)(z:∀(k:Nat) (l:Loc),th[k]? =some l->l.fixed=true->θ[k]? =some l):Inv ⟨c.n,c.w0,c.D0,c.O0,ds,th,c.gk⟩ θ D st {tmps:=a.tmps,defers:=ds} w:=⟨h.size,rfl,h.ok,h.keep,h.dsub,h.dnew,h.onew,h.fr,z⟩
def VB(P:Program)(b:AC)(a:List RV)(ta tb:Nat)(K:Dz->Prop):AE->St->Prop
 | .normal,st| .ret,st=>Cg 0 a K .normal st
 | .exit _,_=>False
 | .pan,st=>W 2 (λst=>look st.fr ta=some (.b (.ptr 0 0))/\look st.fr tb=some (.b (.ptr 1 0))/\
  J3 P 2 b (λe s=>(e= .normal\/e= .ret)/\Cg 0 a K .normal ⟨[(ta,.b (.ptr 0 0)),(tb,.b (.ptr 1 0))],s.hp⟩) ⟨[(0,.b (.ptr 0 0)),(1,.b (.ptr 1 0))],st.hp⟩) st
theorem Mw{f h:FuncId}{fn:Func}{CA CB CH:Code}{xa xb xh:AC}{rs:List RV}{xs:List AV}{K:Dz->Prop}{ta tb t8 j:Nat}{y3 y4:TypeId}{p3 p4:String}{a3 a4:Array Edge}(hm:P.follows .mixedOrders=true)(hf:P.funcs[f]? =some fn) (hb:fn.body=some (.seq CA (.seq (.region j #[⟨some t8,.makeFunc (.func h) #[] #[.tmp ta,.tmp tb],y3,p3,a3,none⟩,⟨none,.defer {callee:=.value (.tmp t8),args:= #[],argTypes:= #[]},y4,p4,a4,none⟩] false) CB))) (Dg:bR P fn.ntmps CA=some xa.canon) (wr:xa.okB=true) (DA:bR P fn.ntmps CB=some xb.canon) (At:xb.okB=true) (DB:bR P 5 CH=some xh.canon) (Bk:xh.okB=true) (p:Catch P h CH) (Q:fn.results.toList.mapM (kJ P)=some rs) (PJ:xs.length<=fn.ntmps) (In:t8<fn.ntmps) (h0:J3 P 0 xa (λe st=>e= .normal/\(look st.fr t8=none/\look st.fr ta=some (.b (.ptr 0 0))/\look st.fr tb=some (.b (.ptr 1 0))/\st.hp.length=2)/\J3 P 2 xb (VB P xh rs ta tb K) st) ⟨uj 0 xs,[]⟩):ACalls P f xs [] K:=by
 intro w θ D vs hG F MT Nd;have Bx:θ.length=0:=F.len;obtain rfl:θ=[]:=r_ Bx;have hO:∀b,D b->¬owns [] b:=λb hb ⟨i,l,hi,hl⟩=>by simp at hi
 refine calls_of_wp_defers hf hb ?_;apply wp_seq;have E:∀w',Keep (owns []) w w'->GW D w':=λw' n=>hG.mono n hO λ_ h=>h;refine wp_mono (vJ hm (m:=0) (c:=⟨fn.ntmps,w,D,owns [],[],[],E⟩) rfl (by simp) CA xa _ ⟨uj 0 xs,[]⟩ {tmps:=vs.toArray++w_ (fn.ntmps - vs.toArray.size) undef,defers:=[]} w Dg wr h0 ?_) λe M w1 he=>?_
 ·refine⟨[],D,by simp;omega,rfl,F,Keep.refl _ _,λ_ h=>h,λ_ h=>.inl h,λi l g hi hg=>by simp at hi,λk y n=>?_,λ_ _ h _=>h⟩;obtain⟨i,rfl,hp⟩:=yb xs 0 k y n;have hi:i<vs.length:=by rw[MT];exact(b_.1 hp).1
  have hv:=a_ hi;have:(vs.toArray++w_ (fn.ntmps - vs.toArray.size) undef).getD (0+i) undef=vs[i]:=by simp[as_,hi]
  rw[this];exact Nd i _ y hv hp
 obtain⟨e',st,C,⟨rfl,⟨h8,DS,Fk,DQ⟩,h1⟩,s,D1,A⟩:=he;cases C;obtain⟨I,J,JT⟩:∃g,s[0]? =some (Av.Loc.blk g)/\M.tmps.getD ta undef= .pointer (some ⟨g,0,none⟩):=A.fr ta _ DS;obtain⟨gb,L,KK⟩:∃g,s[1]? =some (Av.Loc.blk g)/\M.tmps.getD tb undef= .pointer (some ⟨g,0,none⟩):=A.fr tb _ Fk;have d:s=[Av.Loc.blk I,Av.Loc.blk gb]:=by
  have hl:=A.ok.len;rw[DQ]at hl
  match s,hl,J,L with|[x,y],_,J,L=>simp at J L;rw[J,L]
 show Code.wp P _ _ M w1;apply wp_seq;apply wp_region;have qr:M.tmps[ta]?.getD undef= .pointer (some ⟨I,0,none⟩):=by simpa using JT
 have rg:M.tmps[tb]?.getD undef= .pointer (some ⟨gb,0,none⟩):=by simpa using KK
 have hsz:M.tmps.size=fn.ntmps:=A.size;simp[wpOps,go_sem,Instr.makeFunc,qr,rg,hsz,In];refine .inl (.inl ?_);have DE:M.defers=[]:=A.defers;rw[DE];generalize Rg:(Value.func (Fn.func h) #[] #[Value.pointer (some {block:=I,off:=0}),Value.pointer (some {block:=gb,off:=0})])=v8;generalize B:({target:=Target.fn (Fn.func h) #[Value.pointer (some {block:=I,off:=0}),Value.pointer (some {block:=gb,off:=0})],args:= #[]}:Deferred)=d8;have BT:Inv ⟨fn.ntmps,w,D,owns [],[d8],s,E⟩ s D1 st {tmps:=M.tmps.setIfInBounds t8 v8,defers:=[d8]} w1:=by
  refine⟨by simp[hsz],rfl,A.ok,A.keep,A.dsub,A.dnew,A.onew,λk x n=>?_,λ_ _ h _=>h⟩;have Fm:k≠t8:=λe=>by rw[e,h8]at n;cases n
  have:=A.fr k x n;simpa[Array.getD_eq_getD_getElem?,Array.getElem?_setIfInBounds,Ne.symm Fm]using this
 have R:∀w,(invoke d8.target d8.args).run P w= .ok (.enter h #[Value.pointer (some {block:=I,off:=0}),Value.pointer (some {block:=gb,off:=0})]) w:=by
  intro w;subst B;obtain⟨hn,_,_,_,_,_,_,_,DP,_,_,CT,_,Fr⟩:=p.ex;have ur:¬hn.name= "runtime.NumGoroutine" :=by simpa using Fr
  simp[invoke,callFunc,DP,CT,ur,go_sem]
 refine wp_mono (vJ hm (m:=2) (c:=⟨fn.ntmps,w,D,owns [],[d8],s,E⟩) rfl (by simp[d]) CB xb _ st _ w1 DA At h1 ⟨s,D1,BT⟩) λe a w' he=>?_;obtain⟨e',Pc,C,hq,θ2,D2,u⟩:=he;have O:a.defers=[d8]:=u.defers;have ph:Cg 0 rs K .normal Pc->Go.Leaves P fn a.tmps (Back [] D w K) a.defers .returning w':=by rintro⟨RK,hw,ys,r,el,H,r',Pb,Y,hK,_⟩;have hr:=hw _ _ _ (by simp) ⟨θ2,D2,u.loose (ds:=[]) (th:=[]) λ_ _ h _=>by simp at h⟩;obtain⟨v,e1,e2⟩:=LL rfl rfl rfl rfl Q hr el H Y hK;rw[O,<-B];refine leaves_cons (by simp) (by subst B;exact R w') ((p.idle _ _ w').mono ?_);rintro e u' PB ⟨rfl,rfl,rfl⟩;exact⟨v,e1,e2⟩
 cases e' with
 |normal=>cases C;exact ph hq|ret=>cases C;exact ph hq|exit i=>exact hq.elim|pan=>
  obtain⟨ch,⟨t,v,rfl⟩,rfl⟩:=C;obtain⟨PA,Pa,ha,CD,hq⟩:=hq;obtain⟨θ2,D2,u⟩:=Pa _ _ _ (by simp[d]) ⟨θ2,D2,u⟩;have f1:θ2[0]? =some (Av.Loc.blk I):=u.fix 0 _ (by simp[d]) rfl;have f2:θ2[1]? =some (Av.Loc.blk gb):=u.fix 1 _ (by simp[d]) rfl;obtain⟨g,hg,va⟩:∃g,θ2[0]? =some (Av.Loc.blk g)/\a.tmps.getD ta undef= .pointer (some ⟨g,0,none⟩):=u.fr ta _ ha;obtain rfl:I=g:=by rw[f1]at hg;cases hg;rfl
  obtain⟨g,hg,vb⟩:∃g,θ2[1]? =some (Av.Loc.blk g)/\a.tmps.getD tb undef= .pointer (some ⟨g,0,none⟩):=u.fr tb _ CD;obtain rfl:gb=g:=by rw[f2]at hg;cases hg;rfl
  show Go.Leaves P fn a.tmps (Back [] D w K) a.defers (.panicking _) w';rw[O,<-B];refine leaves_cons (by simp) (by subst B;exact R w') ((p.panicking (Post:=λw3=>∃v,(results fn a.tmps).run P w3= .ok v w3/\Back [] D w K (.returned v) w3) _ _ w' t v λx y=>?_).mono ?_)
  ·refine wp_mono (vJ hm (m:=2) (c:=⟨5,w,D,owns [],[],s,E⟩) rfl (by simp[d]) CH xh _ _ _ w' DB Bk hq ⟨θ2,D2,by simp,rfl,u.ok,u.keep,u.dsub,u.dnew,u.onew,λk z n=>?_,u.fix⟩) λe3 a3 w3 DH=>?_
   ·simp only[look]at n;split at n;·rename_i T;cases n;subst T;exact⟨I,f1,rfl⟩
    ·split at n;·rename_i U;cases n;subst U;exact⟨gb,f2,rfl⟩
     ·cases n
   ·obtain⟨e4,PA,DM,⟨GS,Hx⟩,gc,D4,N⟩:=DH;refine⟨by rcases GS with rfl|rfl<;>cases DM<;>simp,N.defers,?_⟩;obtain⟨RM,hw,ys,r,el,H,r',Pb,Y,hK,_⟩:=Hx;have f3:gc[0]? =some (Av.Loc.blk I):=N.fix 0 _ (by simp[d]) rfl;have f4:gc[1]? =some (Av.Loc.blk gb):=N.fix 1 _ (by simp[d]) rfl;have hr:=hw ⟨fn.ntmps,w,D,owns [],[],[],E⟩ {tmps:=a.tmps,defers:=[]} w3 (by simp) ⟨gc,D4,u.size,rfl,N.ok,N.keep,N.dsub,N.dnew,N.onew,λk z n=>(by
     simp only[look]at n;split at n;·rename_i T;cases n;subst T;exact⟨I,f3,va⟩
     ·split at n;·rename_i U;cases n;subst U;exact⟨gb,f4,vb⟩
      ·cases n),λ_ _ h _=>by simp at h⟩
    exact LL (a:={tmps:=a.tmps,defers:=[]}) rfl rfl rfl rfl Q hr el H Y hK
  ·rintro e u' PB ⟨rfl,rfl,v,e1,e2⟩;exact⟨v,e1,e2⟩
end
end Go.Av
