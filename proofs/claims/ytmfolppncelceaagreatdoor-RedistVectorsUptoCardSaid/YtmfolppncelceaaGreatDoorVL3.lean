import Derived.Laws.StructEq
import Derived.Laws.CopyRow
import Derived.MapKept
import Derived.Test.YtmfolppncelceaaGreatDoorVL1
import Derived.Recover
import Derived.Tactics
import Derived.Tactics2
import Derived.Laws.Pointers
set_option linter.unusedVariables false
set_option linter.unusedSimpArgs false
open Array renaming getElem?_eq_getElem->l_,replicate->u_,getElem?_toList->y_,getElem?_append_left->J_,all_eq_true'->W_,getElem?_setIfInBounds_ne->ab_,getD->ae_,mapM_eq_mapM_toList->ag_,getElem?_append->ar_,size_append->aC_,ext'->aQ_
open Bool renaming and_eq_true->m_,false_eq_true->q_,or_eq_true->V_,not_eq_true'->ai_,not_true->aj_,not_false->av_,or_assoc->ax_,eq_iff_iff->aM_,false_or->aT_
open Classical renaming byContradiction->t_,epsilon_spec->aU_,epsilon->aY_
open List renaming getElem?_eq_some_iff->a_,getElem?_eq_getElem->d_,mem_flatMap->e_,mem_of_getElem?->h_,getElem?_set_ne->i_,getElem?_append_left->j_,all_eq_true->k_,getElem?_append_right->n_,mem_append->o_,getElem?_set_self->p_,eq_nil_of_length_eq_zero->s_,mem_range->v_,mem_map->z_,length_cons->A_,mapM_cons->B_,contains_iff_mem->D_,map_cons->E_,getElem?_of_mem->F_,getD->I_,length_nil->L_,map_append->M_,mem_filter->N_,range->P_,mem_cons->R_,getElem?_map->T_,length_append->X_,mem_singleton->Y_,ext_getElem?->aa_,eq_nil_iff_forall_not_mem->ac_,getElem?_take->af_,drop_eq_getElem_cons->ah_,cons_append->al_,filter_cons->am_,length_set->ap_,nil_append->aq_,getElem?_eq_none->as_,length_singleton->au_,getElem?_mapIdx->aw_,set_comm->ay_,getElem?_drop->az_,flatMap_cons->aD_,nodup_append->aE_,size_toArray->aF_,drop_length->aI_,not_mem_nil->aJ_,zipIdx_cons->aK_,find?_cons->aN_,foldl_cons->aO_,nodup_cons->aP_,take_zero->aR_,map_nil->aV_,range'->aX_
open Nat renaming le_refl->w_,lt_or_ge->C_,mul_le_mul_right->G_,pos_of_ne_zero->K_,zero_add->O_,div_lt_iff_lt_mul->S_,add_mul->Z_,div_add_mod->ad_,add_assoc->ak_,le_mul_of_pos_right->an_,mul_comm->ao_,mod_lt->aA_,not_lt->aB_,le_trans->aG_,sub_self->aH_,one_mul->aL_,testBit_or->aS_,add_zero->aW_
open Option renaming bind_eq_some_iff->b_,map_eq_some_iff->c_,isSome_iff_exists->r_,map_some->x_,bind_eq_bind->H_,pure_def->Q_,getD_some->U_
open Option.some renaming inj->f_,injEq->g_
namespace Go.Av
open Go Go.RowKit
section
variable {P:Program} {o:Oper} {c:Ctx} {θ:List Loc} {D:Nat->Prop} {st:St} {a:Act} {w:World}
theorem nz{v u:Value}(h:RelP D w v (.sc u)):v=u:=by cases h;rfl
def zgQ(P:Program)(D:Nat->Prop)(w:World)(d:Nat):Prop:=∀(t:TypeId) (p q:PV) (b:Bool) (v u:Value) (n:Nat),eqP P d t p q=some b->d<=n->RelP D w v p->RelP D w u q->(Op.equalIn n t v u).run P w= .ok b w
theorem zdT{d:Nat}(z:zgQ P D w d):∀(l:List Field) (xs ys:List PV) (b:Bool) (vs us:Array Value) (n:Nat),eqP.eqFs P d l xs ys=some b->d<=n->RelP D w (.agg vs) (.agg xs)->RelP D w (.agg us) (.agg ys)->(Op.eqFields n vs us l).run P w= .ok b w:=by
 intro l;induction l with
 |nil=>intro xs ys b vs us n h _ _ _;simp only[eqP.eqFs,g_]at h;subst h;rfl|cons f l A=>
  intro xs ys b vs us n h hn y x;simp only[eqP.eqFs]at h;split at h;·grind
  ·rename_i c;simp only[b_]at h;obtain⟨i,v,h⟩:=h;split at h;·grind
   ·rename_i hc;simp only[not_or,aB_,not_and,Decidable.not_not,Option.isNone_iff_eq_none]at hc;obtain⟨s,p,r,u⟩:=hc;obtain⟨H,g⟩:=Option.ne_none_iff_exists'.1 s;simp only[b_]at h;obtain⟨k,j,h⟩:=h;have hsz:bZ P f.type=some i.size:=by simp[bZ,v]
    have a:mh P f.type=false->i.size=1:=λe=>u e;obtain⟨E,r1⟩:=EG (off:=f.offset) (sz:=i.size) y rfl p a;obtain⟨F,r2⟩:=EG (off:=f.offset) (sz:=i.size) x rfl r a;have B:=AJ (P:=P) (w:=w) (t:=f.type) (cs:=vs) (off:=f.offset) g hsz (by rw[E];exact p) a;have C:=AJ (P:=P) (w:=w) (t:=f.type) (cs:=us) (off:=f.offset) g hsz (by rw[F];exact r) a;have e:=z f.type _ _ k _ _ n j hn r1 r2;simp only[Op.eqFields];rw[if_pos c];simp only[Sem.run_bind,B,C,e,Result.andThen_ok];cases k;·simp only[q_,if_false,g_]at h;subst h;rfl
    grind
theorem Td:∀(d:Nat),zgQ P D w d:=by
 intro d;induction d with
 |zero=>intro t p q b v u n h _ _ _;simp[eqP]at h|succ d x=>
  intro t p q b v u n h hn e c;obtain⟨m,rfl⟩:∃m,n=m+1:=⟨n - 1,by omega⟩;unfold eqP at h;split at h;·rename_i a;rw[nz e,nz c];cases h;exact run_equalIn_bool' w m t _ _ a
  ·rename_i a;rw[nz e,nz c];split at h;·rename_i s;subst s;cases h;exact run_equalIn_int w m t _ _ _ _ a
   grind
  ·rename_i a;rw[nz e,nz c];cases h;rw[beq_toListBytes];exact run_equalIn_string w m t _ _ a
  ·rename_i l xs ys a;split at h;·grind
   ·rename_i hs;have r:P.fieldsOf t=l:=by simp[Program.fieldsOf,a]
    cases e with|agg vs _ j f=>cases c with|agg us _ k g=>rw[run_equalIn_struct w m t vs us (by grind) (by grind),r];exact zdT x l.toList xs ys b vs us m h (by omega) (.agg vs xs j f) (.agg us ys k g)
  grind
theorem Si(g:Inv c θ D st a w){K:AV->Prop}{op:BinOp}{neg:Bool}{t B:TypeId}{n:Array Field}{x y:Operand}(s:o.op= .binOp op t x y B)(j:op=if neg then .neq else .eql)(v:P.underlying t=some (.struct n))(hg:P.eqGuardType P.depth t=false) (h:ou P st (.eqT neg t (.of x) (.of y)) K):Yields P o a w (Res c θ st a K):=by
 obtain⟨C,z,E,A,p,hp,q,u,b,f,r⟩:=h;have r1:=db (g.get z) hp;have r2:=db (g.get A) u;refine aN g ?_ r (RelP.sc _);have e:=Td (P:=P) (D:=D) (w:=w) 64 t p q b _ _ 10000 f (by simp) r1 r2;have d:∃xs ys,a.eval x= .agg xs/\a.eval y= .agg ys:=by
  unfold eqP at f;rw[v]at f;generalize a.eval x=F at r1⊢;generalize a.eval y=H at r2⊢;split at f;·grind
  ·grind
  ·grind
  ·cases r1;cases r2;simp
  grind
 obtain⟨xs,ys,k,l⟩:=d;rw[k,l]at e;simp only[execOp,s,k,l,Sem.run_bind,run_eqGuard_agg w op t x y xs ys hg,Result.andThen_ok];subst j;cases neg;·simp only[q_,if_false,run_eql_struct,e,Result.andThen_ok,Sem.run_pure,Bool.false_xor]
 ·simp only[if_true,run_neq_struct,e,Result.andThen_ok,Sem.run_pure,Bool.true_xor]
theorem Rw{k:TypeId}{x:PV}:∀{l:List (PV×PV)} {i:Nat} {r:Option (Nat×PV)},CN P k x l i=some r->
 (r=none/\∀a∈l,eqP P 64 k x a.1=some false)\/(∃j a,r=some (i+j,a.2)/\l[j]? =some a/\eqP P 64 k x a.1=some true/\∀c∈l.take j,eqP P 64 k x c.1=some false)
 |[],i,r,h=>by simp only[CN,g_]at h;grind
 |a::l,i,r,h=>by
  simp only[CN,b_]at h;obtain⟨b,g,h⟩:=h;cases b
  ·simp only[q_,if_false]at h;rcases Rw h with⟨d,e⟩|⟨j,c,d,e,f,n⟩;·grind
   ·refine .inr ⟨j+1,c,by grind,by grind,f,λy p=>?_⟩;grind
  ·simp only[if_true,g_]at h;exact .inr ⟨0,a,by grind,rfl,g,by simp⟩
theorem Eu{k:TypeId}{v:Value}:∀(a:List MapEntry) (i:Nat) (f:MapEntry->Bool),(∀e∈a,(Op.equal k v e.key).run P w= .ok (f e) w)->
 (Instr.findAsking k v a i).run P w= .ok ((a.zipIdx i).find? (λe=>f e.1) |>.map λe=>(e.2,e.1.val)) w
 |[],i,f,_=>by rfl
 |e::a,i,f,h=>by
  simp only[Instr.findAsking,Sem.run_bind,h e (by simp),Result.andThen_ok,aK_,aN_];cases b:f e;·simp only[q_,if_false];exact Eu a (i+1) f λy c=>h y (by grind)
  rfl
theorem findNow_spec{d:TypeDesc}{v:Value}:∀(a:List MapEntry) (i:Nat) (f:MapEntry->Bool) {r:Option (Nat×Value)},(∀e∈a,∀b,Instr.sameNow d v e.key=some b->b=f e)->Instr.findNow d v a i=some r->
 r=((a.zipIdx i).find? (λe=>f e.1) |>.map λe=>(e.2,e.1.val))
 |[],i,f,r,_,h=>by simp only[Instr.findNow,g_]at h;grind
 |e::a,i,f,r,hs,h=>by
  simp only[Instr.findNow]at h;simp only[aK_,aN_];split at h;·grind
  ·rename_i c;rw[<-hs e (by simp) false c];exact findNow_spec a (i+1) f (λy g=>hs y (by grind)) h
  grind
theorem zf7{a:List MapEntry}{l:List (PV×PV)}{k:TypeId}{x:PV}{i:Nat}{r:Option (Nat×PV)}{f:MapEntry->Bool}(hl:a.length=l.length)(A:∀(j:Nat) (e:MapEntry) (b:PV×PV),a[j]? =some e->l[j]? =some b->eqP P 64 k x b.1=some (f e))(h:CN P k x l i=some r):(r=none/\(a.zipIdx i).find? (λe=>f e.1)=none)\/∃j b e,r=some (i+j,b.2)/\l[j]? =some b/\a[j]? =some e/\(a.zipIdx i).find? (λe=>f e.1)=some (e,i+j):=by
 rcases Rw h with⟨v,u⟩|⟨j,b,v,u,B,C⟩;·refine .inl ⟨v,?_⟩;rw[List.find?_eq_none];rintro⟨e,n⟩ c;obtain⟨j,y⟩:=F_ c;rw[List.getElem?_zipIdx]at y;cases d:a[j]? with|none=>grind|some H=>rw[d]at y;cases y;obtain⟨b,E⟩:=bA (l:=l) hl.symm d;grind
 ·obtain⟨e,c⟩:=bA (l:=a) hl u;refine .inr ⟨j,b,e,v,u,c,?_⟩;have z:j<a.length:=(a_.1 c).1;rw[List.find?_eq_some_iff_getElem];have w:=A j e b c u;rw[B]at w;refine⟨by grind,j,by simpa using z,?_,λm F=>?_⟩;·grind
  ·have p:m<a.length:=by omega
   obtain⟨s,g⟩:=bA (l:=l) hl.symm (d_ p);have D:=A m _ s (d_ p) g;rw[C s (h_ (by rw[af_,if_pos F];omega))]at D;grind
theorem rN(em:Bool):∀(d n:Nat) (t:TypeId) (v:Value) (p:PV),Ka P d t p=true->d<=n->RelP D w v p->(Instr.checkKey em n t v).run P w= .ok () w
 |0,n,t,v,p,h,_,_=>by simp[Ka]at h
 |d+1,n,t,v,p,h,hn,j=>by
  obtain⟨m,rfl⟩:∃m,n=m+1:=⟨n - 1,by omega⟩;unfold Ka at h;rw[Instr.checkKey];split at h;·rename_i c;rw[nz j];simp[run_underlying c]
  ·rename_i c;rw[nz j];simp[run_underlying c]
  ·rename_i c;rw[nz j];simp[run_underlying c]
  ·rename_i y xs c;cases j with
   |agg vs _ hs C=>
    have s:RelP D w (.agg vs) (.agg xs):=.agg vs xs hs C;simp only[Sem.run_bind,run_underlying c,Result.andThen_ok];rw[<-Array.forIn_toList];have a:=k_.1 h;revert a;generalize y.toList=l;intro a;induction l with
    |nil=>rfl|cons f l F=>
     have b:=a f (by simp);simp only[m_,bne_iff_ne,ne_eq]at b;obtain⟨r,b⟩:=b;split at b
     ·rename_i i E;simp only[m_,decide_eq_true_eq,V_]at b;obtain⟨⟨⟨z,A⟩,x⟩,B⟩:=b;obtain⟨I,k⟩:=r_.1 z;have hsz:bZ P f.type=some i.size:=by simp[bZ,E]
      have g:mh P f.type=false->i.size=1:=λe=>x.elim (λx=>by grind) id;obtain⟨J,r1⟩:=EG (off:=f.offset) (sz:=i.size) s rfl A g;have H:=AJ (P:=P) (w:=w) (t:=f.type) (cs:=vs) (off:=f.offset) k hsz (by omega) g;have e:=rN em d m f.type _ _ B (by omega) r1;have u:=F λf b=>a f (by grind);simp only[List.forIn_cons,Sem.run_bind,Sem.run_ite,r,not_false_eq_true,ne_eq,if_true,H,Result.andThen_ok,e,Sem.run_pure];simpa using u
     grind
  grind
theorem Kn{k:TypeId}{v:Value}{a:Array MapEntry}{f:MapEntry->Bool}{d:TypeDesc}(hd:P.underlying k=some d)(h:∀e∈a.toList,(Op.equal k v e.key).run P w= .ok (f e) w)(hs:∀e∈a.toList,∀b,Instr.sameNow d v e.key=some b->b=f e):(Instr.findKey k v a.toList).run P w= .ok ((a.toList.zipIdx 0).find? (λe=>f e.1) |>.map λe=>(e.2,e.1.val)) w:=by simp only[Instr.findKey,Sem.run_bind,run_underlying hd,Result.andThen_ok];cases hn:Instr.findNow d v a.toList 0 with|none=>exact Eu a.toList 0 f h|some r=>rw[findNow_spec a.toList 0 f hs hn];rfl
theorem zag{k:TypeId}{d:TypeDesc}{v u:Value}{b c:Bool}(hd:P.underlying k=some d)(h:Instr.sameNow d v u=some b)(a:(Op.equal k v u).run P w= .ok c w):b=c:=by
 have e:(Op.equal k v u)=Op.equalIn (9999+1) k v u:=rfl;rw[e]at a;unfold Instr.sameNow at h;split at h
 ·split at h;·rename_i f;subst f;cases h;rw[run_equalIn_int w 9999 k _ _ _ _ hd]at a;grind
  grind
 ·cases h;rw[run_equalIn_string w 9999 k _ _ hd,<-beq_toListBytes]at a;grind
 ·cases h;rw[run_equalIn_bool' w 9999 k _ _ hd]at a;grind
 grind
theorem Wg(M:Inv c θ D st a w){k:TypeId}{kvs:List (PV×PV)}{n:Array MapEntry}{v:Value}{p:PV}{r:Option (Nat×PV)}(N:n.size=kvs.length) (u:∀(i:Nat) (e:MapEntry) (g:PV×PV),n[i]? =some e->kvs[i]? =some g->RelP D w e.key g.1/\RelP D w e.val g.2) (J:RelP D w v p) (hr:CN P k p kvs 0=some r) (s:∀g∈kvs,(eqP P 64 k p g.1).isSome=true) (hd:(P.underlying k).isSome=true): ∃res,(Instr.findKey k v n.toList).run P w= .ok res w/\((r=none/\res=none)\/∃j g e,r=some (j,g.2)/\kvs[j]? =some g/\n[j]? =some e/\res=some (j,e.val)/\eqP P 64 k p g.1=some true):=by
 have _:=M;obtain⟨d,hd⟩:=r_.1 hd;have z:∀e∈n.toList,∃(i:Nat) (g:PV×PV) (b:Bool),n[i]? =some e/\kvs[i]? =some g/\eqP P 64 k p g.1=some b/\(Op.equal k v e.key).run P w= .ok b w:=by
  intro e B;obtain⟨i,F⟩:=F_ B;rw[y_]at F;have H:i<kvs.length:=by grind
  have l:=d_ H;obtain⟨b,y⟩:=r_.1 (s _ (h_ l));exact⟨i,_,b,F,l,y,Td (P:=P) (D:=D) (w:=w) 64 k p _ b v e.key 10000 y (by simp) J (u i e _ F l).1⟩
 classical
 let f:MapEntry->Bool:=λe=>if h:e∈n.toList then(z e h).choose_spec.choose_spec.choose else false;have C:∀e,(h:e∈n.toList)->(Op.equal k v e.key).run P w= .ok (f e) w:=λe h=>by grind
 have x:=Kn (f:=f) hd C λe h b y=>zag hd y (C e h);refine⟨_,x,?_⟩;have E:∀(j:Nat) (e:MapEntry) (g:PV×PV),n.toList[j]? =some e->kvs[j]? =some g->eqP P 64 k p g.1=some (f e):=by intro j e g O l;obtain⟨b,y⟩:=r_.1 (s _ (h_ l));have A:=Td (P:=P) (D:=D) (w:=w) 64 k p _ b v e.key 10000 y (by simp) J (u j e g (by grind) l).1;have I:=C e (h_ O);have L:(Op.equal k v e.key).run P w= .ok b w:=A;grind
 rcases zf7 (by omega) E hr with⟨A,I⟩|⟨j,g,e,A,I,L,Q⟩;all_goals grind
theorem xr{g:Nat}{b:Array MapEntry}{a:Nat}(h:w.heap[g]? =some (.map b a)):(getObj g).run P w= .ok (.map b a) w:=MapKept.run_getObj_map h
theorem TQ(B:Inv c θ D st a w){K:AV->Prop}{t k e:TypeId}{m x:Operand}{d:Bool}{z:Value}(Y:o.op= .lookup t m x d)(ht:P.underlying t=some (.map k e))(hz:eP P e=some z) (h:ou P st (.lookup k e d z (.of m) (.of x)) K):Yields P o a w (Res c θ st a K):=by
 obtain⟨am,hm,ax,C,id,kvs,rfl,O,p,hp,I,hd,F,r,hr,N⟩:=h;obtain⟨g,hg,y⟩:=B.get hm;obtain⟨es,J,T,h2,U⟩:=B.ok.objs id _ _ hg O;have f:=db (B.get C) hp;obtain⟨res,l,s⟩:=Wg B h2 U f hr F hd;have H:∀em,(Instr.checkKey em 10000 k (a.eval x)).run P w= .ok () w:=λem=>rN em 64 10000 k _ p I (by simp) f;simp only[eP,b_]at hz;obtain⟨it,M,Q⟩:=hz;have A:(zeroValue e).run P w= .ok z w:=by simp[zeroValue,typeInfo,M,Q]
 have E:∀(u:Value) (q:PV) (b:Bool),RelP D w u q->(execOp a.eval o).run P w= .ok (.value (if d then .tuple #[u,.bool b]else u)) w->K (match d with|true=>.tup [.pv q,.pv (.sc (.bool b))]|false=>.p q)->Yields P o a w (Res c θ st a K):=by
  intro u q b hu n N;cases d;·exact aN B n N hu
  ·refine aN B n N ⟨#[u,.bool b],rfl,rfl,λi v x y C=>?_⟩
   match i with|0=>simp at y C;subst y;subst C;exact hu|1=>simp at y C;subst y;subst C;exact RelP.sc _|i+2=>grind
 rcases s with⟨rfl,rfl⟩|⟨j,kv,R,rfl,hj,L,rfl,_⟩;·refine E z (.sc z) false (RelP.sc z) ?_ (by grind);simp[execOp,Y,Instr.lookup,run_underlying ht,y,xr T,H,l,A]
 ·refine E R.val kv.2 true (U j R kv L hj).2 ?_ (by grind);simp[execOp,Y,Instr.lookup,run_underlying ht,y,xr T,H,l]
theorem zaw(l:Inv c θ D st a w){K:AV->Prop}{x:Operand}{t k e:TypeId}{f:Call}(v:o.op= .call f)(n:f.callee= .builtin .len)(b:f.args= #[x])(d:f.argTypes= #[t]) (y:P.underlying t=some (.map k e)) (h:ou P st (.lenM k e (.of x)) K):Yields P o a w (Res c θ st a K):=by obtain⟨B,A,id,kvs,rfl,p,u⟩:=h;obtain⟨g,hg,z⟩:=l.get A;obtain⟨C,j,r,s,E⟩:=l.ok.objs id _ _ hg p;refine aN l ?_ u (RelP.sc _);simp[execOp,v,resolve,n,b,d,invoke,builtin,Builtin.len_,run_underlying y,z,goInt,xr r,s]
theorem Wq(g:Inv c θ D st a w)(hd:∀k,o.dst=some k->k<c.n){K KP:St->Prop}{t k e:TypeId}(j:o.op= .makeMap t none){pl:Option Nat} (h:Ou st (.mkmap k e) λob mk=>IX st pl/\K ((st.new pl ob).putO o.dst (.b (mk (st.nid pl))))):Leaves P o c K KP a w:=by
 intro next Q hn _;obtain⟨f,h⟩:=h;obtain⟨θ',d,hid⟩:=g.allocAt f (l:=.mp w.heap.size) (o:=.map k e []) (ob:=.map #[] 0) (λ_ h=>h) λθ' n=>⟨#[],0,gV w _,rfl,λi p s r=>by simp⟩;have b:(execOp a.eval o).run P w= .ok (.value (.map (some w.heap.size))) (w.alloc (.map #[] 0)):=by simp[execOp,j,Instr.makeMap]
 unfold Oper.wp;rw[b];exact hn _ _ ⟨_,h,_,_,d.put hd ⟨w.heap.size,hid,rfl⟩⟩
theorem Xa(b:Inv c θ D st a w)(hd:∀k,o.dst=some k->k<c.n){K KP:St->Prop}{t k e:TypeId}(d:o.op= .makeMap t none)(h:sexec P o.dst (.mkmap k e) st K KP):Leaves P o c K KP a w:=Wq b hd d (pl:=none) ⟨trivial,h⟩
theorem Oo:∀{p q:PV} {v u:Value},p.plain=true->RelP D w v p->RelP D w u p->Instr.sameBits 10000 v u=true:=by
 intro p q v u hp h g;cases p with
 |sc s=>rw[nz h,nz g];cases s<;>simp[PV.plain]at hp<;>simp[Instr.sameBits,beq_toListBytes]|agg xs=>
  cases h with
  |agg vs _ n j=>
   cases g with
   |agg us _ r k=>
    simp only[PV.plain,k_]at hp;show((vs.size==us.size)&&_)=true;simp only[m_,beq_iff_eq,k_];refine⟨by omega,λx l=>?_⟩;obtain⟨i,f⟩:=F_ l;rw[List.getElem?_zip_eq_some]at f;obtain⟨d,e⟩:=f;rw[y_]at d e;have c:i<xs.length:=by grind
    have b:=d_ c;have a:=hp _ (h_ b);have r1:=j i _ _ d b;have r2:=k i _ _ e b;revert r1 r2 a;generalize xs[i]=y;intro a r1 r2;cases y with|sc s=>rw[nz r1,nz r2];cases s<;>simp at a<;>simp[Instr.sameBits,beq_toListBytes]|_=>grind
 |_=>simp[PV.plain]at hp
theorem Sb{h:Array Obj}{g k:Nat}{ob:Obj}(a:k≠g):(h.setIfInBounds g ob)[k]? =h[k]? :=ab_ (Ne.symm a)
theorem I8(F:Inv c θ D st a w)(ph:o.dst=none){K KP:St->Prop}{t k e:TypeId}{m x y:Operand}(H:o.op= .mapUpdate t m x y\/o.op= .insert t m x y)(ht:P.underlying t=some (.map k e)) (h:sexec P o.dst (.mapset k e (.of m) (.of x) (.of y)) st K KP):Leaves P o c K KP a w:=by
 intro next Q hn _;obtain⟨am,hm,ax,hx,ay,hy,id,kvs,rfl,wr,p,hp,q,hq,_,C,U,hd,R,r,hr,N,hk⟩:=h;obtain⟨g,hg,hv⟩:=F.get hm;obtain⟨es,n,h1,h2,h3⟩:=F.ok.objs id _ _ hg wr;have u:=db (F.get hx) hp;have At:=db (F.get hy) hq;obtain⟨res,I,M⟩:=Wg F h2 h3 u hr R hd;have T:∀em,(Instr.checkKey em 10000 k (a.eval x)).run P w= .ok () w:=λem=>rN em 64 10000 k _ p U (by simp) u;have Bx:g<w.heap.size:=(F.ok.olt id _ g hg rfl).1;have O:∀(ob:Obj) (l:List (PV×PV)),(execOp a.eval o).run P w= .ok .skip {w with heap:=w.heap.setIfInBounds g ob}->(∃(s:Array MapEntry) (f:Nat),ob= .map s f/\s.size=l.length/\∀(i:Nat) (A:MapEntry) (E:PV×PV),s[i]? =some A->l[i]? =some E->RelP D w A.key E.1/\RelP D w A.val E.2)->K {st with hp:=st.hp.set id (.map k e l)}->o.wp P a w next Q:=by
  rintro ob l Y ⟨s,f,rfl,ur,z⟩ hk
  have hD:∀b,D b->({w with heap:=w.heap.setIfInBounds g (.map s f)}:World).heap[b]? =w.heap[b]? :=λb hb=>Sb λe=>(F.ok.olt id _ g hg rfl).2 (e▸hb)
  have gc:=F.store (o':=.map k e l) (w':={w with heap:=w.heap.setIfInBounds g (.map s f)}) hg rfl rfl rfl rfl (by simp) (λk' rg=>Sb rg) ⟨s,f,by grind,ur,λi A E he B=>⟨(z i A E he B).1.mono (λ_ h=>h) hD,(z i A E he B).2.mono (λ_ h=>h) hD⟩⟩
  unfold Oper.wp
  rw[Y]
  refine hn _ _ ⟨_,hk,θ,D,?_⟩
  have:=gc.put (d:=none) (v:=undef) (x:=.v undef) (λ_ h=>by grind) (RelP.sc _)
  rw[ph]
  exact this
 have J:∀(ob:Obj),(setObj g ob).run P w= .ok () {w with heap:=w.heap.setIfInBounds g ob}:=λob=>MapKept.run_setObj_map ob h1;rcases M with⟨rfl,rfl⟩|⟨j,E,A,rfl,hj,qr,rfl,_⟩
 ·refine O (.map (es.push {key:=a.eval x,val:=a.eval y,born:=n}) (n+1)) (kvs++[(p,q)]) ?_ ⟨_,_,rfl,by grind,λi A E he B=>?_⟩ hk;·rcases H with H|H<;>simp only[execOp,H,Instr.mapUpdate,Sem.run_bind,run_underlying ht,Result.andThen_ok,hv,xr h1,T,I,J,Sem.run_pure]
  grind
 ·obtain⟨u',el⟩:=N j E.2 rfl;rw[hj]at el;cases el;have hold:((es[j]?).map (·.key)).getD (a.eval x)=A.key:=by grind
  have L:=Oo (q:=p) C (h3 j A _ qr hj).1 u;refine O (.map (es.modify j λe=>{e with key:=a.eval x,val:=a.eval y}) n) (kvs.set j (p,q)) ?_ ⟨_,_,rfl,by grind,λi Bk BT he B=>?_⟩ hk;·rcases H with H|H<;>simp only[execOp,H,Instr.mapUpdate,Sem.run_bind,run_underlying ht,Result.andThen_ok,hv,xr h1,T,I,hold,Instr.keyThatStays,L,if_true,Sem.run_pure,J]
  grind
theorem zaz(r:Inv c θ D st a w){K:AV->Prop}{f:FuncId}{first caps:Array Operand}(I:o.op= .makeFunc (.func f) first caps)(H:first= #[])(h:ou P st (.mkfn f (caps.toList.map SX.of)) K):Yields P o a w (Res c θ st a K):=by
 obtain⟨ars,u,d⟩:=h;obtain⟨B,J⟩:=mapM_some u;subst H;have b:(execOp a.eval o).run P w= .ok (.value (.func (.func f) #[] (caps.map a.eval))) w:=by simp[execOp,I,Instr.makeFunc]
 have e:∀(i:Nat) (x:AV),ars[i]? =some x->∃y,caps.toList[i]? =some y/\RelA θ D w (a.eval y) x:=λi x p=>by obtain⟨s,hs⟩:=bA (l:=caps.toList.map SX.of) B p;have hg:=J i s x hs p;rw[T_]at hs;cases hc:caps.toList[i]? with|none=>rw[hc]at hs;cases hs|some y=>rw[hc]at hs;cases hs;exact⟨y,rfl,r.get hg⟩
 rcases d with⟨ids,rfl,n⟩|⟨R,rfl,n⟩
 ·refine aN r b n ?_;have hg:∀(i:Nat),i<ids.length->∃g:Nat,∀id y,ids[i]? =some id->caps.toList[i]? =some y->θ[id]? =some (.blk g)/\a.eval y= .pointer (some ⟨g,0,none⟩):=λi Q=>by obtain⟨y,j,hr⟩:=e i (.b (.ptr ids[i] 0)) (by simp);obtain⟨g,L,M⟩:=hr;exact⟨g,λid T N O=>by grind⟩
  obtain⟨F,C,E⟩:=jT hg;refine⟨F,C,λk id g hid z=>?_,?_⟩;·have n:k<ids.length:=(a_.1 hid).1;obtain⟨y,j,_⟩:=e k (.b (.ptr id 0)) (by simp[hid]);exact(E k g z id y hid j).1
  ·congr 1;apply aQ_;apply aa_;grind
 ·refine aN r b n (RelP.fn _ _ _ (by simpa using B) λi v x A p=>?_);obtain⟨y,j,hr⟩:=e i (.p x) (by simp[p]);rw[Array.getElem?_map]at A;rw[y_]at j;rw[j]at A;cases A;exact hr
theorem zam(r:Inv c θ D st a w)(hd:∀k,o.dst=some k->k<c.n){K KP:St->Prop}{t:TypeId}{x:Operand}(N:o.op= .box t x)(h:ou P st (.boxD t (.of x)) λx=>K (st.putO o.dst x)):Leaves P o c K KP a w:=by
 intro next Q hn _;obtain⟨C,O,p,hp,g,M,L⟩:=h;have J:=r.get O;obtain⟨U,I⟩:=xn J g;have n:(execOp a.eval o).run P w= .ok (.value (.pointer (some ⟨w.heap.size,0,none⟩))) (w.alloc (.cells (a.eval x).cells t)):=by simp[execOp,N,Instr.box,newVar,newRow]
 have A:=r.below (D':=λb=>D b\/(w.heap.size<=b/\b<(w.alloc (.cells (a.eval x).cells t)).heap.size)) (qg w _) r.w0le (λb f=>.inl f) (λb f=>f);unfold Oper.wp;rw[n];refine hn _ _ ⟨_,L,θ,_,A.put hd ?_⟩;have s:∀(j:Nat) (y:PV),p.cells[j]? =some y->∃z,C.cells[j]? =some z/\z.toPV=some y:=by
  intro j y d;cases C with
  |tup xs=>simp[AV.ok,AV.cells,BV.cellOk,PV.cellOk]at g|agg xs=>simp only[AV.toPV,c_]at hp;obtain⟨Y,B,rfl⟩:=hp;obtain⟨R,T⟩:=mapM_some B;simp only[PV.cells]at d;obtain⟨z,s⟩:=bA (l:=xs) R d;exact⟨z,s,T j z y s d⟩
  |b H=>
   cases H with
   |pv q=>cases hp;exact⟨.pv y,by simp[AV.cells,d],rfl⟩|nils=>cases hp;simp only[PV.cells]at d;cases j with|zero=>simp at d;subst d;exact⟨.nils,rfl,rfl⟩|succ j=>grind
   |full q=>grind|_=>cases hp
 have e:∀(j:Nat) (y:PV),p.cells[j]? =some y->∃u,(a.eval x).cells[j]? =some u/\RelP D w u y:=by
  intro j y d;obtain⟨z,E,v⟩:=s j y d;have F:j<(a.eval x).cells.size:=by grind
  exact⟨_,l_ F,sX (I j _ z (l_ F) E).1 v⟩
 exact yo (b:=w.heap.size) (o:=0) (.inr ⟨w_ _,by simp⟩) λj y d=>by obtain⟨u,E,v⟩:=e j y d;refine⟨u,?_,v.mono (λb f=>.inl f) (λb f=>fX w _ b (r.ok.dlt b f))⟩;rw[O_,cell_of_row _ _ _ (a.eval x).cells t (0,0) (gV w _)];omega
theorem W9(e:Inv c θ D st a w){K:AV->Prop}{t:TypeId}{x:Operand}(g:o.op= .makeInterface t x)(b:(match P.underlying t with|some (.interface _)=>false|some _=>true|none=>false)=true)(h:ou P st (.iface t (.of x)) K):Yields P o a w (Res c θ st a K):=by obtain⟨j,k,f⟩:=h;cases hd:P.underlying t with|none=>grind|some d=>refine aN e (v:=.iface t (a.eval x)) ?_ f ⟨t,a.eval x,rfl⟩;rw[hd]at b;cases d<;>simp at b<;>simp[execOp,g,Instr.makeInterface,run_underlying hd]
theorem Wn{k:IntKind}(mx:Bool):∀(c:List Int) (n:Int),((c.map λn=>Value.int k n).foldlM (if mx then Builtin.max2 else Builtin.min2) (.int k n)).run P w= .ok (.int k (c.foldl (λa b=>if mx then max a b else min a b) n)) w
 |[],n=>by rfl
 |m::c,n=>by
  have d:=Wn (k:=k) mx c (if mx then max n m else min n m);simp only[E_,List.foldlM_cons,aO_,Sem.run_bind];cases mx
  ·have:(Builtin.min2 (.int k n) (.int k m)).run P w= .ok (.int k (min n m)) w:=by simp only[Builtin.min2,Sem.run_pure];grind
   simp only[q_,if_false,this,Result.andThen_ok]at d⊢;omega
  ·have:(Builtin.max2 (.int k n) (.int k m)).run P w= .ok (.int k (max n m)) w:=by simp only[Builtin.max2,Sem.run_pure];grind
   simp only[if_true,this,Result.andThen_ok]at d⊢;omega
theorem Ov(p:Inv c θ D st a w){K:AV->Prop}{mx:Bool}{k:IntKind}{x:Operand}{ys:List Operand}{g:Call}(z:o.op= .call g)(d:g.callee= .builtin (if mx then .max else .min))(r:g.args.toList=x::ys) (h:ou P st (.mnmx mx k (.of x) (ys.map SX.of)) K):Yields P o a w (Res c θ st a K):=by
 obtain⟨H,C,B⟩:=h;obtain⟨f,n,hn,ars,s,e,rfl,rfl,A⟩:=dq (p.get C) B;obtain⟨I,F⟩:=mapM_some s;have v:ys.map a.eval=e.map λn=>Value.int f n:=by
  apply aa_;intro i;simp only[T_];have hl:ys.length=e.length:=by grind
  rcases C_ i e.length with y|y;·have E:=d_ (l:=ys) (i:=i) (by omega);have u:=d_ y;rw[E,u];have:=F i (SX.of ys[i]) (.v (.int f e[i])) (by grind) (by simp);simp only[x_];rw[Z9 (p.get this)]
  grind
 have b:g.args.toList.map a.eval=Value.int f n::e.map λn=>Value.int f n:=by grind
 refine aN p ?_ A (RelP.sc _);have j:=Wn (P:=P) (w:=w) (k:=f) mx e n;cases mx;·simp only[q_,if_false]at d j;simp[execOp,z,resolve,d,invoke,builtin,Builtin.min_,b,j]
 ·simp only[if_true]at d j;simp[execOp,z,resolve,d,invoke,builtin,Builtin.max_,b,j]
theorem Xc(d:Inv c θ D st a w){K KP:St->Prop}{x:Operand}(f:o.op= .panic x)(h:sexec P o.dst (.panic (.of x)) st K KP):Leaves P o c K KP a w:=by
 intro next Q _ hp;obtain⟨k,j,rfl,e⟩:=h;obtain⟨t,u,g⟩:=d.get j;have b:(execOp a.eval o).run P w= .halt (.panic (.iface t u)) w:=by simp[execOp,f,g,Instr.panic,goPanic]
 unfold Oper.wp;rw[b];exact hp _ w ⟨⟨t,u,rfl⟩,st,e,θ,D,d⟩
theorem zcQ{L:List PV}{z:Option Addr}{cap sz n:Nat}(O:Inv c θ D st a w)(E:0<sz)(A:∀p∈L,p.ok=true)(hn:n<=L.length) (e:0<L.length->∃b o,z=some ⟨b,o,none⟩/\b<w.heap.size/\(∀x∈L,x.cells.length=sz)/\∀(i j:Nat) (x y:PV),L[i]? =some x->x.cells[j]? =some y->∃u,w.cell? ⟨b,o+i*sz+j,none⟩=some u/\RelP D w u y): ∃d:List Value,d.length=n*sz/\(Builtin.firstCells sz n (.slice z L.length cap)).run P w= .ok d.toArray w/\(∀u∈d,u.oneCell'=true)/\(0<n->∀x∈L,x.cells.length=sz)/\∀(i j:Nat) (p q:PV),i<n->L[i]? =some p->p.cells[j]? =some q->∃u,d[i*sz+j]? =some u/\RelP D w u q:=by
 have _:=O;rcases Nat.eq_zero_or_pos n with rfl|F;·refine⟨[],by simp,?_,λu H=>by grind,λh=>absurd h (by simp),λi j p q r=>absurd r (by simp)⟩;cases z with|none=>rfl|some J=>exact run_firstCells_some (P:=P) w sz 0 J L.length cap [] (by simp) (λj v s=>by grind)
 ·obtain⟨g,I,rfl,hg,hsz,hc⟩:=e (by omega);obtain⟨d,C,n2⟩:=jT (n:=n*sz) (p:=λk u=>w.cell? ⟨g,I+k,none⟩=some u/\u.oneCell'=true/\∀(p q:PV),L[k/sz]? =some p->p.cells[k%sz]? =some q->RelP D w u q) (λk Q=>by
   have r:k/sz<n:=(S_ E).2 Q;have s:k%sz<sz:=aA_ _ E;have hp:=d_ (l:=L) (i:=k/sz) (by omega);have U:=hsz _ (h_ hp);have B:=d_ (l:=(L[k/sz]'(by omega)).cells) (i:=k%sz) (by omega);obtain⟨u,M,N⟩:=hc _ _ _ _ hp B;refine⟨u,?_,?_,λp q T Y=>?_⟩;·rw[<-M,ak_,ao_,ad_]
   ·have f:=A _ (h_ hp);simp only[PV.ok,k_]at f;exact m4 N (f _ (h_ B))
   grind)
  refine⟨d,C,run_firstCells_some (P:=P) w sz n ⟨g,I,none⟩ L.length cap d C (λj v s=>by rw[addr_add];grind),λu H=>?_,λ_=>hsz,λi j p q r hp B=>?_⟩;·obtain⟨j,s⟩:=F_ H;grind
  ·have s:j<sz:=by grind
   have R:i*sz+j<d.length:=by rw[C];have:(i+1)*sz<=n*sz:=G_ _ r;grind
   grind
theorem zao(C:Inv c θ D st a w)(hd:∀k,o.dst=some k->k<c.n){K KP:St->Prop}{t u e:TypeId}{sz:Nat}{x y:Operand}{U:Call}(ho:o.op= .call U)(gc:U.callee= .builtin .copy)(E:U.args= #[x,y])(R:U.argTypes= #[t,u]) (he:iP P t=some e) (hs:bZ P e=some sz) (h0:0<sz) (h:sexec P o.dst (.copy e sz (.of x) (.of y)) st K KP):Leaves P o c K KP a w:=by
 intro next Q hn _;obtain⟨ax,hx,ay,hy,hl⟩:=h;obtain⟨L,ad,v,⟨ur,id,rfl,_,ob,rg,xs,rfl,hk⟩,T,_,_,B⟩:=sW C.ok (C.get hy) hl;obtain⟨l,A,hh⟩:=C.get hx;have F:=C.ok.objs id l _ A rg;have hu:P.underlying t=some (.slice e):=by unfold iP at he;grind
 have hsz:(sizeOf e).run P w= .ok sz w:=run_sizeOf hs;obtain⟨d,n1,n2,n3,n4,n5⟩:=zcQ (P:=P) (cap:=v) (n:=min L.length xs.length) C h0 ur (Nat.min_le_left _ _) B;have H:∀(w':World) (Bk:St),(Builtin.copy_ #[t,u] o.type #[a.eval x,a.eval y]).run P w= .ok (goInt ((min L.length xs.length:Nat):Int)) w'->Inv c θ D {st with hp:=st.hp.set id (.vec e sz (L.take xs.length++xs.drop L.length))} a w'->o.wp P a w next Q:=by
  intro w' _ hr el;unfold Oper.wp;have:(execOp a.eval o).run P w= .ok (.value (goInt ((min L.length xs.length:Nat):Int))) w':=by simp[execOp,ho,resolve,gc,E,R,invoke,builtin,hr]
  rw[this];refine hn _ _ ⟨_,hk,θ,D,el.put hd ?_⟩;rw[Nat.min_comm];exact RelP.sc _
 cases l<;>simp only[RelO,Loc.head]at F hh
 ·rename_i a0;subst F;have hm:min L.length ([]:List PV).length=0:=by simp
  have I:d=[]:=s_ (by grind);subst I;have ph:((min L.length ([]:List PV).length:Nat):Int)=0:=by simp
  refine H w st ?_ ?_;·rw[hh,T,ph];rw[hm]at n2;have z:(Builtin.lenOf (.slice ad L.length v)).run P w= .ok L.length w:=rfl;cases a0<;>simp[Builtin.copy_,run_underlying hu,z,hsz,n2,storeCells]
  ·have J:st.hp.set id (.vec e sz (L.take ([]:List PV).length++([]:List PV).drop L.length))=st.hp:=by apply aa_;grind
   rw[J];omega
 ·rename_i g m cap s O;obtain⟨rfl,rfl,h3,h4,h5,r,h6,h7,h8⟩:=F;have At:min L.length xs.length*s<=r.size:=by rw[h7];exact G_ _ (by omega)
  have N:=run_storeCells_at P g 0 e d 0 r w h6 (by omega) n3;simp only[O_,aW_,aR_,aq_]at N;have M:=p6 r 0 d (by omega);simp only[aR_,aq_,O_]at M;obtain⟨s1,s2⟩:=M;refine H (w.setRow g (d++r.toList.drop d.length).toArray) st ?_ (C.store (w':=w.setRow g (d++r.toList.drop d.length).toArray) (l:=.hdr g xs.length cap s O) A (.inl rfl) rfl rfl rfl (by simp) (λk hk=>setRow_other _ _ _ _ hk) ?_);·rw[hh,T];have z:(Builtin.lenOf (.slice ad L.length v)).run P w= .ok L.length w:=rfl;have qr:Nat.min L.length xs.length=min L.length xs.length:=rfl;simp[Builtin.copy_,run_underlying hu,z,hsz,qr,n2,N]
  ·have hD:∀b,D b->(w.setRow g (d++r.toList.drop d.length).toArray).heap[b]? =w.heap[b]? :=λb hb=>setRow_other _ _ _ _ λe=>(C.ok.olt id _ g A (.inl rfl)).2 (e▸hb);refine⟨rfl,by grind,h3,h4,λp hp=>?_,_,setRow_heap _ _ _ _ _ _ h6,by omega,λi j p q hp hq=>?_⟩;·grind
   ·by_cases hi:i<min L.length xs.length;·rw[j_ (by grind),af_,if_pos (by omega)]at hp;obtain⟨u,e1,Y⟩:=n5 i j p q hi hp hq;refine⟨u,?_,Y.mono (λ_ h=>h) hD⟩;grind
    ·rw[n_ (by grind),az_]at hp;have f:L.length+(i - (L.take xs.length).length)=i\/L.length+(i - (L.take xs.length).length)>=xs.length:=by grind
     rcases f with f|f;·rw[f]at hp;obtain⟨u,e1,Y⟩:=h8 i j p q hp hq;refine⟨u,?_,Y.mono (λ_ h=>h) hD⟩;have wr:min L.length xs.length*s<=i*s:=G_ _ (by omega);grind
     grind
end
section
variable {P:Program} {o:Oper} {c:Ctx} {θ:List Loc} {D:Nat->Prop} {st:St} {a:Act} {w:World}
theorem zcy(hI:Inv c θ D st a w)(hd:∀k,o.dst=some k->k<c.n){K KP:St->Prop}{t e:TypeId}{sz bytes:Nat}{z:Value}{x y:Operand}{cl:Call}(ho:o.op= .call cl)(CT:cl.callee= .builtin .append)(R:cl.args= #[x,y])(rg:cl.argTypes= #[t,t]) (he:iP P t=some e) (hs:bZ P e=some sz) (hb:mC P e=some bytes) (hz:eP P e=some z) (DS:z.cells.size=sz) (h0:0<sz) (Bx:0<bytes) {pl:Option Nat} (h:Ou st (.append e sz bytes (.of x) (.of y)) λob mk=>IX st pl/\K ((st.new pl ob).putO o.dst (.b (mk (st.nid pl))))):Leaves P o c K KP a w:=by
 intro next Q hn _;obtain⟨ax,hx,ay,hy,hL⟩:=h;have hX:=hI.get hx;obtain⟨L,ad,m,⟨DH,DP,CD,Y,hk⟩,wr,Hx,Fk,C⟩:=sW hI.ok (hI.get hy) hL;have hu:P.underlying t=some (.slice e):=by
  unfold iP at he;split at he;·cases he;assumption
  ·cases he
 simp only[bZ,c_]at hs;obtain⟨f,E,rfl⟩:=hs;have DQ:f.zero=some z:=by simpa[eP,E]using hz
 have BT:f.bytes=bytes:=by simpa[mC,E]using hb
 subst BT;have el:∀(v:Value) (w':World) (J:St),(Builtin.append_ #[t,t] o.type #[a.eval x,a.eval y]).run P w= .ok v w'->K J->Rel c J (a.put o.dst v) w'->o.wp P a w next Q:=by
  intro v w' J hr hk qr;unfold Oper.wp;have:(execOp a.eval o).run P w= .ok (.value v) w':=by simp[execOp,ho,resolve,CT,R,rg,invoke,builtin,hr]
  rw[this];exact hn _ _ ⟨J,hk,qr⟩
 have U:0<L.length->∃(ab:Addr) (d:List Value),ad=some ab/\d.length=L.length*f.size/\(∀(j:Nat) (u:Value),d[j]? =some u->w.cell? (ab.add j)=some u)/\(∀u∈d,u.oneCell'=true)/\(∀p∈L,p.cells.length=f.size)/\∀(i j:Nat) (p q:PV),L[i]? =some p->p.cells[j]? =some q->∃u,d[i*f.size+j]? =some u/\RelP D w u q:=by
  intro hl
  obtain⟨g,og,rfl,hg,hsz,hc⟩:=C hl
  obtain⟨d,n1,n2⟩:=jT (n:=L.length*f.size) (p:=λk u=>w.cell? ⟨g,og+k,none⟩=some u/\u.oneCell'=true/\∀(p q:PV),L[k/f.size]? =some p->p.cells[k%f.size]? =some q->RelP D w u q) (λk hk=>by
   have T:k/f.size<L.length:=(S_ h0).2 hk;have F:k%f.size<f.size:=aA_ _ h0;have hp:=d_ T;have Y:=hsz _ (h_ hp);have H:=d_ (l:=(L[k/f.size]).cells) (i:=k%f.size) (by omega);obtain⟨u,N,e2⟩:=hc _ _ _ _ hp H;refine⟨u,?_,?_,λp q gc ph=>?_⟩;·rw[<-N,ak_,ao_,ad_]
   ·have M:=DH _ (h_ hp);simp only[PV.ok,k_]at M;exact m4 e2 (M _ (h_ H))
   ·rw[hp]at gc;cases gc;rw[H]at ph;cases ph;exact e2)
  refine⟨_,d,rfl,n1,λj u F=>by rw[addr_add];exact(n2 j u F).1,λu hu=>?_,hsz,λi j p q hp H=>?_⟩
  ·obtain⟨j,F⟩:=F_ hu;exact(n2 j u F).2.1
  ·have F:j<f.size:=by grind
   have T:i<L.length:=(a_.1 hp).1;have In:i*f.size+j<d.length:=by rw[n1];have:(i+1)*f.size<=L.length*f.size:=G_ _ T;rw[Z_,aL_]at this;omega
   grind
 have I:∀(w':World) (r d:List Value) (xs:List PV) (cv:Array Value) (k:Nat),(∀b,D b->w'.heap[b]? =w.heap[b]?)->r.length=xs.length*f.size->cv.size=k*f.size->(∀j,j<r.length->cv[j]? =r[j]?)->(∀j,j<d.length->cv[r.length+j]? =d[j]?)->(∀p∈xs,p.cells.length=f.size)->(∀p∈L,p.cells.length=f.size)->d.length=L.length*f.size->(∀(i j:Nat) (p q:PV),xs[i]? =some p->p.cells[j]? =some q->∃u,r[i*f.size+j]? =some u/\RelP D w u q)->(∀(i j:Nat) (p q:PV),L[i]? =some p->p.cells[j]? =some q->∃u,d[i*f.size+j]? =some u/\RelP D w u q)->∀(i j:Nat) (p q:PV),(xs++L)[i]? =some p->p.cells[j]? =some q->∃u,cv[i*f.size+j]? =some u/\RelP D w' u q:=by
  intro w' r d xs cv k B DM GS DB DA KK Fr JT ro rn i j p q hp H
  rcases C_ i xs.length with T|T
  ·rw[j_ T]at hp;obtain⟨u,N,e2⟩:=ro i j p q hp H;exact⟨u,by rw[DB _ (a_.1 N).1];exact N,e2.mono (λ_ h=>h) B⟩
  ·rw[n_ T]at hp;obtain⟨u,N,e2⟩:=rn _ j p q hp H;refine⟨u,?_,e2.mono (λ_ h=>h) B⟩;have:=DA _ (a_.1 N).1;rw[N]at this;rw[<-this,DM];congr 1;have:i*f.size=xs.length*f.size+(i - xs.length)*f.size:=by rw[<-Z_];congr 1;omega
   omega
 have A:∀(k:Nat),L.length*f.bytes<=k->L.length<=k:=λk h=>aG_ (an_ _ Bx) h;obtain⟨s,ur⟩:∃s,a.eval x= .slice s 0 0:=by
  rcases DP with rfl|rfl;·exact⟨none,hX⟩
  ·obtain⟨h1,a0,n0,h2⟩:=hX;refine⟨a0,?_⟩;rw[h2]at h1⊢;cases h1;rfl
 have Fm:L.length<=140737488355328:=A _ CD;by_cases O:L.length=0;·have Bk:L=[]:=s_ O;subst Bk;obtain⟨θ',hp,hid⟩:=hI.pushAt Y (l:=.nil s) (o:=.vec e f.size []) (λθ' _=>rfl) (λg hg=>by cases hg);refine el (.slice s 0 0) w _ ?_ hk ⟨_,D,hp.put hd ⟨.nil s,hid,rfl⟩⟩;rw[ur,wr];exact eb hu E s 0 0 (w_ _) ad m
 ·obtain⟨ab,d,rfl,n1,n2,n3,n4,n5⟩:=U (K_ O);have hr:=gL (P:=P) (w:=w) (ty:=o.type) hu E DQ s ab L.length m d n1 n2 (K_ O) (by omega) (by omega);have DE:=grownCap_ge w L.length 0 e;have Dg:grownCap w L.length 0 e<=maxLen:=grownCap_le_maxLen w _ 0 e (by simp only[maxLen];omega);have hcs:(d.toArray++Builtin.zeroCells z.cells (grownCap w L.length 0 e - L.length)).size=grownCap w L.length 0 e*f.size:=by simp only[aC_,aF_,jQ,DS,n1,<-Z_];congr 1;omega
  have B:∀b,D b->(w.drew.alloc (.cells (d.toArray++Builtin.zeroCells z.cells (grownCap w L.length 0 e - L.length)) e)).heap[b]? =w.heap[b]? :=λb hb=>fX w.drew _ b (hI.ok.dlt b hb);obtain⟨θ',At,hid⟩:=hI.drew.allocAt Y (l:=.hdr w.heap.size L.length (grownCap w L.length 0 e) f.size none') (o:=.vec e f.size L) (ob:=.cells (d.toArray++Builtin.zeroCells z.cells (grownCap w L.length 0 e - L.length)) e) (λ_ h=>h.elim (λh=>h) False.elim) λθ' MT=>⟨rfl,rfl,DE,Dg,n4,_,gV w.drew _,hcs,λi j p q hp H=>by have:=I _ [] d [] _ _ B (by simp) hcs (λj F=>by simp at F) (λj F=>by simp only[L_,O_];rw[J_ (by simpa using F)];simp) (λp hp=>by cases hp) n4 n1 (λi j p q hp=>by simp at hp) n5 i j p q (by simpa using hp) H;exact this⟩
  refine el _ _ _ ?_ hk ⟨_,D,At.put hd ⟨_,hid,rfl⟩⟩;rw[ur,wr];exact hr
theorem zak(hI:Inv c θ D st a w)(hd:∀k,o.dst=some k->k<c.n){K KP:St->Prop}{t e:TypeId}{sz bytes:Nat}{z:Value}{x y:Operand}{cl:Call}(ho:o.op= .call cl)(Fr:cl.callee= .builtin .append)(wr:cl.args= #[x,y])(DH:cl.argTypes= #[t,t]) (he:iP P t=some e) (hs:bZ P e=some sz) (M:mC P e=some bytes) (hz:eP P e=some z) (Nd:z.cells.size=sz) (h0:0<sz) (Fk:0<bytes) (h:ou P st (.appD e sz bytes (.of x) (.of y)) λx=>K (st.putO o.dst x)):Leaves P o c K KP a w:=by
 intro next Q hn _;obtain⟨ax,hx,ay,hy,hL⟩:=h;have hX:=hI.get hx;obtain⟨L,ad,m,⟨KK,r,DM,At,hk⟩,DP,PA,Pa,U⟩:=sW hI.ok (hI.get hy) hL;have hu:P.underlying t=some (.slice e):=by
  unfold iP at he;split at he;·cases he;assumption
  ·cases he
 simp only[bZ,c_]at hs;obtain⟨s,H,rfl⟩:=hs;have DQ:s.zero=some z:=by simpa[eP,H]using hz
 have Fm:s.bytes=bytes:=by simpa[mC,H]using M
 subst Fm;have CD:∀(v:Value) (w':World) (ph:St),(Builtin.append_ #[t,t] o.type #[a.eval x,a.eval y]).run P w= .ok v w'->K ph->Rel c ph (a.put o.dst v) w'->o.wp P a w next Q:=by
  intro v w' ph hr hk DE;unfold Oper.wp;have:(execOp a.eval o).run P w= .ok (.value v) w':=by simp[execOp,ho,resolve,Fr,wr,DH,invoke,builtin,hr]
  rw[this];exact hn _ _ ⟨ph,hk,DE⟩
 have Bk:0<L.length->∃(ab:Addr) (f:List Value),ad=some ab/\f.length=L.length*s.size/\(∀(j:Nat) (u:Value),f[j]? =some u->w.cell? (ab.add j)=some u)/\(∀u∈f,u.oneCell'=true)/\(∀p∈L,p.cells.length=s.size)/\∀(i j:Nat) (p q:PV),L[i]? =some p->p.cells[j]? =some q->∃u,f[i*s.size+j]? =some u/\RelP D w u q:=by
  intro hl
  obtain⟨g,og,rfl,hg,hsz,hc⟩:=U hl
  obtain⟨f,N,n2⟩:=jT (n:=L.length*s.size) (p:=λk u=>w.cell? ⟨g,og+k,none⟩=some u/\u.oneCell'=true/\∀(p q:PV),L[k/s.size]? =some p->p.cells[k%s.size]? =some q->RelP D w u q) (λk hk=>by
   have F:k/s.size<L.length:=(S_ h0).2 hk;have C:k%s.size<s.size:=aA_ _ h0;have hp:=d_ F;have MT:=hsz _ (h_ hp);have A:=d_ (l:=(L[k/s.size]).cells) (i:=k%s.size) (by omega);obtain⟨u,B,E⟩:=hc _ _ _ _ hp A;refine⟨u,?_,?_,λp q I J=>?_⟩;·rw[<-B,ak_,ao_,ad_]
   ·have qr:=KK _ (h_ hp);simp only[PV.ok,k_]at qr;exact m4 E (qr _ (h_ A))
   ·rw[hp]at I;cases I;rw[A]at J;cases J;exact E)
  refine⟨_,f,rfl,N,λj u C=>by rw[addr_add];exact(n2 j u C).1,λu hu=>?_,hsz,λi j p q hp A=>?_⟩
  ·obtain⟨j,C⟩:=F_ hu;exact(n2 j u C).2.1
  ·have C:j<s.size:=by rw[<-hsz p (h_ hp)];exact(a_.1 A).1
   have F:i<L.length:=(a_.1 hp).1;have JT:i*s.size+j<f.length:=by rw[N];have:(i+1)*s.size<=L.length*s.size:=G_ _ F;rw[Z_,aL_]at this;omega
   grind
 have gc:∀(w':World) (d f:List Value) (xs:List PV) (cv:Array Value) (k:Nat),(∀b,D b->w'.heap[b]? =w.heap[b]?)->d.length=xs.length*s.size->cv.size=k*s.size->(∀j,j<d.length->cv[j]? =d[j]?)->(∀j,j<f.length->cv[d.length+j]? =f[j]?)->(∀p∈xs,p.cells.length=s.size)->(∀p∈L,p.cells.length=s.size)->f.length=L.length*s.size->(∀(i j:Nat) (p q:PV),xs[i]? =some p->p.cells[j]? =some q->∃u,d[i*s.size+j]? =some u/\RelP D w u q)->(∀(i j:Nat) (p q:PV),L[i]? =some p->p.cells[j]? =some q->∃u,f[i*s.size+j]? =some u/\RelP D w u q)->∀(i j:Nat) (p q:PV),(xs++L)[i]? =some p->p.cells[j]? =some q->∃u,cv[i*s.size+j]? =some u/\RelP D w' u q:=by
  intro w' d f xs cv k R Y Pc Hx GS BT Pb PB ro rn i j p q hp A
  rcases C_ i xs.length with F|F
  ·rw[j_ F]at hp;obtain⟨u,B,E⟩:=ro i j p q hp A;exact⟨u,by rw[Hx _ (a_.1 B).1];exact B,E.mono (λ_ h=>h) R⟩
  ·rw[n_ F]at hp;obtain⟨u,B,E⟩:=rn _ j p q hp A;refine⟨u,?_,E.mono (λ_ h=>h) R⟩;have:=GS _ (a_.1 B).1;rw[B]at this;rw[<-this,Y];congr 1;have:i*s.size=xs.length*s.size+(i - xs.length)*s.size:=by rw[<-Z_];congr 1;omega
   omega
 have CT:r.length+L.length<=140737488355328:=aG_ (an_ _ Fk) At;obtain⟨O,Bx,hold⟩:∃O:Option Addr,a.eval x= .slice O r.length r.length/\(0<r.length->∃b o',O=some ⟨b,o',none⟩/\(∀p∈r,p.cells.length=s.size)/\∃d:List Value,d.length=r.length*s.size/\(∀(j:Nat) (u:Value),d[j]? =some u->w.cell? ⟨b,o'+j,none⟩=some u)/\∀(i j:Nat) (p q:PV),r[i]? =some p->p.cells[j]? =some q->∃u,d[i*s.size+j]? =some u/\RelP D w u q):=by
  rcases DM with⟨rfl,rfl⟩|rfl
  ·exact⟨none,hX,λh=>absurd h (by simp)⟩
  ·obtain⟨h1,O,n0,h2⟩:=hX;obtain⟨a1,cap,B,E,e3⟩:=rM h1;rw[h2]at B;cases B;refine⟨O,h2,λhl=>?_⟩;obtain⟨b,o',rfl,M,hsz,hc⟩:=e3 hl;obtain⟨d,N,n2⟩:=jT (n:=r.length*s.size) (p:=λk u=>w.cell? ⟨b,o'+k,none⟩=some u/\∀(p q:PV),r[k/s.size]? =some p->p.cells[k%s.size]? =some q->RelP D w u q) (λk hk=>by
    have F:k/s.size<r.length:=(S_ h0).2 hk;have C:k%s.size<s.size:=aA_ _ h0;have hp:=d_ F;have MT:=hsz _ (h_ hp);have A:=d_ (l:=(r[k/s.size]).cells) (i:=k%s.size) (by omega);obtain⟨u,B,E⟩:=hc _ _ _ _ hp A;refine⟨u,?_,λp q I J=>?_⟩;·rw[<-B,ak_,ao_,ad_]
    ·rw[hp]at I;cases I;rw[A]at J;cases J;exact E)
   refine⟨b,o',rfl,hsz,d,N,λj u C=>(n2 j u C).1,λi j p q hp A=>?_⟩;have C:j<s.size:=by rw[<-hsz p (h_ hp)];exact(a_.1 A).1
   have F:i<r.length:=(a_.1 hp).1;have JT:i*s.size+j<d.length:=by rw[N];have:(i+1)*s.size<=r.length*s.size:=G_ _ F;rw[Z_,aL_]at this;omega
   grind
 by_cases T:L.length=0
 ·have ur:L=[]:=s_ T;subst ur;refine CD (.slice O r.length r.length) w _ ?_ hk ⟨θ,D,hI.put hd ?_⟩;·rw[Bx,DP];exact eb hu H O _ _ (w_ _) ad m
  ·rw[List.append_nil];rcases DM with⟨rfl,rfl⟩|rfl;·exact .nil _ _
   ·obtain⟨h1,_⟩:=hX;rw[Bx]at h1;exact h1
 ·obtain⟨ab,f,rfl,N,n2,n3,n4,n5⟩:=Bk (K_ T);have grow:∀(d:List Value),d.length=r.length*s.size->(∀p∈r,p.cells.length=s.size)->(∀(i j:Nat) (p q:PV),r[i]? =some p->p.cells[j]? =some q->∃u,d[i*s.size+j]? =some u/\RelP D w u q)->(Builtin.append_ #[t,t] o.type #[.slice O r.length r.length,.slice (some ab) L.length m]).run P w= .ok (.slice (some ⟨w.heap.size,0,none⟩) (r.length+L.length) (grownCap w (r.length+L.length) r.length e)) (w.drew.alloc (.cells (d.toArray++f.toArray++Builtin.zeroCells z.cells (grownCap w (r.length+L.length) r.length e - (r.length+L.length))) e))->o.wp P a w next Q:=by
   intro d Y BT ro rg
   have In:=grownCap_ge w (r.length+L.length) r.length e
   have hcs:(d.toArray++f.toArray++Builtin.zeroCells z.cells (grownCap w (r.length+L.length) r.length e - (r.length+L.length))).size=grownCap w (r.length+L.length) r.length e*s.size:=by simp only[aC_,aF_,jQ,Nd,Y,N,<-Z_];congr 1;omega
   generalize el:w.drew.alloc (.cells (d.toArray++f.toArray++Builtin.zeroCells z.cells (grownCap w (r.length+L.length) r.length e - (r.length+L.length))) e)=w' at rg
   have R:∀b,D b->w'.heap[b]? =w.heap[b]? :=λb M=>by rw[<-el];exact fX w.drew _ b (hI.ok.dlt b M)
   have DB:w'.heap[w.heap.size]? =some (.cells (d.toArray++f.toArray++Builtin.zeroCells z.cells (grownCap w (r.length+L.length) r.length e - (r.length+L.length))) e):=by rw[<-el];exact gV w.drew _
   have DA:w.heap.size<w'.heap.size:=by rw[<-el];simp
   have DS:=hI.drew.below (D':=λb=>D b\/(w.heap.size<=b/\b<w'.heap.size)) (w':=w') (by rw[<-el];exact qg w.drew _) hI.w0le (λb M=>.inl M) (λb M=>M)
   refine CD (.slice (some ⟨w.heap.size,0,none⟩) (r.length+L.length) (grownCap w (r.length+L.length) r.length e)) w' _ ?_ hk ⟨θ,_,DS.put hd ?_⟩
   ·rw[Bx,DP];exact rg
   ·have hh:RelP (λb=>D b\/(w.heap.size<=b/\b<w'.heap.size)) w' (.slice (some ⟨w.heap.size,0,none⟩) (r++L).length (grownCap w (r.length+L.length) r.length e)) (p5 s.size (r++L)):=by
     refine gG (by simpa using In) λ_=>⟨w.heap.size,0,rfl,.inr ⟨w_ _,DA⟩,λp hp=>(o_.1 hp).elim (BT p) (n4 p),λi j p q hp A=>?_⟩;obtain⟨u,B,E⟩:=gc w' d f r _ _ R Y hcs (λj C=>by rw[J_ (by simp;omega),J_ (by simpa using C)];simp) (λj C=>by rw[J_ (by simp;omega),Array.getElem?_append_right (by simp)];simp) BT n4 N ro n5 i j p q hp A
     refine⟨u,?_,E.mono (λb M=>.inl M) (λ_ _=>rfl)⟩;rw[O_,cell_of_row _ _ _ _ e (0,0) DB];exact B
    rw[X_]at hh;exact hh
  by_cases Dg:r.length=0;·have ur:r=[]:=s_ Dg;subst ur;have hr:=gL (P:=P) (w:=w) (ty:=o.type) hu H DQ O ab L.length m f N n2 (K_ T) (by simp only[L_]at CT;omega) (by simp only[L_,O_]at At;omega);refine grow [] (by simp) (λp hp=>by cases hp) (λi j p q hp=>by simp at hp) ?_;simpa using hr
  ·obtain⟨b,o',rfl,hsz,d,m1,m2,m3⟩:=hold (K_ Dg);have q1:0<L.length:=K_ T;have q2:r.length<r.length+L.length:=Nat.lt_add_of_pos_right q1;have q3:0<r.length+L.length:=Nat.add_pos_right _ q1;have q4:r.length+L.length<=9223372036854775807:=aG_ CT (by decide);have q5:((r.length+L.length:Nat):Int)<=9223372036854775807:=Int.ofNat_le.2 q4;have hr:=run_append_grow (P:=P) w t o.type e s z hu H DQ ⟨b,o',none⟩ r.length r.length d m1 (λj u C=>by rw[addr_add];exact m2 j u C) ab L.length m f N n2 (by first|exact q1|exact q2|exact q5) (by first|exact q1|exact q2|exact q5) (growslice_fits (by first|exact q1|exact q2|exact q3|exact q5|exact q5) At)
   exact grow d m1 hsz m3 hr
end
section
variable {P:Program} {o:Oper} {c:Ctx} {θ:List Loc} {D:Nat->Prop} {st:St} {a:Act} {w:World}
theorem qf{α:Type}{xs:Array α}{x:α}(h:xs.toList=[x]):xs= #[x]:=by apply aQ_;simpa using h
theorem kX{α:Type}{xs:Array α}{x y:α}(h:xs.toList=[x,y]):xs= #[x,y]:=by apply aQ_;simpa using h
theorem bm{s s':SOp}(a:∀k q,s≠.atq k q)(h:s.canon=s')(d:∀e z l c,s'≠.bslice false e z l c)(g:∀f xs,s'≠.call false f xs)(j:∀t x,s'≠.box t x)(n:∀x xs,s'≠.callv false [] x xs)(p:∀e z b x y,s'≠.append e z b x y)(r:∀e z b v x y,s'≠.mslice e z b v x y:=by simp):s=s':=by cases s<;>simp only[SOp.canon]at h<;>first|omega|grind|grind|grind|grind|grind|grind|grind
theorem yf(f:Inv c θ D st a w){q:Option Operand}{b:Nat}{e:Nat->Prop}(h:bnd st (q.map SX.of) b e): ∃n,e n/\((q=none/\n=b)\/∃x k,∃m:Int,q=some x/\a.eval x= .int k m/\0<=m/\n=m.toNat):=by cases q with|none=>exact⟨b,h,.inl ⟨rfl,rfl⟩⟩|some x=>obtain⟨g,d,h⟩:=h;obtain⟨k,m,p,j,l⟩:=dq (f.get d) h;grind
theorem nA{k:IntKind}{m:Int}{y:Nat}{code:BoundsCode}(a:0<=m)(c:m.toNat<=y):(Instr.sliceBound (.int k m) y code).run P w= .ok m.toNat w:=by
 have b:m<=(y:Int):=by omega
 simp only[Instr.sliceBound,asIntOf,Sem.run_bind,Sem.run_pure,Result.andThen_ok];rw[if_pos ⟨a,b⟩];rfl
theorem Hs(u:Inv c θ D st a w){lo e mx:Option Operand}{isS:Bool}{len cap l h m:Nat} (hl:(lo=none/\l=0)\/∃x k,∃m:Int,lo=some x/\a.eval x= .int k m/\0<=m/\l=m.toNat) (v:(e=none/\h=len)\/∃x k,∃m:Int,e=some x/\a.eval x= .int k m/\0<=m/\h=m.toNat) (z:(mx=none/\m=len)\/∃x k,∃n:Int,mx=some x/\a.eval x= .int k n/\0<=n/\m=n.toNat) (A:mx.isSome=true->e.isSome=true) (j:l<=h) (s:h<=m) (B:m<=len) (C:len<=cap):(Instr.sliceBounds isS len cap (lo.map a.eval) (e.map a.eval) (mx.map a.eval)).run P w= .ok (l,h,if mx.isSome then m else cap) w:=by
 have _:=u;rcases z with⟨rfl,rfl⟩|⟨O,H,L,rfl,p,r,rfl⟩<;>rcases v with⟨rfl,rfl⟩|⟨N,F,J,rfl,b,d,rfl⟩<;>rcases hl with⟨rfl,rfl⟩|⟨M,E,I,rfl,f,g,rfl⟩;·simp[Instr.sliceBounds]
 ·simp[Instr.sliceBounds,f,nA g j]
 ·simp[Instr.sliceBounds,b,nA (y:=cap) d (by omega)]
 ·simp[Instr.sliceBounds,b,f,nA (y:=cap) d (by omega),nA g j]
 ·grind
 ·grind
 ·simp[Instr.sliceBounds,p,b,nA (y:=cap) r (by omega),nA d s]
 ·simp[Instr.sliceBounds,p,b,f,nA (y:=cap) r (by omega),nA d s,nA g j]
theorem zcY(d:Inv c θ D st a w){K:AV->Prop}{t e:TypeId}{sz:Nat}{x:Operand}{lo I mx:Option Operand}(R:o.op= .slice t x lo I mx)(Y:P.underlying t=some (.slice e))(hs:bZ P e=some sz) (h:ou P st (.slc sz (.of x) (lo.map .of) (I.map .of) (mx.map .of)) K):Yields P o a w (Res c θ st a K):=by
 obtain⟨ax,hx,⟨q,U,L,rfl,f⟩|⟨id,rfl,o',M,e',k',L,g',rfl,f⟩⟩:=h
 rotate_left
 ·obtain⟨n,b,cap,hn,hcap,O⟩:∃n b cap,n=L.length/\n<=cap/\a.eval x= .slice b n cap:=by obtain⟨l,hl,z⟩:=d.get hx;have N:=d.ok.objs id l _ hl M;cases l<;>simp only[RelO,Loc.head]at N z;all_goals grind
  obtain⟨l,f,hl⟩:=yf d f;obtain⟨h,f,z⟩:=yf d f;obtain⟨m,⟨B,E,F,H,rfl,y⟩,J⟩:=yf d f;subst hn;have hr:=Hs (P:=P) (isS:=true) d hl z J (by grind) E F H hcap;refine aN d (v:=.slice (if(if mx.isSome then m else cap)=h then b else b.map (·.add (h*sz))) 0 ((if mx.isSome then m else cap) - h)) ?_ y (.nil _ _);simp only[execOp,R,Instr.sliceAt,Sem.run_bind,run_underlying Y,Result.andThen_ok,Instr.slice,O,hr,run_sizeOf hs,Sem.run_pure,aH_]
 obtain⟨b,cap,O,hcap,k⟩:=rM (db (d.get hx) U);obtain⟨l,f,hl⟩:=yf d f;obtain⟨hn,f,z⟩:=yf d f;obtain⟨m,⟨B,E,F,H,y⟩,J⟩:=yf d f;have C:mx.isSome=true->I.isSome=true:=by grind
 have hr:=Hs (P:=P) (isS:=true) d hl z J C E F H hcap;generalize gc:(if mx.isSome then m else cap)=u at hr;have Q:hn<=u/\u<=cap:=by grind
 have s:(execOp a.eval o).run P w= .ok (.value (.slice (if u=l then b else b.map (·.add (l*sz))) (hn - l) (u - l))) w:=by simp only[execOp,R,Instr.sliceAt,Sem.run_bind,run_underlying Y,Result.andThen_ok,Instr.slice,O,hr,run_sizeOf hs,Sem.run_pure]
 have r:RelP D w (.slice (if u=l then b else b.map (·.add (l*sz))) (hn - l) (u - l)) (p5 sz ((L.take hn).drop l)):=by
  have A:((L.take hn).drop l).length=hn - l:=by grind
  rw[<-A];refine gG (by omega) λT=>?_;obtain⟨g,og,rfl,hg,hsz,hc⟩:=k (by omega);rw[if_neg (by omega)];refine⟨g,og+l*sz,by simp[addr_add],hg,λp hp=>hsz p (List.mem_of_mem_take (List.mem_of_mem_drop hp)),λi j p q hp U=>?_⟩;rw[az_,af_]at hp;split at hp;all_goals grind
 rcases y with y|⟨ph,el,y⟩;·exact aN d s y r
 ·have B:u=hn:=by grind
  refine aN d (x:=.b (.full (p5 sz ((L.take hn).drop l)))) s y ⟨r,(if u=l then b else b.map (·.add (l*sz))),hn - l,?_⟩;grind
theorem zaC(b:Inv c θ D st a w){K:AV->Prop}{t:TypeId}{x:Operand}{lo e:Option Operand}(n:o.op= .slice t x lo e none)(p:P.underlying t=some .string) (h:ou P st (.slcS (.of x) (lo.map .of) (e.map .of)) K):Yields P o a w (Res c θ st a K):=by obtain⟨v,u,r⟩:=h;obtain⟨s,hs,d⟩:=dq (b.get u) r;obtain⟨l,d,hl⟩:=yf b d;obtain⟨hn,⟨f,g,k⟩,j⟩:=yf b d;have hr:=Hs (P:=P) (isS:=false) (mx:=none) (m:=s.size) b hl j (.inl ⟨rfl,rfl⟩) (by simp) f g (w_ _) (w_ _);refine aN b ?_ k (RelP.sc _);simp only[Option.map_none]at hr;simp[execOp,n,Instr.sliceAt,run_underlying p,Instr.slice,hs,hr]
end
section
variable {P:Program} {o:Oper} {c:Ctx} {θ:List Loc} {D:Nat->Prop} {st:St} {a:Act} {w:World}
theorem X5{s:SOp}{f:FuncId}{xs:List SX}(a:∀k q,s≠.atq k q)(h:s.canon= .call false f xs):(∃b,s= .call b f xs)\/∃b B,s= .callA b B f xs:=by cases s<;>simp_all[SOp.canon]
theorem Vo{s:SOp}{x:SX}{xs:List SX}(a:∀k q,s≠.atq k q)(h:s.canon= .callv false [] x xs):(∃b B,s= .callv b B x xs)\/∃b,s= .callp b x xs:=by cases s<;>simp_all[SOp.canon]
theorem zb7{s:SOp}{e:TypeId}{x:SX}(a:∀k q,s≠.atq k q)(h:s.canon= .box e x):s= .box e x\/s= .boxD e x:=by cases s<;>simp_all[SOp.canon]
theorem SK{s:SOp}{e:TypeId}{z l:Nat}{xs:List SX}(a:∀k q,s≠.atq k q)(h:s.canon= .bslice false e z l xs):(∃b,s= .bslice b e z l xs)\/s= .bsliceN e z l xs:=by cases s<;>simp_all[SOp.canon]
theorem SL{s:SOp}{e:TypeId}{z b:Nat}{v:Value}{x y:SX}(a:∀k q,s≠.atq k q)(h:s.canon= .mslice e z b v x y):s= .mslice e z b v x y\/∃k,s= .msliceT k e z b v x y:=by cases s<;>simp_all[SOp.canon]
theorem SJ{s:SOp}{e:TypeId}{z b:Nat}{x y:SX}(a:∀k q,s≠.atq k q)(h:s.canon= .append e z b x y):s= .append e z b x y\/s= .appD e z b x y\/∃k,s= .appT k e z b x y:=by cases s<;>simp_all[SOp.canon]
def sOk(P:Program)(o:Oper):Bool:=match o.op with
 | .binOp _ t _ _ _=>match P.underlying t with
  |some (.struct _)=> !P.eqGuardType P.depth t
  |_=>true
 | .makeInterface t _=>match P.underlying t with
  |some (.interface _)=>false
  |some _=>true
  |none=>false
 | .panic x=>match x with
  | .tmp _=>true
  |_=>false
 |_=>true
theorem PD(r:Inv c θ D st a w)(hd:∀k,o.dst=some k->k<c.n){s:SOp}{K KP:St->Prop}(g:∀k q,s≠.atq k q)(hc:lH P o=some s.canon)(T:sOk P o=true)(h:sexec P o.dst s st K KP):Leaves P o c K KP a w:=by
 have d:Yields P o a w (Res c θ st a λx=>K (st.putO o.dst x))->Leaves P o c K KP a w:=λhy=>Kb hd hy λ_ h=>h;unfold lH at hc;split at hc;·rename_i x j;cases bm g (f_ hc).symm (by simp) (by simp) (by simp) (by simp) (by simp);exact d (Xb r (.inl j) h)
 ·rename_i x j;cases bm g (f_ hc).symm (by simp) (by simp) (by simp) (by simp) (by simp);exact d (Xb r (.inr j) h)
 ·rename_i x y z j;cases bm g (f_ hc).symm (by simp) (by simp) (by simp) (by simp) (by simp);exact d (zaB r j h)
 ·rename_i op t x y t' j;split at hc;·cases bm g (f_ hc).symm (by simp) (by simp) (by simp) (by simp) (by simp);exact d (Sf r j h)
  ·cases bm g (f_ hc).symm (by simp) (by simp) (by simp) (by simp) (by simp);exact d (Sf r j h)
  ·rename_i F;split at hc;·cases bm g (f_ hc).symm (by simp) (by simp) (by simp) (by simp) (by simp);exact d (Sg (neg:=false) r j F h)
   ·cases bm g (f_ hc).symm (by simp) (by simp) (by simp) (by simp) (by simp);exact d (Sg (neg:=true) r j F h)
   ·cases hc
  ·rename_i fs F;have hg:P.eqGuardType P.depth t=false:=by unfold sOk at T;grind
   split at hc;·cases bm g (f_ hc).symm (by simp) (by simp) (by simp) (by simp) (by simp);exact d (Si (neg:=false) r j rfl F hg h)
   ·cases bm g (f_ hc).symm (by simp) (by simp) (by simp) (by simp) (by simp);exact d (Si (neg:=true) r j rfl F hg h)
   ·cases hc
  ·cases hc
 ·rename_i op t x j;cases bm g (f_ hc).symm (by simp) (by simp) (by simp) (by simp) (by simp);exact d (zfi r j h)
 ·rename_i cl j;split at hc
  ·rename_i A;split at hc
   ·rename_i x t p C;split at hc;·rename_i e F;cases bm g (f_ hc).symm (by simp) (by simp) (by simp) (by simp) (by simp);exact d (zcX r j A (qf p) (qf C) F h)
    ·rename_i F;cases bm g (f_ hc).symm (by simp) (by simp) (by simp) (by simp) (by simp);exact d (zax r j A (qf p) (qf C) F h)
    ·rename_i n e F;cases bm g (f_ hc).symm (by simp) (by simp) (by simp) (by simp) (by simp);refine d (W8 r ?_ h);simp[execOp,j,resolve,A,qf p,qf C,invoke,builtin,Builtin.len_,run_underlying F,goInt]
    ·rename_i k e F;cases bm g (f_ hc).symm (by simp) (by simp) (by simp) (by simp) (by simp);exact d (zaw r j A (qf p) (qf C) F h)
    ·cases hc
   ·cases hc
  ·rename_i A;split at hc
   ·rename_i x y t u p C;split at hc
    ·rename_i el;subst el;simp only[b_]at hc;obtain⟨e,L,s',hs,b,O,z,J,hc⟩:=hc;split at hc
     ·rename_i E;obtain⟨I,M,R⟩:=E;rcases SJ g (f_ hc).symm with rfl|rfl|⟨k,rfl⟩;·exact TO r hd j A (kX p) (kX C) L hs O J I M R h
      ·exact zak r hd j A (kX p) (kX C) L hs O J I M R h
      ·exact zal r hd j A (kX p) (kX C) L hs O J I M R h
     ·cases hc
    ·cases hc
   ·cases hc
  ·rename_i A;split at hc
   ·rename_i x y t u p C;simp only[b_]at hc;obtain⟨e,L,e',gc,s',hs,hc⟩:=hc;split at hc;·rename_i E;obtain⟨rfl,h0⟩:=E;cases bm g (f_ hc).symm (by simp) (by simp) (by simp) (by simp) (by simp);exact zao r hd j A (kX p) (kX C) L hs h0 h
    ·cases hc
   ·cases hc
  ·rename_i A;split at hc
   ·rename_i x ys t l p C;split at hc;·cases bm g (f_ hc).symm (by simp) (by simp) (by simp) (by simp) (by simp);exact d (Ov (mx:=false) r j A p h)
    ·cases hc
   ·cases hc
  ·rename_i A;split at hc
   ·rename_i x ys t l p C;split at hc;·cases bm g (f_ hc).symm (by simp) (by simp) (by simp) (by simp) (by simp);exact d (Ov (mx:=true) r j A p h)
    ·cases hc
   ·cases hc
  ·rename_i f A;split at hc
   ·rename_i Q;rcases X5 g (f_ hc).symm with⟨bor,rfl⟩|⟨bor,B,rfl⟩;·exact zan r hd j A Q h
    ·exact WY r hd j A Q h
   ·cases hc
  ·rename_i t A;rcases Vo g (f_ hc).symm with⟨bor,B,rfl⟩|⟨bor,rfl⟩;·exact W7 r hd j A h
   ·exact WZ r hd j A h
  ·cases hc
 ·rename_i t x i j;split at hc;·rename_i F;cases bm g (f_ hc).symm (by simp) (by simp) (by simp) (by simp) (by simp);exact d (zau r j F h)
  ·rename_i n e F;split at hc;·rename_i H;obtain⟨U,H⟩:=r_.1 H;simp only[c_]at hc;obtain⟨sz,hs,hc⟩:=hc;cases bm g hc.symm (by simp) (by simp) (by simp) (by simp) (by simp);exact d (zav r j F H hs h)
   ·cases hc
  ·cases hc
 ·rename_i t x i j;split at hc;·rename_i e F;simp only[c_]at hc;obtain⟨sz,hs,hc⟩:=hc;cases bm g hc.symm (by simp) (by simp) (by simp) (by simp) (by simp);exact d (zar r j F hs h)
  ·rename_i n e F;simp only[c_]at hc;obtain⟨sz,hs,hc⟩:=hc;cases bm g hc.symm (by simp) (by simp) (by simp) (by simp) (by simp);exact d (zat r j F hs h)
  ·cases hc
 ·rename_i t x f j;simp only[b_]at hc;obtain⟨fd,Q,sz,hs,hc⟩:=hc;split at hc;·cases hc
  ·rename_i hsz;cases bm g (f_ hc).symm (by simp) (by simp) (by simp) (by simp) (by simp);exact d (zaq r j Q hs hsz h)
 ·rename_i t x f j;simp only[b_]at hc;obtain⟨fd,Q,hc⟩:=hc;split at hc;·rename_i H;obtain⟨U,H⟩:=r_.1 H;simp only[c_]at hc;obtain⟨sz,hs,hc⟩:=hc;cases bm g hc.symm (by simp) (by simp) (by simp) (by simp) (by simp);exact d (zcW r j Q H hs h)
  ·cases hc
 ·rename_i t x j;simp only[b_]at hc;obtain⟨sz,hs,hc⟩:=hc;split at hc;·rename_i H;obtain⟨U,H⟩:=r_.1 H;cases bm g (f_ hc).symm (by simp) (by simp) (by simp) (by simp) (by simp);exact d (zay r j H hs h)
  ·cases hc
 ·rename_i t x v j;simp only[c_]at hc;obtain⟨sz,hs,hc⟩:=hc;cases bm g hc.symm (by simp) (by simp) (by simp) (by simp) (by simp);have N:o.dst=none:=by obtain⟨_,_,_,_,I,_⟩:=h;exact I
  exact Xd r N j hs h
 ·rename_i e j;simp only[c_]at hc;obtain⟨z,J,hc⟩:=hc;cases bm g hc.symm (by simp) (by simp) (by simp) (by simp) (by simp);exact WW r hd j J h
 ·rename_i e x j;rcases zb7 g (f_ hc).symm with rfl|rfl;·exact zcU r hd j h
  ·exact zam r hd j h
 ·rename_i t parts j;simp only[b_,c_]at hc;obtain⟨z,J,ps,Y,hc⟩:=hc;cases bm g hc.symm (by simp) (by simp) (by simp) (by simp) (by simp);exact d (WX r j J Y h)
 ·rename_i t len parts j;simp only[b_]at hc;obtain⟨e,L,sz,hs,z,J,hc⟩:=hc;split at hc
  ·rename_i E;obtain⟨I,M⟩:=E;rcases SK g (f_ hc).symm with⟨own,rfl⟩|rfl
   rotate_left
   ·exact Qs r hd j L hs J I M h
   cases own;·exact TP r hd j L hs J I M h
   ·exact Qt r hd j L hs J I M h
  ·cases hc
 ·rename_i t l m j;simp only[b_,c_]at hc;obtain⟨e,L,sz,hs,b,O,z,J,hc⟩:=hc;rcases SL g hc.symm with rfl|⟨k,rfl⟩;·exact TR r hd j L hs O J h
  ·exact Qu r hd j L hs O J h
 ·rename_i s' U x j;split at hc;·rename_i ds k I M;cases bm g (f_ hc).symm (by simp) (by simp) (by simp) (by simp) (by simp);exact d (zap r j I M h)
  ·rename_i e I M;split at hc;·rename_i R;cases bm g (f_ hc).symm (by simp) (by simp) (by simp) (by simp) (by simp);exact d (zcT r j I M R h)
   ·cases hc
  ·cases hc
 ·rename_i t x lo hi mx j;split at hc;·rename_i e F;simp only[c_]at hc;obtain⟨sz,hs,hc⟩:=hc;cases bm g hc.symm (by simp) (by simp) (by simp) (by simp) (by simp);exact d (zcY r j F hs h)
  ·rename_i F;split at hc;·cases bm g (f_ hc).symm (by simp) (by simp) (by simp) (by simp) (by simp);exact d (zaC r j F h)
   ·cases hc
  ·cases hc
 ·rename_i x i j;cases bm g (f_ hc).symm (by simp) (by simp) (by simp) (by simp) (by simp);exact d (zcV r j h)
 ·rename_i x j;cases bm g (f_ hc).symm (by simp) (by simp) (by simp) (by simp) (by simp);exact d (zaA r j h)
 ·rename_i f first caps j
  split at hc;·rename_i E;simp only[m_]at E;cases bm g (f_ hc).symm (by simp) (by simp) (by simp) (by simp) (by simp);exact d (zaz r j (by simpa using E.1) h)
  ·cases hc
 ·rename_i t j;split at hc;·cases bm g (f_ hc).symm (by simp) (by simp) (by simp) (by simp) (by simp);exact Xa r hd j h
  ·cases hc
 ·rename_i t m x ok j;split at hc;·rename_i k e F;simp only[c_]at hc;obtain⟨z,J,hc⟩:=hc;cases bm g hc.symm (by simp) (by simp) (by simp) (by simp) (by simp);exact d (TQ r j F J h)
  ·cases hc
 ·rename_i t m x v j;split at hc
  ·rename_i k e F;cases bm g (f_ hc).symm (by simp) (by simp) (by simp) (by simp) (by simp);have N:o.dst=none:=by obtain⟨_,_,_,_,_,_,_,_,_,_,_,_,_,_,I,_⟩:=h;exact I
   exact I8 r N (.inl j) F h
  ·cases hc
 ·rename_i t m x v j;split at hc
  ·rename_i k e F;cases bm g (f_ hc).symm (by simp) (by simp) (by simp) (by simp) (by simp);have N:o.dst=none:=by obtain⟨_,_,_,_,_,_,_,_,_,_,_,_,_,_,I,_⟩:=h;exact I
   exact I8 r N (.inr j) F h
  ·cases hc
 ·rename_i x j;cases bm g (f_ hc).symm (by simp) (by simp) (by simp) (by simp) (by simp);exact Xc r j h
 ·rename_i t x j;cases bm g (f_ hc).symm (by simp) (by simp) (by simp) (by simp) (by simp);refine d (W9 r j ?_ h);unfold sOk at T;grind
 ·cases hc
theorem X9{t:TypeId}{zl:List Value}(hc:lH P o=some (.alloc t zl)):∃z,o.op= .alloc t/\eP P t=some z/\zl=z.cells.toList:=by
 unfold lH at hc
 (repeat' split at hc)<;>simp_all[b_,c_]
 grind
theorem zdO{t:TypeId}{x:SX}(hc:lH P o=some (.box t x)):∃y,o.op= .box t y/\x= .of y:=by
 unfold lH at hc
 (repeat' split at hc)<;>simp_all[b_,c_]
theorem YL{k e:TypeId}(hc:lH P o=some (.mkmap k e)):∃t,o.op= .makeMap t none:=by
 unfold lH at hc
 (repeat' split at hc)<;>simp_all[b_,c_]
theorem Vs{own:Bool}{e:TypeId}{sz len:Nat}{xs:List SX}(hc:lH P o=some (.bslice own e sz len xs)):∃t parts z,o.op= .buildSlice t len parts/\iP P t=some e/\bZ P e=some sz/\eP P e=some z/\yk parts.toList=true/\z.cells.size=sz/\xs=parts.toList.map λq=>SX.of q.2:=by
 unfold lH at hc
 (repeat' split at hc)<;>simp_all[b_,c_]
 grind
theorem Vt{e:TypeId}{sz b:Nat}{z:Value}{l m:SX}(hc:lH P o=some (.mslice e sz b z l m)):∃t x y,o.op= .makeSlice t x y/\iP P t=some e/\bZ P e=some sz/\mC P e=some b/\eP P e=some z/\l= .of x/\m= .of y:=by
 unfold lH at hc
 (repeat' split at hc)<;>simp_all[b_,c_]
 grind
theorem Vr{e:TypeId}{sz b:Nat}{l m:SX}(hc:lH P o=some (.append e sz b l m)):∃a x y t z,o.op= .call a/\a.callee= .builtin .append/\a.args= #[x,y]/\a.argTypes= #[t,t]/\iP P t=some e/\bZ P e=some sz/\mC P e=some b/\eP P e=some z/\z.cells.size=sz/\0<sz/\0<b/\l= .of x/\m= .of y:=by
 unfold lH at hc
 (repeat' split at hc)<;>simp_all[b_,c_]
 rename_i a _ s _ _ x y t u j k v;obtain⟨r,d,s',f,p,g,n,h,c,rfl,rfl,rfl,rfl,rfl⟩:=hc;exact⟨x,y,kX j,u,kX k,d,f,g,n,h,c.1,c.2.1,c.2.2,rfl,rfl⟩
theorem zfh(n:Inv c θ D st a w)(hd:∀k,o.dst=some k->k<c.n){k:Nat}{q:SOp}{K KP:St->Prop}(hc:lH P o=some q.canon)(h:sexec P o.dst (.atq k q) st K KP):Leaves P o c K KP a w:=by
 cases q with
 |alloc t zl=>obtain⟨z,d,g,rfl⟩:=X9 hc;exact Wo n hd (pl:=some k) d g h
 |box t x=>obtain⟨y,d,rfl⟩:=zdO hc;exact zel n hd (pl:=some k) d h
 |mkmap t e=>obtain⟨t,d⟩:=YL hc;exact Wq n hd (pl:=some k) d h
 |bslice own e sz len xs=>cases own with|false=>exact h.elim|true=>obtain⟨t,parts,z,d,p,hs,g,r,j,rfl⟩:=Vs hc;exact RO n hd d p hs g r j (pl:=some k) h
 |mslice e sz b z l m=>obtain⟨t,x,y,d,p,hs,u,g,rfl,rfl⟩:=Vt hc;exact RP n hd d p hs u g (pl:=some k) h
 |append e sz b l m=>obtain⟨C,x,y,t,z,d,A,f,s,p,hs,u,g,j,B,v,rfl,rfl⟩:=Vr hc;exact zcy n hd d A f s p hs u g j B v (pl:=some k) h
 |_=>exact h.elim
theorem Il(f:Inv c θ D st a w)(hd:∀k,o.dst=some k->k<c.n){s:SOp}{K KP:St->Prop}(hc:lH P o=some s.canon)(d:sOk P o=true)(h:sexec P o.dst s st K KP):Leaves P o c K KP a w:=by
 by_cases b:∀k q,s≠.atq k q;·exact PD f hd b hc d h
 ·have:∃k q,s= .atq k q:=t_ λhn=>b λk q e=>hn ⟨k,q,e⟩;obtain⟨k,q,rfl⟩:=this;exact zfh f hd (k:=k) (q:=q) hc h
def DX(P:Program)(n:Nat)(ops:Array Oper)(o:Oper)(s:SOper):Prop:=
 (lH P o=some s.op.canon/\sOk P o=true)/\s.dst=o.dst/\(∀k,o.dst=some k->k<n)/\
  match o.guard with
  |none=>s.gd=none
  |some (j,want)=>∃t,(ops[j]?).bind (·.dst)=some t/\s.gd=some (t,want)
theorem zaJ{ops:Array Oper}{j t:Nat}(a:(ops[j]?).bind (·.dst)=some t)(tmps:Array Value):yielded ops tmps j=yv (tmps.getD t undef):=by
 unfold yielded;rw[a];simp only[Option.bind_some];rcases C_ t tmps.size with h|h;·simp only[l_ h,ae_,h,dif_pos];show _=yv tmps[t];cases tmps[t]<;>rfl
 ·simp only[Array.getElem?_eq_none h,ae_,aB_.2 h,dif_neg,not_false_eq_true];rfl
theorem xv{n:Nat}{ops:Array Oper}{s:SOper}{K KP:St->Prop}(p:Inv c θ D st a w)(hn:c.n=n)(hc:DX P n ops o s)(h:m5 P s st K KP)(next:Act->World->Prop)(Q:Exit->Act->World->Prop) (b:∀z w',(∃d,K d/\Rel c d z w')->next z w') (hp:∀A w',(A5 A/\∃d,KP d/\Rel c d a w')->Q (.panic A) a w'):if Region.wanted o (yielded ops a.tmps)then o.wp P a w next Q else next (a.put o.dst undef) w:=by
 obtain⟨l,r,H,e⟩:=hc;have hd:∀k,o.dst=some k->k<c.n:=by grind
 unfold m5 at h;unfold Region.wanted;cases hg:o.guard with
 |none=>rw[hg]at e;simp only at e;rw[e]at h;simp only[if_true];rw[r]at h;exact Il p hd l.1 l.2 h next Q b hp
 |some F=>
  obtain⟨j,want⟩:=F;rw[hg]at e;obtain⟨t,C,u⟩:=e;rw[u]at h;obtain⟨g,x,v,rfl,f,y⟩:=h;have E:=Z9 (p.fr t _ x);simp only[zaJ C,E];by_cases B:yv v=some want;·rw[if_pos (by grind)];have:=f B;rw[r]at this;exact Il p hd l.1 l.2 this next Q b hp
  ·rw[if_neg (by grind)];have:=y B;rw[r]at this;exact b _ _ ⟨_,this,θ,D,p.put hd (RelP.sc _)⟩
end
section
variable {P:Program} {c:Ctx} {st:St} {a:Act} {w:World}
def Bc(P:Program)(n:Nat)(ops:Array Oper):List Oper->List SOper->Prop
 |[],[]=>True
 |o::l,s::m=>DX P n ops o s/\Bc P n ops l m
 |_,_=>False
theorem DY{n:Nat}{ops:Array Oper}:∀{l:List Oper} {m:List SOper},Bc P n ops l m->l.length=m.length/\∀(i:Nat) (o:Oper) (s:SOper),l[i]? =some o->m[i]? =some s->DX P n ops o s
 |[],[],_=>⟨rfl,λi o s h=>by simp⟩
 |o::l,s::m,h=>by obtain⟨b,a⟩:=h;obtain⟨c,d⟩:=DY a;grind
theorem zaj{n m:Nat}{ops:Array Oper}(hn:c.n=n)(u:c.th.length<=m){K KP:St->Prop}{Q:Exit->Act->World->Prop}(A:∀a w,(∃b,K b/\Rel c b a w)->Q .normal a w)(z:∀g a w,(A5 g/\∃b,KP b/\Rel c b a w)->Q (.panic g) a w): ∀(d:List Oper) (e:List SOper) (k:Nat),(∀i,d[i]? =ops[k+i]?)->Bc P n ops d e->∀(st:St) (a:Act) (w:World),sops P m e st K KP->Rel c st a w->wpOps P ops Q (aX_ k d.length) a w:=by
 intro d;induction d with
 |nil=>intro e k _ hc st a w h hr;cases e with|cons s e=>exact hc.elim|nil=>simp only[sops]at h;obtain⟨b,r,j⟩:=h;exact A a w ⟨b,j,r _ _ _ u hr⟩
 |cons o d C=>
  intro e k j hc st a w h hr;cases e with
  |nil=>exact hc.elim|cons s e=>
   obtain⟨v,x⟩:=hc;simp only[sops]at h;obtain⟨st1,r,h⟩:=h;obtain⟨θ,D,y⟩:=r _ _ _ u hr;have B:ops[k]? =some o:=by simpa using(j 0).symm
   have:=xv y hn v h (λl w'=>wpOps P ops Q (aX_ (k+1) d.length) l w') Q (λl w' ⟨b,p,f⟩=>C e (k+1) (λi=>by have:=j (i+1);grind) x b l w' p f) (λg w' hp=>z g a w' hp);simp only[A_,List.range'_succ,wpOps,B];grind
theorem TI{id n m:Nat}{ops:Array Oper}{d:List SOper}(hn:c.n=n)(j:c.th.length<=m)(hc:Bc P n ops ops.toList d){K KP:St->Prop}{Q:Exit->Act->World->Prop}(h:sops P m d st K KP)(hr:Rel c st a w) (g:∀a w,(∃b,K b/\Rel c b a w)->Q .normal a w) (f:∀e a w,(A5 e/\∃b,KP b/\Rel c b a w)->Q (.panic e) a w):(Code.region id ops false).wp P Q a w:=by refine wp_region ?_;have:=zaj hn j g f ops.toList d 0 (λi=>by simp) hc st a w h hr;rw[List.range_eq_range'];omega
def SX.rd:SX->List Nat
 | .tm k=>[k]
 |_=>[]
def SOp.rd:SOp->List Nat
 | .mv x| .un _ x| .len _ x| .lenM _ _ x| .fldA _ _ _ x| .fld _ _ _ x| .load _ _ x| .box _ x| .boxD _ x| .cvtI _ x| .ext x _| .nilc x| .b2s x| .panic x| .iface _ x=>x.rd
 | .pick c a b=>c.rd++a.rd++b.rd
 | .bin _ x y| .eqB _ x y| .eqT _ _ x y| .idxS x y| .idxV _ _ _ x y| .idxA _ x y| .idxP _ _ _ x y| .store _ x y| .mslice _ _ _ _ x y| .append _ _ _ x y| .appD _ _ _ x y| .msliceT _ _ _ _ _ x y| .appT _ _ _ _ x y| .lookup _ _ _ _ x y| .copy _ _ x y=>x.rd++y.rd
 | .mapset _ _ x y z=>x.rd++y.rd++z.rd
 | .alloc _ _| .mkmap _ _=>[]
 | .build _ E=>E.flatMap λq=>q.2.2.rd
 | .bslice _ _ _ _ E=>E.flatMap SX.rd
 | .bsliceN _ _ _ E=>E.flatMap SX.rd
 | .slc _ x lo H mx=>x.rd++(lo.map SX.rd).getD []++(H.map SX.rd).getD []++(mx.map SX.rd).getD []
 | .slcS x lo H=>x.rd++(lo.map SX.rd).getD []++(H.map SX.rd).getD []
 | .call _ _ xs| .callA _ _ _ xs| .mkfn _ xs=>xs.flatMap SX.rd
 | .callv _ _ x xs| .mnmx _ _ x xs| .callp _ x xs=>x.rd++xs.flatMap SX.rd
 | .atq _ op=>op.rd
def SOper.rd(o:SOper):List Nat:=o.op.rd++(o.gd.map λg=>[g.1]).getD []
theorem aX{st a:St}{x:SX}(h:∀t∈x.rd,look a.fr t=look st.fr t):a.get x=st.get x:=by cases x<;>simp only[St.get];exact h _ (by simp[SX.rd])
theorem dz{α β:Type}{f g:α->Option β}:∀{l:List α},(∀x∈l,f x=g x)->l.mapM f=l.mapM g
 |[],_=>rfl
 |x::l,h=>by rw[B_,B_,h x (by simp),dz (l:=l) λy a=>h y (by grind)]
theorem Ar{st a:St}{x:Option SX}(h:∀t∈(x.map SX.rd).getD [],look a.fr t=look st.fr t)(d:Nat)(K:Nat->Prop):bnd a x d K=bnd st x d K:=by cases x with|none=>rfl|some x=>simp only[bnd,aX (x:=x) (by simpa using h)]
theorem zcS{st d:St}{s:SOp}(n:d.hp=st.hp)(h:∀t∈s.rd,look d.fr t=look st.fr t)(K:AV->Prop):ou P d s K=ou P st s K:=by
 cases s<;>simp only[SOp.rd,o_]at h<;>simp only[ou,n];case mv x=>rw[aX h]
 case pick x y z=>rw[aX (x:=x) λt a=>h t (.inl (.inl a)),aX (x:=y) λt a=>h t (.inl (.inr a)),aX (x:=z) λt a=>h t (.inr a)]
 case un op x=>rw[aX h]
 case len b x=>rw[aX h]
 case fldA x=>rw[aX h]
 case fld x=>rw[aX h]
 case load x=>rw[aX h]
 case cvtI x=>rw[aX h]
 case ext x i=>rw[aX h]
 case nilc x=>rw[aX h]
 case b2s x=>rw[aX h]
 case lenM k e x=>rw[aX h]
 case boxD k x=>rw[aX h]
 case iface k x=>rw[aX h]
 case appD e sz p x y=>rw[aX (x:=x) λt a=>h t (.inl a),aX (x:=y) λt a=>h t (.inr a)]
 case eqT op t x y=>rw[aX (x:=x) λt a=>h t (.inl a),aX (x:=y) λt a=>h t (.inr a)]
 case lookup k e ok z x y=>rw[aX (x:=x) λt a=>h t (.inl a),aX (x:=y) λt a=>h t (.inr a)]
 case mkfn f xs=>rw[dz (l:=xs) λq c=>aX (x:=q) λt a=>h t (e_.2 ⟨q,c,a⟩)]
 case mnmx mx k x xs=>rw[aX (x:=x) λt a=>h t (.inl a),dz (l:=xs) λq c=>aX (x:=q) λt a=>h t (.inr (e_.2 ⟨q,c,a⟩))]
 case bin op x y=>rw[aX (x:=x) λt a=>h t (.inl a),aX (x:=y) λt a=>h t (.inr a)]
 case eqB op x y=>rw[aX (x:=x) λt a=>h t (.inl a),aX (x:=y) λt a=>h t (.inr a)]
 case idxS x y=>rw[aX (x:=x) λt a=>h t (.inl a),aX (x:=y) λt a=>h t (.inr a)]
 case idxV x y=>rw[aX (x:=x) λt a=>h t (.inl a),aX (x:=y) λt a=>h t (.inr a)]
 case idxA x y=>rw[aX (x:=x) λt a=>h t (.inl a),aX (x:=y) λt a=>h t (.inr a)]
 case idxP x y=>rw[aX (x:=x) λt a=>h t (.inl a),aX (x:=y) λt a=>h t (.inr a)]
 case build z g=>rw[dz (l:=g) λq c=>by rw[aX (x:=q.2.2) λt a=>h t (e_.2 ⟨q,c,a⟩)]]
 case bslice b e sz l g=>
  cases b;·simp only;rw[dz (l:=g) λq c=>by rw[aX (x:=q) λt a=>h t (e_.2 ⟨q,c,a⟩)]]
  simp
 case bsliceN e sz l g=>rw[dz (l:=g) λq c=>by rw[aX (x:=q) λt a=>h t (e_.2 ⟨q,c,a⟩)]]
 case call b f xs=>rw[dz (l:=xs) λq c=>by rw[aX (x:=q) λt a=>h t (e_.2 ⟨q,c,a⟩)]]
 case callp b x xs=>rw[aX (x:=x) λt a=>h t (.inl a),dz (l:=xs) λq c=>by rw[aX (x:=q) λt a=>h t (.inr (e_.2 ⟨q,c,a⟩))]]
 case slc sz x lo j mx=>simp only[aX (x:=x) λt a=>h t (.inl (.inl (.inl a))),Ar (x:=lo) λt a=>h t (.inl (.inl (.inr a))),Ar (x:=j) λt a=>h t (.inl (.inr a)),Ar (x:=mx) λt a=>h t (.inr a)]
 case slcS x lo j=>simp only[aX (x:=x) λt a=>h t (.inl (.inl a)),Ar (x:=lo) λt a=>h t (.inl (.inr a)),Ar (x:=j) λt a=>h t (.inr a)]
def je(P:Program)(o:SOper)(st:St)(x:AV):Prop:=
 match o.gd with
 |none=>ou P st o.op λy=>y=x
 |some (t,want)=>aU (look st.fr t) λg=>Ju g λv=>(yv v=some want->ou P st o.op λy=>y=x)/\(yv v≠some want->x= .v undef)
theorem TT{o:SOper}{st a:St}{x:AV}(c:a.hp=st.hp)(h:∀t∈o.rd,look a.fr t=look st.fr t)(b:je P o st x):je P o a x:=by simp only[SOper.rd,o_]at h;have e:=zcS (P:=P) (s:=o.op) c λt d=>h t (.inl d);unfold je at b⊢;split at b;all_goals grind
theorem aw{α:Type}{o:Option α}{K b:α->Prop}(h:aU o K)(e:∀x,K x->b x):aU o b:=let⟨a,c,d⟩:=h;⟨a,c,e a d⟩
theorem bz{a:AV}{K b:Value->Prop}(h:Ju a K)(e:∀x,K x->b x):Ju a b:=let⟨v,c,d⟩:=h;⟨v,c,e v d⟩
theorem bU{v:Value}{K a:IntKind->Int->Prop}(h:isInt v K)(d:∀k n,K k n->a k n):isInt v a:=let⟨k,n,b,c⟩:=h;⟨k,n,b,d k n c⟩
theorem ub{v:Value}{K a:Bool->Prop}(h:isBool v K)(e:∀x,K x->a x):isBool v a:=let⟨b,c,d⟩:=h;⟨b,c,e b d⟩
theorem xe{v:Value}{K a:ByteArray->Prop}(h:V6 v K)(e:∀x,K x->a x):V6 v a:=let⟨b,c,d⟩:=h;⟨b,c,e b d⟩
theorem Y6{hp:List AObj}{a:AV}{K f:Nat->Prop}(h:isLen hp a K)(c:∀x,K x->f x):isLen hp a f:=by
 rcases h with⟨h,b⟩|⟨sz,L,h,b⟩|⟨id,e,sz,L,h,d,b⟩|⟨sz,L,h,b⟩|⟨id,e,sz,k,L,g,h,d,b⟩;·exact .inl ⟨h,c _ b⟩
 ·exact .inr (.inl ⟨sz,L,h,c _ b⟩)
 ·exact .inr (.inr (.inl ⟨id,e,sz,L,h,d,c _ b⟩))
 ·exact .inr (.inr (.inr (.inl ⟨sz,L,h,c _ b⟩)))
 ·exact .inr (.inr (.inr (.inr ⟨id,e,sz,k,L,g,h,d,c _ b⟩)))
theorem Hh{hp:List AObj}{k e:TypeId}{a:AV}{K b:Nat->List (PV×PV)->Prop}(h:isMap hp k e a K)(g:∀i x,K i x->b i x):isMap hp k e a b:=let⟨id,kvs,c,d,f⟩:=h;⟨id,kvs,c,d,g _ _ f⟩
theorem jE{st:St}{x:Option SX}{d:Nat}{K a:Nat->Prop}(h:bnd st x d K)(b:∀n,K n->a n):bnd st x d a:=by cases x with|none=>exact b _ h|some x=>exact aw h λ_ h=>bz h λ_ h=>bU h λ_ _ h=>⟨h.1,b _ h.2⟩
theorem zb5{op:BinOp}{x y:Value}{K a:Value->Prop}(h:SI op x y K)(b:∀v,K v->a v):SI op x y a:=by
 unfold SI at h⊢;split at h;·cases op<;>simp only at h⊢<;>first|grind|grind
 ·cases op<;>simp only at h⊢<;>first|grind|grind|exact h
 omega
theorem zfl{op:UnOp}{x:Value}{K a:Value->Prop}(h:unV op x K)(b:∀v,K v->a v):unV op x a:=by unfold unV at h⊢;grind
theorem NT{hp:List AObj}{sz:Nat}{ag:Bool}{a:AV}{K j:AV->Prop}(h:Le hp sz ag a K)(g:∀v,K v->j v):Le hp sz ag a j:=by
 unfold Le at h⊢;split at h;·grind
 ·exact aw h λ_ ⟨t,cs,b,c,d,f⟩=>⟨t,cs,b,c,d,f.imp (g _) λh=>aw h λ_ h=>g _ h⟩
 ·refine aw h λ_ h=>h.imp (fun⟨e,s,xs,b,c,d,f,l⟩=>⟨e,s,xs,b,c,d,f,?_⟩) fun⟨e,s,k,xs,x,b,c,d,f,l⟩=>⟨e,s,k,xs,x,b,c,d,f,l.imp (λh=>⟨h.1,g _ h.2⟩) fun⟨n,p,r,u,w⟩=>⟨n,p,r,u,g _ w⟩⟩;grind
 omega
theorem iR{hp:List AObj}{sz:Nat}{a:AV}{K d:List PV->Prop}(h:vl hp sz a K)(c:∀x,K x->d x):vl hp sz a d:=by
 rcases h with⟨h,b⟩|⟨L,h,b⟩|⟨id,e,L,h,f,b⟩|⟨L,h,b⟩;·exact .inl ⟨h,c _ b⟩
 ·exact .inr (.inl ⟨L,h,c _ b⟩)
 ·exact .inr (.inr (.inl ⟨id,e,L,h,f,c _ b⟩))
 ·exact .inr (.inr (.inr ⟨L,h,c _ b⟩))
theorem I7{st:St}{s:SOp}{K u:AV->Prop}(h:ou P st s K)(b:∀x,K x->u x):ou P st s u:=by
 cases s<;>simp only[ou]at h⊢;case mv=>exact aw h b
 case pick=>exact aw h λ_ h=>bz h λ_ h=>ub h λ_ h=>⟨λe=>aw (h.1 e) b,λe=>aw (h.2 e) b⟩
 case bin=>exact aw h λ_ h=>aw h λ_ h=>bz h λ_ h=>bz h λ_ h=>zb5 h λ_ h=>b _ h
 case eqB=>exact aw h λ_ h=>aw h λ_ h=>bz h λ_ h=>bz h λ_ h=>ub h λ_ h=>ub h λ_ h=>b _ h
 case un=>exact aw h λ_ h=>bz h λ_ h=>zfl h λ_ h=>b _ h
 case len str x=>
  refine aw h λ_ h=>?_;cases str;·exact Y6 h λ_ h=>b _ h
  ·exact bz h λ_ h=>xe h λ_ h=>b _ h
 case idxS=>exact aw h λ_ h=>aw h λ_ h=>bz h λ_ h=>bz h λ_ h=>bU h λ_ _ h=>xe h λ_ h=>⟨h.1,h.2.1,b _ h.2.2⟩
 case idxV=>exact aw h λ_ h=>aw h λ_ h=>bz h λ_ h=>bU h λ_ _ h=>aw h λ_ ⟨c,a,d,j,l,n⟩=>⟨c,a,d,j,l,b _ n⟩
 case idxA=>
  refine aw h λ_ h=>aw h λ_ h=>bz h λ_ h=>bU h λ_ _ h=>?_;rcases h with⟨L,c,a,d,j⟩|⟨id,c,a⟩;·grind
  ·exact .inr ⟨id,c,aw a λ_ h=>h.imp (fun⟨e,L,d,j,l,n⟩=>⟨e,L,d,j,l,b _ n⟩) fun⟨e,k,L,y,d,j,l,n⟩=>⟨e,k,L,y,d,j,l,b _ n⟩⟩
 case idxP=>refine aw h λ_ h=>aw h λ_ h=>bz h λ_ h=>bU h λ_ _ ⟨c,a,h⟩=>⟨c,a,?_⟩;grind
 case lenM=>exact aw h λ_ h=>Hh h λ_ _ h=>b _ h
 case boxD=>exact aw h λ_ h=>aw h λ_ h=>⟨h.1,h.2.1,b _ h.2.2⟩
 case iface=>exact aw h λ_ h=>b _ h
 case eqT=>exact aw h λ_ h=>aw h λ_ h=>aw h λ_ h=>aw h λ_ h=>aw h λ_ h=>b _ h
 case lookup=>exact aw h λ_ h=>aw h λ_ h=>Hh h λ_ _ h=>aw h λ_ ⟨c,a,d,h⟩=>⟨c,a,d,aw h λ_ h=>b _ h⟩
 case mkfn=>refine aw h λ_ h=>?_;grind
 case mnmx=>exact aw h λ_ h=>bz h λ_ h=>bU h λ_ _ h=>aw h λ_ ⟨z,c,a,d⟩=>⟨z,c,a,b _ d⟩
 case fldA=>refine aw h λ_ h=>?_;grind
 case fld=>refine aw h λ_ h=>?_;grind
 case load=>exact aw h λ_ h=>NT h b
 case cvtI=>exact aw h λ_ h=>bz h λ_ h=>bU h λ_ _ h=>b _ h
 case slc=>
  refine aw h λ_ h=>?_;rcases h with h|⟨id,c,h⟩;·refine .inl (aw h λ_ ⟨L,c,h⟩=>⟨L,c,jE h λ_ h=>jE h λ_ h=>jE h λ_ ⟨a,d,j,l,n⟩=>⟨a,d,j,l,?_⟩⟩);grind
  ·exact .inr ⟨id,c,aw h λ_ ⟨e,k,L,g,a,h⟩=>⟨e,k,L,g,a,jE h λ_ h=>jE h λ_ h=>jE h λ_ ⟨a,d,j,l,n,w⟩=>⟨a,d,j,l,n,b _ w⟩⟩⟩
 case slcS=>exact aw h λ_ h=>bz h λ_ h=>xe h λ_ h=>jE h λ_ h=>jE h λ_ ⟨a,d,j⟩=>⟨a,d,b _ j⟩
 case ext=>
  refine aw h λ_ h=>?_;rcases h with⟨xs,c,a⟩|⟨xs,c,a⟩;·exact .inl ⟨xs,c,aw a λ_ h=>b _ h⟩
  ·exact .inr ⟨xs,c,aw a λ_ h=>b _ h⟩
 case b2s=>exact aw h λ_ h=>iR h λ_ h=>aw h λ_ h=>b _ h
 case nilc=>exact aw h λ_ h=>⟨h.1,b _ h.2⟩
 case build=>exact aw h λ_ h=>⟨h.1,b _ h.2⟩
 case call=>exact aw h λ_ h=>ACalls.mono h λ_ ⟨r,p,c,a,d,j⟩=>⟨r,p,c,a,d,b _ j⟩
 case callp=>exact aw h λ_ ⟨f,cs,c,a,d⟩=>⟨f,cs,c,a,aw d λ_ h=>ACalls.mono h λ_ ⟨r,p,c,a,d,j⟩=>⟨r,p,c,a,d,b _ j⟩⟩
 case bslice own e sz len A=>
  cases own;·exact aw h λ_ ⟨c,a,d,j,l⟩=>⟨c,a,d,j,l.imp (b _) (b _)⟩
  omega
 case bsliceN=>exact aw h λ_ ⟨c,a,d,j,l⟩=>⟨c,a,d,j,b _ l⟩
 case appD=>exact aw h λ_ h=>aw h λ_ h=>iR h λ_ ⟨c,v,a,d,j⟩=>⟨c,v,a,d,b _ j⟩
theorem vo{o:SOper}{st:St}{x:AV}{K KP:St->Prop}(h:je P o st x)(b:K (st.putO o.dst x)):m5 P o st K KP:=by
 have key:∀s,(ou P st s λy=>y=x)->sexec P o.dst s st K KP:=by
  intro s hs;have a:ou P st s λy=>K (st.putO o.dst y):=I7 hs λy c=>by grind
  unfold sexec;split<;>first|exact a|exact hs.elim
 unfold je at h;unfold m5;split at h;·grind
 ·rename_i t want hg;rw[hg];refine aw h λ_ h=>bz h λv h=>⟨λe=>key _ (h.1 e),λe=>by grind⟩
end
def sdraw(P:Program)(m:Nat):Nat->List SOper->St->(St->Prop)->(St->Prop)->Prop
 |0,l,st,K,KP=>sops P m l st K KP
 |_+1,[],st,K,_=>K st
 |k+1,o::l,st,K,KP=>∃x,je P o st x/\sdraw P m k l (st.putO o.dst x) K KP
def iO:List (List Nat)->List (List Nat)->List (List Nat)
 |a,[]=>a
 |a,l::ls=>iO (a++[l.flatMap λe=>e::a.getD e []]) ls
def JJ(x y:SOper):Bool:=
 (match x.dst with|some d=> !y.rd.contains d&&y.dst != some d|none=>true)&&(match y.dst with|some d=> !x.rd.contains d|none=>true)
def JN(ops:List SOper)(a:List (List Nat))(k:Nat):Bool:=
 (P_ ops.length).all λj=>(P_ j).all λi=>(a.getD j []).contains i||(decide (j<k)&&(match ops[i]?,ops[j]? with|some x,some y=>JJ x y|_,_=>false))
def A8(ops:Array Oper):List (List Nat):=ops.toList.map λo=>(o.after.toList.filter (Region.binds .any)).map (·.on)
def Kc(after:List (List Nat)):Bool:=(P_ after.length).all λi=>(after.getD i []).all λe=>decide (e<i)
section
variable {P:Program} {c:Ctx} {w:World} {a:Act}
def dZ(p:Nat->Bool):Nat->Option Nat
 |0=>none
 |k+1=>if p k then some k else dZ p k
theorem pC{p q:Nat->Bool}:∀{k:Nat},(∀j,j<k->p j=q j)->dZ p k=dZ q k
 |0,_=>rfl
 |k+1,h=>by have a:=pC (p:=p) (q:=q) (k:=k) λj b=>h j (by omega);simp only[dZ,h k (by simp),a]
theorem BR{p:Nat->Bool}:∀{k i:Nat},i<=k->(∀j,i<=j->j<k->p j=false)->dZ p k=dZ p i
 |0,i,h,_=>by grind
 |k+1,i,h,hp=>by
  rcases C_ i (k+1)with a|a;·simp only[dZ,hp k (by omega) (by simp),q_,if_false];exact BR (by omega) λj b c=>hp j b (by omega)
  grind
def OY(d:Nat->Option Nat)(X:Nat->AV)(st:St)(S:Nat->Bool):Nat->St
 |0=>st
 |k+1=>if S k then(OY d X st S k).putO (d k) (X k)else OY d X st S k
theorem Hy(d:Nat->Option Nat)(X:Nat->AV)(st:St)(S:Nat->Bool):∀k,(OY d X st S k).hp=st.hp
 |0=>rfl
 |k+1=>by
  simp only[OY];split;·cases d k<;>simp[St.putO,St.put,Hy d X st S k]
  ·exact Hy d X st S k
theorem iq(st:St)(d:Option Nat)(x:AV)(t:Nat):look (st.putO d x).fr t=if d=some t then some x else look st.fr t:=by cases d with|none=>simp[St.putO]|some k=>simp only[St.putO,St.put,look,g_];grind
theorem ug(d:Nat->Option Nat)(X:Nat->AV)(st:St)(S:Nat->Bool)(t:Nat):∀k,look (OY d X st S k).fr t=(match dZ (λj=>S j&&d j==some t) k with|some j=>some (X j)|none=>look st.fr t)
 |0=>rfl
 |k+1=>by
  simp only[OY,dZ];by_cases a:S k=true
  ·rw[if_pos a,iq];by_cases hd:d k=some t;·grind
   ·rw[if_neg hd,ug d X st S t k];grind
  ·rw[if_neg a,ug d X st S t k];grind
theorem Rel.congr{st E:St}(H:E.hp=st.hp)(h:∀t,look E.fr t=look st.fr t)(hr:Rel c st a w):Rel c E a w:=by obtain⟨θ,D,z⟩:=hr;exact⟨θ,D,z.size,z.defers,by rw[H];exact z.ok,z.keep,z.dsub,z.dnew,z.onew,λk x I=>z.fr k x (by grind),z.fix⟩
theorem zcR{m:Nat}:∀(k:Nat) (ops:List SOper) (st:St) (K KP:St->Prop),sdraw P m k ops st K KP->k<=ops.length->∃X:Nat->AV,(∀i s,i<k->ops[i]? =some s->je P s (OY (λj=>(ops[j]?).bind (·.dst)) X st (λ_=>true) i) (X i))/\sops P m (ops.drop k) (OY (λj=>(ops[j]?).bind (·.dst)) X st (λ_=>true) k) K KP:=by
 intro k;induction k with
 |zero=>intro ops st K KP h _;exact⟨λ_=>default,λi s c=>absurd c (by simp),h⟩|succ k b=>
  intro ops st K KP h hl;cases ops with|nil=>grind|cons o ops=>
  simp only[sdraw]at h;obtain⟨x,d,h⟩:=h;obtain⟨X,e,f⟩:=b ops _ K KP h (by grind);have a:∀i,OY (λj=>((o::ops)[j]?).bind (·.dst)) (λj=>match j with|0=>x|j+1=>X j) st (λ_=>true) (i+1)=OY (λj=>(ops[j]?).bind (·.dst)) X (st.putO o.dst x) (λ_=>true) i:=by intro i;induction i with|zero=>simp[OY]|succ i b=>rw[OY,b];simp[OY]
  refine⟨λj=>match j with|0=>x|j+1=>X j,λi s c hs=>?_,?_⟩
  ·cases i with|zero=>simp at hs;subst hs;exact d|succ i=>grind
  grind
theorem U6:∀(ls a:List (List Nat)),(iO a ls).length=a.length+ls.length
 |[],a=>rfl
 |l::ls,a=>by rw[iO,U6 ls];simp;omega
theorem MZ:∀(ls a:List (List Nat)) (i:Nat),i<a.length->(iO a ls)[i]? =a[i]?
 |[],a,i,_=>rfl
 |l::ls,a,i,h=>by rw[iO,MZ ls _ i (by grind),j_ h]
theorem H9:∀(ls a:List (List Nat)) (j:Nat) (l:List Nat),ls[j]? =some l->(iO a ls).getD (a.length+j) []=l.flatMap λe=>e::(iO a (ls.take j)).getD e []
 |[],a,j,l,h=>by grind
 |m::ls,a,0,l,h=>by
  simp at h;subst h;have:(iO a (m::ls))[a.length]? =some (m.flatMap λe=>e::a.getD e []):=by rw[iO,MZ ls _ _ (by simp)];simp
  show((iO a (m::ls))[a.length+0]?).getD []=_;rw[aW_,this];rfl
 |m::ls,a,j+1,l,h=>by have:=H9 ls (a++[m.flatMap λe=>e::a.getD e []]) j l (by grind);simp only[X_,au_]at this;rw[show a.length+(j+1)=a.length+1+j by omega,iO,this];rfl
def zd4{α:Type}(n:Nat)(k:Nat->α):α:=match n with
 |0=>k 0
 |p+1=>k (p+1)
theorem zcm{α:Type}(n:Nat)(k:Nat->α):zd4 n k=k n:=by cases n<;>rfl
def Y8(a:List Nat)(l:List Nat):Nat:=l.foldl (λm e=>m|||2^e|||a.getD e 0) 0
def zdA:List Nat->List (List Nat)->List Nat
 |a,[]=>a
 |a,l::ls=>zd4 (Y8 a l) λm=>zdA (a++[m]) ls
def bitsOf(m:Nat):List Nat:=(P_ (m.log2+1)).filter λi=>m.testBit i
def Py(after:List (List Nat)):List (List Nat):=(zdA [] after).map bitsOf
theorem Jo(a:List Nat)(i:Nat):∀(l:List Nat) (m:Nat),(l.foldl (λm e=>m|||2^e|||a.getD e 0) m).testBit i=(m.testBit i||l.any λe=>decide (e=i)||(a.getD e 0).testBit i)
 |[],m=>by simp
 |e::l,m=>by rw[aO_,Jo a i l,aS_,aS_,Nat.testBit_two_pow,List.any_cons,ax_,ax_,ax_]
theorem LD(m i:Nat):(bitsOf m).contains i=m.testBit i:=by
 rw[aM_,D_];unfold bitsOf;rw[N_,v_];refine⟨λh=>h.2,λh=>⟨?_,h⟩⟩;have a:=Nat.ge_two_pow_of_testBit h;have b:m≠0:=by rintro rfl;simp at h
 have:=(Nat.le_log2 b).2 a;omega
theorem zaQ(i:Nat):∀(ls a:List (List Nat)) (b:List Nat),a.length=b.length->(∀j,(a.getD j []).contains i=(b.getD j 0).testBit i)->∀j,((iO a ls).getD j []).contains i=((zdA b ls).getD j 0).testBit i
 |[],a,b,_,h=>h
 |l::ls,a,b,hl,h=>by
  unfold iO zdA;rw[zcm];refine zaQ i ls _ _ (by simp[hl]) λj=>?_;rcases Nat.lt_trichotomy j a.length with c|c|c;·rw[I_,I_,j_ c,j_ (by omega)];exact h j
  ·subst c;have e:(Y8 b l).testBit i=l.any λe=>decide (e=i)||(b.getD e 0).testBit i:=by unfold Y8;rw[Jo];simp
   rw[I_,I_,n_ (by omega),n_ (by omega),hl];simp only[aH_,List.getElem?_cons_zero,U_];rw[e,aM_,D_,e_,List.any_eq_true];refine exists_congr λe=>and_congr_right λ_=>?_;rw[R_,<-D_,h e,V_,decide_eq_true_eq];exact or_congr_left eq_comm
  ·rw[I_,I_,as_ (by simp;omega),as_ (by simp;omega)];simp
theorem Mm(after:List (List Nat))(j i:Nat):((Py after).getD j []).contains i=((iO [] after).getD j []).contains i:=by rw[zaQ i after [] [] rfl (λj=>by simp) j];unfold Py;rw[I_,T_,I_];cases(zdA [] after)[j]? with|none=>simp|some m=>exact LD m i
theorem Vx(ops:List SOper)(after:List (List Nat))(k:Nat):JN ops (Py after) k=JN ops (iO [] after) k:=by simp only[JN,Mm]
theorem zb1(ls:List (List Nat))(j e:Nat)(h:e<j)(k:j<=ls.length):(iO [] (ls.take j)).getD e []=(iO [] ls).getD e []:=by
 have key:∀(b c a:List (List Nat)),iO a (b++c)=iO (iO a b) c:=by intro b;induction b with|nil=>intro c a;rfl|cons m b d=>intro c a;simp only[al_,iO,d]
 have f:(iO [] (ls.take j)).length=j:=by rw[U6];grind
 have:=key (ls.take j) (ls.drop j) [];rw[List.take_append_drop]at this;have g:(iO [] ls)[e]? =(iO [] (ls.take j))[e]? :=by rw[this,MZ _ _ e (by omega)]
 grind
theorem wG{after:List (List Nat)}(a:Kc after=true){S:Nat->Prop}(h:∀i l,after[i]? =some l->S i->∀e∈l,S e):∀(n i j:Nat),i<=n->S i->(((iO [] after).getD i []).contains j)=true->i<after.length->S j:=by
 intro n;induction n with
 |zero=>
  intro i j k hs hc b;have f:i=0:=by omega
  subst f;have hl:=d_ b;have:=H9 after [] 0 _ hl;simp only[L_,O_]at this;rw[this]at hc;simp only[D_,e_]at hc;obtain⟨e,g,_⟩:=hc;simp only[Kc,k_,v_,decide_eq_true_eq]at a;have:=a 0 b e (by grind);omega
 |succ n r=>
  intro i j k hs hc b;have hl:=d_ b;have hg:=H9 after [] i _ hl;simp only[L_,O_]at hg;rw[hg]at hc;simp only[D_,e_]at hc;obtain⟨e,g,c⟩:=hc;have p:=h i _ hl hs e g;simp only[Kc,k_,v_,decide_eq_true_eq]at a;have d:=a i b e (by grind);simp only[R_]at c;rcases c with rfl|c;·omega
  ·rw[zb1 after i e d (by omega)]at c;grind
theorem ff{n:Nat}{a:Array Bool}(hn:a.size=n){i j:Nat}(b:i<n):(a.setIfInBounds i true).getD j false=(if j=i then true else a.getD j false):=by
 by_cases h:j=i;·subst h;simp[hn,b]
 ·simp[h,ab_ (Ne.symm h)]
theorem conflict{x y:SOper}{t:Nat}(h:JJ x y=true):(x.dst=some t->t∉y.rd/\y.dst≠some t)/\(y.dst=some t->t∉x.rd):=by unfold JJ at h;grind
theorem YR{id n k ml:Nat}{ops:Array Oper}{f:List SOper}{after:List (List Nat)}(hm:P.follows .mixedOrders=true)(hn:c.n=n)(Nd:c.th.length<=ml)(hc:Bc P n ops ops.toList f)(Fk:after=A8 ops)(F:Kc after=true)(RT:JN f (iO [] after) k=true)(Hx:k<=f.length) {st:St} {K KP:St->Prop} {Q:Exit->Act->World->Prop} (h:sdraw P ml k f st K KP) (hr:Rel c st a w) (hQ:∀a w,(∃r,K r/\Rel c r a w)->Q .normal a w) (hP:∀ch a w,(A5 ch/\∃r,KP r/\Rel c r a w)->Q (.panic ch) a w):(Code.region id ops true).wp P Q a w:=by
 obtain⟨JT,DB⟩:=DY hc;have hsz:ops.size=f.length:=by simpa using JT
 obtain⟨X,hX,rg⟩:=zcR k f st K KP h Hx;generalize hd:(λj:Nat=>(f[j]?).bind (λs:SOper=>s.dst))=d at hX rg;have hdj:∀(j:Nat) (s:SOper),f[j]? =some s->d j=s.dst:=λj s hs=>by rw[<-hd];simp[hs]
 have SM:after.length=f.length:=by rw[Fk];simp[A8,hsz]
 have CT:∀(i:Nat) (o:Oper),ops[i]? =some o->after[i]? =some ((o.after.toList.filter (Region.binds .any)).map (·.on)):=λi o ho=>by rw[Fk];simp[A8,ho]
 have v:∀(b:Array Bool) (i:Nat),b.size=f.length->(i∈Region.ready .any ops b↔i<f.length/\b.getD i true=false/\∀l:List Nat,after[i]? =some l->∀e∈l,b.getD e false=true):=by
  intro b i g;unfold Region.ready;simp only[N_,v_,m_,ai_,hsz];constructor;·rintro⟨z,A,h3⟩;refine⟨z,A,λl hl e N=>?_⟩;have ho:ops[i]? =some ops[i]:=l_ (by omega);rw[CT i _ ho]at hl;cases hl;rw[ho]at h3;simp only[x_,U_,W_]at h3;simp only[z_,N_]at N;obtain⟨ed,⟨h4,h5⟩,rfl⟩:=N;have:=h3 ed (by simpa using h4);simpa[h5]using this
  ·rintro⟨z,A,h3⟩;refine⟨z,A,?_⟩;have ho:ops[i]? =some ops[i]:=l_ (by omega);rw[ho];simp only[x_,U_,W_];intro ed PA;by_cases L:Region.binds .any ed=true;·have:=h3 _ (CT i _ ho) ed.on (z_.2 ⟨ed,N_.2 ⟨by simpa using PA,L⟩,rfl⟩);simp only[L,aj_,aT_];exact this
   ·simp[L]
 have Y:∀i j,i<j->j<f.length->((iO [] after).getD j []).contains i=true\/(j<k/\∃x y,f[i]? =some x/\f[j]? =some y/\JJ x y=true):=by intro i j GS E;simp only[JN,k_,v_,V_,m_,decide_eq_true_eq]at RT;grind
 have BT:∀(m j:Nat) (b:Array Bool) (r:St) (a:Act) (w:World),j<=f.length->f.length<=j+m->k<=j->b.size=f.length->(∀i,i<f.length->b.getD i false=decide (i<j))->sops P ml (f.drop j) r K KP->Rel c r a w->wpAny P .any ops Q m b a w:=by
  have DS:∀(b:Array Bool) (r:St) (a:Act) (w:World),b.size=f.length->(∀i,i<f.length->b.getD i false=decide (i<f.length))->sops P ml (f.drop f.length) r K KP->Rel c r a w->Region.ready .any ops b=[]/\Q .normal a w:=by intro b r a w g O hs hr;rw[aI_]at hs;simp only[sops]at hs;obtain⟨st1,DP,hs⟩:=hs;refine⟨?_,hQ a w ⟨st1,hs,DP _ _ _ Nd hr⟩⟩;apply ac_.2;grind
  intro m
  induction m with
  |zero=>
   intro j b r a w E hm _ g O hs hr;have DM:j=f.length:=by omega
   subst DM;exact DS b r a w g O hs hr
  |succ m ih=>
   intro j b r a w E hm Vc g O hs hr;rcases C_ j f.length with I|I;case inr=>
    have DM:j=f.length:=by omega
    subst DM;obtain⟨f1,f2⟩:=DS b r a w g O hs hr;exact⟨λ_=>f2,λi C=>by rw[f1]at C;cases C⟩
   have Fr:∀i,i<f.length->b.getD i true=decide (i<j):=λi C=>by
    have h4:i<b.size:=by omega
    have:=O i C;simp[h4]at this⊢;exact this
   have Pa:∀i,i∈Region.ready .any ops b↔i=j:=by
    intro i;rw[v b i g];constructor
    ·rintro⟨z,A,h3⟩;rw[Fr i z]at A;simp only[decide_eq_false_iff_not,aB_]at A;rcases C_ j i with h4|h4
     ·rcases Y j i h4 z with h5|⟨h5,_⟩
      ·have ph:=wG F (S:=λx=>x<j\/x=i) (λx l hl U e N=>by
        have u:=F;simp only[Kc,k_,v_,decide_eq_true_eq]at u;have DQ:=(a_.1 hl).1;have Fm:=u x DQ e (by simpa[I_,hl]using N);rcases U with U|rfl;·exact .inl (by omega)
        ·have:=h3 l hl e N;rw[O e (by omega)]at this;exact .inl (by simpa using this)) i i j (w_ _) (.inr rfl) h5 (by omega)
       omega
      ·omega
     ·omega
    ·rintro rfl;refine⟨I,by rw[Fr _ I];simp,λl hl e N=>?_⟩;have u:=F;simp only[Kc,k_,v_,decide_eq_true_eq]at u;have DQ:=(a_.1 hl).1;have Fm:=u i DQ e (by simpa[I_,hl]using N);rw[O e (by omega)];simpa using Fm
   refine⟨λh0=>?_,λi C=>?_⟩;·have:=(Pa j).2 rfl;rw[h0]at this;cases this
   ·have:=(Pa i).1 C;subst this;have ho:ops[i]? =some ops[i]:=l_ (by omega);have R:=d_ I;have DH:=DB i _ _ (by rw[y_];exact ho) R;rw[ah_ I]at hs;simp only[sops]at hs;obtain⟨st1,DP,hs⟩:=hs;obtain⟨θ,D,hI⟩:=DP _ _ _ Nd hr;have:=xv hI hn DH hs (λa' w'=>wpAny P .any ops Q m (b.setIfInBounds i true) a' w') Q (λa' w' ⟨DE,z,A⟩=>
     ih (i+1) _ DE a' w' (by omega) (by omega) (by omega) (by simpa using g) (λx U=>by
      rw[ff g (by omega),O x U];by_cases J:x=i;·subst J;simp
      ·rw[if_neg J];apply decide_eq_decide.2;omega) z A) (λch w' hp=>hP ch a w' hp)
    unfold wpOp;rw[ho];simp only;split;·rename_i hw;rw[if_pos hw]at this;exact .inl this
    ·rename_i hw;rw[if_neg hw]at this;exact this
 have Bx:∀(m:Nat) (b:Array Bool) (a:Act) (w:World),b.size=f.length->(∀i,i<f.length->b.getD i false=true->i<k)->(∀(i:Nat) (l:List Nat),after[i]? =some l->b.getD i false=true->∀e∈l,b.getD e false=true)->((P_ f.length).filter λi=> !b.getD i false).length<=m->Rel c (OY d X st (λj=>b.getD j false) k) a w->wpAny P .any ops Q m b a w:=by
  have full:∀(m:Nat) (b:Array Bool) (a:Act) (w:World),b.size=f.length->(∀i,i<f.length->b.getD i false=true->i<k)->(∀i,i<k->b.getD i false=true)->f.length<=k+m->Rel c (OY d X st (λj=>b.getD j false) k) a w->wpAny P .any ops Q m b a w:=by
   intro m b a w g B M hm hr;refine BT m k b (OY d X st (λ_=>true) k) a w Hx hm (w_ _) g (λi C=>?_) rg (Rel.congr ?_ (λt=>?_) hr)
   ·rcases C_ i k with z|z;·rw[M i z];simp[z]
    ·cases L:b.getD i false with|true=>have:=B i C L;omega|false=>simp;omega
   ·rw[Hy,Hy]
   ·rw[ug,ug,pC (p:=λj=>(λ_=>true) j&&d j==some t) (q:=λj=>b.getD j false&&d j==some t) (k:=k) λj E=>by simp only[M j E]]
  have CD:∀(b:Array Bool),(∀i,i<f.length->b.getD i false=true->i<k)->f.length<=k+((P_ f.length).filter λi=> !b.getD i false).length:=by
   intro b B;have:∀n,n<=f.length->n<=k+((P_ n).filter λi=> !b.getD i false).length:=by intro n;induction n with|zero=>intro _;omega|succ n ih=>intro hn;have:=ih (by omega);rw[List.range_succ,List.filter_append,X_];cases L:b.getD n false with|true=>have:=B n (by omega) L;omega|false=>simp only[am_,L,av_,if_true,List.filter_nil,au_];omega
   exact this _ (w_ _)
  intro m
  induction m with
  |zero=>intro b a w g B ph DA hr;refine full 0 b a w g B (λi C=>?_) (by have:=CD b B;omega) hr;have h0:=s_ (Nat.le_zero.1 DA);have:=List.filter_eq_nil_iff.1 h0 i (by simp;omega);simpa using this|succ m ih=>
   intro b a w g B ph DA hr;by_cases M:∀i,i<k->b.getD i false=true;·exact full (m+1) b a w g B M (by have:=CD b B;omega) hr
   ·obtain⟨T,Th,Pc,MT⟩:∃T,T<k/\b.getD T false=false/\∀j,j<T->b.getD j false=true:=by
     have:∀n,(∃i,i<n/\b.getD i false=false)->∃T,T<n/\b.getD T false=false/\∀j,j<T->b.getD j false=true:=by
      intro n;induction n with
      |zero=>rintro⟨i,C,_⟩;omega
      |succ n So=>
       rintro⟨i,C,hu⟩;by_cases z:∃i,i<n/\b.getD i false=false;·obtain⟨T,A,h3⟩:=So z;exact⟨T,by omega,h3⟩
       ·refine⟨n,by omega,?_,λj E=>?_⟩
        ·have:i=n:=by
          rcases C_ i n with A|A;·exact absurd ⟨i,A,hu⟩ z
          ·omega
         subst this;exact hu
        ·cases L:b.getD j false with|true=>rfl|false=>exact absurd ⟨j,E,L⟩ z
     refine this k ?_;apply t_;intro RM;refine M λi C=>?_;cases L:b.getD i false with|true=>rfl|false=>exact absurd ⟨i,C,L⟩ RM
    have u:=F;simp only[Kc,k_,v_,decide_eq_true_eq]at u;have Pb:∀i,i<f.length->b.getD i true=b.getD i false:=λi C=>by
     have h4:i<b.size:=by omega
     simp[h4]
    refine⟨λh0=>?_,λi C=>?_⟩;·have:T∈Region.ready .any ops b:=(v b T g).2 ⟨by omega,by rw[Pb T (by omega)];exact Pc,λl hl e N=>MT e (u T (by omega) e (by simpa[I_,hl]using N))⟩;rw[h0]at this;cases this
    ·obtain⟨r1,r2,r3⟩:=(v b i g).1 C;rw[Pb i r1]at r2;have Dg:∀j,((iO [] after).getD i []).contains j=true->j=i\/b.getD j false=true:=λj E=>by
      have:=wG F (S:=λx=>x=i\/b.getD x false=true) (λx l hl U e N=>by
       rcases U with rfl|U;·exact .inr (r3 l hl e N)
       ·exact .inr (ph x l hl U e N)) i i j (w_ _) (.inl rfl) E (by omega)
      exact this
     have PB:i<k:=by
      apply t_;intro Wf;rcases Y T i (by omega) r1 with z|⟨z,_⟩
      ·rcases Dg T z with A|A;·omega
       ·rw[Pc]at A;cases A
      ·omega
     have ho:ops[i]? =some ops[i]:=l_ (by omega);have R:f[i]? =some f[i]:=d_ r1;have DH:=DB i _ _ (by rw[y_];exact ho) R;have ur:∀j,i<j->j<k->b.getD j false=true->∃y,f[j]? =some y/\JJ f[i] y=true:=λj GS wr hl=>by
      rcases Y i j GS (by omega)with z|⟨_,x,y,U,hy,A⟩;·have:=wG F (S:=λx=>b.getD x false=true) (λx l hl U e N=>ph x l hl U e N) j j i (w_ _) hl z (by omega);rw[r2]at this;cases this
      ·rw[R]at U;cases U;exact⟨y,hy,A⟩
     have el:∀j,j<i->b.getD j false=false->∃y,f[j]? =some y/\JJ y f[i]=true:=λj qr hl=>by
      rcases Y j i qr r1 with z|⟨_,x,y,U,hy,A⟩
      ·rcases Dg j z with h3|h3;·omega
       ·rw[hl]at h3;cases h3
      ·rw[R]at hy;cases hy;exact⟨x,U,A⟩
     have At:∀t∈f[i].rd,look (OY d X st (λj=>b.getD j false) k).fr t=look (OY d X st (λ_=>true) i).fr t:=by
      intro t ht;rw[ug,ug];have e1:dZ (λj=>b.getD j false&&d j==some t) k=dZ (λj=>b.getD j false&&d j==some t) i:=BR (by omega) λj E wr=>by
       rcases Nat.eq_or_lt_of_le E with rfl|E;·rw[r2];rfl
       ·cases L:b.getD j false with|false=>rfl|true=>obtain⟨y,hy,gc⟩:=ur j E wr L;rw[hdj j y hy];cases H:(y.dst==some t)with|false=>rfl|true=>exact absurd ht ((conflict gc).2 (by simpa using H))
      have e2:dZ (λj=>b.getD j false&&d j==some t) i=dZ (λj=>(λ_=>true) j&&d j==some t) i:=pC λj E=>by cases L:b.getD j false with|true=>rfl|false=>obtain⟨y,hy,gc⟩:=el j E L;rw[hdj j y hy];cases H:(y.dst==some t)with|false=>rfl|true=>exact absurd ht ((conflict gc).1 (by simpa using H)).1
      rw[e1,e2]
     have hy:je P f[i] (OY d X st (λj=>b.getD j false) k) (X i):=TT (by rw[Hy,Hy]) At (hX i _ PB R);obtain⟨θ,D,hI⟩:=hr;have:=xv (hp:=λ_ _ h=>h.2.elim λ_ h=>h.1.elim) hI hn DH (vo (KP:=λ_=>False) (K:=λr=>r=(OY d X st (λj=>b.getD j false) k).putO f[i].dst (X i)) hy rfl) (λa' w'=>wpAny P .any ops Q m (b.setIfInBounds i true) a' w') Q (λa' w' ⟨DE,z,A⟩=>by
      subst z;refine ih _ a' w' (by simpa using g) (λj E hl=>?_) (λj l hl I e N=>?_) ?_ (Rel.congr ?_ (λt=>?_) A)
      ·rw[ff g r1]at hl;split at hl;·omega
       ·exact B j E hl
      ·rw[ff g r1]at I⊢;split at I
       ·rename_i qr;subst qr;split;·rfl
        ·exact r3 l hl e N
       ·split;·rfl
        ·exact ph j l hl I e N
      ·have Rg:∀(l:List Nat),i∈l->(l.filter λj=> !(b.setIfInBounds i true).getD j false).length<(l.filter λj=> !b.getD j false).length:=by
        intro l;have PJ:∀(l:List Nat),(l.filter λj=> !(b.setIfInBounds i true).getD j false).length<=(l.filter λj=> !b.getD j false).length:=by
         intro l;induction l with
         |nil=>exact w_ _|cons x l Bk=>
          simp only[am_,ff g r1]at Bk⊢;by_cases J:x=i;·subst J;simp only[if_true,aj_,q_,if_false,r2,av_,A_];omega
          ·simp only[J,if_false];split<;>(try simp only[A_])<;>omega
        induction l with
        |nil=>intro h;cases h|cons x l Bk=>
         intro KK;have In:=PJ l;simp only[am_,ff g r1]at Bk In⊢;by_cases J:x=i;·subst J;simp only[if_true,aj_,q_,if_false,r2,av_,A_];omega
         ·have RK:i∈l:=by
           rcases R_.1 KK with h|h;·exact absurd h.symm J
           ·exact h
          have:=Bk RK;simp only[J,if_false];split<;>(try simp only[A_])<;>omega
       have:=Rg (P_ f.length) (by simpa using r1);omega
      ·cases SW:f[i].dst<;>simp[St.putO,St.put,Hy]
      ·rw[iq,ug,ug];by_cases H:f[i].dst=some t
       ·rw[if_pos H];have e1:dZ (λj=>(b.setIfInBounds i true).getD j false&&d j==some t) k=dZ (λj=>(b.setIfInBounds i true).getD j false&&d j==some t) (i+1):=BR (by omega) λj E wr=>by rw[ff g r1,if_neg (by omega)];cases L:b.getD j false with|false=>rfl|true=>obtain⟨y,RW,gc⟩:=ur j (by omega) wr L;rw[hdj j y RW];have:=((conflict gc).1 H).2;simpa using this
        rw[e1,dZ,ff g r1,if_pos rfl,hdj i _ R,H];simp
       ·rw[if_neg H];rw[pC (p:=λj=>(b.setIfInBounds i true).getD j false&&d j==some t) (q:=λj=>b.getD j false&&d j==some t) λj E=>by
         rw[ff g r1];split;·rename_i qr;subst qr;rw[hdj j _ R,r2];simpa using H
         ·rfl])
     unfold wpOp;rw[ho];simp only;split;·rename_i hw;rw[if_pos hw]at this;exact .inl this
     ·rename_i hw;rw[if_neg hw]at this;exact this
 refine wp_region_any hm ?_;have h0:=Bx ops.size (u_ ops.size false) a {w with drawn:=w.drawn+1} (by simp[hsz]) (λi C hl=>by simp[hsz,C]at hl) (λi l hl A=>by
  have C:i<ops.size:=by have:=(a_.1 hl).1;omega
  simp[C]at A) (by have:=List.length_filter_le (λi=> !(u_ ops.size false).getD i false) (P_ f.length);simpa[hsz]using this) ?_
 ·exact h0
 ·have:∀j,OY d X st (λj=>(u_ ops.size false).getD j false) j=st:=by
   intro j;induction j with
   |zero=>rfl|succ j ih=>
    rw[OY,ih];have:(u_ ops.size false).getD j false=false:=by by_cases E:j<ops.size<;>simp[E]
    rw[this];rfl
  rw[this];obtain⟨θ,D,hI⟩:=hr;exact⟨θ,D,hI.drew⟩
end
theorem Hg(v:Value):(bJ v).ids=[]:=by unfold bJ;split<;>rfl
theorem J7(v:Value):(jF v).ids=[]:=by
 unfold jF;split;·simp only[AV.ids,List.flatMap_map,List.flatMap_eq_nil_iff];intro x _;exact Hg x
 ·exact Hg _
structure Foot(rd:List Nat)(a b:St):Prop where
 fr:∀k∈rd,∀y,look b.fr k=some y->look a.fr k=some y
 hp:∀k∈rd,∀y,look b.fr k=some y->∀i∈y.ids,∀ob,b.hp[i]? =some ob->a.hp[i]? =some ob
def UW(y:AV)(h h':List AObj):Prop:=∀i∈y.ids,∀ob,h[i]? =some ob->h'[i]? =some ob
section
variable {P:Program} {rd:List Nat} {a b:St}
theorem Foot.get(h:Foot rd a b){x:SX}(H:∀t∈x.rd,t∈rd){y:AV}(z:b.get x=some y):a.get x=some y/\UW y b.hp a.hp:=by cases x with|tm k=>exact⟨h.fr k (H k (by simp[SX.rd])) y z,h.hp k (H k (by simp[SX.rd])) y z⟩|c v=>simp only[St.get,g_]at z⊢;subst z;exact⟨rfl,λi E=>by rw[J7]at E;cases E⟩|g n=>simp only[St.get,g_]at z⊢;subst z;exact⟨rfl,λi E=>by cases E⟩|f n=>simp only[St.get,g_]at z⊢;subst z;exact⟨rfl,λi E=>by cases E⟩
theorem Foot.bind(h:Foot rd a b){x:SX}(R:∀t∈x.rd,t∈rd){K z:AV->Prop}(hs:aU (b.get x) K)(N:∀y,UW y b.hp a.hp->K y->z y):aU (a.get x) z:=by obtain⟨y,E,H⟩:=hs;obtain⟨I,J⟩:=h.get R E;exact⟨y,I,N y J H⟩
theorem Foot.bnd(h:Foot rd a b){x:Option SX}(I:∀t∈(x.map SX.rd).getD [],t∈rd){d:Nat}{K z:Nat->Prop}(hs:bnd b x d K)(E:∀n,K n->z n):bnd a x d z:=by cases x with|none=>exact E _ hs|some x=>exact h.bind (by simpa using I) hs λy _ J=>bz J λv H=>bU H λ_ n hn=>⟨hn.1,E _ hn.2⟩
theorem xg{α β:Type}{f g:α->Option β}:∀{l:List α} {m:List β},(∀x∈l,∀y,f x=some y->g x=some y)->l.mapM f=some m->l.mapM g=some m
 |[],m,_,a=>a
 |x::l,m,h,a=>by simp only[B_,H_,Q_,b_,g_]at a⊢;obtain⟨z,b,e,c,rfl⟩:=a;exact⟨z,h x (by simp) _ b,e,xg (λy d=>h y (by simp[d])) c,rfl⟩
theorem Foot.bindM(h:Foot rd a b){β:Type}{l:List SX}(hl:∀x∈l,∀t∈x.rd,t∈rd){g E:AV->Option β}(hg:∀y z,UW y b.hp a.hp->g y=some z->E y=some z){K:List β->Prop}(hs:aU (l.mapM λx=>(b.get x).bind g) K):aU (l.mapM λx=>(a.get x).bind E) K:=by obtain⟨ys,R,U⟩:=hs;refine⟨ys,xg (λx Y y hy=>?_) R,U⟩;obtain⟨u,H,I⟩:=b_.1 hy;obtain⟨J,N⟩:=h.get (hl x Y) H;rw[J];exact hg u y N I
theorem wk{h h':List AObj}{sz:Nat}{y:AV}{K b:List PV->Prop}(c:UW y h h')(hs:vl h sz y K)(a:∀L,K L->b L):vl h' sz y b:=by
 rcases hs with⟨rfl,hs⟩|⟨L,rfl,hs⟩|⟨id,e,L,rfl,d,hs⟩|⟨L,rfl,hs⟩;·exact .inl ⟨rfl,a _ hs⟩
 ·exact .inr (.inl ⟨L,rfl,a _ hs⟩)
 ·exact .inr (.inr (.inl ⟨id,e,L,rfl,c id (by simp[AV.ids,BV.ids]) _ d,a _ hs⟩))
 ·exact .inr (.inr (.inr ⟨L,rfl,a _ hs⟩))
theorem zd8{h h':List AObj}{y:AV}{K c:Nat->Prop}(d:UW y h h')(hs:isLen h y K)(a:∀L,K L->c L):isLen h' y c:=by
 rcases hs with⟨rfl,hs⟩|⟨sz,L,rfl,hs⟩|⟨id,e,sz,L,rfl,b,hs⟩|⟨sz,L,rfl,hs⟩|⟨id,e,sz,k,L,hole,rfl,b,hs⟩;·exact .inl ⟨rfl,a _ hs⟩
 ·exact .inr (.inl ⟨sz,L,rfl,a _ hs⟩)
 ·exact .inr (.inr (.inl ⟨id,e,sz,L,rfl,d id (by simp[AV.ids,BV.ids]) _ b,a _ hs⟩))
 ·exact .inr (.inr (.inr (.inl ⟨sz,L,rfl,a _ hs⟩)))
 ·exact .inr (.inr (.inr (.inr ⟨id,e,sz,k,L,hole,rfl,d id (by simp[AV.ids,BV.ids]) _ b,a _ hs⟩)))
theorem V5{h h':List AObj}{k e:TypeId}{y:AV}{K a:Nat->List (PV×PV)->Prop}(b:UW y h h')(hs:isMap h k e y K)(c:∀i L,K i L->a i L):isMap h' k e y a:=by obtain⟨id,kvs,rfl,d,hs⟩:=hs;exact⟨id,kvs,rfl,b id (by simp[AV.ids,BV.ids]) _ d,c _ _ hs⟩
theorem zeg{h h':List AObj}{sz:Nat}{ag:Bool}{y:AV}{K c:AV->Prop}(d:UW y h h')(hs:Le h sz ag y K)(e:∀L,K L->c L):Le h' sz ag y c:=by
 have a:=NT hs e;revert a;unfold Le;split;·exact λh=>h
 ·rename_i id off;rintro⟨o,b,a⟩;exact⟨o,d id (by simp[AV.ids,BV.ids]) _ b,a⟩
 ·rename_i id i off;rintro⟨o,b,a⟩;exact⟨o,d id (by simp[AV.ids,BV.ids]) _ b,a⟩
 ·exact λh=>h
theorem zaR{h h':List AObj}{bor:Bool}{y:BV}{p:PV}(b:∀i∈y.ids,∀ob,h[i]? =some ob->h'[i]? =some ob)(hs:A9 h bor y=some p):A9 h' bor y=some p:=by
 cases y with
 |sl id=>
  simp only[A9]at hs⊢;cases bor;·exact hs
  ·simp only[if_true,TL]at hs⊢;cases a:h[id]? with|none=>rw[a]at hs;cases hs|some ob=>rw[a]at hs;rw[b id (by simp[BV.ids]) _ a];exact hs
 |_=>exact hs
theorem Vd{h h':List AObj}{bor:Bool}{y:AV}{p:PV}(d:UW y h h')(hs:oM h bor y=some p):oM h' bor y=some p:=by
 cases y with
 |b x=>exact zaR (λi a ob c=>d i a ob c) hs|agg xs=>simp only[oM,c_]at hs⊢;obtain⟨j,e,rfl⟩:=hs;refine⟨j,xg (λx f y g=>zaR (λi a ob c=>d i (e_.2 ⟨x,f,a⟩) ob c) g) e,rfl⟩
 |tup xs=>exact hs
theorem I6{s:SOp}{K:AV->Prop}(h:Foot s.rd a b)(hs:ou P b s K):ou P a s K:=by
 cases s<;>simp only[SOp.rd]at h<;>simp only[ou]at hs⊢;case mv=>exact h.bind (λ_ h=>h) hs λ_ _ h=>h
 case pick x y z=>exact h.bind (λt c=>by simp[c]) hs λ_ _ hs=>bz hs λ_ hs=>ub hs λ_ hs=>⟨λe=>h.bind (λt c=>by simp[c]) (hs.1 e) λ_ _ h=>h,λe=>h.bind (λt c=>by simp[c]) (hs.2 e) λ_ _ h=>h⟩
 case bin=>exact h.bind (λt c=>by simp[c]) hs λ_ _ hs=>h.bind (λt c=>by simp[c]) hs λ_ _ h=>h
 case eqB=>exact h.bind (λt c=>by simp[c]) hs λ_ _ hs=>h.bind (λt c=>by simp[c]) hs λ_ _ h=>h
 case un=>exact h.bind (λ_ h=>h) hs λ_ _ h=>h
 case len str x=>
  refine h.bind (λ_ h=>h) hs λ_ d hs=>?_;cases str;·exact zd8 d hs λ_ h=>h
  ·exact hs
 case lenM=>exact h.bind (λ_ h=>h) hs λ_ d hs=>V5 d hs λ_ _ h=>h
 case idxS=>exact h.bind (λt c=>by simp[c]) hs λ_ _ hs=>h.bind (λt c=>by simp[c]) hs λ_ _ h=>h
 case idxV=>exact h.bind (λt c=>by simp[c]) hs λ_ _ hs=>h.bind (λt c=>by simp[c]) hs λ_ _ h=>h
 case idxA=>
  exact h.bind (λt c=>by simp[c]) hs λx d hs=>h.bind (λt c=>by simp[c]) hs λ_ _ hs=>bz hs λ_ hs=>bU hs λ_ _ hs=>by
   rcases hs with hs|⟨id,rfl,ob,C,hs⟩;·exact .inl hs
   ·exact .inr ⟨id,rfl,ob,d id (by simp[AV.ids,BV.ids]) _ C,hs⟩
 case idxP=>exact h.bind (λt c=>by simp[c]) hs λ_ _ hs=>h.bind (λt c=>by simp[c]) hs λ_ _ h=>h
 case fldA=>exact h.bind (λ_ h=>h) hs λ_ _ h=>h
 case fld=>exact h.bind (λ_ h=>h) hs λ_ _ h=>h
 case load=>exact h.bind (λ_ h=>h) hs λ_ d hs=>zeg d hs λ_ h=>h
 case cvtI=>exact h.bind (λ_ h=>h) hs λ_ _ h=>h
 case slc sz x lo F mx=>refine h.bind (λt c=>by simp[c]) hs λ_ d hs=>hs.imp (λhs=>aw hs λq ⟨L,l,w⟩=>⟨L,l,h.bnd (λt c=>by simp[c]) w λ_ A=>h.bnd (λt c=>by simp[c]) A λ_ B=>h.bnd (λt c=>by simp[c]) B λ_ h=>h⟩) ?_;rintro⟨id,rfl,ob,C,e,k,L,g,l,w⟩;exact⟨id,rfl,ob,d id (by simp[AV.ids,BV.ids]) _ C,e,k,L,g,l,h.bnd (λt c=>by simp[c]) w λ_ A=>h.bnd (λt c=>by simp[c]) A λ_ B=>h.bnd (λt c=>by simp[c]) B λ_ h=>h⟩
 case slcS x lo F=>exact h.bind (λt c=>by simp[c]) hs λ_ _ hs=>bz hs λ_ hs=>xe hs λ_ hs=>h.bnd (λt c=>by simp[c]) hs λ_ hs=>h.bnd (λt c=>by simp[c]) hs λ_ h=>h
 case ext=>exact h.bind (λ_ h=>h) hs λ_ _ h=>h
 case nilc=>exact h.bind (λ_ h=>h) hs λ_ _ h=>h
 case build z v=>obtain⟨ys,n,l⟩:=hs;refine⟨ys,xg (λq j y r=>?_) n,l⟩;obtain⟨u,D,E⟩:=c_.1 r;rw[(h.get (λt c=>e_.2 ⟨q,j,c⟩) D).1,<-E];rfl
 case call=>exact h.bindM (λq j t c=>e_.2 ⟨q,j,c⟩) (λy z d p=>Vd d p) hs
 case callp=>exact h.bind (λt c=>by simp[c]) hs λ_ _ ⟨f,cs,n,l,hs⟩=>⟨f,cs,n,l,h.bindM (λq j t c=>o_.2 (.inr (e_.2 ⟨q,j,c⟩))) (λy z d p=>Vd d p) hs⟩
 case boxD=>exact h.bind (λ_ h=>h) hs λ_ _ h=>h
 case b2s=>exact h.bind (λ_ h=>h) hs λ_ d hs=>wk d hs λ_ h=>h
 case bslice own e sz len v=>
  cases own;·exact h.bindM (λq j t c=>e_.2 ⟨q,j,c⟩) (λy z _ p=>p) hs
  ·exact hs
 case bsliceN e sz len v=>exact h.bindM (λq j t c=>e_.2 ⟨q,j,c⟩) (λy z _ p=>p) hs
 case mkfn f v=>obtain⟨ys,n,l⟩:=hs;exact⟨ys,xg (λq j y r=>(h.get (λt c=>e_.2 ⟨q,j,c⟩) r).1) n,l⟩
 case lookup=>exact h.bind (λt c=>by simp[c]) hs λ_ d hs=>h.bind (λt c=>by simp[c]) hs λ_ _ hs=>V5 d hs λ_ _ h=>h
 case eqT=>exact h.bind (λt c=>by simp[c]) hs λ_ _ hs=>h.bind (λt c=>by simp[c]) hs λ_ _ h=>h
 case mnmx mx k x v=>refine h.bind (λt c=>by simp[c]) hs λ_ _ hs=>bz hs λ_ hs=>bU hs λ_ _ hs=>?_;obtain⟨ys,n,l⟩:=hs;exact⟨ys,xg (λq j y r=>(h.get (λt c=>o_.2 (.inr (e_.2 ⟨q,j,c⟩))) r).1) n,l⟩
 case iface=>exact h.bind (λ_ h=>h) hs λ_ _ h=>h
 case appD=>exact h.bind (λt c=>by simp[c]) hs λ_ _ hs=>h.bind (λt c=>by simp[c]) hs λ_ d hs=>wk d hs λ_ h=>h
theorem xt{st:St}{s:SOp}{R j:AObj->(Nat->BV)->Prop}(hs:Ou st s R)(a:∀o m,R o m->j o m):Ou st s j:=by
 cases s<;>simp only[Ou]at hs⊢;case alloc=>exact a _ _ hs
 case box=>exact aw hs λ_ h=>⟨h.1,a _ _ h.2⟩
 case bslice own e sz len n=>
  cases own;·exact hs
  ·exact aw hs λ_ ⟨b,c,d,f,g⟩=>⟨b,c,d,f,a _ _ g⟩
 case mslice=>exact aw hs λ_ hs=>aw hs λ_ hs=>bz hs λ_ hs=>bz hs λ_ hs=>bU hs λ_ _ hs=>bU hs λ_ _ ⟨b,c,d,f,g,k,l⟩=>⟨b,c,d,f,g,k,aw l λ_ h=>⟨h.1,a _ _ h.2⟩⟩
 case append=>exact aw hs λ_ hs=>aw hs λ_ hs=>iR hs λ_ ⟨b,c,d,f⟩=>⟨b,c,d,a _ _ f⟩
 case mkmap=>exact a _ _ hs
theorem WV{s:SOp}{R:AObj->(Nat->BV)->Prop}(h:Foot s.rd a b)(hs:Ou b s R):Ou a s R:=by
 cases s<;>simp only[SOp.rd]at h<;>simp only[Ou]at hs⊢;case alloc=>exact hs
 case box=>exact h.bind (λ_ h=>h) hs λ_ _ h=>h
 case bslice own e sz len j=>
  cases own;·exact hs
  ·exact h.bindM (λq f t c=>e_.2 ⟨q,f,c⟩) (λy z _ g=>g) hs
 case mslice=>exact h.bind (λt c=>by simp[c]) hs λ_ _ hs=>h.bind (λt c=>by simp[c]) hs λ_ _ h=>h
 case append=>exact h.bind (λt c=>by simp[c]) hs λ_ _ hs=>h.bind (λt c=>by simp[c]) hs λ_ d hs=>wk d hs λ_ h=>h
 case mkmap=>exact hs
theorem Xg{o:SOper}{x:AV}(h:Foot o.rd a b)(hs:je P o b x):je P o a x:=by
 have hr:Foot o.op.rd a b:=⟨λk c=>h.fr k (by simp[SOper.rd,c]),λk c=>h.hp k (by simp[SOper.rd,c])⟩;unfold je at hs⊢;split at hs;·rename_i hg;exact I6 hr hs
 ·rename_i t want hg;obtain⟨g,d,v,rfl,f,j⟩:=hs;exact⟨_,h.fr t (by simp[SOper.rd,hg]) _ d,v,rfl,λe=>I6 hr (f e),j⟩
theorem Xe{hp:List AObj}{sz:Nat}{a v:AV}{K y:List AObj->Prop}(h:Kp hp sz a v K)(u:∀x,K x->y x):Kp hp sz a v y:=by
 unfold Kp at h⊢;split at h;·exact aw h λ_ ⟨t,cs,j,l,n,p,c⟩=>⟨t,cs,j,l,n,p,u _ c⟩
 ·refine aw h λ_ h=>h.imp (fun⟨e,s,xs,j,l,n⟩=>⟨e,s,xs,j,l,aw n λ_ ⟨p,c,r⟩=>⟨p,c,?_⟩⟩) fun⟨e,s,k,xs,A,j,l,n,p⟩=>⟨e,s,k,xs,A,j,l,n,p.imp (fun⟨c,r,d⟩=>⟨c,r,aw d λ_ ⟨f,g,w⟩=>⟨f,g,u _ w⟩⟩) fun⟨b,z,c,r,d,f,g⟩=>⟨b,z,c,r,d,f,u _ g⟩⟩;rcases r with⟨d,f,g⟩|⟨d,f,g⟩;·exact .inl ⟨d,f,u _ g⟩
  ·exact .inr ⟨d,f,u _ g⟩
 ·exact h
theorem M7{st:St}{d:Option Nat}{bor:Bool}{B:List Nat}{f:FuncId}{ars:List AV}{os:List AObj}{K e KP b:St->Prop}(h:sexec.callK P st d bor B f ars os K KP)(n:∀x,K x->e x)(c:∀x,KP x->b x):sexec.callK P st d bor B f ars os e b:=by
 obtain⟨g,j,k,l⟩:=h;refine⟨g,j,k,l.mono λo a=>?_⟩
 match o,a with|some (_,_),a=>exact⟨a.1,n _ a.2⟩|none,a=>exact c _ a
theorem sY{d:Option Nat}{op:SOp}{st:St}{K v KP u:St->Prop}(h:sexec P d op st K KP)(j:∀x,K x->v x)(s:∀x,KP x->u x):sexec P d op st v u:=by
 have r:(ou P st op λa=>K (st.putO d a))->ou P st op λa=>v (st.putO d a):=λh=>I7 h λ_ h=>j _ h;cases op<;>simp only[sexec]at h⊢<;>try exact r h
 case store=>exact aw h λ_ h=>aw h λ_ h=>⟨h.1,Xe h.2 λ_ h=>j _ h⟩
 case alloc=>exact j _ h
 case box=>exact aw h λ_ h=>⟨h.1,j _ h.2⟩
 case bslice own e sz len y=>
  cases own;·exact r h
  ·exact aw h λ_ ⟨k,l,b,c,g⟩=>⟨k,l,b,c,j _ g⟩
 case mslice=>exact aw h λ_ h=>aw h λ_ h=>bz h λ_ h=>bz h λ_ h=>bU h λ_ _ h=>bU h λ_ _ ⟨k,l,b,c,g,n,p⟩=>⟨k,l,b,c,g,n,aw p λ_ h=>⟨h.1,j _ h.2⟩⟩
 case append=>
  refine aw h λ_ h=>aw h λ_ h=>iR h λ_ ⟨k,l⟩=>⟨k,?_⟩;rcases l with⟨id,b,c⟩|⟨b,c,g⟩;·exact .inl ⟨id,b,aw c λ_ ⟨xs,g,n,p⟩=>⟨xs,g,n,j _ p⟩⟩
  ·exact .inr ⟨b,c,j _ g⟩
 case msliceT=>exact aw h λ_ h=>aw h λ_ h=>bz h λ_ h=>bz h λ_ h=>bU h λ_ _ h=>bU h λ_ _ ⟨k,l,b,c,g,n,p⟩=>⟨k,l,b,c,g,n,aw p λ_ h=>⟨h.1,h.2.1,j _ h.2.2⟩⟩
 case appT=>
  refine aw h λ_ h=>aw h λ_ h=>iR h λ_ ⟨k,l⟩=>⟨k,?_⟩;rcases l with⟨id,b,c⟩|⟨b,c,g⟩;·exact .inl ⟨id,b,aw c λ_ ⟨xs,g,n,p⟩=>⟨xs,g,n,j _ p⟩⟩
  ·exact .inr ⟨b,c,j _ g⟩
 case callA=>exact aw h λ_ h=>aw h λ_ h=>M7 h j s
 case callv=>exact aw h λ_ ⟨f,caps,k,l,b⟩=>⟨f,caps,k,l,aw b λ_ h=>aw h λ_ h=>M7 h j s⟩
 case mkmap=>exact j _ h
 case mapset=>exact aw h λ_ h=>aw h λ_ h=>aw h λ_ h=>Hh h λ_ _ h=>aw h λ_ h=>aw h λ_ ⟨k,l,b,c,g,n⟩=>⟨k,l,b,c,g,aw n λ_ ⟨p,w⟩=>⟨p,j _ w⟩⟩
 case copy=>exact aw h λ_ h=>aw h λ_ h=>iR h λ_ ⟨k,id,l,b,c⟩=>⟨k,id,l,b,aw c λ_ ⟨xs,g,n⟩=>⟨xs,g,j _ n⟩⟩
 case panic=>exact aw h λ_ h=>⟨h.1,s _ h.2⟩
 case atq =>exact xt h λ_ _ h=>⟨h.1,j _ h.2⟩
theorem B4{o:SOper}{st:St}{K d KP a:St->Prop}(h:m5 P o st K KP)(c:∀x,K x->d x)(b:∀x,KP x->a x):m5 P o st d a:=by
 unfold m5 at h⊢;split at h;·exact sY h c b
 ·exact aw h λ_ h=>bz h λ_ h=>⟨λe=>sY (h.1 e) c b,λe=>c _ (h.2 e)⟩
end
theorem BU{α:Type}{f:α->α}:∀{l:List α},(∀x∈l,f x=x)->l.map f=l
 |[],_=>rfl
 |x::l,h=>by rw[E_,h x (by simp),BU λy a=>h y (by grind)]
def BV.kids:BV->List Nat
 | .sl id=>[id]
 | .elt id _ _=>[id]
 |_=>[]
def AV.kids:AV->List Nat
 | .b x=>x.kids
 | .agg xs=>xs.flatMap BV.kids
 | .tup xs=>xs.flatMap BV.kids
def AObj.kids:AObj->List Nat
 | .box _ cs=>cs.flatMap BV.kids
 | .tree _ _ _ _ (some (_,_,b))=>b.kids
 |_=>[]
theorem BV.kids_ids{x:BV}{i:Nat}(h:i∈x.kids):i∈x.ids:=by cases x<;>first|exact h|cases h
theorem AV.kids_ids{x:AV}{i:Nat}(h:i∈x.kids):i∈x.ids:=by
 have z:∀xs:List BV,i∈xs.flatMap BV.kids->i∈xs.flatMap BV.ids:=λxs h=>by obtain⟨y,H,E⟩:=e_.1 h;exact e_.2 ⟨y,H,BV.kids_ids E⟩
 cases x with|b x=>exact BV.kids_ids h|agg xs=>exact z xs h|tup xs=>exact z xs h
theorem BV.kill_off{id:Nat}{x:BV}(h:id∉x.kids):x.kill id=x:=by cases x<;>simp only[BV.kill]<;>simp only[BV.kids,Y_]at h;all_goals grind
theorem AV.kill_off{id:Nat}{x:AV}(h:id∉x.kids):x.kill id=x:=by cases x with|b x=>simp only[AV.kill,BV.kill_off h]|agg xs=>simp only[AV.kill,AV.agg.injEq];exact BU (λy E=>BV.kill_off λz=>h (e_.2 ⟨y,E,z⟩))|tup xs=>simp only[AV.kill,AV.tup.injEq];exact BU (λy E=>BV.kill_off λz=>h (e_.2 ⟨y,E,z⟩))
theorem AObj.kill_off{id:Nat}{o:AObj}(h:id∉o.kids):o.kill id=o:=by
 cases o<;>simp only[AObj.kill];case tree e sz k xs hole=>cases hole with|none=>rfl|some q=>obtain⟨i,j,b⟩:=q;simp only[Tw,BV.kill_off (show id∉b.kids from h)]
 simp only[AObj.box.injEq,true_and];exact BU (λy E=>BV.kill_off λz=>h (e_.2 ⟨y,E,z⟩))
theorem BV.killB_off{B:List Nat}{x:BV}(h:∀i∈x.kids,i∉B):x.killB B=x:=by
 cases x<;>simp only[BV.killB];·rename_i k;have:=h k (by simp[BV.kids]);grind
 ·rename_i k i o;have:=h k (by simp[BV.kids]);grind
theorem AV.killB_off{B:List Nat}{x:AV}(h:∀i∈x.kids,i∉B):x.killB B=x:=by cases x with|b x=>simp only[AV.killB,BV.killB_off h]|agg xs=>simp only[AV.killB,AV.agg.injEq];exact BU (λy E=>BV.killB_off λi z=>h i (e_.2 ⟨y,E,z⟩))|tup xs=>simp only[AV.killB,AV.tup.injEq];exact BU (λy E=>BV.killB_off λi z=>h i (e_.2 ⟨y,E,z⟩))
theorem AObj.killB_off{B:List Nat}{o:AObj}(h:∀i∈o.kids,i∉B):o.killB B=o:=by
 cases o<;>simp only[AObj.killB];case tree e sz k xs hole=>cases hole with|none=>rfl|some q=>obtain⟨i,j,b⟩:=q;simp only[Tw,BV.killB_off (show ∀i∈b.kids,i∉B from h)]
 simp only[AObj.box.injEq,true_and];exact BU (λy E=>BV.killB_off λi z=>h i (e_.2 ⟨y,E,z⟩))
def SOp.lent:SOp->List Nat
 | .callA _ B _ _=>B
 | .callv _ B _ _=>B
 | .atq s op=>s::op.lent
 |_=>[]
def touch(st:St)(o:SOper):List Nat:=(o.rd.flatMap λk=>match look st.fr k with|some a=>a.ids|none=>[])++o.op.lent
def I5(q:Option (Nat×AObj))(hp:List AObj):List AObj:=match q with
 |none=>hp
 |some (s,ob)=>hp.set s ob
structure Over(T:List Nat)(d:Option Nat)(x:AV)(q:Option (Nat×AObj))(st st1:St):Prop where
 hp:st1.hp=I5 q st.hp
 fr:∀t,look st1.fr t=if d=some t then some x else look st.fr t
 sl:∀s ob,q=some (s,ob)->st.hp[s]? =some .free/\s∉T/\∀j∈ob.kids,j∉T
structure Conf(T:List Nat)(d:Option Nat)(st st':St):Prop where
 fr:∀t,d≠some t->(∀y,look st.fr t=some y->∀i∈y.kids,i∉T)->look st'.fr t=look st.fr t
 hp:∀i ob,st.hp[i]? =some ob->i∉T->(∀j∈ob.kids,j∉T)->st'.hp[i]? =some ob
def KO(T:List Nat)(e:Option Nat)(d:Option Nat)(x:AV)(q:Option (Nat×AObj))(st:St)(K:St->Prop):St->Prop:=λb=>Conf T e st b/\∃a,Over T d x q b a/\K a
theorem zfb(q:Option (Nat×AObj))(hp:List AObj):(I5 q hp).length=hp.length:=by unfold I5;split<;>simp
theorem XY(B:List Nat)(hp os:List AObj):(q8 B hp os).length=hp.length+(os.length - B.length):=by unfold q8;simp
theorem M1{B:List Nat}{hp os:List AObj}{i:Nat}{ob:AObj}(b:hp[i]? =some ob)(a:i∉B):(q8 B hp os)[i]? =some (ob.killB B):=by unfold q8;grind
section
variable {P:Program} {T:List Nat} {e d:Option Nat} {x:AV} {q:Option (Nat×AObj)} {st st1:St} {K:St->Prop} {KP:Prop}
theorem Over.get(hO:Over T d x q st st1){i:Nat}(z:i∈T):st1.hp[i]? =st.hp[i]? :=by
 rw[hO.hp];unfold I5;split;·rfl
 ·rename_i s ob;exact i_ fun(h:s=i)=>(hO.sl s ob rfl).2.1 (h▸z)
theorem Over.len(hO:Over T d x q st st1):st1.hp.length=st.hp.length:=by rw[hO.hp,zfb]
theorem Over.app(hO:Over T d x q st st1)(l:List AObj):I5 q (st.hp++l)=st1.hp++l:=by
 rw[hO.hp];unfold I5;split;·rfl
 ·rename_i s ob;have h:=(a_.1 (hO.sl s ob rfl).1).1;rw[List.set_append_left _ _ h]
theorem Over.set(hO:Over T d x q st st1){i:Nat}(z:i∈T)(o:AObj):I5 q (st.hp.set i o)=st1.hp.set i o:=by
 rw[hO.hp];unfold I5;split;·rfl
 ·rename_i s ob;exact ay_ _ _ fun(h:i=s)=>(hO.sl s ob rfl).2.1 (h▸z)
theorem Over.moved(hO:Over T d x q st st1){id:Nat}(z:id∈T)(o:AObj):I5 q ((st.hp.map (AObj.kill id)).set id o)=(st1.hp.map (AObj.kill id)).set id o:=by
 rw[hO.hp];unfold I5;split;·rfl
 ·rename_i s ob;obtain⟨I,E,H⟩:=hO.sl s ob rfl;rw[List.map_set,AObj.kill_off λh=>H id h z];exact ay_ _ _ fun(h:id=s)=>E (h▸z)
theorem Over.back(hO:Over T d x q st st1){B:List Nat}(E:∀i∈B,i∈T)(os:List AObj):I5 q (q8 B st.hp os)=q8 B st1.hp os:=by
 rw[hO.hp];unfold I5;split;·rfl
 ·rename_i s ob;obtain⟨H,I,J⟩:=hO.sl s ob rfl;have hs:=(a_.1 H).1;refine aa_ λi=>?_;by_cases z:i=s;·subst z;rw[p_ (by rw[XY];omega),M1 (p_ hs) (λh=>I (E _ h)),AObj.killB_off λj R N=>J j R (E j N)]
  ·rw[i_ (Ne.symm z)];unfold q8;simp only[ap_];by_cases hl:i<st.hp.length;·rw[j_ (by simpa using hl),j_ (by simpa using hl),aw_,aw_,i_ (Ne.symm z)]
   ·rw[n_ (by simp;omega),n_ (by simp;omega)];simp only[List.length_mapIdx,ap_]
theorem N5(hO:Over T d x q st st1)(hd:∀t,d=some t->e≠some t)(y:AV):Over T d x q (st.putO e y) (st1.putO e y):=by refine⟨by cases e<;>exact hO.hp,λt=>?_,λs ob h=>by cases e<;>exact hO.sl s ob h⟩;rw[iq,iq,hO.fr];grind
theorem zaN(hO:Over T d x q st st1)(hd:∀t,d=some t->e≠some t){h':List AObj}{y:AV}(hc:∀i ob,st.hp[i]? =some ob->i∉T->(∀j∈ob.kids,j∉T)->h'[i]? =some ob) (g:K (St.putO {st1 with hp:=I5 q h'} e y)):KO T e d x q st K (St.putO {st with hp:=h'} e y):=by
 refine⟨⟨λt k _=>?_,λi ob l b a=>?_⟩,_,N5 (st:={st with hp:=h'}) (st1:={st1 with hp:=I5 q h'}) ⟨rfl,hO.fr,λs ob h=>?_⟩ hd y,g⟩;·rw[iq,if_neg k]
 ·have:(St.putO {st with hp:=h'} e y).hp=h':=by cases e<;>rfl
  grind
 ·obtain⟨b,a,c⟩:=hO.sl s ob h;exact⟨hc s _ b a (λj f=>by cases f),a,c⟩
theorem UY(hO:Over T d x q st st1)(hd:∀t,d=some t->e≠some t){id:Nat}{o:AObj}{y:AV}(c:id∈T)(r:∀i∈x.kids,i∉T)(n:K ((st1.moved id o).putO e y)):KO T e d x q st K ((st.moved id o).putO e y):=by
 have k:∀s:St,((s.moved id o).putO e y).hp=(s.hp.map (AObj.kill id)).set id o:=λs=>by cases e<;>rfl
 have hc:∀i ob,st.hp[i]? =some ob->i∉T->(∀j∈ob.kids,j∉T)->((st.hp.map (AObj.kill id)).set id o)[i]? =some ob:=λi ob f b a=>by rw[i_ (λv=>b (by grind)),T_,f];simp only[x_,AObj.kill_off λh=>a id h c]
 refine⟨⟨λt p u=>?_,λi ob f b a=>by rw[k];exact hc i ob f b a⟩,_,N5 (st:=st.moved id o) (st1:=st1.moved id o) ⟨(hO.moved c o).symm,λt=>?_,λs ob h=>?_⟩ hd y,n⟩;·rw[iq,if_neg p];simp only[St.moved,uf];cases hl:look st.fr t with|none=>rfl|some z=>simp only[x_,AV.kill_off λh=>u z hl id h c]
 ·simp only[St.moved,uf,hO.fr];by_cases h:d=some t;·rw[if_pos h,if_pos h];simp only[x_,AV.kill_off λh=>r id h c]
  grind
 ·obtain⟨b,a,g⟩:=hO.sl s ob h;exact⟨hc s _ b a (λj l=>by cases l),a,g⟩
theorem zfK(hO:Over T d x q st st1)(hd:∀t,d=some t->e≠some t){B:List Nat}{os:List AObj}{y:AV}(g:∀i∈B,i∈T)(u:∀i∈x.kids,i∉T)(p:K ((st1.back B os).putO e y)):KO T e d x q st K ((st.back B os).putO e y):=by
 have n:∀s:St,((s.back B os).putO e y).hp=q8 B s.hp os:=λs=>by cases e<;>rfl
 have hc:∀i ob,st.hp[i]? =some ob->i∉T->(∀j∈ob.kids,j∉T)->(q8 B st.hp os)[i]? =some ob:=λi ob b f c=>by rw[M1 b (λa=>f (g i a)),AObj.killB_off λj k a=>c j k (g j a)]
 refine⟨⟨λt r v=>?_,λi ob b f c=>by rw[n];exact hc i ob b f c⟩,_,N5 (st:=st.back B os) (st1:=st1.back B os) ⟨(hO.back g os).symm,λt=>?_,λs ob h=>?_⟩ hd y,p⟩;·rw[iq,if_neg r];simp only[St.back,uf];cases hl:look st.fr t with|none=>rfl|some z=>simp only[x_,AV.killB_off λi b a=>v z hl i b (g i a)]
 ·simp only[St.back,uf,hO.fr];by_cases h:d=some t;·rw[if_pos h,if_pos h];simp only[x_,AV.killB_off λi b a=>u i b (g i a)]
  grind
 ·obtain⟨f,c,l⟩:=hO.sl s ob h;exact⟨hc s _ f c (λj k=>by cases k),c,l⟩
theorem U7{h h':List AObj}{bor:Bool}{z:BV}(a:∀i∈z.ids,h[i]? =h'[i]?):A9 h bor z=A9 h' bor z:=by
 cases z<;>try rfl
 rename_i id;simp only[A9,TL,a id (by simp[BV.ids])]
theorem zb3{h h':List AObj}{bor:Bool}{y:AV}(a:∀i∈y.ids,h[i]? =h'[i]?):oM h bor y=oM h' bor y:=by cases y with|b z=>exact U7 a|agg zs=>show(zs.mapM (A9 h bor)).map PV.agg=_;rw[dz (g:=A9 h' bor) λz d=>U7 λi c=>a i (e_.2 ⟨z,d,c⟩)];rfl|tup zs=>rfl
theorem zb2{h h':List AObj}{bor:Bool}{B:List Nat}{y:AV}(a:∀i∈y.ids,h[i]? =h'[i]?):wE h bor B y=wE h' bor B y:=by
 cases y with
 |b z=>
  cases z<;>try rfl
  rename_i id;simp only[wE,zb3 a]
 |agg zs=>rfl|tup zs=>rfl
theorem wd{op:SOp}{st:St}{b:St->Prop}(hs:ou P st op λa=>K (st.putO e a)):sexec P e op st K b:=by unfold sexec;split<;>first|exact hs|exact hs.elim
theorem zah{op:SOp}(hO:Over T d x q st st1)(Bk:∀t,d=some t->t∉op.rd)(hd:∀t,d=some t->e≠some t)(hT:∀t∈op.rd,∀y,look st.fr t=some y->∀i∈y.ids,i∈T)(Y:∀i∈op.lent,i∈T) (hx:∀i∈x.kids,i∉T) (h:sexec P e op st1 K λ_=>KP):sexec P e op st (KO T e d x q st K) (λ_=>KP):=by
 have hl:∀t∈op.rd,look st1.fr t=look st.fr t:=λt w=>by rw[hO.fr,if_neg λh=>Bk t h w]
 have hF:Foot op.rd st st1:=⟨λk j y hy=>by rw[<-hl k j];exact hy,λk j y hy i C ob H=>by rw[<-hO.get (hT k j y (by rw[<-hl k j];exact hy) i C)];exact H⟩;have hg:∀q:SX,(∀t∈q.rd,t∈op.rd)->st1.get q=st.get q:=λq z=>aX λt w=>hl t (z t w);have hid:∀(q:SX) (y:AV),(∀t∈q.rd,t∈op.rd)->st.get q=some y->∀i∈y.ids,i∈T:=λq y z hy=>by cases q with|tm k=>exact hT k (z k (by simp[SX.rd])) y hy|c v=>simp only[St.get,g_]at hy;subst hy;intro i C;rw[J7]at C;grind|g n=>simp only[St.get,g_]at hy;subst hy;intro i C;cases C|f n=>simp only[St.get,g_]at hy;subst hy;intro i C;cases C
 have qr:ou P st1 op (λa=>K (st1.putO e a))->sexec P e op st (KO T e d x q st K) (λ_=>KP):=λhs=>wd (I7 (I6 hF hs) λa ha=>zaN (h':=st.hp) hO hd (λi ob C _ _=>C) (by rw[<-hO.hp];exact ha));have M:∀(o:AObj) (y:AV),K (St.putO {st1 with hp:=st1.hp++[o]} e y)->KO T e d x q st K (St.putO {st with hp:=st.hp++[o]} e y):=λo y j=>zaN hO hd (λi ob C _ _=>get_append C) (by rw[hO.app];exact j);have E:∀(id:Nat) (o:AObj) (y:AV),id∈T->K (St.putO {st1 with hp:=st1.hp.set id o} e y)->KO T e d x q st K (St.putO {st with hp:=st.hp.set id o} e y):=λid o y hid j=>zaN hO hd (λi ob C A _=>by rw[i_ (λ(e':id=i)=>A (e'▸hid))];exact C) (by rw[hO.set hid];exact j);have el:∀(bor:Bool) (B:List Nat) (l:List SX),(∀q∈l,∀t∈q.rd,t∈op.rd)->(l.mapM λx=>(st1.get x).bind (wE st1.hp bor B))=(l.mapM λx=>(st.get x).bind (wE st.hp bor B)):=λbor B l hl=>dz λq z=>by rw[hg q (hl q z)];cases hy:st.get q with|none=>rfl|some y=>exact zb2 λi C=>hO.get (hid q y (hl q z) hy i C)
 have gc:∀(bor:Bool) (B:List Nat) (f:FuncId) (ars:List AV) (os:List AObj),(∀i∈B,i∈T)->sexec.callK P st1 e bor B f ars os K (λ_=>KP)->sexec.callK P st e bor B f ars os (KO T e d x q st K) (λ_=>KP):=λbor B f ars os hB ⟨A,D,N,O⟩=>by refine⟨A,D,N,O.mono λo H=>?_⟩;cases o with|none=>exact H|some r=>refine⟨H.1,zfK hO hd hB hx ?_⟩;have:=H.2;rw[hO.len]at this;exact this
 cases op with
 |store sz q v=>
  obtain⟨I,z,J,Q,he,hs⟩:=h;have Bx:=z;rw[hg q (λt w=>by simp[SOp.rd,w])]at z;rw[hg v (λt w=>by simp[SOp.rd,w])]at Q;have F:=hid q I (λt w=>by simp[SOp.rd,w]) z;refine⟨I,z,J,Q,he,?_⟩;subst he;revert hs;unfold Kp;split;·rename_i id off;rintro⟨o,A,t,cs,D,N,O,R,j⟩;rw[hO.get (F id (by simp[AV.ids,BV.ids]))]at A;have:=E id (.box t (splice cs off J.cells)) J (F id (by simp[AV.ids,BV.ids])) j;exact⟨o,A,t,cs,D,N,O,R,this⟩
  ·rename_i id i off;have C:=F id (by simp[AV.ids,BV.ids]);rintro⟨o,A,⟨t,s,xs,D,N,p,O,R,h6,j⟩|⟨t,s,k,xs,H,D,N,O,j⟩⟩<;>rw[hO.get C]at A
   ·refine⟨o,A,.inl ⟨t,s,xs,D,N,p,O,R,h6,?_⟩⟩;rcases j with⟨U,h8,j⟩|⟨U,h8,j⟩;·exact .inl ⟨U,h8,E id _ J C j⟩
    ·exact .inr ⟨U,h8,E id _ J C j⟩
   ·refine⟨o,A,.inr ⟨t,s,k,xs,H,D,N,O,?_⟩⟩;rcases j with⟨R,h6,p,U,h8,h9,j⟩|⟨b,b',R,h6,U,h8,j⟩;·exact .inl ⟨R,h6,p,U,h8,h9,E id _ J C j⟩
    ·exact .inr ⟨b,b',R,h6,U,h8,E id _ J C j⟩
  simp
 |alloc t zero=>exact M _ _ (by have:=h;simp only[sexec,hO.len]at this⊢;exact this)|box t q=>obtain⟨I,z,A,j⟩:=h;rw[hg q (λt w=>by simp[SOp.rd,w])]at z;exact⟨I,z,A,M _ _ (by rw[hO.len]at j;exact j)⟩
 |bslice own t sz len ps=>cases own with|false=>exact qr h|true=>obtain⟨qs,z,A,D,N,O,j⟩:=h;rw[dz (g:=λx=>(st.get x).bind AV.toPV) λq z=>by rw[hg q (λt w=>e_.2 ⟨q,z,w⟩)]]at z;exact⟨qs,z,A,D,N,O,M _ _ (by rw[hO.len]at j;exact j)⟩
 |mslice t sz rg zero l c=>obtain⟨al,z,ac,hc,j⟩:=h;rw[hg l (λt w=>by simp[SOp.rd,w])]at z;rw[hg c (λt w=>by simp[SOp.rd,w])]at hc;exact⟨al,z,ac,hc,bz j λ_ j=>bz j λ_ j=>bU j λ_ _ j=>bU j λ_ _ ⟨A,D,N,O,R,h6,U⟩=>⟨A,D,N,O,R,h6,aw U λ_ h=>⟨h.1,M _ _ (by have:=h.2;rw[hO.len]at this;exact this)⟩⟩⟩
 |append t sz rg q v=>
  obtain⟨I,z,J,Q,hs⟩:=h;rw[hg q (λt w=>by simp[SOp.rd,w])]at z;rw[hg v (λt w=>by simp[SOp.rd,w])]at Q;have F:=hid q I (λt w=>by simp[SOp.rd,w]) z;have ph:=hid v J (λt w=>by simp[SOp.rd,w]) Q;refine⟨I,z,J,Q,?_⟩;refine iR (wk (h:=st1.hp) (λi C ob H=>by rw[<-hO.get (ph i C)];exact H) hs λL h=>h) λL hs=>⟨hs.1,?_⟩;rcases hs.2 with⟨id,rfl,o,H,xs,rfl,A,j⟩|⟨A,D,j⟩;·exact .inl ⟨id,rfl,_,by rw[<-hO.get (F id (by simp[AV.ids,BV.ids]))];exact H,xs,rfl,A,UY hO hd (F id (by simp[AV.ids,BV.ids])) hx j⟩
  ·exact .inr ⟨A,D,M _ _ (by rw[hO.len]at j;exact j)⟩
 |msliceT kk t sz rg zero l c=>obtain⟨al,z,ac,hc,j⟩:=h;rw[hg l (λt w=>by simp[SOp.rd,w])]at z;rw[hg c (λt w=>by simp[SOp.rd,w])]at hc;exact⟨al,z,ac,hc,bz j λ_ j=>bz j λ_ j=>bU j λ_ _ j=>bU j λ_ _ ⟨A,D,N,O,R,h6,U⟩=>⟨A,D,N,O,R,h6,aw U λ_ h=>⟨h.1,h.2.1,M _ _ (by have:=h.2.2;rw[hO.len]at this;exact this)⟩⟩⟩
 |appT kk t sz rg q v=>
  obtain⟨I,z,J,Q,hs⟩:=h;rw[hg q (λt w=>by simp[SOp.rd,w])]at z;rw[hg v (λt w=>by simp[SOp.rd,w])]at Q;have F:=hid q I (λt w=>by simp[SOp.rd,w]) z;have ph:=hid v J (λt w=>by simp[SOp.rd,w]) Q;refine⟨I,z,J,Q,?_⟩;refine iR (wk (h:=st1.hp) (λi C ob H=>by rw[<-hO.get (ph i C)];exact H) hs λL h=>h) λL hs=>⟨hs.1,?_⟩;rcases hs.2 with⟨id,rfl,o,H,xs,rfl,A,j⟩|⟨A,D,j⟩;·exact .inl ⟨id,rfl,_,by rw[<-hO.get (F id (by simp[AV.ids,BV.ids]))];exact H,xs,rfl,A,UY hO hd (F id (by simp[AV.ids,BV.ids])) hx j⟩
  ·exact .inr ⟨A,D,M _ _ (by rw[hO.len]at j;exact j)⟩
 |callA bor B f args=>obtain⟨ars,A,os,D,j⟩:=h;rw[el bor B args (λq z t w=>e_.2 ⟨q,z,w⟩)]at A;rw[dz (l:=B) (g:=(st.hp[·]?)) λi C=>hO.get (Y i C)]at D;exact⟨ars,A,os,D,gc bor B f ars os Y j⟩
 |callv bor B q args=>obtain⟨I,z,f,caps,h0,wr,ars,A,os,D,j⟩:=h;rw[hg q (λt w=>by simp[SOp.rd,w])]at z;rw[el bor B args (λq z t w=>o_.2 (.inr (e_.2 ⟨q,z,w⟩)))]at A;rw[dz (l:=B) (g:=(st.hp[·]?)) λi C=>hO.get (Y i C)]at D;exact⟨I,z,f,caps,h0,wr,ars,A,os,D,gc bor B f _ os Y j⟩
 |mkmap k t=>exact M _ _ (by have:=h;simp only[sexec,hO.len]at this⊢;exact this)|mapset k t m q v=>obtain⟨am,hm,I,z,J,Q,hs⟩:=h;rw[hg m (λt w=>by simp[SOp.rd,w])]at hm;rw[hg q (λt w=>by simp[SOp.rd,w])]at z;rw[hg v (λt w=>by simp[SOp.rd,w])]at Q;have ur:=hid m am (λt w=>by simp[SOp.rd,w]) hm;refine⟨am,hm,I,z,J,Q,?_⟩;obtain⟨id,kvs,rfl,H,p,A,r,D,he,N,O,R,h6,u,U,h8,j⟩:=hs;refine⟨id,kvs,rfl,by rw[<-hO.get (ur id (by simp[AV.ids,BV.ids]))];exact H,p,A,r,D,he,N,O,R,h6,u,U,h8,?_⟩;subst he;exact E id _ J (ur id (by simp[AV.ids,BV.ids])) j
 |copy t sz q v=>obtain⟨I,z,J,Q,hs⟩:=h;rw[hg q (λt w=>by simp[SOp.rd,w])]at z;rw[hg v (λt w=>by simp[SOp.rd,w])]at Q;have F:=hid q I (λt w=>by simp[SOp.rd,w]) z;have ph:=hid v J (λt w=>by simp[SOp.rd,w]) Q;refine⟨I,z,J,Q,?_⟩;refine iR (wk (h:=st1.hp) (λi C ob H=>by rw[<-hO.get (ph i C)];exact H) hs λL h=>h) λL ⟨A,id,D,N,o,H,xs,O,j⟩=>?_;subst D;exact⟨A,id,rfl,N,o,by rw[<-hO.get (F id (by simp[AV.ids,BV.ids]))];exact H,xs,O,E id _ _ (F id (by simp[AV.ids,BV.ids])) j⟩
 |panic q=>obtain⟨I,z,A,j⟩:=h;rw[hg q (λt w=>by simp[SOp.rd,w])]at z;exact⟨I,z,A,j⟩
 | atq s u=>
  have At:Foot u.rd st st1:=hF;have h':Ou st1 u λo m=>IX st1 (some s)/\K ((st1.new (some s) o).putO e (.b (m s))):=h;show Ou st u λo m=>IX st (some s)/\KO T e d x q st K ((st.new (some s) o).putO e (.b (m s)));refine xt (WV At h') λo m ⟨A,j⟩=>⟨?_,?_⟩;·simp only[IX]at A⊢;rw[<-hO.get (Y s (by simp[SOp.lent]))];exact A
  ·exact E s o _ (Y s (by simp[SOp.lent])) j
 |_=>exact qr h
end
structure Eff where
 x:AV
 slot:Option (Nat×AObj)
def St.app(st:St)(d:Option Nat)(E:Eff):St:=St.putO ⟨st.fr,match E.slot with|none=>st.hp|some (s,ob)=>st.hp.set s ob⟩ d E.x
def BS(P:Program)(o:SOper)(st:St)(E:Eff):Prop:=match E.slot with
 |none=>je P o st E.x
 |some (s,ob)=>o.gd=none/\∃q,o.op= .atq s q/\Ou st q λa mk=>a=ob/\E.x= .b (mk s)/\st.hp[s]? =some .free
def Eqs(a b:St):Prop:=a.hp=b.hp/\∀t,look a.fr t=look b.fr t
theorem Eqs.refl(a:St):Eqs a a:=⟨rfl,λ_=>rfl⟩
theorem Eqs.symm{a b:St}(h:Eqs a b):Eqs b a:=⟨h.1.symm,λt=>(h.2 t).symm⟩
theorem Eqs.trans{a b c:St}(h:Eqs a b)(k:Eqs b c):Eqs a c:=⟨h.1.trans k.1,λt=>(h.2 t).trans (k.2 t)⟩
def comm(r:Rec)(T:List Nat)(o:SOper)(b:Bool):Prop:=
 (∀t,r.d=some t->t∉o.rd/\o.dst≠some t)/\(∀t,o.dst=some t->t∉r.rd)/\(∀s,r.s=some s->s∉T)/\(b=true->∀s∈o.op.lent,s∉r.F)/\(b=false->∀i∈T,i∉r.G)
def SOp.hf:SOp->Bool
 | .mv _=>true
 |_=>false
def fk(st:St)(o:SOper):List Nat:=if o.op.hf=true/\o.gd=none then []else touch st o
def zg9(F:List Nat)(st:St)(o:SOper)(E:Eff):Prop:=
 (∀i∈fk st o,i∈F/\∃ob,st.hp[i]? =some ob/\∀j∈ob.kids,j∈F)/\∀i∈E.x.kids,i∈F
def GOk(G:List Nat)(st:St)(o:SOper)(E:Eff):Prop:=(∀i∈E.x.kids,i∈G)/\∀t∈o.rd,∀y,look st.fr t=some y->∀i∈y.kids,i∈G
def Sok(P:Program)(S:List AObj->Prop)(F:List Nat)(st:St)(o:SOper)(E:Eff):Prop:=∀a:St,S a.hp->(∀t∈o.rd,look a.fr t=look st.fr t)->BS P o a E/\zg9 F a o E
def zia(R:List (Rec×(List AObj->Prop)))(S:List AObj->Prop)(G:List Nat)(E:Eff):Prop:=∀s ob,E.slot=some (s,ob)->(∀j∈ob.kids,j∈G)/\(∀hp,¬S hp)/\∀r∈R,∀hp:List AObj,hp[s]? =some .free->r.2 (hp.set s ob)->r.2 hp
def zds(un:Nat->Nat->Bool)(R:List (Rec×(List AObj->Prop)))(j:Nat)(T:List Nat)(hp:List AObj):Prop:=∀r∈R,un r.1.i j=true->(∀i∈T,i∉r.1.F)\/r.2 hp
def B3(P:Program)(un:Nat->Nat->Bool)(K:St->Prop)(KP:Prop):List (Rec×(List AObj->Prop))->List (Nat×Bool×SOper)->St->Prop
 |_,[],st=>∃b,Eqs b st/\K b
 |R,(j,true,o)::l,st=>(∀r∈R,un r.1.i j=true->comm r.1 (fk st o) o true)/\∃E F G S,BS P o st E/\zg9 F st o E/\GOk G st o E/\Sok P S F st o E/\zia R S G E/\B3 P un K KP (R++[(⟨j,o.dst,o.rd,E.slot.map (·.1),F,G⟩,S)]) l (st.app o.dst E)
 |R,(j,false,o)::l,st=>(∀r∈R,un r.1.i j=true->comm r.1 (touch st o) o false)/\m5 P o st (λa=>zds un R j (touch st o) a.hp/\B3 P un K KP R l a) λ_=>KP
section
variable {P:Program} {un:Nat->Nat->Bool} {K:St->Prop} {KP:Prop}
theorem Ew{α β:Type}{f g:α->List β}:∀{l:List α},(∀x∈l,f x=g x)->l.flatMap f=l.flatMap g
 |[],_=>rfl
 |x::l,h=>by rw[aD_,aD_,h x (by simp),Ew λy a=>h y (by grind)]
theorem OT{a b:St}{o:SOper}(h:∀t∈o.rd,look a.fr t=look b.fr t):touch a o=touch b o:=by unfold touch;congr 1;exact Ew λk c=>by grind
theorem AR{a b:St}{o:SOper}(h:∀t∈o.rd,look a.fr t=look b.fr t):fk a o=fk b o:=by unfold fk;rw[OT h]
theorem Xw{st:St}{o:SOper}{t:Nat}{y:AV}{i:Nat}(a:t∈o.rd)(c:look st.fr t=some y)(b:i∈y.ids):i∈touch st o:=o_.2 (.inl (e_.2 ⟨t,a,by grind⟩))
theorem HE{st:St}{o:SOper}{i:Nat}(a:i∈o.op.lent):i∈touch st o:=o_.2 (.inr a)
theorem oV(st:St)(d:Option Nat)(E:Eff)(t:Nat):look (st.app d E).fr t=if d=some t then some E.x else look st.fr t:=iq _ _ _ _
theorem BO(st:St)(d:Option Nat)(E:Eff):(st.app d E).hp=match E.slot with|none=>st.hp|some (s,ob)=>st.hp.set s ob:=by unfold St.app;cases d<;>rfl
theorem E8{st:St}{d:Option Nat}{E:Eff}{i:Nat}(h:∀s,E.slot.map (·.1)=some s->i≠s):(st.app d E).hp[i]? =st.hp[i]? :=by rw[BO];grind
theorem Ow{o:SOper}{T:List Nat}{d:Option Nat}{x:AV}{q:Option (Nat×AObj)}{st st1:St}(hO:Over T d x q st st1)(a:∀t,d=some t->t∉o.rd/\o.dst≠some t)(f:∀i∈touch st o,i∈T)(l:∀i∈x.kids,i∉T) (h:m5 P o st1 K λ_=>KP):m5 P o st (KO T o.dst d x q st K) (λ_=>KP):=by
 have ex:sexec P o.dst o.op st1 K (λ_=>KP)->sexec P o.dst o.op st (KO T o.dst d x q st K) (λ_=>KP):=λh=>zah hO (λt b hr=>(a t b).1 (by simp[SOper.rd,hr])) (λt b=>(a t b).2) (λt b y n i c=>f i (Xw (by simp[SOper.rd,b]) n c)) (λi c=>f i (HE c)) l h;unfold m5 at h⊢;split at h;·grind
 ·rename_i t want hg;obtain⟨g,p,v,rfl,j,k⟩:=h;have b:look st1.fr t=look st.fr t:=by rw[hO.fr,if_neg λe=>(a t e).1 (by simp[SOper.rd,hg])]
  refine⟨_,by grind,v,rfl,λe=>ex (j e),λe=>zaN (h':=st.hp) hO (λt b=>(a t b).2) (λi ob c _ _=>c) (by rw[<-hO.hp];exact k e)⟩
theorem RF{o:SOper}{a b:St}{E:Eff}(h:Foot o.rd a b)(n:∀s,E.slot.map (·.1)=some s->b.hp[s]? =some .free->a.hp[s]? =some .free)(c:BS P o b E):BS P o a E:=by
 unfold BS at c⊢;cases hs:E.slot with
 |none=>rw[hs]at c;exact Xg h c|some q=>
  rw[hs]at c;obtain⟨j,p,d,l⟩:=c;refine⟨j,p,d,xt (WV ⟨λk r=>h.fr k ?_,λk r=>h.hp k ?_⟩ l) λo m ⟨e,f,g⟩=>⟨e,f,n _ (by grind) g⟩⟩;·simp only[SOper.rd,d,SOp.rd,o_];grind
  ·simp only[SOper.rd,d,SOp.rd,o_];grind
theorem Hi{o:SOper}{a b:St}{E:Eff}(d:∀k∈o.rd,∀y,look b.fr k=some y->look a.fr k=some y)(g:∀i∈fk b o,∀ob,b.hp[i]? =some ob->a.hp[i]? =some ob) (u:∀s,E.slot.map (·.1)=some s->b.hp[s]? =some .free->a.hp[s]? =some .free) (c:BS P o b E):BS P o a E:=by
 by_cases j:o.op.hf=true/\o.gd=none
 ·obtain⟨f,n⟩:=j;unfold BS at c⊢;cases hs:E.slot with
  |none=>
   rw[hs]at c;cases e:o.op<;>rw[e]at f<;>try (cases f;done)
   rename_i x;simp only[je,n,e,ou]at c⊢;obtain⟨y,h,l⟩:=c;refine⟨y,?_,l⟩;cases x with|tm k=>exact d k (by simp[SOper.rd,e,SOp.rd,SX.rd]) y h|_=>exact h
  |some q=>rw[hs]at c;obtain⟨_,p,r,_⟩:=c;rw[r]at f;cases f
 ·have z:fk b o=touch b o:=if_neg j;exact RF ⟨d,λk w y A i v ob e=>g i (by rw[z];exact Xw w A v) ob e⟩ u c
theorem RG{o:SOper}{a:St}{E:Eff}(c:BS P o a E):∀s,E.slot.map (·.1)=some s->a.hp[s]? =some .free/\s∈o.op.lent:=by
 intro s hs;unfold BS at c;cases e:E.slot with
 |none=>grind|some q=>
  rw[e]at c hs;simp only[x_,g_]at hs;obtain⟨f,p,d,b⟩:=c;rw[d,<-hs];refine⟨?_,by simp[SOp.lent]⟩;clear d;cases p<;>simp only[Ou]at b;case alloc=>grind
  case box=>obtain⟨_,_,_,h⟩:=b;grind
  case bslice own _ _ _ _=>
   cases own;·grind
   ·obtain⟨_,_,_,_,_,_,h⟩:=b;grind
  case mslice=>obtain⟨_,_,_,_,_,_,_,_,_,_,_,_,_,_,_,_,_,_,_,_,_,_,_,h⟩:=b;grind
  case append=>obtain⟨_,_,_,_,h⟩:=b;rcases h with⟨_,_,_,_,h⟩|⟨_,_,_,_,_,h⟩|⟨_,_,_,_,_,_,_,_,h⟩|⟨_,_,_,_,_,h⟩<;>exact h.2.2
  grind
theorem Qv{o:SOper}{st:St}{E:Eff}{K a:St->Prop}(h:BS P o st E)(j:K (st.app o.dst E)):m5 P o st K a:=by
 unfold BS at h;cases hs:E.slot with
 |none=>
  rw[hs]at h;refine vo h ?_;have:st.app o.dst E=st.putO o.dst E.x:=by unfold St.app;rw[hs]
  grind
 |some q=>
  rw[hs]at h;obtain⟨e,p,f,g⟩:=h;unfold m5;rw[e,f];show Ou st p λo' mk=>IX st (some q.1)/\K ((st.new (some q.1) o').putO o.dst (.b (mk q.1)));refine xt g λob m ⟨b,c,d⟩=>⟨d,?_⟩;have:st.app o.dst E=(st.new (some q.1) ob).putO o.dst (.b (m q.1)):=by unfold St.app;rw[hs,b,c];rfl
  grind
theorem zdV{a b:St}{T:List Nat}(h:Eqs a b):Over T none (.v undef) none b a:=⟨h.1,λt=>by rw[h.2 t];simp,λ_ _ h=>by cases h⟩
theorem zdU{a b:St}(h:Eqs a b)(rd:List Nat):Foot rd b a:=⟨λk _ y d=>by rw[<-h.2];exact d,λk _ y _ i _ ob c=>by rw[<-h.1];exact c⟩
theorem zf5{a b:St}(h:Eqs a b)(d:Option Nat)(E:Eff):Eqs (a.app d E) (b.app d E):=⟨by rw[BO,BO,h.1],λt=>by rw[oV,oV,h.2 t]⟩
theorem TN{S:List AObj->Prop}{F:List Nat}{a b:St}{o:SOper}{E:Eff}(h:∀t∈o.rd,look b.fr t=look a.fr t)(hs:Sok P S F a o E):Sok P S F b o E:=λc e f=>hs c e λt d=>(f t d).trans (h t d)
theorem Tk{G:List Nat}{a b:St}{o:SOper}{E:Eff}(h:∀t∈o.rd,look b.fr t=look a.fr t)(hs:GOk G a o E):GOk G b o E:=⟨hs.1,λt c y d=>hs.2 t c y (by grind)⟩
theorem AM:∀(l:List (Nat×Bool×SOper)) (R:List (Rec×(List AObj->Prop))) (a b:St),Eqs a b->B3 P un K KP R l a->B3 P un K KP R l b
 |[],R,a,b,h,hs=>by obtain⟨p,f,d⟩:=hs;exact⟨p,f.trans h,d⟩
 |(j,true,o)::l,R,a,b,h,hs=>by obtain⟨f,E,F,G,S,d,g,hg,w,v,u⟩:=hs;have k:fk b o=fk a o:=AR λt _=>(h.2 t).symm;refine⟨λr hr y=>by grind,E,F,G,S,RF (zdU h _) (λs _ z=>by rw[<-h.1];omega) d,⟨λi c=>?_,g.2⟩,Tk (λt _=>(h.2 t).symm) hg,TN (λt _=>(h.2 t).symm) w,v,AM l _ _ _ (zf5 h _ _) u⟩;rw[k]at c;exact⟨(g.1 i c).1,by rw[<-h.1];exact(g.1 i c).2⟩
 |(j,false,o)::l,R,a,b,h,hs=>by obtain⟨f,d⟩:=hs;have k:touch b o=touch a o:=OT λt _=>(h.2 t).symm;refine⟨λr hr y=>by grind,?_⟩;refine B4 (Ow (T:=touch b o) (zdV h) (λt e=>by grind) (λi c=>c) (λi c=>by cases c) d) (λn ⟨_,st1,hO,x⟩=>?_) λ_ h=>h;have e:st1.hp=n.hp:=hO.hp;exact⟨by rw[k,<-e];grind,AM l _ _ _ ⟨e,λt=>by rw[hO.fr];simp⟩ x.2⟩
theorem Ko:∀(l:List (Nat×Bool×SOper)) (R b:List (Rec×(List AObj->Prop))) (a:St),(∀r∈b,r∈R)->B3 P un K KP R l a->B3 P un K KP b l a
 |[],R,b,a,_,hs=>hs
 |(j,true,o)::l,R,b,a,h,hs=>by obtain⟨f,E,F,G,S,g,k,hg,p,c,n⟩:=hs;refine⟨λr hr=>f r (h r hr),E,F,G,S,g,k,hg,p,λs ob e=>⟨(c s ob e).1,(c s ob e).2.1,λr hr=>(c s ob e).2.2 r (h r hr)⟩,Ko l _ _ _ (λr hr=>?_) n⟩;grind
 |(j,false,o)::l,R,b,a,h,hs=>⟨λr hr=>hs.1 r (h r hr),B4 hs.2 (λu d=>⟨λr hr=>d.1 r (h r hr),Ko l _ _ _ h d.2⟩) λ_ h=>h⟩
def Hd(P:Program)(un:Nat->Nat->Bool)(K:St->Prop)(KP:Prop)(R:List (Rec×(List AObj->Prop)))(l:List (Nat×Bool×SOper))(st:St)(j:Nat)(o:SOper):Bool->Prop
 |true=>∃G,BS P o st G/\B3 P un K KP R l (st.app o.dst G)
 |false=>m5 P o st (λa=>zds un R j (touch st o) a.hp/\B3 P un K KP R l a) λ_=>KP
theorem ziq{l2:List (Nat×Bool×SOper)}{j:Nat}{b:Bool}{o:SOper}:∀(l1:List (Nat×Bool×SOper)) (R:List (Rec×(List AObj->Prop))) (st:St),B3 P un K KP R (l1++(j,b,o)::l2) st->(∀u∈l1,u.2.1=true/\un u.1 j=true)->(∀r∈R,un r.1.i j=true->comm r.1 (match b with|true=>fk st o|false=>touch st o) o b)/\Hd P un K KP R (l1++l2) st j o b:=by
 intro l1;induction l1 with
 |nil=>
  intro R st h _;cases b with
  |true=>obtain⟨h1,E,F,G,S,Y,_,_,_,_,h4⟩:=h;exact⟨h1,E,Y,Ko l2 _ _ _ (λr hr=>o_.2 (.inl hr)) h4⟩
  |false=>exact h
 |cons q l1 ih=>
  intro R st h hu;obtain⟨i,bu,u⟩:=q;obtain⟨hb,Q⟩:=hu _ (List.mem_cons_self ..);simp only at hb Q;subst hb;obtain⟨h1,E,F,G0,S,Y,w,hg,hS,hL,h4⟩:=h;obtain⟨hA,hB⟩:=ih _ _ h4 λv hv=>hu v (List.mem_cons_of_mem _ hv);obtain⟨c1,c2,B,c4,c5⟩:=hA (⟨i,u.dst,u.rd,E.slot.map (·.1),F,G0⟩,S) (by simp) Q;simp only at c1 c2 B c4 c5;have gc:∀t∈o.rd,look (st.app u.dst E).fr t=look st.fr t:=λt U=>by rw[oV,if_neg λe=>(c1 t e).1 U]
  have N:touch (st.app u.dst E) o=touch st o:=OT gc;have D:fk (st.app u.dst E) o=fk st o:=AR gc;have el:=RG Y;cases b with
  |true=>
   refine⟨λr hr n=>by grind,?_⟩;simp only at B c5;rw[D]at B;obtain⟨G,g1,g2⟩:=hB;have z:=RG g1;have ph:BS P o st G:=by
    refine Hi (λk hk y hy=>by grind) (λi a ob C=>?_) (λs hs hf=>?_) g1;·rw[D]at a;rw[<-E8 (d:=u.dst) (E:=E) λs hs e=>B s hs (e▸a)];omega
    ·rw[<-E8 (d:=u.dst) (E:=E) λs' A e=>?_];·omega
     ·have H:=(z s hs).2;by_cases I:o.op.hf=true/\o.gd=none
      ·cases C:o.op<;>rw[C]at I<;>try (cases I.1;done)
       rw[C]at H;cases H
      ·refine B s' A (e▸?_);rw[show fk st o=touch st o from if_neg I];exact HE H
   have c:∀t∈u.rd,look (st.app o.dst G).fr t=look st.fr t:=λt U=>by rw[oV,if_neg λe=>c2 t e U]
   have O:fk (st.app o.dst G) u=fk st u:=AR c;have J:∀i∈fk st u,(st.app o.dst G).hp[i]? =st.hp[i]? :=λi a=>E8 λs hs e=>c4 rfl s (z s hs).2 (e▸(w.1 i a).1);have f:∀s,E.slot.map (·.1)=some s->s∈F:=λs hs=>by
    have H:=(el s hs).2;by_cases I:u.op.hf=true/\u.gd=none
    ·cases C:u.op<;>rw[C]at I<;>try (cases I.1;done)
     rw[C]at H;cases H
    ·exact(w.1 s (by rw[show fk st u=touch st u from if_neg I];exact HE H)).1
   refine⟨G,ph,λr hr n=>by grind,E,F,G0,S,?_,⟨λi a=>?_,w.2⟩,Tk c hg,TN c hS,hL,AM _ _ _ _ ⟨?_,λt=>?_⟩ g2⟩;·refine Hi (λk hk y hy=>by grind) (λi a ob C=>by grind) (λs hs hf=>?_) Y;rw[E8 λs' A e=>c4 rfl s' (z s' A).2 (e▸f s hs)];omega
   ·rw[O]at a;exact⟨(w.1 i a).1,by rw[J i a];exact(w.1 i a).2⟩
   ·rw[BO,BO,BO,BO];cases hs:E.slot with|none=>rfl|some p=>cases A:G.slot with|none=>rfl|some p'=>simp only;exact ay_ _ _ λe=>c4 rfl p'.1 (z p'.1 (by grind)).2 (e▸f p.1 (by grind))
   ·rw[oV,oV,oV,oV];grind
  |false=>
   refine⟨λr hr n=>by grind,?_⟩;have c7:=c5 rfl;rw[N]at c7;simp only at B;rw[N]at B;have hO:Over (touch st o) u.dst E.x E.slot st (st.app u.dst E):=⟨by rw[BO];rfl,λt=>oV _ _ _ t,λs ob e=>⟨(el s (by rw[e];rfl)).1,B s (by rw[e];rfl),λj hj x=>c7 j x ((hL s ob e).1 j hj)⟩⟩;refine B4 (Ow (T:=touch st o) hO c1 (λi a=>a) (λi a x=>c7 i x (hg.1 i a)) hB) (λg ⟨hC,st1,l,M,hk⟩=>?_) λ_ h=>h;rw[N,l.hp]at M;have c:∀t∈u.rd,look g.fr t=look st.fr t:=λt U=>hC.fr t (λe=>c2 t e U) λy hy i a x=>c7 i x (hg.2 t U y hy i a);have O:fk g u=fk st u:=AR c;have key:BS P u g E/\zg9 F g u E:=by
    rcases M (⟨i,u.dst,u.rd,E.slot.map (·.1),F,G0⟩,S) (by simp) Q with hdj|hs
    ·have J:∀i∈fk st u,g.hp[i]? =st.hp[i]? :=λi a=>by obtain⟨h5,ob,h6,h7⟩:=w.1 i a;rw[h6];exact hC.hp i ob h6 (λx=>hdj i x h5) λj hj x=>hdj j x (h7 j hj)
     refine⟨Hi (λk hk y hy=>by grind) (λi a ob C=>by grind) (λs hs _=>by obtain⟨p,hp,rfl⟩:=c_.1 hs;exact(l.sl p.1 p.2 hp).1) Y,⟨λi a=>?_,w.2⟩⟩
     rw[O]at a;exact⟨(w.1 i a).1,by rw[J i a];exact(w.1 i a).2⟩
    ·cases L:E.slot with|none=>rw[L]at hs;exact hS g hs c|some p=>exact absurd hs ((hL p.1 p.2 L).2.1 _)
   refine⟨λr hr n=>?_,λr hr n=>by grind,E,F,G0,S,key.1,key.2,Tk c hg,TN c hS,hL,?_⟩
   ·rcases M r (o_.2 (.inl hr)) n with h|h;·exact .inl h
    ·refine .inr ?_;cases L:E.slot with|none=>rw[L]at h;exact h|some p=>rw[L]at h;exact(hL p.1 p.2 L).2.2 r hr _ (l.sl p.1 p.2 L).1 h
   refine AM _ _ _ _ ⟨?_,λt=>?_⟩ hk;·rw[BO];exact l.hp
   ·rw[oV,l.fr]
theorem zff{u:SOp}{ob:AObj}{R:AObj->(Nat->BV)->Prop}{st:St}(h:Ou st u λo m=>o=ob/\R o m):∀j∈ob.kids,∃t∈u.rd,∃y,look st.fr t=some y/\j∈y.kids:=by
 intro j r;cases u<;>simp only[Ou]at h<;>try exact h.elim
 case alloc t zero=>obtain⟨rfl,_⟩:=h;obtain⟨b,l,d⟩:=e_.1 r;obtain⟨v,_,rfl⟩:=z_.1 l;have:=BV.kids_ids d;rw[Hg]at this;cases this
 case box t x=>
  obtain⟨a,w,_,rfl,_⟩:=h;obtain⟨b,l,d⟩:=e_.1 r;have s:j∈a.kids:=by
   cases a with
   |b z=>
    cases z with
    |pv p=>obtain⟨A,_,rfl⟩:=z_.1 l;cases d
    |_=>rw[Y_.1 l]at d;exact d
   |agg xs=>exact e_.2 ⟨b,l,d⟩|tup xs=>rw[Y_.1 l]at d;cases d
  cases x with|tm k=>exact⟨k,Y_.2 rfl,a,w,s⟩|c v=>cases w;have:=AV.kids_ids s;rw[J7]at this;cases this|g n=>cases w;cases s|f n=>cases w;cases s
 case bslice own e sz len B=>
  cases own;·exact h.elim
  ·obtain⟨_,_,_,_,_,_,rfl,_⟩:=h;cases r
 case mslice=>obtain⟨_,_,_,_,_,_,_,_,_,_,_,_,_,_,_,_,_,_,_,_,_,_,_,rfl,_⟩:=h;cases r
 case append=>obtain⟨_,_,_,_,h⟩:=h;rcases h with⟨_,_,_,_,rfl,_⟩|⟨_,_,_,_,_,rfl,_⟩|⟨_,_,_,_,_,_,_,_,rfl,_⟩|⟨_,_,_,_,_,rfl,_⟩<;>cases r
 case mkmap=>obtain⟨rfl,_⟩:=h;cases r
end
def KD(n:Nat)(a:List (List Nat))(k:Nat):Bool:=(P_ n).all λj=>decide (j<k)||(P_ j).all λi=>(a.getD j []).contains i
def ym(a:List (List Nat)):List (Nat×Bool)->Bool
 |[]=>true
 |u::l=>l.all (λo=> !(a.getD u.1 []).contains o.1&&((a.getD o.1 []).contains u.1||u.2))&&ym a l
theorem Xv(n:Nat)(after:List (List Nat))(k:Nat):KD n (Py after) k=KD n (iO [] after) k:=by simp only[KD,Mm]
theorem TA(after:List (List Nat)):∀l,ym (Py after) l=ym (iO [] after) l
 |[]=>rfl
 |u::l=>by simp only[ym,Mm,TA after l]
theorem EA:∀(k:Nat) (L:List Nat),L.Nodup->(∀x∈L,x<k)->L.length<=k
 |0,L,_,h=>by cases L with|nil=>simp|cons x L=>exact absurd (h x (by simp)) (Nat.not_lt_zero _)
 |k+1,L,hn,h=>by
  by_cases b:k∈L
  ·have:=EA k (L.erase k) (hn.erase k) λx a=>by grind
   grind
  ·have:=EA k L hn λx a=>by grind
   omega
section
variable {P:Program} {c:Ctx} {w:World} {a:Act}
theorem RS{a:List (List Nat)}:∀{l1 l2:List (Nat×Bool)} {o:Nat×Bool},ym a (l1++o::l2)=true->∀u∈l1,((a.getD o.1 []).contains u.1=true\/u.2=true)
 |[],_,_,_,u,b=>by grind
 |v::l1,l2,o,h,u,b=>by
  simp only[al_,ym,m_,k_,V_]at h;rcases R_.1 b with rfl|b;·grind
  ·exact RS h.2 u b
theorem N3{a:List (List Nat)}:∀{l1 l2:List (Nat×Bool)} {o:Nat×Bool},ym a (l1++o::l2)=true->ym a (l1++l2)=true
 |[],l2,o,h=>by simp only[aq_,ym,m_]at h⊢;grind
 |v::l1,l2,o,h=>by simp only[al_,ym,m_,k_]at h⊢;exact⟨λx b=>h.1 x (by grind),N3 h.2⟩
theorem Vw{id n k ml:Nat}{ops:Array Oper}{s:List SOper}{after:List (List Nat)}{l:List (Nat×Bool×SOper)}(hm:P.follows .mixedOrders=true)(hn:c.n=n)(JT:c.th.length<=ml)(hc:Bc P n ops ops.toList s)(DP:after=A8 ops)(J:Kc after=true) (Nd:KD s.length (iO [] after) k=true) (GS:k<=s.length) (B:ym (iO [] after) (l.map λu=>(u.1,u.2.1))=true) (Bk:∀u∈l,u.1<k/\s[u.1]? =some u.2.2) (MT:(l.map (·.1)).Nodup) (Hx:l.length=k) {st:St} {K KP:St->Prop} {KC:Prop} {Q:Exit->Act->World->Prop} (h:B3 P (λi j=> !((iO [] after).getD j []).contains i) (λst=>sops P ml (s.drop k) st K KP) KC [] l st) (hr:Rel c st a w) (hQ:∀a w,(∃f,K f/\Rel c f a w)->Q .normal a w) (hP:∀ch a w,(A5 ch/\∃f,KP f/\Rel c f a w)->Q (.panic ch) a w) (RK:KC->∀ch a w,(A5 ch/\∃f,Rel c f a w)->Q (.panic ch) a w):(Code.region id ops true).wp P Q a w:=by
 obtain⟨CT,At⟩:=DY hc;have hsz:ops.size=s.length:=by simpa using CT
 have WD:after.length=s.length:=by rw[DP];simp[A8,hsz]
 have ur:∀(i:Nat) (o:Oper),ops[i]? =some o->after[i]? =some ((o.after.toList.filter (Region.binds .any)).map (·.on)):=λi o U=>by rw[DP];simp[A8,U]
 have y:∀(d:Array Bool) (i:Nat),d.size=s.length->(i∈Region.ready .any ops d↔i<s.length/\d.getD i true=false/\∀l:List Nat,after[i]? =some l->∀e∈l,d.getD e false=true):=by
  intro d i p;unfold Region.ready;simp only[N_,v_,m_,ai_,hsz];constructor;·rintro⟨z,M,h3⟩;refine⟨z,M,λl hl e C=>?_⟩;have U:ops[i]? =some ops[i]:=l_ (by omega);rw[ur i _ U]at hl;cases hl;rw[U]at h3;simp only[x_,U_,W_]at h3;simp only[z_,N_]at C;obtain⟨ed,⟨h4,h5⟩,rfl⟩:=C;have:=h3 ed (by simpa using h4);simpa[h5]using this
  ·rintro⟨z,M,h3⟩;refine⟨z,M,?_⟩;have U:ops[i]? =some ops[i]:=l_ (by omega);rw[U];simp only[x_,U_,W_];intro ed RT;by_cases N:Region.binds .any ed=true;·have:=h3 _ (ur i _ U) ed.on (z_.2 ⟨ed,N_.2 ⟨by simpa using RT,N⟩,rfl⟩);simp only[N,aj_,aT_];exact this
   ·simp[N]
 have Bx:∀i j,i<j->j<s.length->k<=j->((iO [] after).getD j []).contains i=true:=by
  intro i j RW hj SM;simp only[KD,k_,v_,V_,decide_eq_true_eq]at Nd;rcases Nd j hj with h|h;·omega
  ·exact h i RW
 have T:∀(m j:Nat) (d:Array Bool) (f:St) (a:Act) (w:World),j<=s.length->s.length<=j+m->k<=j->d.size=s.length->(∀i,i<s.length->d.getD i false=decide (i<j))->sops P ml (s.drop j) f K KP->Rel c f a w->wpAny P .any ops Q m d a w:=by
  have DM:∀(d:Array Bool) (f:St) (a:Act) (w:World),d.size=s.length->(∀i,i<s.length->d.getD i false=decide (i<s.length))->sops P ml (s.drop s.length) f K KP->Rel c f a w->Region.ready .any ops d=[]/\Q .normal a w:=by intro d f a w p r hs hr;rw[aI_]at hs;simp only[sops]at hs;obtain⟨st1,DB,hs⟩:=hs;refine⟨?_,hQ a w ⟨st1,hs,DB _ _ _ JT hr⟩⟩;apply ac_.2;grind
  intro m
  induction m with
  |zero=>
   intro j d f a w hj hm _ p r hs hr;have CD:j=s.length:=by omega
   subst CD;exact DM d f a w p r hs hr
  |succ m ih=>
   intro j d f a w hj hm SM p r hs hr;rcases C_ j s.length with H|H;case inr=>
    have CD:j=s.length:=by omega
    subst CD;obtain⟨f1,f2⟩:=DM d f a w p r hs hr;exact⟨λ_=>f2,λi F=>by rw[f1]at F;cases F⟩
   have Fm:∀i,i<s.length->d.getD i true=decide (i<j):=λi F=>by
    have h4:i<d.size:=by omega
    have:=r i F;simp[h4]at this⊢;exact this
   have Pb:∀i,i∈Region.ready .any ops d↔i=j:=by
    intro i;rw[y d i p];constructor
    ·rintro⟨z,M,h3⟩;rw[Fm i z]at M;simp only[decide_eq_false_iff_not,aB_]at M;rcases C_ j i with h4|h4
     ·rcases(Or.inl (Bx j i h4 z (by omega)):_\/False)with h5|h5
      ·have gc:=wG J (S:=λx=>x<j\/x=i) (λx l hl Y e C=>by
        have g:=J;simp only[Kc,k_,v_,decide_eq_true_eq]at g;have DE:=(a_.1 hl).1;have Fk:=g x DE e (by simpa[I_,hl]using C);rcases Y with Y|rfl;·exact .inl (by omega)
        ·have:=h3 l hl e C;rw[r e (by omega)]at this;exact .inl (by simpa using this)) i i j (w_ _) (.inr rfl) h5 (by omega)
       omega
      ·exact h5.elim
     ·omega
    ·rintro rfl;refine⟨H,by rw[Fm _ H];simp,λl hl e C=>?_⟩;have g:=J;simp only[Kc,k_,v_,decide_eq_true_eq]at g;have DE:=(a_.1 hl).1;have Fk:=g i DE e (by simpa[I_,hl]using C);rw[r e (by omega)];simpa using Fk
   refine⟨λh0=>?_,λi F=>?_⟩;·have:=(Pb j).2 rfl;rw[h0]at this;cases this
   ·have:=(Pb i).1 F;subst this;have U:ops[i]? =some ops[i]:=l_ (by omega);have Th:=d_ H;have BT:=At i _ _ (by rw[y_];exact U) Th;rw[ah_ H]at hs;simp only[sops]at hs;obtain⟨st1,DB,hs⟩:=hs;obtain⟨θ,D,hI⟩:=DB _ _ _ JT hr;have:=xv hI hn BT hs (λa' w'=>wpAny P .any ops Q m (d.setIfInBounds i true) a' w') Q (λa' w' ⟨L,z,M⟩=>
     ih (i+1) _ L a' w' (by omega) (by omega) (by omega) (by simpa using p) (λx Y=>by
      rw[ff p (by omega),r x Y];by_cases Rg:x=i;·subst Rg;simp
      ·rw[if_neg Rg];apply decide_eq_decide.2;omega) z M) (λch w' hp=>hP ch a w' hp)
    unfold wpOp;grind
 have DQ:∀i,i<k->i∈l.map (·.1):=by
  intro i F;refine t_ λhn=>?_;have:=EA k (i::l.map (·.1)) (aP_.2 ⟨hn,MT⟩) λx Y=>by
   rcases R_.1 Y with rfl|Y;·exact F
   ·obtain⟨u,hu,rfl⟩:=z_.1 Y;exact(Bk u hu).1
  simp only[A_,List.length_map,Hx]at this;omega
 have g:=J;simp only[Kc,k_,v_,decide_eq_true_eq]at g;have rg:∀(m:Nat) (l':List (Nat×Bool×SOper)) (d:Array Bool) (f:St) (a:Act) (w:World),d.size=s.length->(∀i,i<s.length->(d.getD i false=true↔i<k/\i∉l'.map (·.1)))->l'.Sublist l->ym (iO [] after) (l'.map λu=>(u.1,u.2.1))=true->(∀(i:Nat) (l:List Nat),after[i]? =some l->d.getD i false=true->∀e∈l,d.getD e false=true)->s.length+l'.length<=k+m->B3 P (λi j=> !((iO [] after).getD j []).contains i) (λst=>sops P ml (s.drop k) st K KP) KC [] l' f->Rel c f a w->wpAny P .any ops Q m d a w:=by
  intro m
  induction m with
  |zero=>
   intro l' d f a w p r R B gc E hs hr;cases l' with
   |cons u l'=>simp only[A_]at E;omega|nil=>
    obtain⟨DH,C,hk⟩:=hs;refine T 0 k d DH a w GS (by simpa using E) (w_ _) p (λi F=>?_) hk (Rel.congr C.1 C.2 hr);have:=r i F;simp only[aV_,aJ_,not_false_eq_true,and_true]at this;cases N:d.getD i false with
    |true=>simp[this.1 N]|false=>
     have:¬i<k:=λh=>by have:=this.2 h;rw[N]at this;cases this
     simp[this]
  |succ m ih=>
   intro l' d f a w p r R B gc E hs hr;cases ph:l' with
   |nil=>
    subst ph;obtain⟨DH,C,hk⟩:=hs;refine T (m+1) k d DH a w GS (by simpa using E) (w_ _) p (λi F=>?_) hk (Rel.congr C.1 C.2 hr);have:=r i F;simp only[aV_,aJ_,not_false_eq_true,and_true]at this;cases N:d.getD i false with
    |true=>simp[this.1 N]|false=>
     have:¬i<k:=λh=>by have:=this.2 h;rw[N]at this;cases this
     simp[this]
   |cons q l0=>
    have PB:∀i,i<s.length->d.getD i true=d.getD i false:=λi F=>by
     have h4:i<d.size:=by omega
     simp[h4]
    have I:∀u∈l',u.1<k/\s[u.1]? =some u.2.2:=λu hu=>Bk u (R.subset hu);have DA:∀u∈l',d.getD u.1 false=false:=λu hu=>by cases N:d.getD u.1 false with|false=>rfl|true=>exact absurd (z_.2 ⟨u,hu,rfl⟩) ((r u.1 (by have:=(I u hu).1;omega)).1 N).2
    have hq:q∈l':=by rw[ph];simp
    have wr:∀i,i<s.length->(∀l:List Nat,after[i]? =some l->∀e∈l,d.getD e false=true)->∀j,((iO [] after).getD i []).contains j=true->j=i\/d.getD j false=true:=λi F h3 j hj=>
     wG J (S:=λx=>x=i\/d.getD x false=true) (λx l hl Y e C=>by
      rcases Y with rfl|Y;·exact .inr (h3 l hl e C)
      ·exact .inr (gc x l hl Y e C)) i i j (w_ _) (.inl rfl) hj (by omega)
    refine⟨λh0=>?_,λi F=>?_⟩
    ·have SW:=(I q hq).1;have:q.1∈Region.ready .any ops d:=(y d q.1 p).2 ⟨by omega,by rw[PB _ (by omega)];exact DA q hq,λlq In e C=>by
      have n6:=g q.1 (by omega) e (by simpa[I_,In]using C);cases N:d.getD e false with
      |true=>rfl|false=>
       exfalso;have DS:e∈l'.map (·.1):=t_ λhn=>by have:=(r e (by omega)).2 ⟨by omega,hn⟩;rw[N]at this;cases this
       rw[ph,E_]at DS;rcases R_.1 DS with z|z;·omega
       ·obtain⟨u,hu,rfl⟩:=z_.1 z;rw[ph,E_,ym,m_,k_]at B;have:=B.1 (u.1,u.2.1) (z_.2 ⟨u,hu,rfl⟩);simp only[m_,ai_]at this;have hg:=H9 after [] q.1 lq In;simp only[L_,O_]at hg;have M:((iO [] after).getD q.1 []).contains u.1=true:=by rw[hg];simp only[D_,e_];exact⟨u.1,C,by simp⟩
        rw[M]at this;exact absurd this.1 (by simp)⟩
     rw[h0]at this;cases this
    ·obtain⟨r1,r2,r3⟩:=(y d i p).1 F;rw[PB i r1]at r2;have Fr:i<k:=by
      apply t_;intro n7;have SW:=(I q hq).1;rcases wr i r1 r3 q.1 (Bx q.1 i (by omega) r1 (by omega))with z|z;·omega
      ·rw[DA q hq]at z;cases z
     have So:i∈l'.map (·.1):=t_ λhn=>by have:=(r i r1).2 ⟨Fr,hn⟩;rw[r2]at this;cases this
     obtain⟨u,hu,PJ⟩:=z_.1 So;obtain⟨l1,l2,A⟩:=List.append_of_mem hu;obtain⟨i',b,o⟩:=u;simp only at PJ;subst PJ;have O:(l'.map (·.1)).Nodup:=(R.map _).nodup MT;have Pa:∀v∈l1,v.2.1=true/\(!((iO [] after).getD i' []).contains v.1)=true:=λv hv=>by
      have Wf:v∈l':=by rw[A];exact o_.2 (.inl hv)
      have KK:((iO [] after).getD i' []).contains v.1=false:=by
       cases N:((iO [] after).getD i' []).contains v.1 with
       |false=>rfl|true=>
        rcases wr i' r1 r3 v.1 N with z|z;·rw[A,M_,E_]at O;have:=(aE_.1 O).2.2 v.1 (z_.2 ⟨v,hv,rfl⟩) i' (by simp);exact absurd z this
        ·rw[DA v Wf]at z;cases z
      refine⟨?_,by rw[KK];rfl⟩;rw[A,M_,E_]at B;rcases RS B (v.1,v.2.1) (z_.2 ⟨v,hv,rfl⟩)with z|z;·simp only at z;rw[KK]at z;cases z
      ·exact z
     rw[A]at hs;have hh:=(ziq l1 [] f hs Pa).2;have Vc:m5 P o f (λf=>B3 P (λi j=> !((iO [] after).getD j []).contains i) (λst=>sops P ml (s.drop k) st K KP) KC [] (l1++l2) f) λ_=>KC:=by
      cases b with
      |true=>obtain⟨G,g1,g2⟩:=hh;exact Qv g1 g2
      |false=>exact B4 hh (λ_ h=>h.2) λ_ h=>h
     have PA:=(I _ hu).2;simp only at PA;have U:ops[i']? =some ops[i']:=l_ (by omega);have BT:=At i' _ _ (by rw[y_];exact U) PA;obtain⟨θ,D,hI⟩:=hr;have:=xv (hp:=λch w' ⟨RM,L,hk,Pc⟩=>RK hk ch _ _ ⟨RM,L,Pc⟩) hI hn BT Vc (λa' w'=>wpAny P .any ops Q m (d.setIfInBounds i' true) a' w') Q (λa' w' ⟨L,z,M⟩=>by
      have Dg:(l1++l2).Sublist l':=by rw[A];exact List.Sublist.append_left (List.sublist_cons_self _ _) _
      refine ih (l1++l2) _ L a' w' (by simpa using p) (λj hj=>?_) (Dg.trans R) ?_ (λj lj qr H e C=>?_) ?_ z M
      ·rw[ff p r1];have qr:=r j hj;by_cases el:j=i'
       ·subst el;simp only[if_true,true_iff];refine⟨Fr,λhm=>?_⟩;rw[A,M_,E_]at O;obtain⟨n1,n2,n3⟩:=aE_.1 O;rw[M_]at hm;rcases o_.1 hm with h5|h5;·exact n3 _ h5 j (by simp) rfl
        ·exact(aP_.1 n2).1 h5
       ·rw[if_neg el,qr,A];simp only[M_,E_,o_,R_,el,false_or]
      ·rw[A,M_,E_]at B;rw[M_];exact N3 B
      ·rw[ff p r1]at H⊢;split at H
       ·rename_i el;subst el;split;·rfl
        ·exact r3 lj qr e C
       ·split;·rfl
        ·exact gc j lj qr H e C
      ·rw[A]at E;simp only[X_,A_]at E⊢;omega)
     unfold wpOp;rw[U];simp only;split;·rename_i hw;rw[if_pos hw]at this;exact .inl this
     ·rename_i hw;rw[if_neg hw]at this;exact this
 refine wp_region_any hm ?_;obtain⟨θ,D,hI⟩:=hr;refine rg ops.size l (u_ ops.size false) st a {w with drawn:=w.drawn+1} (by simp[hsz]) (λi F=>?_) (List.Sublist.refl _) B (λi l hl M=>by
  have F:i<ops.size:=by have:=(a_.1 hl).1;omega
  simp[F]at M) (by omega) h ⟨θ,D,hI.drew⟩
 have:(u_ ops.size false).getD i false=false:=by simp[hsz,F]
 rw[this];constructor;·intro h;cases h
 ·rintro⟨z,M⟩;exact absurd (DQ i z) M
end
inductive AC where
 |skip
 |region (ops:List SOper)
 |draw (k:Nat) (ops:List SOper) (after:List (List Nat))
 |draw2 (ord:List (Nat×Bool)) (ops:List SOper) (after:List (List Nat))
 |seq (a b:AC)
 |cond (c:SX) (thn els:AC)
 |block (id:Nat) (body:AC)
 |loop (body:AC)
 |exit (id:Nat)
 |ret
 deriving Inhabited
def zgU(n:Nat)(d:Option Nat):Bool:=match d with
 |some k=>decide (k<n)
 |none=>true
def EZ(P:Program)(n:Nat)(ops:Array Oper)(o:Oper):Option SOper:=
 (lH P o).bind λs=>
  if(zgU n o.dst&&sOk P o)=true then
   match o.guard with
   |none=>some ⟨o.dst,s,none⟩
   |some (j,want)=>((ops[j]?).bind (·.dst)).map λt=>⟨o.dst,s,some (t,want)⟩
  else none
def cp(P:Program)(n:Nat):Code->Option AC
 | .skip=>some .skip
 | .region _ ops e=>(ops.toList.mapM (EZ P n ops)).map λd=>if e then .draw 0 d (A8 ops)else .region d
 | .seq a b=>(cp P n a).bind λx=>(cp P n b).map λy=>.seq x y
 | .cond c a b=>(cp P n a).bind λx=>(cp P n b).map λy=>.cond (.of c) x y
 | .block id a=>(cp P n a).map (.block id)
 | .loop a=>(cp P n a).map .loop
 | .exit id=>some (.exit id)
 | .ret=>some .ret
 |_=>none
def SOper.canon(o:SOper):SOper:={o with op:=o.op.canon}
def AC.canon:AC->AC
 | .region ops=>.region (ops.map SOper.canon)
 | .draw _ ops af=>.draw 0 (ops.map SOper.canon) af
 | .draw2 _ ops af=>.draw 0 (ops.map SOper.canon) af
 | .seq a b=>.seq a.canon b.canon
 | .cond c a b=>.cond c a.canon b.canon
 | .block id a=>.block id a.canon
 | .loop a=>.loop a.canon
 |x=>x
def AC.okB:AC->Bool
 | .draw k ops af=>Kc af&&JN ops (Py af) k&&decide (k<=ops.length)
 | .draw2 ord ops af=>Kc af&&KD ops.length (Py af) ord.length&&decide (ord.length<=ops.length)&&ym (Py af) ord&&ord.all (λu=>decide (u.1<ord.length))&&decide (ord.map (·.1)).Nodup
 | .seq a b=>a.okB&&b.okB
 | .cond _ a b=>a.okB&&b.okB
 | .block _ a=>a.okB
 | .loop a=>a.okB
 |_=>true
inductive AE where
 |normal
 |exit (id:Nat)
 |ret
 |pan
def AE.then(m:Nat)(f:St->Prop)(Q:AE->St->Prop):AE->St->Prop
 | .normal,s=>W m f s
 |e,s=>Q e s
def AE.inBlock(id:Nat)(Q:AE->St->Prop):AE->St->Prop
 | .exit i,s=>if i=id then Q .normal s else Q (.exit i) s
 |e,s=>Q e s
def U5(m:Nat)(body:(AE->St->Prop)->St->Prop)(Q:AE->St->Prop):Nat->St->Prop
 |0,_=>False
 |n+1,st=>body (AE.then m (U5 m body Q n) Q) st
def UA(P:Program)(m:Nat):AC->(AE->St->Prop)->St->Prop
 | .skip,Q,st=>W m (Q .normal) st
 | .region d,Q,st=>sops P m d st (Q .normal) (Q .pan)
 | .draw k d _,Q,st=>W m (λst=>sdraw P m k d st (Q .normal) (Q .pan)) st
 | .draw2 ord d af,Q,st=>W m (λst=>B3 P (λi j=> !((iO [] af).getD j []).contains i) (λst=>sops P m (d.drop ord.length) st (Q .normal) (Q .pan)) (∀s,Q .pan s) [] (ord.map λu=>(u.1,u.2,d.getD u.1 default)) st) st
 | .seq a b,Q,st=>UA P m a (AE.then m (UA P m b Q) Q) st
 | .cond c a b,Q,st=>W m (λst=>aU (st.get c) λv=>Ju v λv=>isBool v λt=>(t=true->UA P m a Q st)/\(t=false->UA P m b Q st)) st
 | .block id a,Q,st=>UA P m a (AE.inBlock id Q) st
 | .loop a,Q,st=>W m (λs=>∃n,U5 m (UA P m a) Q n s) st
 | .exit id,Q,st=>W m (Q (.exit id)) st
 | .ret,Q,st=>W m (Q .ret) st
def AE.is:AE->Exit->Prop
 | .normal,e=>e= .normal
 | .exit i,e=>e= .exit i
 | .ret,e=>e= .ret
 | .pan,e=>∃z,A5 z/\e= .panic z
theorem zfP{x:AC}(h:AC.skip=x.canon):x= .skip:=by cases x<;>simp_all[AC.canon]
theorem zbX{x:AC}{s:List SOper}(h:AC.region s=x.canon):∃a,x= .region a/\s=a.map SOper.canon:=by cases x<;>simp_all[AC.canon]
theorem zfM{x:AC}{s:List SOper}{af:List (List Nat)}(h:AC.draw 0 s af=x.canon):(∃k a,x= .draw k a af/\s=a.map SOper.canon)\/∃ord a,x= .draw2 ord a af/\s=a.map SOper.canon:=by cases x<;>simp_all[AC.canon];all_goals grind
theorem zhd{x p q:AC}(h:AC.seq p q=x.canon):∃a b,x= .seq a b/\p=a.canon/\q=b.canon:=by cases x<;>simp_all[AC.canon];exact⟨_,_,⟨rfl,rfl⟩,rfl,rfl⟩
theorem zfL{x p q:AC}{s:SX}(h:AC.cond s p q=x.canon):∃a b,x= .cond s a b/\p=a.canon/\q=b.canon:=by cases x<;>simp_all[AC.canon];grind
theorem zdu{x p:AC}{i:Nat}(h:AC.block i p=x.canon):∃a,x= .block i a/\p=a.canon:=by cases x<;>simp_all[AC.canon]
theorem zfO{x p:AC}(h:AC.loop p=x.canon):∃a,x= .loop a/\p=a.canon:=by cases x<;>simp_all[AC.canon]
theorem zfN{x:AC}{i:Nat}(h:AC.exit i=x.canon):x= .exit i:=by cases x<;>simp_all[AC.canon]
theorem zhc{x:AC}(h:AC.ret=x.canon):x= .ret:=by cases x<;>simp_all[AC.canon]
section
variable {P:Program} {c:Ctx}
def zcb(c:Ctx)(Q:AE->St->Prop):Exit->Act->World->Prop:=λe a w=>∃b st,AE.is b e/\Q b st/\Rel c st a w
theorem Rq{m:Nat}(p:c.th.length<=m){f:St->Prop}{Q:AE->St->Prop}{e:Exit}{a:Act}{w:World}(h:zcb c (AE.then m f Q) e a w):Exit.then (λa w=>∃st,f st/\Rel c st a w) (zcb c Q) e a w:=by
 obtain⟨k,st,b,d,hr⟩:=h;cases k with
 |normal=>cases b;obtain⟨s',l,n⟩:=d;exact⟨s',n,l _ _ _ p hr⟩
 |exit i=>cases b;exact⟨.exit i,st,rfl,d,hr⟩|ret=>cases b;exact⟨.ret,st,rfl,d,hr⟩|pan=>obtain⟨j,g,rfl⟩:=b;exact⟨.pan,st,⟨j,g,rfl⟩,d,hr⟩
theorem YM{id:Nat}{Q:AE->St->Prop}{e:Exit}{a:Act}{w:World}(h:zcb c (AE.inBlock id Q) e a w):Exit.inBlock id (zcb c Q) e a w:=by
 obtain⟨j,st,d,b,hr⟩:=h;cases j with
 |normal=>cases d;exact⟨.normal,st,rfl,b,hr⟩|exit i=>
  cases d;simp only[Exit.inBlock];simp only[AE.inBlock]at b;split;·rename_i h;rw[if_pos h]at b;exact⟨.normal,st,rfl,b,hr⟩
  ·rename_i h;rw[if_neg h]at b;exact⟨.exit i,st,rfl,b,hr⟩
 |ret=>cases d;exact⟨.ret,st,rfl,b,hr⟩|pan=>obtain⟨g,f,rfl⟩:=d;exact⟨.pan,st,⟨g,f,rfl⟩,b,hr⟩
theorem SO{n:Nat}{ops:Array Oper}{o:Oper}{s:SOper}(h:EZ P n ops o=some s.canon):DX P n ops o s:=by
 unfold EZ at h;simp only[b_]at h;obtain⟨f,g,a⟩:=h;split at a
 ·rename_i hd;rw[m_]at hd;obtain⟨hd,d⟩:=hd;have b:∀k,o.dst=some k->k<n:=λk c=>by rw[c]at hd;simpa[zgU]using hd
  unfold DX;cases hg:o.guard with|none=>rw[hg]at a;simp only[g_,SOper.canon]at a;grind|some e=>obtain⟨j,want⟩:=e;rw[hg]at a;simp only[c_]at a;obtain⟨t,l,a⟩:=a;cases s;simp only[SOper.canon,SOper.mk.injEq]at a;grind
 grind
theorem yg{n:Nat}{ops:Array Oper}:∀{l:List Oper} {a:List SOper},l.mapM (EZ P n ops)=some (a.map SOper.canon)->Bc P n ops l a
 |[],a,h=>by simp at h;cases a with|nil=>trivial|cons s a=>grind
 |o::l,a,h=>by simp only[B_,H_,Q_,b_,g_]at h;obtain⟨s',c,m,d,b⟩:=h;cases a with|nil=>grind|cons s a=>simp only[E_,List.cons.injEq]at b;obtain⟨rfl,rfl⟩:=b;exact⟨SO c,yg d⟩
theorem EV(T:P.follows .mixedOrders=true){n m:Nat}(hn:c.n=n)(g:c.th.length<=m):∀(code:Code) (x:AC) (Q:AE->St->Prop) (st:St) (a:Act) (w:World),cp P n code=some x.canon->x.okB=true->UA P m x Q st->Rel c st a w->code.wp P (zcb c Q) a w:=by
 intro code;induction code with
 |skip=>intro x Q st a w hc b h hr;simp only[cp,g_]at hc;cases zfP hc;obtain⟨s',f,j⟩:=h;exact wp_skip ⟨.normal,s',rfl,j,f _ _ _ g hr⟩
 |region id ops dr=>
  intro x Q st a w hc b h hr;simp only[cp,c_]at hc;obtain⟨el,B,hc⟩:=hc;cases dr;·simp only[q_,if_false]at hc;obtain⟨L,rfl,rfl⟩:=zbX hc;exact TI hn g (yg B) h hr (λa w ⟨d,f,j⟩=>⟨.normal,d,rfl,f,j⟩) (λA a w ⟨r,d,f,j⟩=>⟨.pan,d,⟨A,r,rfl⟩,f,j⟩)
  ·simp only[if_true]at hc;rcases zfM hc with⟨k,L,rfl,rfl⟩|⟨ord,L,rfl,rfl⟩
   rotate_left
   ·simp only[AC.okB,Vx,Xv,TA,m_,decide_eq_true_eq,k_]at b;obtain⟨⟨⟨⟨⟨o1,o2⟩,o3⟩,o4⟩,o5⟩,o6⟩:=b;obtain⟨J,z,h⟩:=h;refine Vw (l:=ord.map λu=>(u.1,u.2,L.getD u.1 default)) T hn g (yg B) rfl o1 o2 o3 ?_ (λu hu=>?_) ?_ (by simp) h (z _ _ _ g hr) (λa w ⟨d,f,j⟩=>⟨.normal,d,rfl,f,j⟩) (λA a w ⟨r,d,f,j⟩=>⟨.pan,d,⟨A,r,rfl⟩,f,j⟩) λhk A a w ⟨r,d,j⟩=>⟨.pan,d,⟨A,r,rfl⟩,hk d,j⟩;·rw[List.map_map];have:((λu:Nat×Bool×SOper=>(u.1,u.2.1))∘λu:Nat×Bool=>(u.1,u.2,L.getD u.1 default))=λu=>u:=rfl;rw[this,List.map_id'];omega
    all_goals grind
   simp only[AC.okB,Vx,Xv,TA,m_,decide_eq_true_eq]at b;obtain⟨J,z,h⟩:=h;exact YR T hn g (yg B) rfl b.1.1 b.1.2 b.2 h (z _ _ _ g hr) (λa w ⟨d,f,j⟩=>⟨.normal,d,rfl,f,j⟩) (λA a w ⟨r,d,f,j⟩=>⟨.pan,d,⟨A,r,rfl⟩,f,j⟩)
 |seq p q v C=>intro x Q st a w hc b h hr;simp only[cp,b_,c_]at hc;obtain⟨R,f,x2,j,hc⟩:=hc;obtain⟨Y,y2,rfl,rfl,rfl⟩:=zhd hc;simp only[AC.okB,m_]at b;refine wp_seq (wp_mono (v _ _ st a w f b.1 h hr) λe a w H=>?_);have:=Rq g H;cases e<;>first|(obtain⟨d,E,F⟩:=this;exact C _ _ d a w j b.2 E F)|exact this
 |cond cc p q v C=>intro x Q st a w hc b h hr;simp only[cp,b_,c_]at hc;obtain⟨R,f,x2,j,hc⟩:=hc;obtain⟨Y,y2,rfl,rfl,rfl⟩:=zfL hc;simp only[AC.okB,m_]at b;obtain⟨J,z,av,N,hv⟩:=h;have O:=z _ _ _ g hr;obtain⟨θ,D,M⟩:=O;obtain⟨t,ht,E,F⟩:=dq (M.get N) hv;exact wp_cond_split ht (λe=>v _ _ J a w f b.1 (E e) ⟨θ,D,M⟩) (λe=>C _ _ J a w j b.2 (F e) ⟨θ,D,M⟩)
 |block id p v=>intro x Q st a w hc b h hr;simp only[cp,c_]at hc;obtain⟨R,f,hc⟩:=hc;obtain⟨Y,rfl,rfl⟩:=zdu hc;exact wp_block (wp_mono (v _ _ st a w f b h hr) λe a w H=>YM H)
 |loop p v=>
  intro x Q st a w hc b h hr;simp only[cp,c_]at hc;obtain⟨R,f,hc⟩:=hc;obtain⟨y,rfl,rfl⟩:=zfO hc;obtain⟨s0,hw,U,h⟩:=h;have key:∀(I:Nat) (s:St) (a:Act) (w:World),U5 m (UA P m y) Q I s->Rel c s a w->Code.rounds P p (zcb c Q) I a w:=by intro I;induction I with|zero=>intro s a w h _;exact h.elim|succ I ih=>intro s a w h hr;rw[rounds_succ];refine wp_mono (v _ _ s a w f b h hr) λe a w H=>?_;have:=Rq g H;cases e<;>first|(obtain⟨d,E,F⟩:=this;exact ih d a w E F)|exact this
  exact wp_loop_rounds U (key U s0 a w h (hw _ _ _ g hr))
 |exit id=>intro x Q st a w hc b h hr;simp only[cp,g_]at hc;cases zfN hc;obtain⟨s',f,j⟩:=h;exact wp_exit ⟨.exit id,s',rfl,j,f _ _ _ g hr⟩
 |ret=>intro x Q st a w hc b h hr;simp only[cp,g_]at hc;cases zhc hc;obtain⟨s',f,j⟩:=h;exact wp_ret ⟨.ret,s',rfl,j,f _ _ _ g hr⟩
 |rangeFunc=>intro x Q st a w hc;cases hc|scope=>intro x Q st a w hc;cases hc|label=>intro x Q st a w hc;cases hc|goto=>intro x Q st a w hc;cases hc|refuse=>intro x Q st a w hc;cases hc
end
inductive RV where
 |tm (k:Nat)
 |cell (k sz:Nat) (ag:Bool)
def ra(P:Program):ResultVar->Option RV
 | .tmp t=>some (.tm t)
 | .cell a t=>(bZ P t).bind λs=>if(P.underlying t).isSome then some (.cell a s (mh P t))else none
def Qq(st:St):RV->Option AV
 | .tm k=>look st.fr k
 | .cell k sz ag=>(look st.fr k).bind fun
  | .b (.ptr id off)=>match st.hp[id]? with
   |some (.box _ cs)=>if off+sz<=cs.length/\(ag=false->sz=1)then some (tG ag ((cs.drop off).take sz))else none
   |_=>none
  |_=>none
def RB:List AV->AV->Prop
 |[x],r=>r=x
 |xs,r=>∃a:List BV,r= .tup a/\a.length=xs.length/\∀(i:Nat) (x:AV) (b:BV),xs[i]? =some x->a[i]? =some b->x= .b b\/∃p,x.toPV=some p/\b= .pv p
def DN:Nat->List AV->List (Nat×AV)
 |_,[]=>[]
 |k,p::a=>(k,p)::DN (k+1) a
theorem Hk:∀(a:List AV) (k t:Nat) (x:AV),look (DN k a) t=some x->∃i,t=k+i/\a[i]? =some x
 |[],k,t,x,h=>by cases h
 |p::a,k,t,x,h=>by
  simp only[DN,look]at h;split at h;·rename_i b;cases h;exact⟨0,by omega,rfl⟩
  ·obtain⟨i,b,c⟩:=Hk a (k+1) t x h;exact⟨i+1,by omega,by grind⟩
def La(m:Nat)(c:List RV)(K:MV->Prop):AE->St->Prop
 | .exit _,_=>False
 | .pan,_=>K none
 |_,st=>W m (λst=>∃xs r,c.mapM (Qq st)=some xs/\RB xs r/\∃b a,(∀T,Weak m ⟨[(T,r)],st.hp⟩ ⟨[(T,b)],a⟩)/\K (some (b,a))/\m<=a.length) st
def ze3(tmps:Array Value)(r:ResultVar):Sem Value:=match r with
 | .tmp t=>pure (tmps.getD t undef)
 | .cell b t=>do loadVar t (<-asAddr (tmps.getD b undef))
theorem Oj(fn:Func)(tmps:Array Value):results fn tmps=(do let vs<-fn.results.mapM (ze3 tmps);pure (if h:vs.size=1 then vs[0]else .tuple vs)):=rfl
theorem WT{P:Program}{c:Ctx}{θ:List Loc}{D:Nat->Prop}{st:St}{a:Act}{w:World}(n:Inv c θ D st a w){r:ResultVar}{z:RV}{x:AV}(hc:ra P r=some z)(hr:Qq st z=some x): ∃u,(ze3 a.tmps r).run P w= .ok u w/\RelA θ D w u x:=by
 cases r with
 |tmp t=>simp only[ra,g_]at hc;subst hc;exact⟨_,rfl,n.fr t x hr⟩|cell b t=>
  simp only[ra,b_]at hc;obtain⟨s,hs,hc⟩:=hc;split at hc
  ·rename_i hd;obtain⟨d,hd⟩:=r_.1 hd;cases hc;simp only[Qq,b_]at hr;obtain⟨y,H,hr⟩:=hr;split at hr
   ·rename_i id off;split at hr
    ·rename_i I cs F;split at hr
     ·rename_i f;cases hr;obtain⟨p,e⟩:=f;obtain⟨g,hg,E⟩:=n.fr b _ H;obtain⟨l,A,B,C⟩:=n.ok.objs id _ _ hg F;have h:off+s<=l.size:=by omega
      have k:=Lh (P:=P) (w:=w) (b:=g) (o:=off) hd hs (l.extract off (off+s)).toList (by grind) e (λj v J=>by rw[cell_of_row w g _ l I (0,0) A];grind)
      rw[yn _ _ _ _ e h]at k;refine⟨_,?_,wc B C p e⟩;simp only[ze3,E,asAddr,Sem.run_bind,Sem.run_pure,Result.andThen_ok,k]
     grind
    grind
   grind
  grind
theorem WO{θ:List Loc}{D:Nat->Prop}{w:World}{a:List Value}{xs:List AV}{r:AV}(hl:a.length=xs.length)(h:∀(i:Nat) (u:Value) (x:AV),a[i]? =some u->xs[i]? =some x->RelA θ D w u x)(hr:RB xs r): RelA θ D w (if h:a.toArray.size=1 then a.toArray[0]else .tuple a.toArray) r:=by
 have c:xs.length≠1->(∃e:List BV,r= .tup e/\e.length=xs.length/\∀(i:Nat) (x:AV) (b:BV),xs[i]? =some x->e[i]? =some b->x= .b b\/∃p,x.toPV=some p/\b= .pv p)->RelA θ D w (if h:a.toArray.size=1 then a.toArray[0]else .tuple a.toArray) r:=by
  rintro s ⟨e,rfl,f,g⟩;rw[dif_neg (by simp;omega)];refine⟨_,rfl,by simp;omega,λi u b n j=>?_⟩;obtain⟨x,k⟩:=bA (l:=xs) f.symm j;have d:=h i u x (by simpa using n) k;rcases g i x b k j with rfl|⟨p,hp,rfl⟩;·exact d
  ·exact db d hp
 match xs,hl,h,hr with
 |[x],hl,h,hr=>
  simp only[RB]at hr
  subst hr
  match a,hl,h with|[u],_,h=>exact h 0 u r rfl rfl
 |[],_,_,hr=>exact c (by simp) hr|x::y::l,_,_,hr=>exact c (by simp) hr
theorem zbZ{P:Program}{f:FuncId}{fn:Func}{code:Code}{x:AC}{Y:List RV}{xs:List AV}{os:List AObj}{K:MV->Prop}(hm:P.follows .mixedOrders=true)(hf:P.funcs[f]? =some fn)(hb:fn.body=some code)(hc:cp P fn.ntmps code=some x.canon)(qr:x.okB=true) (N:fn.results.toList.mapM (ra P)=some Y) (DE:xs.length<=fn.ntmps) (h:UA P os.length x (La os.length Y K) ⟨DN 0 xs,os⟩):ACalls P f xs os K:=by
 intro w θ D vs hG d Bx BT;have j:θ.length=os.length:=d.len;have hO:∀b,D b->¬owns θ b:=λb hb ⟨i,l,E,hl⟩=>(d.olt i l b E hl).2 hb;refine calls_of_wp hf hb (wp_mono (EV hm (m:=os.length) (c:=⟨fn.ntmps,w,D,owns θ,[],θ,λw' z=>?_⟩) rfl (by simp[j]) code x _ ⟨DN 0 xs,os⟩ {tmps:=vs.toArray++u_ (fn.ntmps - vs.toArray.size) undef,defers:=[]} w hc qr h ?_) λe a w' M=>?_);·exact hG.mono z hO λ_ h=>h
 ·refine⟨θ,D,by simp;omega,rfl,d,Keep.refl _ _,λ_ h=>h,λ_ h=>.inl h,λi l g E hg=>.inl ⟨i,l,E,hg⟩,λk y z=>?_,λ_ _ h _=>h⟩;obtain⟨i,rfl,hp⟩:=Hk xs 0 k y z;have E:i<vs.length:=by rw[Bx];exact(a_.1 hp).1
  have hv:=d_ E;have:(vs.toArray++u_ (fn.ntmps - vs.toArray.size) undef).getD (0+i) undef=vs[i]:=by simp[ar_,E]
  rw[this];exact BT i _ y hv hp
 ·obtain⟨e',st,M,B,hr⟩:=M;have I:(∀st,La os.length Y K .normal st->True)->W os.length (λst=>∃xs r,Y.mapM (Qq st)=some xs/\RB xs r/\∃F s,(∀T,Weak os.length ⟨[(T,r)],st.hp⟩ ⟨[(T,F)],s⟩)/\K (some (F,s))/\os.length<=s.length) st->a.defers=[]/\∃v,(results fn a.tmps).run P w'= .ok v w'/\Back θ D w K (.returned v) w':=by
   rintro _ ⟨DB,hw,ys,r,CT,O,F,s,CD,hK,ph⟩
   obtain⟨θ',D',n⟩:=hw _ _ _ (by simp[j]) hr
   refine⟨n.defers,?_⟩
   have H:∀(l:List ResultVar) (U:List RV) (pl:List AV),l.mapM (ra P)=some U->U.mapM (Qq DB)=some pl->∃p:List Value,(l.mapM (ze3 a.tmps)).run P w'= .ok p w'/\p.length=pl.length/\∀(i:Nat) (u:Value) (q:AV),p[i]? =some u->pl[i]? =some q->RelA θ' D' w' u q:=by
    intro l;induction l with
    |nil=>intro U pl J L;simp at J;subst J;simp at L;subst L;exact⟨[],rfl,rfl,λi u q R=>by simp at R⟩|cons r l ih=>
     intro U pl J L;simp only[B_,H_,Q_,b_,g_]at J;obtain⟨rv,Bk,DA,At,rfl⟩:=J;simp only[B_,H_,Q_,b_,g_]at L;obtain⟨q0,ur,Dg,rg,rfl⟩:=L;obtain⟨u0,e1,e2⟩:=WT n Bk ur;obtain⟨p,e3,e4,e5⟩:=ih DA Dg At rg;refine⟨u0::p,?_,by simp[e4],λi u q R B=>?_⟩;·rw[B_,Sem.run_bind,e1];simp only[Result.andThen_ok,Sem.run_bind,e3,Sem.run_pure]
     ·cases i with|zero=>simp at R B;subst R;subst B;exact e2|succ i=>exact e5 i u q (by simpa using R) (by simpa using B)
   obtain⟨p,e1,e2,e3⟩:=H _ _ _ N CT
   have C:(results fn a.tmps).run P w'= .ok (if h:p.toArray.size=1 then p.toArray[0]else .tuple p.toArray) w':=by rw[Oj,ag_];simp only[Sem.run_bind,Sem.run_map];rw[e1];rfl
   have Q:=WO e2 e3 O
   generalize hv:(if h:p.toArray.size=1 then p.toArray[0]else .tuple p.toArray)=v at C Q
   have hsz:a.tmps.size=fn.ntmps:=n.size
   obtain⟨θ2,D2,A⟩:=CD fn.ntmps ⟨fn.ntmps+1,w,D,owns θ,[],θ,λw' z=>hG.mono z hO λ_ h=>h⟩ {tmps:=a.tmps.push v,defers:=[]} w' (by simp[j])
    ⟨θ',D',by simp[hsz],rfl,n.ok,n.keep,n.dsub,n.dnew,n.onew,(λk y z=>by
     simp only[look]at z;split at z
     ·rename_i gc;cases z;subst gc;have:(a.tmps.push v).getD fn.ntmps undef=v:=by rw[<-hsz];simp[ae_]
      rw[this];exact Q
     ·cases z),n.fix⟩
   have wr:RelA θ2 D2 w' v F:=by
    have:=A.fr fn.ntmps F (by simp[look]);have e:(a.tmps.push v).getD fn.ntmps undef=v:=by rw[<-hsz];simp[ae_]
    rw[e]at this;exact this
   exact⟨_,C,.inl ⟨_,F,s,θ2,D2,rfl,hK,wr,A.ok,A.keep,A.dsub,A.dnew,A.onew,A.fix,by rw[A.ok.len,j];exact ph⟩⟩
  cases e' with|normal=>cases M;exact I (λ_ _=>trivial) B|ret=>cases M;exact I (λ_ _=>trivial) B|exit i=>exact B.elim|pan=>obtain⟨ch,el,rfl⟩:=M;obtain⟨θ',D',n⟩:=hr;exact⟨n.defers,.inr ⟨ch,el,rfl,B,n.keep⟩⟩
def Loc.like(l l':Loc):Prop:=l'=l\/∃g n cap sz O z,l= .hdr g n cap sz O/\l'= .hdr g n cap sz z
section
variable {θ θ':List Loc} {D:Nat->Prop} {w:World}
theorem RelB.like(J:∀(k:Nat) (l:Loc),θ[k]? =some l->∃l',θ'[k]? =some l'/\l.like l'){v:Value}{x:BV}(h:RelB θ D w v x):RelB θ' D w v x:=by
 have E:∀(k:Nat) (l:Loc),θ[k]? =some l->l.fixed=true->θ'[k]? =some l:=λk l hl hf=>by
  obtain⟨l',H,z|⟨g,n,cap,sz,O,U,rfl,rfl⟩⟩:=J k l hl;·grind
  ·cases hf
 cases x with
 |pv p=>exact h|nils=>exact h|sl k=>
  obtain⟨l,H,z⟩:=h;obtain⟨l',I,rfl|⟨g,n,cap,sz,O,U,rfl,rfl⟩⟩:=J k l H;·exact⟨l',I,z⟩
  ·exact⟨_,I,z⟩
 |ptr k off=>obtain⟨g,H,z⟩:=h;exact⟨g,E _ _ H rfl,z⟩
 |elt k i off=>
  obtain⟨g,n,cap,sz,O,H,z⟩:=h;obtain⟨l',I,rfl|⟨g',n',R,el,O1,Y,N,rfl⟩⟩:=J k _ H;·exact⟨g,n,cap,sz,O,I,z⟩
  ·cases N;exact⟨g,n,cap,sz,Y,I,z⟩
 |clo f ids=>obtain⟨gs,H,z,I⟩:=h;exact⟨gs,H,λk id g N e2=>E _ _ (z k id g N e2) rfl,I⟩
 |mp k=>obtain⟨g,H,z⟩:=h;exact⟨g,E _ _ H rfl,z⟩
 |full p=>exact h|ifc=>exact h
theorem RelA.like(z:∀(k:Nat) (l:Loc),θ[k]? =some l->∃l',θ'[k]? =some l'/\l.like l'){v:Value}{x:AV}(h:RelA θ D w v x):RelA θ' D w v x:=by
 cases x with
 |b x=>exact RelB.like z h|agg xs=>obtain⟨vs,J,E,H⟩:=h;exact⟨vs,J,E,λi u x I N=>(H i u x I N).like z⟩
 |tup xs=>obtain⟨vs,J,E,H⟩:=h;exact⟨vs,J,E,λi u x I N=>(H i u x I N).like z⟩
theorem RelO.like(z:∀(k:Nat) (l:Loc),θ[k]? =some l->∃l',θ'[k]? =some l'/\l.like l'){l:Loc}{o:AObj}(h:RelO θ D w l o):RelO θ' D w l o:=by
 cases l<;>cases o<;>simp only[RelO]at h⊢<;>try exact h
 case blk.box=>obtain⟨c,E,J,N⟩:=h;exact⟨c,E,J,λi u x hu R=>(N i u x hu R).like z⟩
 case hdr.tree hole=>obtain⟨E,J,N,h4,h5,c,Os,h6,h7,h8,h9,I,H⟩:=h;refine⟨E,J,N,h4,h5,c,Os,h6,h7,h8,h9,I,λi j x y R hy=>?_⟩;obtain⟨u,Y,U⟩:=H i j x y R hy;refine⟨u,Y,?_⟩;cases hq:ei hole i j with|none=>grind|some b=>rw[hq]at U;exact U.like z
end
theorem SF:∀{k:K},k.allF=true->∀j,k.at j=none
 | .e,_,_=>rfl
 | .f _,_,0=>rfl
 | .f r,h,j+1=>SF (k:=r) h j
 | .s _ _ _ _,h,_=>by cases h
def rD(q:TypeId×Nat×K)(L:List PV):AObj:=if q.2.2.allF then .vec q.1 q.2.1 L else .tree q.1 q.2.1 q.2.2 L none
theorem RelT.inner{D:Nat->Prop}{w:World}{q:TypeId×Nat×K}{O:Nat->Prop}{v:Value}{p:PV}{L:List PV}(h:RelT D w (some q) O v p)(hp:p=p5 q.2.1 L): ∃l:Loc,l.head v/\(∀b,l.has b->O b)/\l.fixed=false/\∀θ,RelO θ D w l (rD q L):=by
 cases h with
 |nil q O a=>
  have:L=[]:=by cases L with|nil=>rfl|cons x L=>simp[p5]at hp
  subst this;refine⟨.nil a,rfl,λ_ h=>h.elim,rfl,λθ=>?_⟩;unfold rD;split;·rfl
  ·exact⟨rfl,rfl⟩
 |hdr e sz k O g cap xs p cs val Os J hcap hmax hsz hg hcs I hOs hdj hc hr=>
  have:xs=L:=zbj (J.symm.trans hp);subst this;refine⟨.hdr g xs.length cap sz (λb=>O b/\b≠g),rfl,λb H=>H.elim (λe=>e▸I) λh=>h.1,rfl,λθ=>?_⟩;unfold rD;split;·rename_i N;refine⟨rfl,rfl,hcap,hmax,hsz,cs,hg,hcs,λi j x y z E=>⟨val i j,hc i j x y z E,?_⟩⟩;have:=hr i j x y z E;rw[SF N j]at this;cases this with|flat _ _ _ h=>omega
  ·exact⟨rfl,rfl,hcap,hmax,hsz,cs,Os,hg,hcs,λi j b H=>⟨hOs i j b H,(hOs i j b H).2⟩,hdj,λ_ _ _ h=>(nomatch h),λi j x y z E=>⟨val i j,hc i j x y z E,hr i j x y z E⟩⟩
theorem zaX{α β:Type} [Inhabited α]{p:Nat->Nat->α->Prop}{q:Nat->Nat->β->Prop}(h:∀i j y,q i j y->∃u,p i j u):∃f:Nat->Nat->α,∀i j y,q i j y->p i j (f i j):=by refine⟨λi j=>aY_ (p i j),λi j y a=>?_⟩;exact aU_ (h i j y a)
theorem RelT.outer{θ:List Loc}{D:Nat->Prop}{w:World}{q:TypeId×Nat×K}{L:List PV}{l:Loc}{v:Value}(hl:l.head v)(h:RelO θ D w l (rD q L)):RelT D w (some q) l.has v (p5 q.2.1 L):=by
 unfold rD at h;split at h
 ·rename_i hk;cases l<;>simp only[RelO,Loc.head]at h hl;·subst h;subst hl;exact .nil _ _ _
  ·rename_i g n cap s O;obtain⟨rfl,rfl,R,U,Y,cs,h6,h7,h8⟩:=h;subst hl;obtain⟨val,E⟩:=zaX (α:=Value) (β:=PV×PV) (p:=λi j u=>∀x y,L[i]? =some x->x.cells[j]? =some y->cs[i*q.2.1+j]? =some u/\RelP D w u y) (q:=λi j z=>L[i]? =some z.1/\z.1.cells[j]? =some z.2) (λi j z J=>by obtain⟨u,e1,e2⟩:=h8 i j _ _ J.1 J.2;exact⟨u,λx y H I=>by grind⟩)
   exact .hdr q.1 q.2.1 q.2.2 _ g cap L _ cs val (λ_ _ _=>False) rfl R U Y h6 h7 (.inl rfl) (λ_ _ _ h=>h.elim) (λ_ _ _ _ _ h _=>h.elim) (λi j x y H I=>(E i j (x,y) ⟨H,I⟩ x y H I).1) λi j x y H I=>by rw[SF hk j];exact .flat _ _ _ (E i j (x,y) ⟨H,I⟩ x y H I).2
 ·cases l<;>simp only[RelO,Loc.head]at h hl;·obtain⟨rfl,-⟩:=h;subst hl;exact .nil _ _ _
  ·rename_i g n cap s O;obtain⟨rfl,rfl,R,U,Y,cs,Os,h6,h7,h9,N,-,h8⟩:=h;subst hl;obtain⟨val,E⟩:=zaX (α:=Value) (β:=PV×PV) (p:=λi j u=>∀x y,L[i]? =some x->x.cells[j]? =some y->cs[i*q.2.1+j]? =some u/\RelT D w (q.2.2.at j) (Os i j) u y) (q:=λi j z=>L[i]? =some z.1/\z.1.cells[j]? =some z.2) (λi j z J=>by obtain⟨u,e1,e2⟩:=h8 i j _ _ J.1 J.2;exact⟨u,λx y H I=>by rw[J.1]at H;cases H;rw[J.2]at I;cases I;exact⟨e1,e2⟩⟩)
   exact .hdr q.1 q.2.1 q.2.2 _ g cap L _ cs val Os rfl R U Y h6 h7 (.inl rfl) (λi j b h=>⟨.inr (h9 i j b h).1,(h9 i j b h).2⟩) N (λi j x y H I=>(E i j (x,y) ⟨H,I⟩ x y H I).1) λi j x y H I=>(E i j (x,y) ⟨H,I⟩ x y H I).2
theorem zaI{m:Nat}{st:St}{id i j e sz:Nat}{k:K}{xs:List PV}{x y:PV}{q:TypeId×Nat×K}{L:List PV}(ho:st.hp[id]? =some (.tree e sz k xs none))(hx:xs[i]? =some x)(hy:x.cells[j]? =some y)(hk:k.at j=some q)(hL:y=p5 q.2.1 L): Weak m st ⟨st.fr,st.hp.set id (.tree e sz k xs (some (i,j,.sl st.hp.length)))++[rD q L]⟩:=by
 rintro c a w _ ⟨θ,D,A⟩;have F:id<st.hp.length:=(a_.1 ho).1;have Bk:id<θ.length:=by rw[A.ok.len];exact F
 obtain⟨l,hl⟩:∃l,θ[id]? =some l:=⟨θ[id],d_ Bk⟩;have gc:=A.ok.objs id l _ hl ho;cases l<;>simp only[RelO]at gc;·rw[gc.1]at hx;simp at hx
 rename_i g n cap s O;obtain⟨rfl,rfl,h3,h4,h5,cv,Os,h6,h7,h8,h9,-,qr⟩:=gc;obtain⟨u,DB,ph⟩:=qr i j x y hx hy;simp only[ei]at ph;rw[hk]at ph;obtain⟨li,wr,T,DM,At⟩:=ph.inner hL;let O1:Nat->Prop:=λb=>O b/\¬Os i j b;let l1:Loc:=.hdr g xs.length cap s O1;let θ':=θ.set id l1++[li];have R:(θ.set id l1).length=st.hp.length:=by simp[A.ok.len]
 have E:∀(k:Nat) (l:Loc),θ[k]? =some l->∃l',θ'[k]? =some l'/\l.like l':=λk l N=>by
  have ur:k<(θ.set id l1).length:=by simp;exact(a_.1 N).1
  by_cases rg:k=id;·subst rg;rw[hl]at N;cases N;exact⟨l1,by show(θ.set k l1++[li])[k]? =_;rw[j_ ur,p_ Bk],.inr ⟨g,xs.length,cap,s,O,O1,rfl,rfl⟩⟩
  ·exact⟨l,by show(θ.set id l1++[li])[k]? =_;rw[j_ ur,i_ (Ne.symm rg)];exact N,.inl rfl⟩
 have C:∀(p:Nat) (v:Loc),θ'[p]? =some v->(p≠id/\θ[p]? =some v)\/(p=id/\v=l1)\/(p=st.hp.length/\v=li):=λp v hp=>by rcases C_ p (θ.set id l1).length with H|H;all_goals grind
 have B:∀(p:Nat) (v:Loc) (b:Nat),θ'[p]? =some v->v.has b->∃P U,θ[P]? =some U/\U.has b/\((p≠id/\p<st.hp.length/\P=p)\/(P=id/\((p=id/\¬Os i j b)\/(p=st.hp.length/\Os i j b)))):=λp v b hp f=>by
  rcases C p v hp with⟨H,h2⟩|⟨rfl,rfl⟩|⟨rfl,rfl⟩;·exact⟨p,v,h2,f,.inl ⟨H,by rw[<-A.ok.len];exact(a_.1 h2).1,rfl⟩⟩
  ·refine⟨_,_,hl,f.imp (λh=>h) λh=>h.1,.inr ⟨rfl,.inl ⟨rfl,λh=>?_⟩⟩⟩;rcases f with rfl|f;·exact(h8 i j _ h).2 rfl
   ·exact f.2 h
  ·exact⟨_,_,hl,.inr (h8 i j b (T b f)).1,.inr ⟨rfl,.inr ⟨rfl,T b f⟩⟩⟩
 refine⟨θ',D,A.size,A.defers,⟨?_,A.ok.dlt,λp r v lr b hp hr CT Dg=>?_,λp v b hp f=>?_,λp v o hp el=>?_⟩,A.keep,A.dsub,A.dnew,λp v b hp f=>?_,λt z hz=>(A.fr t z hz).like E,λt lt ht hf=>?_⟩;·simp[θ',A.ok.len]
 ·obtain⟨P,U,J,Q,e3⟩:=B p v b hp CT;obtain⟨r0,m0,f1,f2,f3⟩:=B r lr b hr Dg;have:=A.ok.inj P r0 U m0 b J f1 Q f2;grind
 ·obtain⟨P,U,J,Q,_⟩:=B p v b hp f;exact A.ok.olt P U b J Q
 ·have M:(st.hp.set id (.tree e s k xs (some (i,j,.sl st.hp.length)))).length=st.hp.length:=by simp
  rcases C p v hp with⟨H,h2⟩|⟨rfl,rfl⟩|⟨rfl,rfl⟩
  ·have DA:p<st.hp.length:=by rw[<-A.ok.len];exact(a_.1 h2).1
   have d:(st.hp.set id (.tree e s k xs (some (i,j,.sl st.hp.length))))[p]? =some o:=by rw[<-el];exact(j_ (by rw[M];exact DA)).symm
   rw[i_ (Ne.symm H)]at d;exact(A.ok.objs p v o h2 d).like E
  ·have d:(st.hp.set p (.tree e s k xs (some (i,j,.sl st.hp.length))))[p]? =some o:=by rw[<-el];exact(j_ (by rw[M];exact F)).symm
   rw[p_ F]at d;cases d;refine⟨rfl,rfl,h3,h4,h5,cv,λi' I b=>Os i' I b/\¬(i'=i/\I=j),h6,h7,λi' I b f=>⟨⟨(h8 i' I b f.1).1,λh=>f.2 (h9 i' I i j b f.1 h)⟩,(h8 i' I b f.1).2⟩,λi1 j1 i2 j2 b BT CD=>h9 i1 j1 i2 j2 b BT.1 CD.1,λi' I b f=>by cases f;exact⟨(a_.1 hx).1,by rw[hk];rfl⟩,λi' I x' y' DE DH=>?_⟩
   obtain⟨u',J,Q⟩:=qr i' I x' y' DE DH;refine⟨u',J,?_⟩;by_cases Y:i=i'/\j=I;·obtain⟨rfl,rfl⟩:=Y;simp only[ei,and_self,if_true];rw[DB]at J;cases J;exact⟨li,by show(θ.set p l1++[li])[st.hp.length]? =_;rw[n_ (by rw[R];omega),R];simp,wr⟩
   ·simp only[ei,if_neg Y];simp only[ei]at Q;refine Q.mono (λ_ h=>h) (λ_ _=>rfl) (λ_ _=>rfl) |>.wide λb f=>⟨f,λh=>Y ⟨h.1.symm,h.2.symm⟩⟩
  ·have d:([rD q L]:List AObj)[st.hp.length - (st.hp.set id (.tree e s k xs (some (i,j,.sl st.hp.length)))).length]? =some o:=by rw[<-el];exact(n_ (by rw[M];omega)).symm
   rw[M,aH_]at d;cases d;exact At _
 ·obtain⟨P,U,J,Q,_⟩:=B p v b hp f;exact A.onew P U b J Q
 ·have H:=A.fix t lt ht hf;by_cases Bx:t=id;·subst Bx;rw[hl]at H;cases H;cases hf
  ·show(θ.set id l1++[li])[t]? =_;rw[j_ (by simp;exact(a_.1 H).1),i_ (Ne.symm Bx)];exact H
def PV.setc(x:PV)(j:Nat)(y:PV):PV:=match x with
 | .agg cs=>.agg (cs.set j y)
 |_=>y
theorem Hv{x y:PV}{j:Nat}(a:j<x.cells.length)(b:y.cells=[y]):(x.setc j y).cells=x.cells.set j y:=by
 cases x with
 |agg cs=>rfl|_=>
  simp only[PV.cells,A_,L_]at a;obtain rfl:j=0:=by omega
  exact b
theorem Kd(sz:Nat)(L:List PV):(p5 sz L).cells=[p5 sz L]:=by cases L<;>rfl
theorem zaH{m:Nat}{st:St}{id kid i j e sz:Nat}{k:K}{xs:List PV}{x:PV}{q:TypeId×Nat×K}{L:List PV}(ho:st.hp[id]? =some (.tree e sz k xs (some (i,j,.sl kid))))(hx:xs[i]? =some x)(hj:j<x.cells.length)(hk:k.at j=some q)(qr:st.hp[kid]? =some (rD q L))(CT:kid≠id): Weak m st ⟨st.fr.map λx=>(x.1,x.2.kill kid),((st.hp.map (AObj.kill kid)).set kid .gone).set id (.tree e sz k (xs.set i (x.setc j (p5 q.2.1 L))) none)⟩:=by
 rintro c a w _ ⟨θ,D,A⟩;have ur:id<st.hp.length:=(a_.1 ho).1;have Q:kid<st.hp.length:=(a_.1 qr).1;have JT:id<θ.length:=by rw[A.ok.len];exact ur
 have DB:kid<θ.length:=by rw[A.ok.len];exact Q
 obtain⟨l,hl⟩:∃l,θ[id]? =some l:=⟨θ[id],d_ JT⟩;obtain⟨l2,B⟩:∃l,θ[kid]? =some l:=⟨θ[kid],d_ DB⟩;have Dg:=A.ok.objs id l _ hl ho;have E:=A.ok.objs kid l2 _ B qr;cases l<;>simp only[RelO]at Dg;·cases Dg.2
 rename_i g n cap s O;obtain⟨rfl,rfl,h3,h4,h5,cv,Os,h6,h7,h8,h9,Nd,At⟩:=Dg;have hi:i<xs.length:=(a_.1 hx).1;obtain⟨u,MT,Fm⟩:=At i j x _ hx (d_ hj);simp only[ei,and_self,if_true]at Fm;obtain⟨Pa,rg,BT⟩:=Fm;rw[B]at rg;cases rg;have DQ:=RelT.outer BT E;have P:l2.fixed=false:=by unfold rD at E;split at E<;>cases l2<;>simp only[RelO]at E<;>rfl
 have DM:∀g,l2≠.blk g:=λg e=>by subst e;cases P
 have DP:∀g,l2≠.mp g:=λg e=>by subst e;cases P
 let O1:Nat->Prop:=λb=>O b\/l2.has b;let l1:Loc:=.hdr g xs.length cap s O1;let H:=θ.set kid .no;let θ':=H.set id l1;have DE:H[id]? =some (.hdr g xs.length cap s O):=by show(θ.set kid .no)[id]? =_;rw[i_ CT];exact hl
 have DH:id<H.length:=(a_.1 DE).1;have R:∀(k:Nat) (l:Loc),H[k]? =some l->∃l',θ'[k]? =some l'/\l.like l':=λk l CD=>by
  by_cases DA:k=id;·subst DA;rw[DE]at CD;cases CD;exact⟨l1,p_ DH,.inr ⟨g,xs.length,cap,s,O,O1,rfl,rfl⟩⟩
  ·exact⟨l,by show(H.set id l1)[k]? =_;rw[i_ (Ne.symm DA)];exact CD,.inl rfl⟩
 have M:∀(p:Nat) (v:Loc),θ'[p]? =some v->(p≠id/\p≠kid/\θ[p]? =some v)\/(p=id/\v=l1)\/(p=kid/\v= .no):=λp v hp=>by grind
 have C:∀(p:Nat) (v:Loc) (b:Nat),θ'[p]? =some v->v.has b->∃T l0,θ[T]? =some l0/\l0.has b/\((p≠id/\p≠kid/\T=p)\/(p=id/\(T=id\/T=kid))):=λp v b hp d=>by
  rcases M p v hp with⟨Y,wr,h2⟩|⟨rfl,rfl⟩|⟨rfl,rfl⟩;·exact⟨p,v,h2,d,.inl ⟨Y,wr,rfl⟩⟩
  ·rcases d with d|d|d;·exact⟨_,_,hl,.inl d,.inr ⟨rfl,.inl rfl⟩⟩
   ·exact⟨_,_,hl,.inr d,.inr ⟨rfl,.inl rfl⟩⟩
   ·exact⟨_,_,B,d,.inr ⟨rfl,.inr rfl⟩⟩
  ·exact d.elim
 refine⟨θ',D,A.size,A.defers,⟨?_,A.ok.dlt,λp r v lr b hp hr Hx In=>?_,λp v b hp d=>?_,λp v o hp KK=>?_⟩,A.keep,A.dsub,A.dnew,λp v b hp d=>?_,λt z hz=>?_,λt lt ht hf=>?_⟩;·simp[θ',H,A.ok.len]
 ·obtain⟨T,l0,U,J,e3⟩:=C p v b hp Hx;obtain⟨r0,m0,f1,f2,f3⟩:=C r lr b hr In;have:=A.ok.inj T r0 l0 m0 b U f1 J f2;omega
 ·obtain⟨T,l0,U,J,_⟩:=C p v b hp d;exact A.ok.olt T l0 b U J
 ·have f:(((st.hp.map (AObj.kill kid)).set kid .gone).set id (.tree e s k (xs.set i (x.setc j (p5 q.2.1 L))) none))[p]? =some o:=KK;rcases M p v hp with⟨Y,wr,h2⟩|⟨rfl,rfl⟩|⟨rfl,rfl⟩;·rw[i_ (Ne.symm Y),i_ (Ne.symm wr),T_]at f;obtain⟨o0,Bk,rfl⟩:=c_.1 f;exact((A.ok.objs p v o0 h2 Bk).kill B DM DP).like R
  ·rw[p_ (by simp;exact ur)]at f;cases f;have N:∀b,l2.has b->¬(b=g\/O b):=λb d Bx=>CT (A.ok.inj kid p l2 _ b B hl d Bx);refine⟨rfl,by simp,h3,h4,λy hy=>?_,cv,λi' I b=>(i'=i/\I=j/\l2.has b)\/(¬(i'=i/\I=j)/\Os i' I b),h6,h7,λi' I b d=>?_,λi1 j1 i2 j2 b GS Bx=>?_,λ_ _ _ h=>(nomatch h),λi' I x' y' ph F=>?_⟩
   ·rcases List.mem_or_eq_of_mem_set hy with h|h;·exact h5 y h
    ·subst h;rw[Hv hj (Kd _ _),ap_];exact h5 x (h_ hx)
   ·rcases d with⟨_,_,d⟩|⟨_,d⟩;·exact⟨.inr d,λe=>N b d (.inl e)⟩
    ·exact⟨.inl (h8 i' I b d).1,(h8 i' I b d).2⟩
   ·rcases GS with⟨a1,a2,a3⟩|⟨a1,a2⟩<;>rcases Bx with⟨b1,b2,b3⟩|⟨b1,b2⟩;·exact⟨a1.trans b1.symm,a2.trans b2.symm⟩
    ·exact(N b a3 (.inr (h8 _ _ b b2).1)).elim
    ·exact(N b b3 (.inr (h8 _ _ b a2).1)).elim
    ·exact h9 _ _ _ _ b a2 b2
   ·simp only[ei];by_cases el:i'=i
    ·subst el;rw[p_ hi]at ph;cases ph;rw[Hv hj (Kd _ _)]at F;by_cases gc:I=j;·subst gc;rw[p_ hj]at F;cases F;exact⟨u,MT,by rw[hk];exact DQ.wide λb d=>.inl ⟨rfl,rfl,d⟩⟩
     ·rw[i_ (Ne.symm gc)]at F;obtain⟨u',U,J⟩:=At i' I x y' hx F;simp only[ei,true_and,if_neg (show ¬(j=I)from λh=>gc h.symm)]at J;exact⟨u',U,J.wide λb d=>.inr ⟨λh=>gc h.2,d⟩⟩
    ·rw[i_ (Ne.symm el)]at ph;obtain⟨u',U,J⟩:=At i' I x' y' ph F;simp only[ei,if_neg (show ¬(i=i'/\j=I)from λh=>el h.1.symm)]at J;exact⟨u',U,J.wide λb d=>.inr ⟨λh=>el h.1,d⟩⟩
  ·rw[i_ (Ne.symm CT),p_ (by simp;exact Q)]at f;cases f;trivial
 ·obtain⟨T,l0,U,J,_⟩:=C p v b hp d;exact A.onew T l0 b U J
 ·have Fr:look (st.fr.map λx=>(x.1,x.2.kill kid)) t=some z:=hz;rw[uf]at Fr;obtain⟨z0,Bk,rfl⟩:=c_.1 Fr;exact((A.fr t z0 Bk).kill B DM DP).like R
 ·have Y:=A.fix t lt ht hf;by_cases DS:t=id;·subst DS;rw[hl]at Y;cases Y;cases hf
  ·by_cases Fk:t=kid;·subst Fk;rw[B]at Y;cases Y;rw[P]at hf;cases hf
   ·show((θ.set kid .no).set id l1)[t]? =_;rw[i_ (Ne.symm DS),i_ (Ne.symm Fk)];exact Y
section
variable {P:Program}
theorem WQ{fn:Func}{rs:List RV}{K:MV->Prop}{w w':World}{D:Nat->Prop}{c:Ctx}{st:St}{a:Act}(hn:c.n=fn.ntmps)(hw:c.w0=w)(hD:c.D0=D)(hO:c.O0=owns []) (F:fn.results.toList.mapM (ra P)=some rs) (hr:Rel c st a w') {ys:List AV} {r J:AV} {s:List AObj} (ph:rs.mapM (Qq st)=some ys) (H:RB ys r) (gc:∀T,Weak 0 ⟨[(T,r)],st.hp⟩ ⟨[(T,J)],s⟩) (hK:K (some (J,s))): ∃v,(results fn a.tmps).run P w'= .ok v w'/\Back [] D w K (.returned v) w':=by
 obtain⟨θ',D',j⟩:=hr;have z:∀(l:List ResultVar) (L:List RV) (pl:List AV),l.mapM (ra P)=some L->L.mapM (Qq st)=some pl->∃b:List Value,(l.mapM (ze3 a.tmps)).run P w'= .ok b w'/\b.length=pl.length/\∀(i:Nat) (u:Value) (q:AV),b[i]? =some u->pl[i]? =some q->RelA θ' D' w' u q:=by
  intro l;induction l with
  |nil=>intro L pl A B;simp at A;subst A;simp at B;subst B;simp|cons r l ih=>
   intro L pl A B;simp only[B_,H_,Q_,b_,g_]at A;obtain⟨rv,el,rg,Y,rfl⟩:=A;simp only[B_,H_,Q_,b_,g_]at B;obtain⟨q0,R,qr,Q,rfl⟩:=B;obtain⟨u0,M,e2⟩:=WT j el R;obtain⟨b,N,e4,e5⟩:=ih rg qr Y Q;refine⟨u0::b,?_,by simp[e4],λi u q hu hq=>?_⟩;·rw[B_,Sem.run_bind,M];simp only[Result.andThen_ok,Sem.run_bind,N,Sem.run_pure]
   grind
 obtain⟨b,M,e2,N⟩:=z _ _ _ F ph;have g:(results fn a.tmps).run P w'= .ok (if h:b.toArray.size=1 then b.toArray[0]else .tuple b.toArray) w':=by rw[Oj,ag_];simp only[Sem.run_bind,Sem.run_map];rw[M];rfl
 have I:=WO e2 N H;generalize hv:(if h:b.toArray.size=1 then b.toArray[0]else .tuple b.toArray)=v at g I;have hsz:a.tmps.size=fn.ntmps:=by rw[<-hn];exact j.size
 have p:=c.gk;have d:=j.keep;have C:=j.dsub;have n:=j.dnew;have E:=j.onew;rw[hw,hO]at p d;rw[hD]at C n p;rw[hw,hO]at n E;obtain⟨θ2,D2,x⟩:=gc fn.ntmps ⟨fn.ntmps+1,w,D,owns [],[],[],p⟩ {tmps:=a.tmps.push v,defers:=[]} w' (by simp)
  ⟨θ',D',by simp[hsz],rfl,j.ok,d,C,n,E,(λk y f=>by
   simp only[look]at f;split at f
   ·rename_i O;cases f;subst O;have:(a.tmps.push v).getD fn.ntmps undef=v:=by rw[<-hsz];simp[ae_]
    rw[this];exact I
   ·cases f),λk l f=>by simp at f⟩
 have U:RelA θ2 D2 w' v J:=by
  have:=x.fr fn.ntmps J (by simp[look]);have e:(a.tmps.push v).getD fn.ntmps undef=v:=by rw[<-hsz];simp[ae_]
  rw[e]at this;exact this
 exact⟨_,g,.inl ⟨_,J,s,θ2,D2,rfl,hK,U,x.ok,x.keep,x.dsub,x.dnew,x.onew,λk l f=>by simp at f,Nat.zero_le _⟩⟩
structure Catch(P:Program)(h:FuncId)(CH:Code):Prop where
 ex:∃hn j t1 t2 p1 p2 a1 a2,P.funcs[h]? =some hn/\hn.ntmps=5/\hn.results= #[]/\
  hn.body=some (.seq (.region j #[⟨some 2,.call {callee:=.builtin .recover,args:= #[],argTypes:= #[]},t1,p1,a1,none⟩,⟨some 3,.binOp .neq t1 (.tmp 2) (.const .nilIface) t1,t2,p2,a2,none⟩] false) (.cond (.tmp 3) CH .skip))/\
  (∃ms,P.underlying t1=some (.interface ms))/\(hn.name== "runtime.NumGoroutine")=false
theorem Catch.idle{h:FuncId}{CH:Code}(hc:Catch P h CH)(U Y:Value)(w:World):CallsD P h #[U,Y] .returning w λe u' w'=>e= .returned (.tuple #[])/\u'= .returning/\w'=w:=by obtain⟨hn,j,t1,t2,p1,p2,a1,a2,N,E,I,J,⟨ms,H⟩,_⟩:=hc.ex;refine callsD_of_wpS N J λz cs R=>?_;apply wpS_seq;apply wpS_region;simp[wpOpsS,go_sem,recoverD,R,E,Exit.thenS,H];refine wpS_cond (t:=false) (by simp[Act.eval,u_]) ?_;simp only[q_,if_false];refine wpS_of_wp (wp_skip ?_);cases z;simp_all[bodyPostS,results]
theorem Catch.panicking{h:FuncId}{CH:Code}(hc:Catch P h CH)(Y pb:Value)(w:World)(t:TypeId)(v:Value){Post:World->Prop} (z:∀x y,CH.wp P (λe N w'=>(e= .normal\/e= .ret)/\N.defers=[]/\Post w') {tmps:= #[Y,pb,x,y,undef],defers:=[]} w): CallsD P h #[Y,pb] (.panicking [{v:=.iface t v,recovered:=false}]) w λe u' w'=>e= .returned (.tuple #[])/\u'= .panicking [{v:=.iface t v,recovered:=true}]/\Post w':=by obtain⟨hn,j,t1,t2,p1,p2,a1,a2,hf,H,U,hb,⟨ms,J⟩,_⟩:=hc.ex;refine callsD_of_wpS hf hb λR cs hu=>?_;apply wpS_seq;apply wpS_region;simp[wpOpsS,go_sem,recoverD,hu,H,Exit.thenS,J];refine wpS_cond (t:=true) (by simp[Act.eval,u_]) ?_;simp only[if_true];refine wpS_of_wp (wp_mono (z _ _) λe N w' he=>?_);obtain⟨E,el,I⟩:=he;rcases E with rfl|rfl<;>simp_all[bodyPostS,results]
theorem Inv.loose{c:Ctx}{θ:List Loc}{D:Nat->Prop}{st:St}{a:Act}{w:World}{ds:List Deferred}{th:List Loc}(h:Inv c θ D st a w)(z:∀(k:Nat) (l:Loc),th[k]? =some l->l.fixed=true->θ[k]? =some l):Inv ⟨c.n,c.w0,c.D0,c.O0,ds,th,c.gk⟩ θ D st {tmps:=a.tmps,defers:=ds} w:=⟨h.size,rfl,h.ok,h.keep,h.dsub,h.dnew,h.onew,h.fr,z⟩
def zio(P:Program)(b:AC)(a:List RV)(ta tb:Nat)(K:MV->Prop):AE->St->Prop
 | .normal,st| .ret,st=>La 0 a K .normal st
 | .exit _,_=>False
 | .pan,st=>W 2 (λst=>look st.fr ta=some (.b (.ptr 0 0))/\look st.fr tb=some (.b (.ptr 1 0))/\
  UA P 2 b (λe s=>(e= .normal\/e= .ret)/\La 0 a K .normal ⟨[(ta,.b (.ptr 0 0)),(tb,.b (.ptr 1 0))],s.hp⟩) ⟨[(0,.b (.ptr 0 0)),(1,.b (.ptr 1 0))],st.hp⟩) st
theorem XU{f h:FuncId}{fn:Func}{CA CB CH:Code}{xa xb xh:AC}{rs:List RV}{xs:List AV}{K:MV->Prop}{ta tb t8 j:Nat}{y3 y4:TypeId}{p3 p4:String}{a3 a4:Array Edge}(hm:P.follows .mixedOrders=true)(hf:P.funcs[f]? =some fn) (hb:fn.body=some (.seq CA (.seq (.region j #[⟨some t8,.makeFunc (.func h) #[] #[.tmp ta,.tmp tb],y3,p3,a3,none⟩,⟨none,.defer {callee:=.value (.tmp t8),args:= #[],argTypes:= #[]},y4,p4,a4,none⟩] false) CB))) (Dg:cp P fn.ntmps CA=some xa.canon) (wr:xa.okB=true) (DA:cp P fn.ntmps CB=some xb.canon) (At:xb.okB=true) (DB:cp P 5 CH=some xh.canon) (Bk:xh.okB=true) (d:Catch P h CH) (M:fn.results.toList.mapM (ra P)=some rs) (Pc:xs.length<=fn.ntmps) (Hx:t8<fn.ntmps) (h0:UA P 0 xa (λe st=>e= .normal/\(look st.fr t8=none/\look st.fr ta=some (.b (.ptr 0 0))/\look st.fr tb=some (.b (.ptr 1 0))/\st.hp.length=2)/\UA P 2 xb (zio P xh rs ta tb K) st) ⟨DN 0 xs,[]⟩):ACalls P f xs [] K:=by
 intro w θ D vs hG E Rg RK;have Bx:θ.length=0:=E.len;obtain rfl:θ=[]:=s_ Bx;have hO:∀b,D b->¬owns [] b:=λb hb ⟨i,l,hi,hl⟩=>by grind
 refine calls_of_wp_defers hf hb ?_;apply wp_seq;have C:∀w',Keep (owns []) w w'->GW D w':=λw' p=>hG.mono p hO λ_ h=>h;refine wp_mono (EV hm (m:=0) (c:=⟨fn.ntmps,w,D,owns [],[],[],C⟩) rfl (by simp) CA xa _ ⟨DN 0 xs,[]⟩ {tmps:=vs.toArray++u_ (fn.ntmps - vs.toArray.size) undef,defers:=[]} w Dg wr h0 ?_) λe I w1 he=>?_
 ·refine⟨[],D,by grind,rfl,E,Keep.refl _ _,λ_ h=>h,λ_ h=>.inl h,λi l g hi hg=>by grind,λk y p=>?_,λ_ _ h _=>h⟩;obtain⟨i,rfl,hp⟩:=Hk xs 0 k y p;have hi:i<vs.length:=by grind
  have hv:=d_ hi;have:(vs.toArray++u_ (fn.ntmps - vs.toArray.size) undef).getD (0+i) undef=vs[i]:=by simp[ar_,hi]
  grind
 obtain⟨e',st,B,⟨rfl,⟨h8,DS,Fk,DQ⟩,h1⟩,n,D1,u⟩:=he;cases B;obtain⟨H,gc,In⟩:∃g,n[0]? =some (Av.Loc.blk g)/\I.tmps.getD ta undef= .pointer (some ⟨g,0,none⟩):=u.fr ta _ DS;obtain⟨gb,qr,JT⟩:∃g,n[1]? =some (Av.Loc.blk g)/\I.tmps.getD tb undef= .pointer (some ⟨g,0,none⟩):=u.fr tb _ Fk;have PA:n=[Av.Loc.blk H,Av.Loc.blk gb]:=by
  have hl:=u.ok.len;rw[DQ]at hl
  match n,hl,gc,qr with|[x,y],_,gc,qr=>grind
 show Code.wp P _ _ I w1;apply wp_seq;apply wp_region;have ph:I.tmps[ta]?.getD undef= .pointer (some ⟨H,0,none⟩):=by simpa using In
 have rg:I.tmps[tb]?.getD undef= .pointer (some ⟨gb,0,none⟩):=by simpa using JT
 have hsz:I.tmps.size=fn.ntmps:=u.size;simp[wpOps,go_sem,Instr.makeFunc,ph,rg,hsz,Hx];refine .inl (.inl ?_);have DE:I.defers=[]:=u.defers;rw[DE];generalize PJ:(Value.func (Fn.func h) #[] #[Value.pointer (some {block:=H,off:=0}),Value.pointer (some {block:=gb,off:=0})])=v8;generalize A:({target:=Target.fn (Fn.func h) #[Value.pointer (some {block:=H,off:=0}),Value.pointer (some {block:=gb,off:=0})],args:= #[]}:Deferred)=Y;have BT:Inv ⟨fn.ntmps,w,D,owns [],[Y],n,C⟩ n D1 st {tmps:=I.tmps.setIfInBounds t8 v8,defers:=[Y]} w1:=by
  refine⟨by grind,rfl,u.ok,u.keep,u.dsub,u.dnew,u.onew,λk x p=>?_,λ_ _ h _=>h⟩;have Fm:k≠t8:=λe=>by grind
  have:=u.fr k x p;simpa[Array.getD_eq_getD_getElem?,Array.getElem?_setIfInBounds,Ne.symm Fm]using this
 have N:∀w,(invoke Y.target Y.args).run P w= .ok (.enter h #[Value.pointer (some {block:=H,off:=0}),Value.pointer (some {block:=gb,off:=0})]) w:=by
  intro w;subst A;obtain⟨hn,_,_,_,_,_,_,_,DP,_,_,CT,_,PB⟩:=d.ex;have ur:¬hn.name= "runtime.NumGoroutine" :=by grind
  simp[invoke,callFunc,DP,CT,ur,go_sem]
 refine wp_mono (EV hm (m:=2) (c:=⟨fn.ntmps,w,D,owns [],[Y],n,C⟩) rfl (by grind) CB xb _ st _ w1 DA At h1 ⟨n,D1,BT⟩) λe a w' he=>?_;obtain⟨e',Nd,B,hq,θ2,D2,s⟩:=he;have L:a.defers=[Y]:=s.defers;have el:La 0 rs K .normal Nd->Go.Leaves P fn a.tmps (Back [] D w K) a.defers .returning w':=by rintro⟨RM,hw,ys,r,T,F,r',MT,R,hK,_⟩;have hr:=hw _ _ _ (by simp) ⟨θ2,D2,s.loose (ds:=[]) (th:=[]) λ_ _ h _=>by grind⟩;obtain⟨v,e1,e2⟩:=WQ rfl rfl rfl rfl M hr T F R hK;rw[L,<-A];refine leaves_cons (by simp) (by subst A;exact N w') ((d.idle _ _ w').mono ?_);rintro e u' Pb ⟨rfl,rfl,rfl⟩;exact⟨v,e1,e2⟩
 cases e' with
 |normal=>cases B;exact el hq|ret=>cases B;exact el hq|exit i=>exact hq.elim|pan=>
  obtain⟨ch,⟨t,v,rfl⟩,rfl⟩:=B;obtain⟨Pa,KK,ha,CD,hq⟩:=hq;obtain⟨θ2,D2,s⟩:=KK _ _ _ (by grind) ⟨θ2,D2,s⟩;have f1:θ2[0]? =some (Av.Loc.blk H):=s.fix 0 _ (by omega) rfl;have f2:θ2[1]? =some (Av.Loc.blk gb):=s.fix 1 _ (by omega) rfl;obtain⟨g,hg,va⟩:∃g,θ2[0]? =some (Av.Loc.blk g)/\a.tmps.getD ta undef= .pointer (some ⟨g,0,none⟩):=s.fr ta _ ha;obtain rfl:H=g:=by grind
  obtain⟨g,hg,vb⟩:∃g,θ2[1]? =some (Av.Loc.blk g)/\a.tmps.getD tb undef= .pointer (some ⟨g,0,none⟩):=s.fr tb _ CD;obtain rfl:gb=g:=by grind
  show Go.Leaves P fn a.tmps (Back [] D w K) a.defers (.panicking _) w';rw[L,<-A];refine leaves_cons (by simp) (by subst A;exact N w') ((d.panicking (Post:=λw3=>∃v,(results fn a.tmps).run P w3= .ok v w3/\Back [] D w K (.returned v) w3) _ _ w' t v λx y=>?_).mono ?_)
  ·refine wp_mono (EV hm (m:=2) (c:=⟨5,w,D,owns [],[],n,C⟩) rfl (by grind) CH xh _ _ _ w' DB Bk hq ⟨θ2,D2,by simp,rfl,s.ok,s.keep,s.dsub,s.dnew,s.onew,λk z p=>?_,s.fix⟩) λe3 a3 w3 DH=>?_
   ·simp only[look]at p;split at p;·rename_i O;cases p;subst O;exact⟨H,f1,rfl⟩
    ·split at p;·rename_i Q;cases p;subst Q;exact⟨gb,f2,rfl⟩
     grind
   ·obtain⟨e4,Pa,DM,⟨Fr,GS⟩,U,D4,J⟩:=DH;refine⟨by rcases Fr with rfl|rfl<;>cases DM<;>simp,J.defers,?_⟩;obtain⟨RT,hw,ys,r,T,F,r',MT,R,hK,_⟩:=GS;have f3:U[0]? =some (Av.Loc.blk H):=J.fix 0 _ (by omega) rfl;have f4:U[1]? =some (Av.Loc.blk gb):=J.fix 1 _ (by omega) rfl;have hr:=hw ⟨fn.ntmps,w,D,owns [],[],[],C⟩ {tmps:=a.tmps,defers:=[]} w3 (by simp) ⟨U,D4,s.size,rfl,J.ok,J.keep,J.dsub,J.dnew,J.onew,λk z p=>(by
     simp only[look]at p;split at p;·rename_i O;cases p;subst O;exact⟨H,f3,va⟩
     ·split at p;·rename_i Q;cases p;subst Q;exact⟨gb,f4,vb⟩
      grind),λ_ _ h _=>by grind⟩
    exact WQ (a:={tmps:=a.tmps,defers:=[]}) rfl rfl rfl rfl M hr T F R hK
  ·rintro e u' Pb ⟨rfl,rfl,v,e1,e2⟩;exact⟨v,e1,e2⟩
end
end Go.Av
