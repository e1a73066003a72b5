import Derived.Laws.StructEq
import Derived.Laws.CopyRow
import Derived.MapKept
import Derived.Test.YthjnceggmnicmaaGreatDoorHL1
import Derived.Recover
import Derived.Tactics
import Derived.Tactics2
import Derived.Laws.Pointers
set_option linter.unusedVariables false
set_option linter.unusedSimpArgs false
open Array renaming getElem?_eq_getElem->l_,getElem?_toList->q_,getElem?_append_left->u_,replicate->z_,all_eq_true'->Y_,getElem?_setIfInBounds_ne->ad_,getElem?_append_right->ah_,getD->ai_,mapM_eq_mapM_toList->aj_,size_append->an_,getElem?_append->az_,ext'->aT_
open Bool renaming and_eq_true->m_,false_eq_true->s_,or_eq_true->T_,not_eq_true'->ao_,not_true->aq_,not_false->aB_,or_assoc->aE_,eq_iff_iff->aP_,false_or->aW_
open Classical renaming byContradiction->y_,epsilon_spec->aX_,epsilon->bb_
open List renaming getElem?_eq_some_iff->a_,getElem?_eq_getElem->d_,mem_flatMap->e_,mem_of_getElem?->h_,getElem?_set_ne->i_,all_eq_true->j_,getElem?_append_left->k_,getElem?_append_right->n_,mem_append->o_,getElem?_set_self->p_,mem_range->v_,eq_nil_of_length_eq_zero->w_,mapM_cons->A_,getElem?_take->C_,mem_map->E_,getElem?_of_mem->G_,length_cons->H_,map_cons->I_,contains_iff_mem->L_,length_nil->M_,getD->N_,map_append->P_,mem_filter->Q_,range->S_,mem_cons->U_,getElem?_map->W_,length_append->Z_,mem_singleton->aa_,ext_getElem?->ac_,length_singleton->ae_,eq_nil_iff_forall_not_mem->af_,drop_eq_getElem_cons->ak_,mem_or_eq_of_mem_set->al_,size_toArray->ap_,cons_append->as_,filter_cons->au_,length_set->ax_,nil_append->ay_,getElem?_eq_none->aA_,getElem?_mapIdx->aC_,set_comm->aF_,getElem?_drop->aG_,flatMap_cons->aJ_,nodup_append->aK_,drop_length->aM_,not_mem_nil->aN_,zipIdx_cons->aO_,find?_cons->aQ_,foldl_cons->aR_,nodup_cons->aS_,take_zero->aU_,map_nil->aY_,range'->ba_
open Nat renaming mul_le_mul_right->r_,le_refl->x_,lt_or_ge->F_,zero_add->J_,pos_of_ne_zero->O_,add_mul->R_,div_lt_iff_lt_mul->V_,le_mul_of_pos_right->ab_,div_add_mod->ag_,add_assoc->ar_,le_trans->av_,mul_comm->aw_,one_mul->aD_,mod_lt->aH_,not_lt->aI_,sub_self->aL_,testBit_or->aV_,add_zero->aZ_
open Option renaming bind_eq_some_iff->b_,map_eq_some_iff->c_,isSome_iff_exists->t_,bind_eq_bind->B_,map_some->D_,pure_def->K_,getD_some->X_,isNone_iff_eq_none->am_
open Option.some renaming inj->f_,injEq->g_
namespace Go.Av
open Go Go.RowKit
section
variable {P:Program} {o:Oper} {c:Ctx} {θ:List Loc} {D:Nat->Prop} {st:St} {a:Act} {w:World}
theorem jU{v u:Value}(h:RelP D w v (.sc u)):v=u:=by cases h;rfl
def WU(P:Program)(D:Nat->Prop)(w:World)(d:Nat):Prop:=∀(t:TypeId) (p q:PV) (b:Bool) (v u:Value) (n:Nat),eqP P d t p q=some b->d<=n->RelP D w v p->RelP D w u q->(Op.equalIn n t v u).run P w= .ok b w
theorem Tz{d:Nat}(z:WU P D w d):∀(l:List Field) (xs ys:List PV) (b:Bool) (vs us:Array Value) (n:Nat),eqP.eqFs P d l xs ys=some b->d<=n->RelP D w (.agg vs) (.agg xs)->RelP D w (.agg us) (.agg ys)->(Op.eqFields n vs us l).run P w= .ok b w:=by
 intro l;induction l with
 |nil=>intro xs ys b vs us n h _ _ _;simp only[eqP.eqFs,g_]at h;subst h;rfl|cons f l A=>
  intro xs ys b vs us n h hn y x;simp only[eqP.eqFs]at h;split at h;·grind
  ·rename_i c;simp only[b_]at h;obtain⟨i,v,h⟩:=h;split at h;·grind
   ·rename_i hc;simp only[not_or,aI_,not_and,Decidable.not_not,am_]at hc;obtain⟨s,p,r,u⟩:=hc;obtain⟨H,g⟩:=Option.ne_none_iff_exists'.1 s;simp only[b_]at h;obtain⟨k,j,h⟩:=h;have hsz:bK P f.type=some i.size:=by simp[bK,v]
    have a:jc P f.type=false->i.size=1:=λe=>u e;obtain⟨E,r1⟩:=wO (off:=f.offset) (sz:=i.size) y rfl p a;obtain⟨F,r2⟩:=wO (off:=f.offset) (sz:=i.size) x rfl r a;have B:=sY (P:=P) (w:=w) (t:=f.type) (cs:=vs) (off:=f.offset) g hsz (by rw[E];exact p) a;have C:=sY (P:=P) (w:=w) (t:=f.type) (cs:=us) (off:=f.offset) g hsz (by rw[F];exact r) a;have e:=z f.type _ _ k _ _ n j hn r1 r2;simp only[Op.eqFields];rw[if_pos c];simp only[Sem.run_bind,B,C,e,Result.andThen_ok];cases k;·simp only[s_,if_false,g_]at h;subst h;rfl
    grind
theorem KW:∀(d:Nat),WU P D w d:=by
 intro d;induction d with
 |zero=>intro t p q b v u n h _ _ _;simp[eqP]at h|succ d x=>
  intro t p q b v u n h hn e c;obtain⟨m,rfl⟩:∃m,n=m+1:=⟨n - 1,by omega⟩;unfold eqP at h;split at h;·rename_i a;rw[jU e,jU c];cases h;exact run_equalIn_bool' w m t _ _ a
  ·rename_i a;rw[jU e,jU c];split at h;·rename_i s;subst s;cases h;exact run_equalIn_int w m t _ _ _ _ a
   grind
  ·rename_i a;rw[jU e,jU c];cases h;rw[beq_toListBytes];exact run_equalIn_string w m t _ _ a
  ·rename_i l xs ys a;split at h;·grind
   ·rename_i hs;have r:P.fieldsOf t=l:=by simp[Program.fieldsOf,a]
    cases e with|agg vs _ j f=>cases c with|agg us _ k g=>rw[run_equalIn_struct w m t vs us (by grind) (by grind),r];exact Tz x l.toList xs ys b vs us m h (by omega) (.agg vs xs j f) (.agg us ys k g)
  grind
theorem JV(g:Inv c θ D st a w){K:AV->Prop}{op:BinOp}{neg:Bool}{t B:TypeId}{n:Array Field}{x y:Operand}(s:o.op= .binOp op t x y B)(j:op=if neg then .neq else .eql)(v:P.underlying t=some (.struct n))(hg:P.eqGuardType P.depth t=false) (h:kg P st (.eqT neg t (.of x) (.of y)) K):Yields P o a w (Res c θ st a K):=by
 obtain⟨C,z,E,A,p,hp,q,u,b,f,r⟩:=h;have r1:=cr (g.get z) hp;have r2:=cr (g.get A) u;refine aG g ?_ r (RelP.sc _);have e:=KW (P:=P) (D:=D) (w:=w) 64 t p q b _ _ 10000 f (by simp) r1 r2;have d:∃xs ys,a.eval x= .agg xs/\a.eval y= .agg ys:=by
  unfold eqP at f;rw[v]at f;generalize a.eval x=F at r1⊢;generalize a.eval y=H at r2⊢;split at f;·grind
  ·grind
  ·grind
  ·cases r1;cases r2;simp
  grind
 obtain⟨xs,ys,k,l⟩:=d;rw[k,l]at e;simp only[execOp,s,k,l,Sem.run_bind,run_eqGuard_agg w op t x y xs ys hg,Result.andThen_ok];subst j;cases neg;·simp only[s_,if_false,run_eql_struct,e,Result.andThen_ok,Sem.run_pure,Bool.false_xor]
 ·simp only[if_true,run_neq_struct,e,Result.andThen_ok,Sem.run_pure,Bool.true_xor]
theorem Ji{k:TypeId}{x:PV}:∀{l:List (PV×PV)} {i:Nat} {r:Option (Nat×PV)},u6 P k x l i=some r->
 (r=none/\∀a∈l,eqP P 64 k x a.1=some false)\/(∃j a,r=some (i+j,a.2)/\l[j]? =some a/\eqP P 64 k x a.1=some true/\∀c∈l.take j,eqP P 64 k x c.1=some false)
 |[],i,r,h=>by simp only[u6,g_]at h;grind
 |a::l,i,r,h=>by
  simp only[u6,b_]at h;obtain⟨b,g,h⟩:=h;cases b
  ·simp only[s_,if_false]at h;rcases Ji h with⟨d,e⟩|⟨j,c,d,e,f,n⟩;·grind
   ·refine .inr ⟨j+1,c,by grind,by grind,f,λy p=>?_⟩;grind
  ·simp only[if_true,g_]at h;exact .inr ⟨0,a,by grind,rfl,g,by simp⟩
theorem wv{k:TypeId}{v:Value}:∀(a:List MapEntry) (i:Nat) (f:MapEntry->Bool),(∀e∈a,(Op.equal k v e.key).run P w= .ok (f e) w)->
 (Instr.findAsking k v a i).run P w= .ok ((a.zipIdx i).find? (λe=>f e.1) |>.map λe=>(e.2,e.1.val)) w
 |[],i,f,_=>by rfl
 |e::a,i,f,h=>by
  simp only[Instr.findAsking,Sem.run_bind,h e (by simp),Result.andThen_ok,aO_,aQ_];cases b:f e;·simp only[s_,if_false];exact wv a (i+1) f λy c=>h y (by grind)
  rfl
theorem findNow_spec{d:TypeDesc}{v:Value}:∀(a:List MapEntry) (i:Nat) (f:MapEntry->Bool) {r:Option (Nat×Value)},(∀e∈a,∀b,Instr.sameNow d v e.key=some b->b=f e)->Instr.findNow d v a i=some r->
 r=((a.zipIdx i).find? (λe=>f e.1) |>.map λe=>(e.2,e.1.val))
 |[],i,f,r,_,h=>by simp only[Instr.findNow,g_]at h;grind
 |e::a,i,f,r,hs,h=>by
  simp only[Instr.findNow]at h;simp only[aO_,aQ_];split at h;·grind
  ·rename_i c;rw[<-hs e (by simp) false c];exact findNow_spec a (i+1) f (λy g=>hs y (by grind)) h
  grind
theorem We{a:List MapEntry}{l:List (PV×PV)}{k:TypeId}{x:PV}{i:Nat}{r:Option (Nat×PV)}{f:MapEntry->Bool}(hl:a.length=l.length)(A:∀(j:Nat) (e:MapEntry) (b:PV×PV),a[j]? =some e->l[j]? =some b->eqP P 64 k x b.1=some (f e))(h:u6 P k x l i=some r):(r=none/\(a.zipIdx i).find? (λe=>f e.1)=none)\/∃j b e,r=some (i+j,b.2)/\l[j]? =some b/\a[j]? =some e/\(a.zipIdx i).find? (λe=>f e.1)=some (e,i+j):=by
 rcases Ji h with⟨v,u⟩|⟨j,b,v,u,B,C⟩;·refine .inl ⟨v,?_⟩;rw[List.find?_eq_none];rintro⟨e,n⟩ c;obtain⟨j,y⟩:=G_ c;rw[List.getElem?_zipIdx]at y;cases d:a[j]? with|none=>grind|some H=>rw[d]at y;cases y;obtain⟨b,E⟩:=bi (l:=l) hl.symm d;grind
 ·obtain⟨e,c⟩:=bi (l:=a) hl u;refine .inr ⟨j,b,e,v,u,c,?_⟩;have z:j<a.length:=(a_.1 c).1;rw[List.find?_eq_some_iff_getElem];have w:=A j e b c u;rw[B]at w;refine⟨by grind,j,by simpa using z,?_,λm F=>?_⟩;·grind
  ·have p:m<a.length:=by omega
   obtain⟨s,g⟩:=bi (l:=l) hl.symm (d_ p);have D:=A m _ s (d_ p) g;rw[C s (h_ (by rw[C_,if_pos F];omega))]at D;grind
theorem mU(em:Bool):∀(d n:Nat) (t:TypeId) (v:Value) (p:PV),C6 P d t p=true->d<=n->RelP D w v p->(Instr.checkKey em n t v).run P w= .ok () w
 |0,n,t,v,p,h,_,_=>by simp[C6]at h
 |d+1,n,t,v,p,h,hn,j=>by
  obtain⟨m,rfl⟩:∃m,n=m+1:=⟨n - 1,by omega⟩;unfold C6 at h;rw[Instr.checkKey];split at h;·rename_i c;rw[jU j];simp[run_underlying c]
  ·rename_i c;rw[jU j];simp[run_underlying c]
  ·rename_i c;rw[jU j];simp[run_underlying c]
  ·rename_i y xs c;cases j with
   |agg vs _ hs C=>
    have s:RelP D w (.agg vs) (.agg xs):=.agg vs xs hs C;simp only[Sem.run_bind,run_underlying c,Result.andThen_ok];rw[<-Array.forIn_toList];have a:=j_.1 h;revert a;generalize y.toList=l;intro a;induction l with
    |nil=>rfl|cons f l F=>
     have b:=a f (by simp);simp only[m_,bne_iff_ne,ne_eq]at b;obtain⟨r,b⟩:=b;split at b
     ·rename_i i E;simp only[m_,decide_eq_true_eq,T_]at b;obtain⟨⟨⟨z,A⟩,x⟩,B⟩:=b;obtain⟨I,k⟩:=t_.1 z;have hsz:bK P f.type=some i.size:=by simp[bK,E]
      have g:jc P f.type=false->i.size=1:=λe=>x.elim (λx=>by grind) id;obtain⟨J,r1⟩:=wO (off:=f.offset) (sz:=i.size) s rfl A g;have H:=sY (P:=P) (w:=w) (t:=f.type) (cs:=vs) (off:=f.offset) k hsz (by omega) g;have e:=mU em d m f.type _ _ B (by omega) r1;have u:=F λf b=>a f (by grind);simp only[List.forIn_cons,Sem.run_bind,Sem.run_ite,r,not_false_eq_true,ne_eq,if_true,H,Result.andThen_ok,e,Sem.run_pure];simpa using u
     grind
  grind
theorem Dl{k:TypeId}{v:Value}{a:Array MapEntry}{f:MapEntry->Bool}{d:TypeDesc}(hd:P.underlying k=some d)(h:∀e∈a.toList,(Op.equal k v e.key).run P w= .ok (f e) w)(hs:∀e∈a.toList,∀b,Instr.sameNow d v e.key=some b->b=f e):(Instr.findKey k v a.toList).run P w= .ok ((a.toList.zipIdx 0).find? (λe=>f e.1) |>.map λe=>(e.2,e.1.val)) w:=by simp only[Instr.findKey,Sem.run_bind,run_underlying hd,Result.andThen_ok];cases hn:Instr.findNow d v a.toList 0 with|none=>exact wv a.toList 0 f h|some r=>rw[findNow_spec a.toList 0 f hs hn];rfl
theorem Pm{k:TypeId}{d:TypeDesc}{v u:Value}{b c:Bool}(hd:P.underlying k=some d)(h:Instr.sameNow d v u=some b)(a:(Op.equal k v u).run P w= .ok c w):b=c:=by
 have e:(Op.equal k v u)=Op.equalIn (9999+1) k v u:=rfl;rw[e]at a;unfold Instr.sameNow at h;split at h
 ·split at h;·rename_i f;subst f;cases h;rw[run_equalIn_int w 9999 k _ _ _ _ hd]at a;grind
  grind
 ·cases h;rw[run_equalIn_string w 9999 k _ _ hd,<-beq_toListBytes]at a;grind
 ·cases h;rw[run_equalIn_bool' w 9999 k _ _ hd]at a;grind
 grind
theorem Nb(M:Inv c θ D st a w){k:TypeId}{kvs:List (PV×PV)}{n:Array MapEntry}{v:Value}{p:PV}{r:Option (Nat×PV)}(N:n.size=kvs.length) (u:∀(i:Nat) (e:MapEntry) (g:PV×PV),n[i]? =some e->kvs[i]? =some g->RelP D w e.key g.1/\RelP D w e.val g.2) (J:RelP D w v p) (hr:u6 P k p kvs 0=some r) (s:∀g∈kvs,(eqP P 64 k p g.1).isSome=true) (hd:(P.underlying k).isSome=true): ∃res,(Instr.findKey k v n.toList).run P w= .ok res w/\((r=none/\res=none)\/∃j g e,r=some (j,g.2)/\kvs[j]? =some g/\n[j]? =some e/\res=some (j,e.val)/\eqP P 64 k p g.1=some true):=by
 have _:=M;obtain⟨d,hd⟩:=t_.1 hd;have z:∀e∈n.toList,∃(i:Nat) (g:PV×PV) (b:Bool),n[i]? =some e/\kvs[i]? =some g/\eqP P 64 k p g.1=some b/\(Op.equal k v e.key).run P w= .ok b w:=by
  intro e B;obtain⟨i,F⟩:=G_ B;rw[q_]at F;have H:i<kvs.length:=by grind
  have l:=d_ H;obtain⟨b,y⟩:=t_.1 (s _ (h_ l));exact⟨i,_,b,F,l,y,KW (P:=P) (D:=D) (w:=w) 64 k p _ b v e.key 10000 y (by simp) J (u i e _ F l).1⟩
 classical
 let f:MapEntry->Bool:=λe=>if h:e∈n.toList then(z e h).choose_spec.choose_spec.choose else false;have C:∀e,(h:e∈n.toList)->(Op.equal k v e.key).run P w= .ok (f e) w:=λe h=>by grind
 have x:=Dl (f:=f) hd C λe h b y=>Pm hd y (C e h);refine⟨_,x,?_⟩;have E:∀(j:Nat) (e:MapEntry) (g:PV×PV),n.toList[j]? =some e->kvs[j]? =some g->eqP P 64 k p g.1=some (f e):=by intro j e g O l;obtain⟨b,y⟩:=t_.1 (s _ (h_ l));have A:=KW (P:=P) (D:=D) (w:=w) 64 k p _ b v e.key 10000 y (by simp) J (u j e g (by grind) l).1;have I:=C e (h_ O);have L:(Op.equal k v e.key).run P w= .ok b w:=A;grind
 rcases We (by omega) E hr with⟨A,I⟩|⟨j,g,e,A,I,L,Q⟩;all_goals grind
theorem qU{g:Nat}{b:Array MapEntry}{a:Nat}(h:w.heap[g]? =some (.map b a)):(getObj g).run P w= .ok (.map b a) w:=MapKept.run_getObj_map h
theorem Lr(B:Inv c θ D st a w){K:AV->Prop}{t k e:TypeId}{m x:Operand}{d:Bool}{z:Value}(Y:o.op= .lookup t m x d)(ht:P.underlying t=some (.map k e))(hz:cZ P e=some z) (h:kg P st (.lookup k e d z (.of m) (.of x)) K):Yields P o a w (Res c θ st a K):=by
 obtain⟨am,hm,ax,C,id,kvs,rfl,O,p,hp,I,hd,F,r,hr,N⟩:=h;obtain⟨g,hg,y⟩:=B.get hm;obtain⟨es,J,T,h2,U⟩:=B.ok.objs id _ _ hg O;have f:=cr (B.get C) hp;obtain⟨res,l,s⟩:=Nb B h2 U f hr F hd;have H:∀em,(Instr.checkKey em 10000 k (a.eval x)).run P w= .ok () w:=λem=>mU em 64 10000 k _ p I (by simp) f;simp only[cZ,b_]at hz;obtain⟨it,M,Q⟩:=hz;have A:(zeroValue e).run P w= .ok z w:=by simp[zeroValue,typeInfo,M,Q]
 have E:∀(u:Value) (q:PV) (b:Bool),RelP D w u q->(execOp a.eval o).run P w= .ok (.value (if d then .tuple #[u,.bool b]else u)) w->K (match d with|true=>.tup [.pv q,.pv (.sc (.bool b))]|false=>.p q)->Yields P o a w (Res c θ st a K):=by
  intro u q b hu n N;cases d;·exact aG B n N hu
  ·refine aG B n N ⟨#[u,.bool b],rfl,rfl,λi v x y C=>?_⟩
   match i with|0=>simp at y C;subst y;subst C;exact hu|1=>simp at y C;subst y;subst C;exact RelP.sc _|i+2=>grind
 rcases s with⟨rfl,rfl⟩|⟨j,kv,R,rfl,hj,L,rfl,_⟩;·refine E z (.sc z) false (RelP.sc z) ?_ (by grind);simp[execOp,Y,Instr.lookup,run_underlying ht,y,qU T,H,l,A]
 ·refine E R.val kv.2 true (U j R kv L hj).2 ?_ (by grind);simp[execOp,Y,Instr.lookup,run_underlying ht,y,qU T,H,l]
theorem PF(l:Inv c θ D st a w){K:AV->Prop}{x:Operand}{t k e:TypeId}{f:Call}(v:o.op= .call f)(n:f.callee= .builtin .len)(b:f.args= #[x])(d:f.argTypes= #[t]) (y:P.underlying t=some (.map k e)) (h:kg P st (.lenM k e (.of x)) K):Yields P o a w (Res c θ st a K):=by obtain⟨B,A,id,kvs,rfl,p,u⟩:=h;obtain⟨g,hg,z⟩:=l.get A;obtain⟨C,j,r,s,E⟩:=l.ok.objs id _ _ hg p;refine aG l ?_ u (RelP.sc _);simp[execOp,v,resolve,n,b,d,invoke,builtin,Builtin.len_,run_underlying y,z,goInt,qU r,s]
theorem Ni(g:Inv c θ D st a w)(hd:∀k,o.dst=some k->k<c.n){K KP:St->Prop}{t k e:TypeId}(j:o.op= .makeMap t none){pl:Option Nat} (h:GL st (.mkmap k e) λob mk=>BX st pl/\K ((st.new pl ob).putO o.dst (.b (mk (st.nid pl))))):Leaves P o c K KP a w:=by
 intro next Q hn _;obtain⟨f,h⟩:=h;obtain⟨θ',d,hid⟩:=g.allocAt f (l:=.mp w.heap.size) (o:=.map k e []) (ob:=.map #[] 0) (λ_ h=>h) λθ' n=>⟨#[],0,dO w _,rfl,λi p s r=>by simp⟩;have b:(execOp a.eval o).run P w= .ok (.value (.map (some w.heap.size))) (w.alloc (.map #[] 0)):=by simp[execOp,j,Instr.makeMap]
 unfold Oper.wp;rw[b];exact hn _ _ ⟨_,h,_,_,d.put hd ⟨w.heap.size,hid,rfl⟩⟩
theorem NR(b:Inv c θ D st a w)(hd:∀k,o.dst=some k->k<c.n){K KP:St->Prop}{t k e:TypeId}(d:o.op= .makeMap t none)(h:sexec P o.dst (.mkmap k e) st K KP):Leaves P o c K KP a w:=Ni b hd d (pl:=none) ⟨trivial,h⟩
theorem GI:∀{p q:PV} {v u:Value},p.plain=true->RelP D w v p->RelP D w u p->Instr.sameBits 10000 v u=true:=by
 intro p q v u hp h g;cases p with
 |sc s=>rw[jU h,jU g];cases s<;>simp[PV.plain]at hp<;>simp[Instr.sameBits,beq_toListBytes]|agg xs=>
  cases h with
  |agg vs _ n j=>
   cases g with
   |agg us _ r k=>
    simp only[PV.plain,j_]at hp;show((vs.size==us.size)&&_)=true;simp only[m_,beq_iff_eq,j_];refine⟨by omega,λx l=>?_⟩;obtain⟨i,f⟩:=G_ l;rw[List.getElem?_zip_eq_some]at f;obtain⟨d,e⟩:=f;rw[q_]at d e;have c:i<xs.length:=by grind
    have b:=d_ c;have a:=hp _ (h_ b);have r1:=j i _ _ d b;have r2:=k i _ _ e b;revert r1 r2 a;generalize xs[i]=y;intro a r1 r2;cases y with|sc s=>rw[jU r1,jU r2];cases s<;>simp at a<;>simp[Instr.sameBits,beq_toListBytes]|_=>grind
 |_=>simp[PV.plain]at hp
theorem JO{h:Array Obj}{g k:Nat}{ob:Obj}(a:k≠g):(h.setIfInBounds g ob)[k]? =h[k]? :=ad_ (Ne.symm a)
theorem Cf(F:Inv c θ D st a w)(ph:o.dst=none){K KP:St->Prop}{t k e:TypeId}{m x y:Operand}(H:o.op= .mapUpdate t m x y\/o.op= .insert t m x y)(ht:P.underlying t=some (.map k e)) (h:sexec P o.dst (.mapset k e (.of m) (.of x) (.of y)) st K KP):Leaves P o c K KP a w:=by
 intro next Q hn _;obtain⟨am,hm,ax,hx,ay,hy,id,kvs,rfl,wr,p,hp,q,hq,_,C,U,hd,R,r,hr,N,hk⟩:=h;obtain⟨g,hg,hv⟩:=F.get hm;obtain⟨es,n,h1,h2,h3⟩:=F.ok.objs id _ _ hg wr;have u:=cr (F.get hx) hp;have At:=cr (F.get hy) hq;obtain⟨res,I,M⟩:=Nb F h2 h3 u hr R hd;have T:∀em,(Instr.checkKey em 10000 k (a.eval x)).run P w= .ok () w:=λem=>mU em 64 10000 k _ p U (by simp) u;have Bx:g<w.heap.size:=(F.ok.olt id _ g hg rfl).1;have O:∀(ob:Obj) (l:List (PV×PV)),(execOp a.eval o).run P w= .ok .skip {w with heap:=w.heap.setIfInBounds g ob}->(∃(s:Array MapEntry) (f:Nat),ob= .map s f/\s.size=l.length/\∀(i:Nat) (A:MapEntry) (E:PV×PV),s[i]? =some A->l[i]? =some E->RelP D w A.key E.1/\RelP D w A.val E.2)->K {st with hp:=st.hp.set id (.map k e l)}->o.wp P a w next Q:=by
  rintro ob l Y ⟨s,f,rfl,ur,z⟩ hk
  have hD:∀b,D b->({w with heap:=w.heap.setIfInBounds g (.map s f)}:World).heap[b]? =w.heap[b]? :=λb hb=>JO λe=>(F.ok.olt id _ g hg rfl).2 (e▸hb)
  have gc:=F.store (o':=.map k e l) (w':={w with heap:=w.heap.setIfInBounds g (.map s f)}) hg rfl rfl rfl rfl (by simp) (λk' rg=>JO rg) ⟨s,f,by grind,ur,λi A E he B=>⟨(z i A E he B).1.mono (λ_ h=>h) hD,(z i A E he B).2.mono (λ_ h=>h) hD⟩⟩
  unfold Oper.wp
  rw[Y]
  refine hn _ _ ⟨_,hk,θ,D,?_⟩
  have:=gc.put (d:=none) (v:=undef) (x:=.v undef) (λ_ h=>by grind) (RelP.sc _)
  rw[ph]
  exact this
 have J:∀(ob:Obj),(setObj g ob).run P w= .ok () {w with heap:=w.heap.setIfInBounds g ob}:=λob=>MapKept.run_setObj_map ob h1;rcases M with⟨rfl,rfl⟩|⟨j,E,A,rfl,hj,qr,rfl,_⟩
 ·refine O (.map (es.push {key:=a.eval x,val:=a.eval y,born:=n}) (n+1)) (kvs++[(p,q)]) ?_ ⟨_,_,rfl,by grind,λi A E he B=>?_⟩ hk;·rcases H with H|H<;>simp only[execOp,H,Instr.mapUpdate,Sem.run_bind,run_underlying ht,Result.andThen_ok,hv,qU h1,T,I,J,Sem.run_pure]
  grind
 ·obtain⟨u',el⟩:=N j E.2 rfl;rw[hj]at el;cases el;have hold:((es[j]?).map (·.key)).getD (a.eval x)=A.key:=by grind
  have L:=GI (q:=p) C (h3 j A _ qr hj).1 u;refine O (.map (es.modify j λe=>{e with key:=a.eval x,val:=a.eval y}) n) (kvs.set j (p,q)) ?_ ⟨_,_,rfl,by grind,λi Bk BT he B=>?_⟩ hk;·rcases H with H|H<;>simp only[execOp,H,Instr.mapUpdate,Sem.run_bind,run_underlying ht,Result.andThen_ok,hv,qU h1,T,I,hold,Instr.keyThatStays,L,if_true,Sem.run_pure,J]
  grind
theorem PI(r:Inv c θ D st a w){K:AV->Prop}{f:FuncId}{first caps:Array Operand}(I:o.op= .makeFunc (.func f) first caps)(H:first= #[])(h:kg P st (.mkfn f (caps.toList.map SX.of)) K):Yields P o a w (Res c θ st a K):=by
 obtain⟨ars,u,d⟩:=h;obtain⟨B,J⟩:=mapM_some u;subst H;have b:(execOp a.eval o).run P w= .ok (.value (.func (.func f) #[] (caps.map a.eval))) w:=by simp[execOp,I,Instr.makeFunc]
 have e:∀(i:Nat) (x:AV),ars[i]? =some x->∃y,caps.toList[i]? =some y/\RelA θ D w (a.eval y) x:=λi x p=>by obtain⟨s,hs⟩:=bi (l:=caps.toList.map SX.of) B p;have hg:=J i s x hs p;rw[W_]at hs;cases hc:caps.toList[i]? with|none=>rw[hc]at hs;cases hs|some y=>rw[hc]at hs;cases hs;exact⟨y,rfl,r.get hg⟩
 rcases d with⟨ids,rfl,n⟩|⟨R,rfl,n⟩
 ·refine aG r b n ?_;have hg:∀(i:Nat),i<ids.length->∃g:Nat,∀id y,ids[i]? =some id->caps.toList[i]? =some y->θ[id]? =some (.blk g)/\a.eval y= .pointer (some ⟨g,0,none⟩):=λi Q=>by obtain⟨y,j,hr⟩:=e i (.b (.ptr ids[i] 0)) (by simp);obtain⟨g,L,M⟩:=hr;exact⟨g,λid T N O=>by grind⟩
  obtain⟨F,C,E⟩:=gK hg;refine⟨F,C,λk id g hid z=>?_,?_⟩;·have n:k<ids.length:=(a_.1 hid).1;obtain⟨y,j,_⟩:=e k (.b (.ptr id 0)) (by simp[hid]);exact(E k g z id y hid j).1
  ·congr 1;apply aT_;apply ac_;grind
 ·refine aG r b n (RelP.fn _ _ _ (by simpa using B) λi v x A p=>?_);obtain⟨y,j,hr⟩:=e i (.p x) (by simp[p]);rw[Array.getElem?_map]at A;rw[q_]at j;rw[j]at A;cases A;exact hr
theorem Pt(r:Inv c θ D st a w)(hd:∀k,o.dst=some k->k<c.n){K KP:St->Prop}{t:TypeId}{x:Operand}(N:o.op= .box t x)(h:kg P st (.boxD t (.of x)) λx=>K (st.putO o.dst x)):Leaves P o c K KP a w:=by
 intro next Q hn _;obtain⟨C,O,p,hp,g,M,L⟩:=h;have J:=r.get O;obtain⟨U,I⟩:=qQ J g;have n:(execOp a.eval o).run P w= .ok (.value (.pointer (some ⟨w.heap.size,0,none⟩))) (w.alloc (.cells (a.eval x).cells t)):=by simp[execOp,N,Instr.box,newVar,newRow]
 have A:=r.below (D':=λb=>D b\/(w.heap.size<=b/\b<(w.alloc (.cells (a.eval x).cells t)).heap.size)) (lK w _) r.w0le (λb f=>.inl f) (λb f=>f);unfold Oper.wp;rw[n];refine hn _ _ ⟨_,L,θ,_,A.put hd ?_⟩;have s:∀(j:Nat) (y:PV),p.cells[j]? =some y->∃z,C.cells[j]? =some z/\z.toPV=some y:=by
  intro j y d;cases C with
  |tup xs=>simp[AV.ok,AV.cells,BV.cellOk,PV.cellOk]at g|agg xs=>simp only[AV.toPV,c_]at hp;obtain⟨Y,B,rfl⟩:=hp;obtain⟨R,T⟩:=mapM_some B;simp only[PV.cells]at d;obtain⟨z,s⟩:=bi (l:=xs) R d;exact⟨z,s,T j z y s d⟩
  |b H=>
   cases H with
   |pv q=>cases hp;exact⟨.pv y,by simp[AV.cells,d],rfl⟩|nils=>cases hp;simp only[PV.cells]at d;cases j with|zero=>simp at d;subst d;exact⟨.nils,rfl,rfl⟩|succ j=>grind
   |full q=>grind|_=>cases hp
 have e:∀(j:Nat) (y:PV),p.cells[j]? =some y->∃u,(a.eval x).cells[j]? =some u/\RelP D w u y:=by
  intro j y d;obtain⟨z,E,v⟩:=s j y d;have F:j<(a.eval x).cells.size:=by grind
  exact⟨_,l_ F,lT (I j _ z (l_ F) E).1 v⟩
 exact sa (b:=w.heap.size) (o:=0) (.inr ⟨x_ _,by simp⟩) λj y d=>by obtain⟨u,E,v⟩:=e j y d;refine⟨u,?_,v.mono (λb f=>.inl f) (λb f=>cH w _ b (r.ok.dlt b f))⟩;rw[J_,cell_of_row _ _ _ (a.eval x).cells t (0,0) (dO w _)];omega
theorem NQ(e:Inv c θ D st a w){K:AV->Prop}{t:TypeId}{x:Operand}(g:o.op= .makeInterface t x)(b:(match P.underlying t with|some (.interface _)=>false|some _=>true|none=>false)=true)(h:kg P st (.iface t (.of x)) K):Yields P o a w (Res c θ st a K):=by obtain⟨j,k,f⟩:=h;cases hd:P.underlying t with|none=>grind|some d=>refine aG e (v:=.iface t (a.eval x)) ?_ f ⟨t,a.eval x,rfl⟩;rw[hd]at b;cases d<;>simp at b<;>simp[execOp,g,Instr.makeInterface,run_underlying hd]
theorem Ng{k:IntKind}(mx:Bool):∀(c:List Int) (n:Int),((c.map λn=>Value.int k n).foldlM (if mx then Builtin.max2 else Builtin.min2) (.int k n)).run P w= .ok (.int k (c.foldl (λa b=>if mx then max a b else min a b) n)) w
 |[],n=>by rfl
 |m::c,n=>by
  have d:=Ng (k:=k) mx c (if mx then max n m else min n m);simp only[I_,List.foldlM_cons,aR_,Sem.run_bind];cases mx
  ·have:(Builtin.min2 (.int k n) (.int k m)).run P w= .ok (.int k (min n m)) w:=by simp only[Builtin.min2,Sem.run_pure];grind
   simp only[s_,if_false,this,Result.andThen_ok]at d⊢;omega
  ·have:(Builtin.max2 (.int k n) (.int k m)).run P w= .ok (.int k (max n m)) w:=by simp only[Builtin.max2,Sem.run_pure];grind
   simp only[if_true,this,Result.andThen_ok]at d⊢;omega
theorem GM(p:Inv c θ D st a w){K:AV->Prop}{mx:Bool}{k:IntKind}{x:Operand}{ys:List Operand}{g:Call}(z:o.op= .call g)(d:g.callee= .builtin (if mx then .max else .min))(r:g.args.toList=x::ys) (h:kg P st (.mnmx mx k (.of x) (ys.map SX.of)) K):Yields P o a w (Res c θ st a K):=by
 obtain⟨H,C,B⟩:=h;obtain⟨f,n,hn,ars,s,e,rfl,rfl,A⟩:=cx (p.get C) B;obtain⟨I,F⟩:=mapM_some s;have v:ys.map a.eval=e.map λn=>Value.int f n:=by
  apply ac_;intro i;simp only[W_];have hl:ys.length=e.length:=by grind
  rcases F_ i e.length with y|y;·have E:=d_ (l:=ys) (i:=i) (by omega);have u:=d_ y;rw[E,u];have:=F i (SX.of ys[i]) (.v (.int f e[i])) (by grind) (by simp);simp only[D_];rw[Pd (p.get this)]
  grind
 have b:g.args.toList.map a.eval=Value.int f n::e.map λn=>Value.int f n:=by grind
 refine aG p ?_ A (RelP.sc _);have j:=Ng (P:=P) (w:=w) (k:=f) mx e n;cases mx;·simp only[s_,if_false]at d j;simp[execOp,z,resolve,d,invoke,builtin,Builtin.min_,b,j]
 ·simp only[if_true]at d j;simp[execOp,z,resolve,d,invoke,builtin,Builtin.max_,b,j]
theorem NT(d:Inv c θ D st a w){K KP:St->Prop}{x:Operand}(f:o.op= .panic x)(h:sexec P o.dst (.panic (.of x)) st K KP):Leaves P o c K KP a w:=by
 intro next Q _ hp;obtain⟨k,j,rfl,e⟩:=h;obtain⟨t,u,g⟩:=d.get j;have b:(execOp a.eval o).run P w= .halt (.panic (.iface t u)) w:=by simp[execOp,f,g,Instr.panic,goPanic]
 unfold Oper.wp;rw[b];exact hp _ w ⟨⟨t,u,rfl⟩,st,e,θ,D,d⟩
theorem Sk{L:List PV}{z:Option Addr}{cap sz n:Nat}(O:Inv c θ D st a w)(E:0<sz)(A:∀p∈L,p.ok=true)(hn:n<=L.length) (e:0<L.length->∃b o,z=some ⟨b,o,none⟩/\b<w.heap.size/\(∀x∈L,x.cells.length=sz)/\∀(i j:Nat) (x y:PV),L[i]? =some x->x.cells[j]? =some y->∃u,w.cell? ⟨b,o+i*sz+j,none⟩=some u/\RelP D w u y): ∃d:List Value,d.length=n*sz/\(Builtin.firstCells sz n (.slice z L.length cap)).run P w= .ok d.toArray w/\(∀u∈d,u.oneCell'=true)/\(0<n->∀x∈L,x.cells.length=sz)/\∀(i j:Nat) (p q:PV),i<n->L[i]? =some p->p.cells[j]? =some q->∃u,d[i*sz+j]? =some u/\RelP D w u q:=by
 have _:=O;rcases Nat.eq_zero_or_pos n with rfl|F;·refine⟨[],by simp,?_,λu H=>by grind,λh=>absurd h (by simp),λi j p q r=>absurd r (by simp)⟩;cases z with|none=>rfl|some J=>exact run_firstCells_some (P:=P) w sz 0 J L.length cap [] (by simp) (λj v s=>by grind)
 ·obtain⟨g,I,rfl,hg,hsz,hc⟩:=e (by omega);obtain⟨d,C,n2⟩:=gK (n:=n*sz) (p:=λk u=>w.cell? ⟨g,I+k,none⟩=some u/\u.oneCell'=true/\∀(p q:PV),L[k/sz]? =some p->p.cells[k%sz]? =some q->RelP D w u q) (λk Q=>by
   have r:k/sz<n:=(V_ E).2 Q;have s:k%sz<sz:=aH_ _ E;have hp:=d_ (l:=L) (i:=k/sz) (by omega);have U:=hsz _ (h_ hp);have B:=d_ (l:=(L[k/sz]'(by omega)).cells) (i:=k%sz) (by omega);obtain⟨u,M,N⟩:=hc _ _ _ _ hp B;refine⟨u,?_,?_,λp q T Y=>?_⟩;·rw[<-M,ar_,aw_,ag_]
   ·have f:=A _ (h_ hp);simp only[PV.ok,j_]at f;exact gN N (f _ (h_ B))
   grind)
  refine⟨d,C,run_firstCells_some (P:=P) w sz n ⟨g,I,none⟩ L.length cap d C (λj v s=>by rw[addr_add];grind),λu H=>?_,λ_=>hsz,λi j p q r hp B=>?_⟩;·obtain⟨j,s⟩:=G_ H;grind
  ·have s:j<sz:=by grind
   have R:i*sz+j<d.length:=by rw[C];have:(i+1)*sz<=n*sz:=r_ _ r;grind
   grind
theorem Pw(C:Inv c θ D st a w)(hd:∀k,o.dst=some k->k<c.n){K KP:St->Prop}{t u e:TypeId}{sz:Nat}{x y:Operand}{U:Call}(ho:o.op= .call U)(gc:U.callee= .builtin .copy)(E:U.args= #[x,y])(R:U.argTypes= #[t,u]) (he:eZ P t=some e) (hs:bK P e=some sz) (h0:0<sz) (h:sexec P o.dst (.copy e sz (.of x) (.of y)) st K KP):Leaves P o c K KP a w:=by
 intro next Q hn _;obtain⟨ax,hx,ay,hy,hl⟩:=h;obtain⟨L,ad,v,⟨ur,id,rfl,_,ob,rg,xs,rfl,hk⟩,T,_,_,B⟩:=nB C.ok (C.get hy) hl;obtain⟨l,A,hh⟩:=C.get hx;have F:=C.ok.objs id l _ A rg;have hu:P.underlying t=some (.slice e):=by unfold eZ at he;grind
 have hsz:(sizeOf e).run P w= .ok sz w:=run_sizeOf hs;obtain⟨d,n1,n2,n3,n4,n5⟩:=Sk (P:=P) (cap:=v) (n:=min L.length xs.length) C h0 ur (Nat.min_le_left _ _) B;have H:∀(w':World) (Bk:St),(Builtin.copy_ #[t,u] o.type #[a.eval x,a.eval y]).run P w= .ok (goInt ((min L.length xs.length:Nat):Int)) w'->Inv c θ D {st with hp:=st.hp.set id (.vec e sz (L.take xs.length++xs.drop L.length))} a w'->o.wp P a w next Q:=by
  intro w' _ hr el;unfold Oper.wp;have:(execOp a.eval o).run P w= .ok (.value (goInt ((min L.length xs.length:Nat):Int))) w':=by simp[execOp,ho,resolve,gc,E,R,invoke,builtin,hr]
  rw[this];refine hn _ _ ⟨_,hk,θ,D,el.put hd ?_⟩;rw[Nat.min_comm];exact RelP.sc _
 cases l<;>simp only[RelO,Loc.head]at F hh
 ·rename_i a0;subst F;have hm:min L.length ([]:List PV).length=0:=by simp
  have I:d=[]:=w_ (by grind);subst I;have ph:((min L.length ([]:List PV).length:Nat):Int)=0:=by simp
  refine H w st ?_ ?_;·rw[hh,T,ph];rw[hm]at n2;have z:(Builtin.lenOf (.slice ad L.length v)).run P w= .ok L.length w:=rfl;cases a0<;>simp[Builtin.copy_,run_underlying hu,z,hsz,n2,storeCells]
  ·have J:st.hp.set id (.vec e sz (L.take ([]:List PV).length++([]:List PV).drop L.length))=st.hp:=by apply ac_;grind
   rw[J];omega
 ·rename_i g m cap s O;obtain⟨rfl,rfl,h3,h4,h5,r,h6,h7,h8⟩:=F;have At:min L.length xs.length*s<=r.size:=by rw[h7];exact r_ _ (by omega)
  have N:=run_storeCells_at P g 0 e d 0 r w h6 (by omega) n3;simp only[J_,aZ_,aU_,ay_]at N;have M:=jz r 0 d (by omega);simp only[aU_,ay_,J_]at M;obtain⟨s1,s2⟩:=M;refine H (w.setRow g (d++r.toList.drop d.length).toArray) st ?_ (C.store (w':=w.setRow g (d++r.toList.drop d.length).toArray) (l:=.hdr g xs.length cap s O) A (.inl rfl) rfl rfl rfl (by simp) (λk hk=>setRow_other _ _ _ _ hk) ?_);·rw[hh,T];have z:(Builtin.lenOf (.slice ad L.length v)).run P w= .ok L.length w:=rfl;have qr:Nat.min L.length xs.length=min L.length xs.length:=rfl;simp[Builtin.copy_,run_underlying hu,z,hsz,qr,n2,N]
  ·have hD:∀b,D b->(w.setRow g (d++r.toList.drop d.length).toArray).heap[b]? =w.heap[b]? :=λb hb=>setRow_other _ _ _ _ λe=>(C.ok.olt id _ g A (.inl rfl)).2 (e▸hb);refine⟨rfl,by grind,h3,h4,λp hp=>?_,_,setRow_heap _ _ _ _ _ _ h6,by omega,λi j p q hp hq=>?_⟩;·grind
   ·by_cases hi:i<min L.length xs.length;·rw[k_ (by grind),C_,if_pos (by omega)]at hp;obtain⟨u,e1,Y⟩:=n5 i j p q hi hp hq;refine⟨u,?_,Y.mono (λ_ h=>h) hD⟩;grind
    ·rw[n_ (by grind),aG_]at hp;have f:L.length+(i - (L.take xs.length).length)=i\/L.length+(i - (L.take xs.length).length)>=xs.length:=by grind
     rcases f with f|f;·rw[f]at hp;obtain⟨u,e1,Y⟩:=h8 i j p q hp hq;refine⟨u,?_,Y.mono (λ_ h=>h) hD⟩;have wr:min L.length xs.length*s<=i*s:=r_ _ (by omega);grind
     grind
end
section
variable {P:Program} {o:Oper} {c:Ctx} {θ:List Loc} {D:Nat->Prop} {st:St} {a:Act} {w:World}
theorem RS(hI:Inv c θ D st a w)(hd:∀k,o.dst=some k->k<c.n){K KP:St->Prop}{t e:TypeId}{sz bytes:Nat}{z:Value}{x y:Operand}{cl:Call}(ho:o.op= .call cl)(CT:cl.callee= .builtin .append)(R:cl.args= #[x,y])(rg:cl.argTypes= #[t,t]) (he:eZ P t=some e) (hs:bK P e=some sz) (hb:ig P e=some bytes) (hz:cZ P e=some z) (DS:z.cells.size=sz) (h0:0<sz) (Bx:0<bytes) {pl:Option Nat} (h:GL st (.append e sz bytes (.of x) (.of y)) λob mk=>BX st pl/\K ((st.new pl ob).putO o.dst (.b (mk (st.nid pl))))):Leaves P o c K KP a w:=by
 intro next Q hn _;obtain⟨ax,hx,ay,hy,hL⟩:=h;have hX:=hI.get hx;obtain⟨L,ad,m,⟨DH,DP,CD,Y,hk⟩,wr,Hx,Fk,C⟩:=nB hI.ok (hI.get hy) hL;have hu:P.underlying t=some (.slice e):=by
  unfold eZ at he;split at he;·cases he;assumption
  ·cases he
 simp only[bK,c_]at hs;obtain⟨f,E,rfl⟩:=hs;have DQ:f.zero=some z:=by simpa[cZ,E]using hz
 have BT:f.bytes=bytes:=by simpa[ig,E]using hb
 subst BT;have el:∀(v:Value) (w':World) (J:St),(Builtin.append_ #[t,t] o.type #[a.eval x,a.eval y]).run P w= .ok v w'->K J->Rel c J (a.put o.dst v) w'->o.wp P a w next Q:=by
  intro v w' J hr hk qr;unfold Oper.wp;have:(execOp a.eval o).run P w= .ok (.value v) w':=by simp[execOp,ho,resolve,CT,R,rg,invoke,builtin,hr]
  rw[this];exact hn _ _ ⟨J,hk,qr⟩
 have U:0<L.length->∃(ab:Addr) (d:List Value),ad=some ab/\d.length=L.length*f.size/\(∀(j:Nat) (u:Value),d[j]? =some u->w.cell? (ab.add j)=some u)/\(∀u∈d,u.oneCell'=true)/\(∀p∈L,p.cells.length=f.size)/\∀(i j:Nat) (p q:PV),L[i]? =some p->p.cells[j]? =some q->∃u,d[i*f.size+j]? =some u/\RelP D w u q:=by
  intro hl
  obtain⟨g,og,rfl,hg,hsz,hc⟩:=C hl
  obtain⟨d,n1,n2⟩:=gK (n:=L.length*f.size) (p:=λk u=>w.cell? ⟨g,og+k,none⟩=some u/\u.oneCell'=true/\∀(p q:PV),L[k/f.size]? =some p->p.cells[k%f.size]? =some q->RelP D w u q) (λk hk=>by
   have T:k/f.size<L.length:=(V_ h0).2 hk;have F:k%f.size<f.size:=aH_ _ h0;have hp:=d_ T;have Y:=hsz _ (h_ hp);have H:=d_ (l:=(L[k/f.size]).cells) (i:=k%f.size) (by omega);obtain⟨u,N,e2⟩:=hc _ _ _ _ hp H;refine⟨u,?_,?_,λp q gc ph=>?_⟩;·rw[<-N,ar_,aw_,ag_]
   ·have M:=DH _ (h_ hp);simp only[PV.ok,j_]at M;exact gN e2 (M _ (h_ H))
   ·rw[hp]at gc;cases gc;rw[H]at ph;cases ph;exact e2)
  refine⟨_,d,rfl,n1,λj u F=>by rw[addr_add];exact(n2 j u F).1,λu hu=>?_,hsz,λi j p q hp H=>?_⟩
  ·obtain⟨j,F⟩:=G_ hu;exact(n2 j u F).2.1
  ·have F:j<f.size:=by grind
   have T:i<L.length:=(a_.1 hp).1;have In:i*f.size+j<d.length:=by rw[n1];have:(i+1)*f.size<=L.length*f.size:=r_ _ T;rw[R_,aD_]at this;omega
   grind
 have I:∀(w':World) (r d:List Value) (xs:List PV) (cv:Array Value) (k:Nat),(∀b,D b->w'.heap[b]? =w.heap[b]?)->r.length=xs.length*f.size->cv.size=k*f.size->(∀j,j<r.length->cv[j]? =r[j]?)->(∀j,j<d.length->cv[r.length+j]? =d[j]?)->(∀p∈xs,p.cells.length=f.size)->(∀p∈L,p.cells.length=f.size)->d.length=L.length*f.size->(∀(i j:Nat) (p q:PV),xs[i]? =some p->p.cells[j]? =some q->∃u,r[i*f.size+j]? =some u/\RelP D w u q)->(∀(i j:Nat) (p q:PV),L[i]? =some p->p.cells[j]? =some q->∃u,d[i*f.size+j]? =some u/\RelP D w u q)->∀(i j:Nat) (p q:PV),(xs++L)[i]? =some p->p.cells[j]? =some q->∃u,cv[i*f.size+j]? =some u/\RelP D w' u q:=by
  intro w' r d xs cv k B DM GS DB DA KK Fr JT ro rn i j p q hp H
  rcases F_ i xs.length with T|T
  ·rw[k_ T]at hp;obtain⟨u,N,e2⟩:=ro i j p q hp H;exact⟨u,by rw[DB _ (a_.1 N).1];exact N,e2.mono (λ_ h=>h) B⟩
  ·rw[n_ T]at hp;obtain⟨u,N,e2⟩:=rn _ j p q hp H;refine⟨u,?_,e2.mono (λ_ h=>h) B⟩;have:=DA _ (a_.1 N).1;rw[N]at this;rw[<-this,DM];congr 1;have:i*f.size=xs.length*f.size+(i - xs.length)*f.size:=by rw[<-R_];congr 1;omega
   omega
 have A:∀(k:Nat),L.length*f.bytes<=k->L.length<=k:=λk h=>av_ (ab_ _ Bx) h;obtain⟨s,ur⟩:∃s,a.eval x= .slice s 0 0:=by
  rcases DP with rfl|rfl;·exact⟨none,hX⟩
  ·obtain⟨h1,a0,n0,h2⟩:=hX;refine⟨a0,?_⟩;rw[h2]at h1⊢;cases h1;rfl
 have Fm:L.length<=140737488355328:=A _ CD;by_cases O:L.length=0;·have Bk:L=[]:=w_ O;subst Bk;obtain⟨θ',hp,hid⟩:=hI.pushAt Y (l:=.nil s) (o:=.vec e f.size []) (λθ' _=>rfl) (λg hg=>by cases hg);refine el (.slice s 0 0) w _ ?_ hk ⟨_,D,hp.put hd ⟨.nil s,hid,rfl⟩⟩;rw[ur,wr];exact db hu E s 0 0 (x_ _) ad m
 ·obtain⟨ab,d,rfl,n1,n2,n3,n4,n5⟩:=U (O_ O);have hr:=dz (P:=P) (w:=w) (ty:=o.type) hu E DQ s ab L.length m d n1 n2 (O_ O) (by omega) (by omega);have DE:=grownCap_ge w L.length 0 e;have Dg:grownCap w L.length 0 e<=maxLen:=grownCap_le_maxLen w _ 0 e (by simp only[maxLen];omega);have hcs:(d.toArray++Builtin.zeroCells z.cells (grownCap w L.length 0 e - L.length)).size=grownCap w L.length 0 e*f.size:=by simp only[an_,ap_,fp,DS,n1,<-R_];congr 1;omega
  have B:∀b,D b->(w.drew.alloc (.cells (d.toArray++Builtin.zeroCells z.cells (grownCap w L.length 0 e - L.length)) e)).heap[b]? =w.heap[b]? :=λb hb=>cH w.drew _ b (hI.ok.dlt b hb);obtain⟨θ',At,hid⟩:=hI.drew.allocAt Y (l:=.hdr w.heap.size L.length (grownCap w L.length 0 e) f.size none') (o:=.vec e f.size L) (ob:=.cells (d.toArray++Builtin.zeroCells z.cells (grownCap w L.length 0 e - L.length)) e) (λ_ h=>h.elim (λh=>h) False.elim) λθ' MT=>⟨rfl,rfl,DE,Dg,n4,_,dO w.drew _,hcs,λi j p q hp H=>by have:=I _ [] d [] _ _ B (by simp) hcs (λj F=>by simp at F) (λj F=>by simp only[M_,J_];rw[u_ (by simpa using F)];simp) (λp hp=>by cases hp) n4 n1 (λi j p q hp=>by simp at hp) n5 i j p q (by simpa using hp) H;exact this⟩
  refine el _ _ _ ?_ hk ⟨_,D,At.put hd ⟨_,hid,rfl⟩⟩;rw[ur,wr];exact hr
theorem Pq(hI:Inv c θ D st a w)(hd:∀k,o.dst=some k->k<c.n){K KP:St->Prop}{t e:TypeId}{sz bytes:Nat}{z:Value}{x y:Operand}{cl:Call}(ho:o.op= .call cl)(Fr:cl.callee= .builtin .append)(wr:cl.args= #[x,y])(DH:cl.argTypes= #[t,t]) (he:eZ P t=some e) (hs:bK P e=some sz) (M:ig P e=some bytes) (hz:cZ P e=some z) (Nd:z.cells.size=sz) (h0:0<sz) (Fk:0<bytes) (h:kg P st (.appD e sz bytes (.of x) (.of y)) λx=>K (st.putO o.dst x)):Leaves P o c K KP a w:=by
 intro next Q hn _;obtain⟨ax,hx,ay,hy,hL⟩:=h;have hX:=hI.get hx;obtain⟨L,ad,m,⟨KK,r,DM,At,hk⟩,DP,PA,Pa,U⟩:=nB hI.ok (hI.get hy) hL;have hu:P.underlying t=some (.slice e):=by
  unfold eZ at he;split at he;·cases he;assumption
  ·cases he
 simp only[bK,c_]at hs;obtain⟨s,H,rfl⟩:=hs;have DQ:s.zero=some z:=by simpa[cZ,H]using hz
 have Fm:s.bytes=bytes:=by simpa[ig,H]using M
 subst Fm;have CD:∀(v:Value) (w':World) (ph:St),(Builtin.append_ #[t,t] o.type #[a.eval x,a.eval y]).run P w= .ok v w'->K ph->Rel c ph (a.put o.dst v) w'->o.wp P a w next Q:=by
  intro v w' ph hr hk DE;unfold Oper.wp;have:(execOp a.eval o).run P w= .ok (.value v) w':=by simp[execOp,ho,resolve,Fr,wr,DH,invoke,builtin,hr]
  rw[this];exact hn _ _ ⟨ph,hk,DE⟩
 have Bk:0<L.length->∃(ab:Addr) (f:List Value),ad=some ab/\f.length=L.length*s.size/\(∀(j:Nat) (u:Value),f[j]? =some u->w.cell? (ab.add j)=some u)/\(∀u∈f,u.oneCell'=true)/\(∀p∈L,p.cells.length=s.size)/\∀(i j:Nat) (p q:PV),L[i]? =some p->p.cells[j]? =some q->∃u,f[i*s.size+j]? =some u/\RelP D w u q:=by
  intro hl
  obtain⟨g,og,rfl,hg,hsz,hc⟩:=U hl
  obtain⟨f,N,n2⟩:=gK (n:=L.length*s.size) (p:=λk u=>w.cell? ⟨g,og+k,none⟩=some u/\u.oneCell'=true/\∀(p q:PV),L[k/s.size]? =some p->p.cells[k%s.size]? =some q->RelP D w u q) (λk hk=>by
   have F:k/s.size<L.length:=(V_ h0).2 hk;have C:k%s.size<s.size:=aH_ _ h0;have hp:=d_ F;have MT:=hsz _ (h_ hp);have A:=d_ (l:=(L[k/s.size]).cells) (i:=k%s.size) (by omega);obtain⟨u,B,E⟩:=hc _ _ _ _ hp A;refine⟨u,?_,?_,λp q I J=>?_⟩;·rw[<-B,ar_,aw_,ag_]
   ·have qr:=KK _ (h_ hp);simp only[PV.ok,j_]at qr;exact gN E (qr _ (h_ A))
   ·rw[hp]at I;cases I;rw[A]at J;cases J;exact E)
  refine⟨_,f,rfl,N,λj u C=>by rw[addr_add];exact(n2 j u C).1,λu hu=>?_,hsz,λi j p q hp A=>?_⟩
  ·obtain⟨j,C⟩:=G_ hu;exact(n2 j u C).2.1
  ·have C:j<s.size:=by rw[<-hsz p (h_ hp)];exact(a_.1 A).1
   have F:i<L.length:=(a_.1 hp).1;have JT:i*s.size+j<f.length:=by rw[N];have:(i+1)*s.size<=L.length*s.size:=r_ _ F;rw[R_,aD_]at this;omega
   grind
 have gc:∀(w':World) (d f:List Value) (xs:List PV) (cv:Array Value) (k:Nat),(∀b,D b->w'.heap[b]? =w.heap[b]?)->d.length=xs.length*s.size->cv.size=k*s.size->(∀j,j<d.length->cv[j]? =d[j]?)->(∀j,j<f.length->cv[d.length+j]? =f[j]?)->(∀p∈xs,p.cells.length=s.size)->(∀p∈L,p.cells.length=s.size)->f.length=L.length*s.size->(∀(i j:Nat) (p q:PV),xs[i]? =some p->p.cells[j]? =some q->∃u,d[i*s.size+j]? =some u/\RelP D w u q)->(∀(i j:Nat) (p q:PV),L[i]? =some p->p.cells[j]? =some q->∃u,f[i*s.size+j]? =some u/\RelP D w u q)->∀(i j:Nat) (p q:PV),(xs++L)[i]? =some p->p.cells[j]? =some q->∃u,cv[i*s.size+j]? =some u/\RelP D w' u q:=by
  intro w' d f xs cv k R Y Pc Hx GS BT Pb PB ro rn i j p q hp A
  rcases F_ i xs.length with F|F
  ·rw[k_ F]at hp;obtain⟨u,B,E⟩:=ro i j p q hp A;exact⟨u,by rw[Hx _ (a_.1 B).1];exact B,E.mono (λ_ h=>h) R⟩
  ·rw[n_ F]at hp;obtain⟨u,B,E⟩:=rn _ j p q hp A;refine⟨u,?_,E.mono (λ_ h=>h) R⟩;have:=GS _ (a_.1 B).1;rw[B]at this;rw[<-this,Y];congr 1;have:i*s.size=xs.length*s.size+(i - xs.length)*s.size:=by rw[<-R_];congr 1;omega
   omega
 have CT:r.length+L.length<=140737488355328:=av_ (ab_ _ Fk) At;obtain⟨O,Bx,hold⟩:∃O:Option Addr,a.eval x= .slice O r.length r.length/\(0<r.length->∃b o',O=some ⟨b,o',none⟩/\(∀p∈r,p.cells.length=s.size)/\∃d:List Value,d.length=r.length*s.size/\(∀(j:Nat) (u:Value),d[j]? =some u->w.cell? ⟨b,o'+j,none⟩=some u)/\∀(i j:Nat) (p q:PV),r[i]? =some p->p.cells[j]? =some q->∃u,d[i*s.size+j]? =some u/\RelP D w u q):=by
  rcases DM with⟨rfl,rfl⟩|rfl
  ·exact⟨none,hX,λh=>absurd h (by simp)⟩
  ·obtain⟨h1,O,n0,h2⟩:=hX;obtain⟨a1,cap,B,E,e3⟩:=qS h1;rw[h2]at B;cases B;refine⟨O,h2,λhl=>?_⟩;obtain⟨b,o',rfl,M,hsz,hc⟩:=e3 hl;obtain⟨d,N,n2⟩:=gK (n:=r.length*s.size) (p:=λk u=>w.cell? ⟨b,o'+k,none⟩=some u/\∀(p q:PV),r[k/s.size]? =some p->p.cells[k%s.size]? =some q->RelP D w u q) (λk hk=>by
    have F:k/s.size<r.length:=(V_ h0).2 hk;have C:k%s.size<s.size:=aH_ _ h0;have hp:=d_ F;have MT:=hsz _ (h_ hp);have A:=d_ (l:=(r[k/s.size]).cells) (i:=k%s.size) (by omega);obtain⟨u,B,E⟩:=hc _ _ _ _ hp A;refine⟨u,?_,λp q I J=>?_⟩;·rw[<-B,ar_,aw_,ag_]
    ·rw[hp]at I;cases I;rw[A]at J;cases J;exact E)
   refine⟨b,o',rfl,hsz,d,N,λj u C=>(n2 j u C).1,λi j p q hp A=>?_⟩;have C:j<s.size:=by rw[<-hsz p (h_ hp)];exact(a_.1 A).1
   have F:i<r.length:=(a_.1 hp).1;have JT:i*s.size+j<d.length:=by rw[N];have:(i+1)*s.size<=r.length*s.size:=r_ _ F;rw[R_,aD_]at this;omega
   grind
 by_cases T:L.length=0
 ·have ur:L=[]:=w_ T;subst ur;refine CD (.slice O r.length r.length) w _ ?_ hk ⟨θ,D,hI.put hd ?_⟩;·rw[Bx,DP];exact db hu H O _ _ (x_ _) ad m
  ·rw[List.append_nil];rcases DM with⟨rfl,rfl⟩|rfl;·exact .nil _ _
   ·obtain⟨h1,_⟩:=hX;rw[Bx]at h1;exact h1
 ·obtain⟨ab,f,rfl,N,n2,n3,n4,n5⟩:=Bk (O_ T);have grow:∀(d:List Value),d.length=r.length*s.size->(∀p∈r,p.cells.length=s.size)->(∀(i j:Nat) (p q:PV),r[i]? =some p->p.cells[j]? =some q->∃u,d[i*s.size+j]? =some u/\RelP D w u q)->(Builtin.append_ #[t,t] o.type #[.slice O r.length r.length,.slice (some ab) L.length m]).run P w= .ok (.slice (some ⟨w.heap.size,0,none⟩) (r.length+L.length) (grownCap w (r.length+L.length) r.length e)) (w.drew.alloc (.cells (d.toArray++f.toArray++Builtin.zeroCells z.cells (grownCap w (r.length+L.length) r.length e - (r.length+L.length))) e))->o.wp P a w next Q:=by
   intro d Y BT ro rg
   have In:=grownCap_ge w (r.length+L.length) r.length e
   have hcs:(d.toArray++f.toArray++Builtin.zeroCells z.cells (grownCap w (r.length+L.length) r.length e - (r.length+L.length))).size=grownCap w (r.length+L.length) r.length e*s.size:=by simp only[an_,ap_,fp,Nd,Y,N,<-R_];congr 1;omega
   generalize el:w.drew.alloc (.cells (d.toArray++f.toArray++Builtin.zeroCells z.cells (grownCap w (r.length+L.length) r.length e - (r.length+L.length))) e)=w' at rg
   have R:∀b,D b->w'.heap[b]? =w.heap[b]? :=λb M=>by rw[<-el];exact cH w.drew _ b (hI.ok.dlt b M)
   have DB:w'.heap[w.heap.size]? =some (.cells (d.toArray++f.toArray++Builtin.zeroCells z.cells (grownCap w (r.length+L.length) r.length e - (r.length+L.length))) e):=by rw[<-el];exact dO w.drew _
   have DA:w.heap.size<w'.heap.size:=by rw[<-el];simp
   have DS:=hI.drew.below (D':=λb=>D b\/(w.heap.size<=b/\b<w'.heap.size)) (w':=w') (by rw[<-el];exact lK w.drew _) hI.w0le (λb M=>.inl M) (λb M=>M)
   refine CD (.slice (some ⟨w.heap.size,0,none⟩) (r.length+L.length) (grownCap w (r.length+L.length) r.length e)) w' _ ?_ hk ⟨θ,_,DS.put hd ?_⟩
   ·rw[Bx,DP];exact rg
   ·have hh:RelP (λb=>D b\/(w.heap.size<=b/\b<w'.heap.size)) w' (.slice (some ⟨w.heap.size,0,none⟩) (r++L).length (grownCap w (r.length+L.length) r.length e)) (nz s.size (r++L)):=by
     refine gO (by simpa using In) λ_=>⟨w.heap.size,0,rfl,.inr ⟨x_ _,DA⟩,λp hp=>(o_.1 hp).elim (BT p) (n4 p),λi j p q hp A=>?_⟩;obtain⟨u,B,E⟩:=gc w' d f r _ _ R Y hcs (λj C=>by rw[u_ (by simp;omega),u_ (by simpa using C)];simp) (λj C=>by rw[u_ (by simp;omega),ah_ (by simp)];simp) BT n4 N ro n5 i j p q hp A
     refine⟨u,?_,E.mono (λb M=>.inl M) (λ_ _=>rfl)⟩;rw[J_,cell_of_row _ _ _ _ e (0,0) DB];exact B
    rw[Z_]at hh;exact hh
  by_cases Dg:r.length=0;·have ur:r=[]:=w_ Dg;subst ur;have hr:=dz (P:=P) (w:=w) (ty:=o.type) hu H DQ O ab L.length m f N n2 (O_ T) (by simp only[M_]at CT;omega) (by simp only[M_,J_]at At;omega);refine grow [] (by simp) (λp hp=>by cases hp) (λi j p q hp=>by simp at hp) ?_;simpa using hr
  ·obtain⟨b,o',rfl,hsz,d,m1,m2,m3⟩:=hold (O_ Dg);have q1:0<L.length:=O_ T;have q2:r.length<r.length+L.length:=Nat.lt_add_of_pos_right q1;have q3:0<r.length+L.length:=Nat.add_pos_right _ q1;have q4:r.length+L.length<=9223372036854775807:=av_ CT (by decide);have q5:((r.length+L.length:Nat):Int)<=9223372036854775807:=Int.ofNat_le.2 q4;have hr:=run_append_grow (P:=P) w t o.type e s z hu H DQ ⟨b,o',none⟩ r.length r.length d m1 (λj u C=>by rw[addr_add];exact m2 j u C) ab L.length m f N n2 (by first|exact q1|exact q2|exact q5) (by first|exact q1|exact q2|exact q5) (growslice_fits (by first|exact q1|exact q2|exact q3|exact q5|exact q5) At)
   exact grow d m1 hsz m3 hr
end
section
variable {P:Program} {o:Oper} {c:Ctx} {θ:List Loc} {D:Nat->Prop} {st:St} {a:Act} {w:World}
theorem K.only_at{k:Av.K}{sz j:Nat}(h:k.only sz j=true):(k.at j).isSome=true/\∀i,i<sz->i≠j->k.at i=none:=by simp only[K.only,m_,j_,v_,T_,Nat.beq_eq,am_]at h;exact⟨h.1,λi z hn=>(h.2 i z).resolve_left (by simpa using hn)⟩
def Loc.hv:Loc->Value
 | .nil a=>.slice a 0 0
 | .hdr g n cap _ _=>.slice (some ⟨g,0,none⟩) n cap
 |_=>undef
theorem Loc.hv_eq{l:Loc}{v:Value}(h:l.head v):v=l.hv:=by cases l<;>simp only[Loc.head]at h<;>first|exact h|exact h.elim
def X8(θ:List Loc):BV->Option PV
 | .sl i=>some (.sc ((θ[i]?.map Loc.hv).getD undef))
 |b=>b.toPV
theorem U7{v:Value}{x:BV}{p:PV}(h:RelB θ D w v x)(a:X8 θ x=some p):RelP D w v p:=by
 cases x with
 |sl i=>obtain⟨l,b,c⟩:=h;cases a;rw[b,Loc.hv_eq c];exact .sc _
 |_=>exact lT h a
def YS(θ:List Loc):AV->Option PV
 | .agg xs=>(xs.mapM (X8 θ)).map .agg
 |_=>none
theorem U5{v:Value}{x:AV}{p:PV}(h:RelA θ D w v x)(a:YS θ x=some p):RelP D w v p:=by cases x with|b x=>cases a|tup x=>cases a|agg xs=>obtain⟨vs,rfl,j,d⟩:=h;simp only[YS,c_]at a;obtain⟨k,c,rfl⟩:=a;obtain⟨e,f⟩:=mapM_some c;refine RelP.agg _ _ (by omega) λi u p g hp=>?_;obtain⟨x,a⟩:=bi e hp;exact U7 (d i u x g a) (f i x p a hp)
theorem Jt(θ:List Loc):∀{cs:List BV} {d:List PV},cs.mapM BV.toPV=some d->cs.mapM (X8 θ)=some d
 |[],_,h=>h
 |f::cs,d,a=>by simp only[A_,B_,K_,b_,g_]at a⊢;obtain⟨g,c,e,b,rfl⟩:=a;refine⟨g,?_,e,Jt θ b,rfl⟩;cases f<;>first|exact c|cases c
theorem Na(θ:List Loc):∀{cs:List BV} {c:List PV} {j id:Nat} {l:Loc},cs[j]? =some (.sl id)->θ[id]? =some l->(cs.set j .nils).mapM BV.toPV=some c->cs.mapM (X8 θ)=some (c.set j (.sc l.hv))
 |[],_,_,_,_,h,_,_=>by simp at h
 |d::cs,c,0,id,l,h,hl,b=>by simp at h;subst h;simp only[List.set_cons_zero,A_,B_,K_,b_,g_]at b;obtain⟨y,f,g,a,rfl⟩:=b;have e:=Jt θ a;simp[e,X8,hl]
 |d::cs,c,j+1,id,l,h,hl,b=>by
  simp only[List.set_cons_succ,A_,B_,K_,b_,g_]at b;obtain⟨y,f,g,a,rfl⟩:=b;have e:=Na θ (by simpa using h) hl a;have k:X8 θ d=some y:=by cases d<;>first|exact f|cases f
  simp[e,k]
theorem Iq(N:Inv c θ D st a w)(hd:∀k,o.dst=some k->k<c.n){K KP:St->Prop}{t e:TypeId}{len sz:Nat}{parts:Array (Nat×Operand)}{z:Value}(ho:o.op= .buildSlice t len parts)(he:eZ P t=some e)(hs:bK P e=some sz)(hz:cZ P e=some z) (E:p9 parts.toList=true) (el:z.cells.size=sz) {k:Av.K} {j:Nat} {x:SX} (r:parts.toList.map (λq=>SX.of q.2)=[x]) (h:sexec P o.dst (.bsliceT k j e sz len x) st K KP):Leaves P o c K KP a w:=by
 intro next Q hn _;obtain⟨ax,s,cs,id,p,rfl,rfl,h0,hmax,hj,g,hp,n,A,hk⟩:=h;simp only[AV.toPV,c_]at hp;obtain⟨L,F,rfl⟩:=hp;obtain⟨q0,rg,rfl⟩:∃q,parts.toList=[q]/\SX.of q.2=x:=by cases hp:parts.toList with|nil=>rw[hp]at r;cases r|cons q l=>rw[hp]at r;simp only[I_,List.cons.injEq,List.map_eq_nil_iff]at r;exact⟨q,by rw[r.2],r.1⟩
 have hX:=N.get s;have qr:j<cs.length:=(a_.1 hj).1;have ph:L.length=cs.length:=by have:=(mapM_some F).1;simp at this;omega
 obtain⟨l,hl,d⟩:∃l,θ[id]? =some l/\l.head l.hv:=by obtain⟨vs,_,h1,M⟩:=hX;have hv:=l_ (xs:=vs) (i:=j) (by omega);obtain⟨l,hl,hh⟩:=M j _ _ hv hj;exact⟨l,hl,by have e:=Loc.hv_eq hh;rw[<-e];exact hh⟩
 have C:(l.hv).oneCell'=true:=by cases l<;>simp only[Loc.head]at d<;>first|rfl|exact d.elim
 have H:(parts.toList.map λq=>SX.of q.2).mapM (λx=>(st.get x).bind (YS θ))=some [.agg (L.set j (.sc l.hv))]:=by rw[r];simp[s,YS,Na θ hj hl F]
 have B:∀q∈[PV.agg (L.set j (.sc l.hv))],q.cells.length=sz/\q.ok=true:=by
  intro q f;simp at f;subst f;refine⟨by simpa[PV.cells]using n,?_⟩;simp only[PV.ok,PV.cells,j_]at A⊢;intro y O;rcases al_ O with h|rfl;·exact A y h
  ·exact C
 obtain⟨J,I,h1,M⟩:=uu N (λ_ _ _=>U5) ho he hs hz E el H rfl h0 (by omega) B;obtain⟨o1,o2⟩:=Av.K.only_at g;obtain⟨θ',U,hid⟩:=N.allocAt (pl:=none) trivial (l:=.hdr w.heap.size 1 1 sz none') (o:=.tree e sz k [.agg L] (some (0,j,.sl id))) (ob:=.cells J e) (λ_ h=>h.elim (λh=>h) False.elim) λθ' gc=>
  ⟨rfl,rfl,x_ _,by simp[maxLen],λq f=>by simp at f;subst f;exact n,J,λ_ _ _=>False,dO w _,h1,λ_ _ _ h=>h.elim,λ_ _ _ _ _ h _=>h.elim,λi j' b Y=>by cases Y;exact⟨by simp,o1⟩,λi i' q y f O=>by
   have hi:i=0:=by have:=(a_.1 f).1;simp at this;exact this
   subst hi;simp at f;subst f;have v:i'<L.length:=(a_.1 O).1;by_cases e:j=i';·subst e;obtain⟨u,R,T⟩:=M 0 j _ (.sc l.hv) rfl (by simp only[PV.cells];rw[p_ v]);refine⟨u,R,?_⟩;cases T;simp only[bS,and_self,if_true];exact⟨l,gc _ _ hl (by rintro rfl;exact d),d⟩
   ·obtain⟨u,R,T⟩:=M 0 i' _ y rfl (by simp only[PV.cells];rw[i_ e];exact O);refine⟨u,R,?_⟩;simp only[bS,e,and_false,if_false];have hsz:i'<sz:=by rw[<-n];exact v
    rw[o2 i' hsz (Ne.symm e)];exact .flat _ _ _ (T.mono (λ_ h=>h) (λb Y=>cH w _ b (N.ok.dlt b Y)))⟩
 unfold Oper.wp;rw[I];refine hn _ _ ⟨_,hk,_,_,U.put hd ⟨_,hid,rfl⟩⟩
theorem Pr(hI:Inv c θ D st a w)(hd:∀k,o.dst=some k->k<c.n){K KP:St->Prop}{t e:TypeId}{sz bytes:Nat}{z:Value}{x y:Operand}{cl:Call}(ho:o.op= .call cl)(JT:cl.callee= .builtin .append)(wr:cl.args= #[x,y])(Fm:cl.argTypes= #[t,t]) (he:eZ P t=some e) (hs:bK P e=some sz) (F:ig P e=some bytes) (hz:cZ P e=some z) (PJ:z.cells.size=sz) (h0:0<sz) (Hx:0<bytes) {k:Av.K} {jj:Nat} (h:sexec P o.dst (.appH k jj e sz bytes (.of x) (.of y)) st K KP):Leaves P o c K KP a w:=by
 intro next Q hn _;obtain⟨ax,hx,ay,hy,id,Rg,kid,xs,p,rfl,rfl,DE,PA,DP,Bx,DQ,At,hk⟩:=h;obtain⟨o1,o2⟩:=Av.K.only_at Bx;obtain⟨l,hl,hh⟩:=hI.get hx;obtain⟨l',Pc,R⟩:=hI.get hy;have ph:=hI.ok.objs id l _ hl PA;have qr:=hI.ok.objs Rg l' _ Pc DP;have hu:P.underlying t=some (.slice e):=by
  unfold eZ at he;split at he;·cases he;assumption
  ·cases he
 simp only[bK,c_]at hs;obtain⟨r,gc,rfl⟩:=hs;have Fr:r.zero=some z:=by simpa[cZ,gc]using hz
 have In:r.bytes=bytes:=by simpa[ig,gc]using F
 subst In;have CT:∀(v:Value) (w':World) (rg:St),(Builtin.append_ #[t,t] o.type #[a.eval x,a.eval y]).run P w= .ok v w'->K rg->Rel c rg (a.put o.dst v) w'->o.wp P a w next Q:=by
  intro v w' rg hr hk DS;unfold Oper.wp;have:(execOp a.eval o).run P w= .ok (.value v) w':=by simp[execOp,ho,resolve,JT,wr,Fm,invoke,builtin,hr]
  rw[this];exact hn _ _ ⟨rg,hk,DS⟩
 obtain⟨ab,m,d,R,n1,n2,n3,n4,n5⟩:∃(ab:Addr) (m:Nat) (d:List Value),a.eval y= .slice (some ab) 1 m/\d.length=1*r.size/\(∀(j:Nat) (u:Value),d[j]? =some u->w.cell? (ab.add j)=some u)/\(∀u∈d,u.oneCell'=true)/\p.cells.length=r.size/\∀(j:Nat) (q:PV),p.cells[j]? =some q->∃u,d[j]? =some u/\(match bS (some (0,jj,.sl kid)) 0 j with|some b=>RelB θ D w u b|none=>RelP D w u q):=by
  cases l'<;>simp only[RelO,Loc.head]at qr R
  ·exact absurd qr.1 (by simp)
  ·rename_i g n cap s O;obtain⟨rfl,rfl,h3,h4,h5,A,Os,h6,h7,hOs,hdj,-,h8⟩:=qr;have BT:=h5 p (by simp);simp only[ae_]at h3 R;have hcap:r.size<=A.size:=by rw[h7];exact Nat.le_mul_of_pos_left _ (by omega)
   have U:∀(j:Nat) (q:PV),p.cells[j]? =some q->∃u,A[j]? =some u/\(match bS (some (0,jj,.sl kid)) 0 j with|some b=>RelB θ D w u b|none=>RelP D w u q):=by
    intro j q H;obtain⟨u,L,E⟩:=h8 0 j p q rfl H;refine⟨u,by simpa using L,?_⟩;by_cases e:jj=j;·simp only[bS,e,and_self,if_true]at E⊢;exact E
    ·simp only[bS,e,and_false,if_false]at E⊢;rw[o2 j (by rw[<-BT];exact(a_.1 H).1) (Ne.symm e)]at E;cases E;assumption
   refine⟨_,cap,A.toList.take r.size,R,by simp;omega,λj u B=>?_,λu hu=>?_,BT,λj q H=>?_⟩
   ·rw[addr_add,J_,cell_of_row w g j A e (0,0) h6];rw[C_]at B;split at B;·simpa using B
    ·cases B
   ·obtain⟨j,B⟩:=G_ hu;rw[C_]at B;split at B
    ·rename_i DM;have H:=d_ (l:=p.cells) (i:=j) (by omega);obtain⟨u',L,E⟩:=U j _ H;rw[q_,L]at B;cases B;split at E
     ·rename_i b F;have:b= .sl kid:=by simp only[bS]at F;split at F<;>cases F;rfl
      subst this;exact r9 E rfl
     ·simp only[PV.ok,j_]at DQ;exact gN E (DQ _ (h_ H))
    ·cases B
   ·obtain⟨u,L,E⟩:=U j q H;have:j<r.size:=by rw[<-BT];exact(a_.1 H).1
    exact⟨u,by rw[C_,if_pos this,q_];exact L,E⟩
 have Dg:∀q∈[p],q.cells.length=r.size:=λq H=>by simp at H;subst H;exact n4
 have M:∀(w':World) (l2:Loc) (f:List Value) (cv:Array Value) (cap:Nat) (Os:Nat->Nat->Nat->Prop),(∀b,D b->w'.heap[b]? =w.heap[b]?)->(∀i j b,Os i j b->w'.heap[b]? =w.heap[b]?)->f.length=xs.length*r.size->cv.size=cap*r.size->(∀j,j<f.length->cv[j]? =f[j]?)->(∀j,j<d.length->cv[f.length+j]? =d[j]?)->(∀(i j:Nat) (p q:PV),xs[i]? =some p->p.cells[j]? =some q->∃u,f[i*r.size+j]? =some u/\RelT D w (k.at j) (Os i j) u q)->∀(i j:Nat) (p0 q:PV),(xs++[p])[i]? =some p0->p0.cells[j]? =some q->∃u,cv[i*r.size+j]? =some u/\(match bS (some (xs.length,jj,.sl kid)) i j with|some b=>RelB (θ.set id l2) D w' u b|none=>RelT D w' (k.at j) (Os i j) u q):=by
  intro w' l2 f cv cap Os N GS I RT Nd MT ro i j p0 q hp H
  rcases F_ i xs.length with hi|hi
  ·rw[k_ hi]at hp;obtain⟨u,L,E⟩:=ro i j p0 q hp H;refine⟨u,by rw[Nd _ (a_.1 L).1];exact L,?_⟩;simp only[bS,if_neg (λh:xs.length=i/\jj=j=>by omega)];exact E.mono (λ_ h=>h) N λb F=>GS i j b F
  ·rw[n_ hi]at hp;have Pb:i=xs.length:=by have:=(a_.1 hp).1;simp at this;omega
   subst Pb;simp at hp;subst hp;obtain⟨u,L,E⟩:=n5 j q H;refine⟨u,?_,?_⟩;·have:=MT _ (a_.1 L).1;rw[L]at this;rw[<-this,I]
   ·by_cases e:jj=j;·simp only[bS,e,and_self,if_true]at E⊢;obtain⟨lk,q1,q2⟩:=E;exact⟨lk,by rw[i_ (Ne.symm DE)];exact q1,q2⟩
    ·simp only[bS,e,and_false,if_false]at E⊢;rw[o2 j (by rw[<-n4];exact(a_.1 H).1) (Ne.symm e)];exact .flat _ _ _ (E.mono (λ_ h=>h) N)
 have RM:xs.length+1<=140737488355328:=av_ (ab_ _ Hx) At;have DM:id<θ.length:=(a_.1 hl).1;have ur:∀(l':Loc),(θ.set id l')[id]? =some l':=λl'=>p_ DM;have el:∀(i j:Nat) (b:BV),some (xs.length,jj,BV.sl kid)=some (i,j,b)->i<(xs++[p]).length/\(k.at j).isSome=true:=λi j b F=>by cases F;exact⟨by simp,o1⟩
 have grow:∀(C:Nat) (f:List Value) (v:Value) (O:Nat->Prop) (Os:Nat->Nat->Nat->Prop),(∀b,O b->l.has b)->(∀i j b,Os i j b->O b)->(∀i j i' j' b,Os i j b->Os i' j' b->i=i'/\j=j')->f.length=xs.length*r.size->(∀p∈xs,p.cells.length=r.size)->(∀(i j:Nat) (p q:PV),xs[i]? =some p->p.cells[j]? =some q->∃u,f[i*r.size+j]? =some u/\RelT D w (k.at j) (Os i j) u q)->(Builtin.append_ #[t,t] o.type #[v,.slice (some ab) 1 m]).run P w= .ok (.slice (some ⟨w.heap.size,0,none⟩) (xs.length+1) (grownCap w (xs.length+1) C e)) (w.drew.alloc (.cells (f.toArray++d.toArray++Builtin.zeroCells z.cells (grownCap w (xs.length+1) C e - (xs.length+1))) e))->a.eval x=v->o.wp P a w next Q:=by
  intro C f v O Os DA hOs hdj I PB ro Fk hv
  have T:∀b,O b->b<w.heap.size:=λb F=>(hI.ok.olt id l b hl (DA b F)).1
  have Pa:=grownCap_ge w (xs.length+1) C e
  have KK:grownCap w (xs.length+1) C e<=maxLen:=grownCap_le_maxLen w _ C e (by simp only[maxLen];omega)
  have hcs:(f.toArray++d.toArray++Builtin.zeroCells z.cells (grownCap w (xs.length+1) C e - (xs.length+1))).size=grownCap w (xs.length+1) C e*r.size:=by simp only[an_,ap_,fp,PJ,I,n1,<-R_];congr 1;omega
  have N:∀b,D b->(w.drew.alloc (.cells (f.toArray++d.toArray++Builtin.zeroCells z.cells (grownCap w (xs.length+1) C e - (xs.length+1))) e)).heap[b]? =w.heap[b]? :=λb F=>cH w.drew _ b (hI.ok.dlt b F)
  have Bk:=hI.move (l':=.hdr w.heap.size (xs.length+1) (grownCap w (xs.length+1) C e) r.size O) (o':=.tree e r.size k (xs++[p]) (some (xs.length,jj,.sl kid))) (w':=w.drew.alloc (.cells (f.toArray++d.toArray++Builtin.zeroCells z.cells (grownCap w (xs.length+1) C e - (xs.length+1))) e)) hl (λg hg=>by subst hg;exact ph.elim) (λg hg=>by subst hg;exact ph.elim) rfl rfl rfl (by simp) (λk hk _=>cH w.drew _ k hk) (λg hg=>by rcases hg with rfl|hg;exact⟨by simp,.inr (x_ _)⟩;exact⟨by simp;have:=T g hg;omega,.inl (DA g hg)⟩) ⟨rfl,by simp,Pa,KK,λp hp=>(o_.1 hp).elim (PB p) (Dg p),_,Os,dO w.drew _,hcs,λi j b F=>⟨hOs i j b F,by have:=T b (hOs i j b F);simp;omega⟩,hdj,el,M _ _ f _ _ Os N (λi j b F=>cH w.drew _ b (T b (hOs i j b F))) I hcs (λj B=>by rw[u_ (by simp;omega),u_ (by simpa using B)];simp) (λj B=>by rw[u_ (by simp;omega),ah_ (by simp)];simp) ro⟩
  refine CT _ _ _ ?_ hk ⟨_,D,Bk.put hd ⟨_,ur _,rfl⟩⟩
  rw[hv,R]
  exact Fk
 cases l<;>simp only[RelO,Loc.head]at ph hh;·rename_i CD;obtain⟨rfl,-⟩:=ph;have hr:=dz (P:=P) (w:=w) (ty:=o.type) hu gc Fr CD ab 1 m d n1 n2 (by omega) (by omega) (by simp only[M_,J_]at At;omega);refine grow 0 [] (.slice CD 0 0) none' (λ_ _ _=>False) (λ_ h=>h.elim) (λ_ _ _ h=>h.elim) (λ_ _ _ _ _ h _=>h.elim) (by simp) (λp hp=>by cases hp) (λi j p q hp=>by simp at hp) ?_ hh;simpa using hr
 ·rename_i g n cap s O;obtain⟨rfl,rfl,h3,h4,h5,A,Os,h6,h7,hOs,hdj,-,h8⟩:=ph;by_cases J:xs.length+1<=cap
  ·have DH:xs.length*r.size+d.length<=A.size:=by rw[n1,h7,<-R_];exact r_ _ J
   have hr:=run_append_room (P:=P) w t o.type e r hu gc g xs.length cap A h6 ab 1 m d n1 n2 n3 J DH;obtain⟨s1,s2⟩:=jz A (xs.length*r.size) d DH;have N:∀b,D b->(w.setRow g (A.toList.take (xs.length*r.size)++d++A.toList.drop (xs.length*r.size+d.length)).toArray).heap[b]? =w.heap[b]? :=λb F=>setRow_other _ _ _ _ λe=>(hI.ok.olt id _ g hl (.inl rfl)).2 (e▸F);have Y:(A.toList.take (xs.length*r.size)).length=xs.length*r.size:=by simp;omega
   have Bk:=hI.move (l':=.hdr g (xs.length+1) cap r.size O) (o':=.tree e r.size k (xs++[p]) (some (xs.length,jj,.sl kid))) (w':=w.setRow g (A.toList.take (xs.length*r.size)++d++A.toList.drop (xs.length*r.size+d.length)).toArray) hl (λg hg=>by cases hg) (λg hg=>by cases hg) rfl rfl rfl (by simp) (λk _ hk=>setRow_other _ _ _ _ λe=>hk (by rw[e];exact .inl rfl)) (λg' DB=>⟨by simp;exact(hI.ok.olt id _ g' hl DB).1,.inl DB⟩)
    ⟨rfl,by simp,J,h4,λp hp=>(o_.1 hp).elim (h5 p) (Dg p),_,Os,setRow_heap _ _ _ _ _ _ h6,by rw[s1,h7],hOs,hdj,el,
     M _ _ (A.toList.take (xs.length*r.size)) _ cap Os N (λi j b F=>setRow_other _ _ _ _ (hOs i j b F).2) Y (by rw[s1,h7]) (λj B=>by
      rw[Y]at B;rw[s2,if_neg (by omega),C_,if_pos B,q_]) (λj B=>by
      rw[s2,Y,if_pos ⟨by omega,by omega⟩];congr 1;omega) (λi j p q hp H=>by
      obtain⟨u,L,E⟩:=h8 i j p q hp H;refine⟨u,?_,E⟩;have B:j<r.size:=by rw[<-h5 p (h_ hp)];exact(a_.1 H).1
      have hi:i<xs.length:=(a_.1 hp).1;have:(i+1)*r.size<=xs.length*r.size:=r_ _ hi;grind)⟩
   refine CT _ _ _ ?_ hk ⟨_,D,Bk.put hd ⟨_,ur _,rfl⟩⟩;rw[hh,R];exact hr
  ·have RK:xs.length*r.size<=A.size:=by rw[h7];exact r_ _ h3
   have I:(A.toList.take (xs.length*r.size)).length=xs.length*r.size:=by simp;omega
   have hr:=run_append_grow (P:=P) w t o.type e r z hu gc Fr ⟨g,0,none⟩ xs.length cap (A.toList.take (xs.length*r.size)) I (λj u B=>by
    rw[addr_add,J_,cell_of_row w g j A e (0,0) h6];rw[C_]at B;split at B;·simpa using B
    ·cases B) ab 1 m d n1 n2 (by omega) (by omega) (growslice_fits (by omega) At)
   refine grow cap _ _ O Os (λ_ h=>.inr h) (λi j b h=>(hOs i j b h).1) hdj I h5 (λi j p q hp H=>?_) hr hh;obtain⟨u,L,E⟩:=h8 i j p q hp H;refine⟨u,?_,E⟩;have B:j<r.size:=by rw[<-h5 p (h_ hp)];exact(a_.1 H).1
   have hi:i<xs.length:=(a_.1 hp).1;have:(i+1)*r.size<=xs.length*r.size:=r_ _ hi;rw[R_,aD_]at this;rw[C_,if_pos (by omega),q_];exact L
end
section
variable {P:Program} {o:Oper} {c:Ctx} {θ:List Loc} {D:Nat->Prop} {st:St} {a:Act} {w:World}
theorem lJ{α:Type}{xs:Array α}{x:α}(h:xs.toList=[x]):xs= #[x]:=by apply aT_;simpa using h
theorem fA{α:Type}{xs:Array α}{x y:α}(h:xs.toList=[x,y]):xs= #[x,y]:=by apply aT_;simpa using h
theorem be{s s':SOp}(a:∀k q,s≠.atq k q)(h:s.canon=s')(d:∀e z l c,s'≠.bslice false e z l c)(g:∀f xs,s'≠.call false f xs)(j:∀t x,s'≠.box t x)(n:∀x xs,s'≠.callv false [] x xs)(p:∀e z b x y,s'≠.append e z b x y)(r:∀e z b v x y,s'≠.mslice e z b v x y:=by simp):s=s':=by cases s<;>simp only[SOp.canon]at h<;>first|omega|grind|grind|grind|grind|grind|grind|grind
theorem rH(f:Inv c θ D st a w){q:Option Operand}{b:Nat}{e:Nat->Prop}(h:bnd st (q.map SX.of) b e): ∃n,e n/\((q=none/\n=b)\/∃x k,∃m:Int,q=some x/\a.eval x= .int k m/\0<=m/\n=m.toNat):=by cases q with|none=>exact⟨b,h,.inl ⟨rfl,rfl⟩⟩|some x=>obtain⟨g,d,h⟩:=h;obtain⟨k,m,p,j,l⟩:=cx (f.get d) h;grind
theorem jV{k:IntKind}{m:Int}{y:Nat}{code:BoundsCode}(a:0<=m)(c:m.toNat<=y):(Instr.sliceBound (.int k m) y code).run P w= .ok m.toNat w:=by
 have b:m<=(y:Int):=by omega
 simp only[Instr.sliceBound,asIntOf,Sem.run_bind,Sem.run_pure,Result.andThen_ok];rw[if_pos ⟨a,b⟩];rfl
theorem Af(u:Inv c θ D st a w){lo e mx:Option Operand}{isS:Bool}{len cap l h m:Nat} (hl:(lo=none/\l=0)\/∃x k,∃m:Int,lo=some x/\a.eval x= .int k m/\0<=m/\l=m.toNat) (v:(e=none/\h=len)\/∃x k,∃m:Int,e=some x/\a.eval x= .int k m/\0<=m/\h=m.toNat) (z:(mx=none/\m=len)\/∃x k,∃n:Int,mx=some x/\a.eval x= .int k n/\0<=n/\m=n.toNat) (A:mx.isSome=true->e.isSome=true) (j:l<=h) (s:h<=m) (B:m<=len) (C:len<=cap):(Instr.sliceBounds isS len cap (lo.map a.eval) (e.map a.eval) (mx.map a.eval)).run P w= .ok (l,h,if mx.isSome then m else cap) w:=by
 have _:=u;rcases z with⟨rfl,rfl⟩|⟨O,H,L,rfl,p,r,rfl⟩<;>rcases v with⟨rfl,rfl⟩|⟨N,F,J,rfl,b,d,rfl⟩<;>rcases hl with⟨rfl,rfl⟩|⟨M,E,I,rfl,f,g,rfl⟩;·simp[Instr.sliceBounds]
 ·simp[Instr.sliceBounds,f,jV g j]
 ·simp[Instr.sliceBounds,b,jV (y:=cap) d (by omega)]
 ·simp[Instr.sliceBounds,b,f,jV (y:=cap) d (by omega),jV g j]
 ·grind
 ·grind
 ·simp[Instr.sliceBounds,p,b,jV (y:=cap) r (by omega),jV d s]
 ·simp[Instr.sliceBounds,p,b,f,jV (y:=cap) r (by omega),jV d s,jV g j]
theorem Sv(d:Inv c θ D st a w){K:AV->Prop}{t e:TypeId}{sz:Nat}{x:Operand}{lo I mx:Option Operand}(R:o.op= .slice t x lo I mx)(Y:P.underlying t=some (.slice e))(hs:bK P e=some sz) (h:kg P st (.slc sz (.of x) (lo.map .of) (I.map .of) (mx.map .of)) K):Yields P o a w (Res c θ st a K):=by
 obtain⟨ax,hx,⟨q,U,L,rfl,f⟩|⟨id,rfl,o',M,e',k',L,g',rfl,f⟩⟩:=h
 rotate_left
 ·obtain⟨n,b,cap,hn,hcap,O⟩:∃n b cap,n=L.length/\n<=cap/\a.eval x= .slice b n cap:=by obtain⟨l,hl,z⟩:=d.get hx;have N:=d.ok.objs id l _ hl M;cases l<;>simp only[RelO,Loc.head]at N z;all_goals grind
  obtain⟨l,f,hl⟩:=rH d f;obtain⟨h,f,z⟩:=rH d f;obtain⟨m,⟨B,E,F,H,rfl,y⟩,J⟩:=rH d f;subst hn;have hr:=Af (P:=P) (isS:=true) d hl z J (by grind) E F H hcap;refine aG d (v:=.slice (if(if mx.isSome then m else cap)=h then b else b.map (·.add (h*sz))) 0 ((if mx.isSome then m else cap) - h)) ?_ y (.nil _ _);simp only[execOp,R,Instr.sliceAt,Sem.run_bind,run_underlying Y,Result.andThen_ok,Instr.slice,O,hr,run_sizeOf hs,Sem.run_pure,aL_]
 obtain⟨b,cap,O,hcap,k⟩:=qS (cr (d.get hx) U);obtain⟨l,f,hl⟩:=rH d f;obtain⟨hn,f,z⟩:=rH d f;obtain⟨m,⟨B,E,F,H,y⟩,J⟩:=rH d f;have C:mx.isSome=true->I.isSome=true:=by grind
 have hr:=Af (P:=P) (isS:=true) d hl z J C E F H hcap;generalize gc:(if mx.isSome then m else cap)=u at hr;have Q:hn<=u/\u<=cap:=by grind
 have s:(execOp a.eval o).run P w= .ok (.value (.slice (if u=l then b else b.map (·.add (l*sz))) (hn - l) (u - l))) w:=by simp only[execOp,R,Instr.sliceAt,Sem.run_bind,run_underlying Y,Result.andThen_ok,Instr.slice,O,hr,run_sizeOf hs,Sem.run_pure]
 have r:RelP D w (.slice (if u=l then b else b.map (·.add (l*sz))) (hn - l) (u - l)) (nz sz ((L.take hn).drop l)):=by
  have A:((L.take hn).drop l).length=hn - l:=by grind
  rw[<-A];refine gO (by omega) λT=>?_;obtain⟨g,og,rfl,hg,hsz,hc⟩:=k (by omega);rw[if_neg (by omega)];refine⟨g,og+l*sz,by simp[addr_add],hg,λp hp=>hsz p (List.mem_of_mem_take (List.mem_of_mem_drop hp)),λi j p q hp U=>?_⟩;rw[aG_,C_]at hp;split at hp;all_goals grind
 rcases y with y|⟨ph,el,y⟩;·exact aG d s y r
 ·have B:u=hn:=by grind
  refine aG d (x:=.b (.full (nz sz ((L.take hn).drop l)))) s y ⟨r,(if u=l then b else b.map (·.add (l*sz))),hn - l,?_⟩;grind
theorem PM(b:Inv c θ D st a w){K:AV->Prop}{t:TypeId}{x:Operand}{lo e:Option Operand}(n:o.op= .slice t x lo e none)(p:P.underlying t=some .string) (h:kg P st (.slcS (.of x) (lo.map .of) (e.map .of)) K):Yields P o a w (Res c θ st a K):=by obtain⟨v,u,r⟩:=h;obtain⟨s,hs,d⟩:=cx (b.get u) r;obtain⟨l,d,hl⟩:=rH b d;obtain⟨hn,⟨f,g,k⟩,j⟩:=rH b d;have hr:=Af (P:=P) (isS:=false) (mx:=none) (m:=s.size) b hl j (.inl ⟨rfl,rfl⟩) (by simp) f g (x_ _) (x_ _);refine aG b ?_ k (RelP.sc _);simp only[Option.map_none]at hr;simp[execOp,n,Instr.sliceAt,run_underlying p,Instr.slice,hs,hr]
end
section
variable {P:Program} {o:Oper} {c:Ctx} {θ:List Loc} {D:Nat->Prop} {st:St} {a:Act} {w:World}
theorem Ow{s:SOp}{f:FuncId}{xs:List SX}(a:∀k q,s≠.atq k q)(h:s.canon= .call false f xs):(∃b,s= .call b f xs)\/∃b B,s= .callA b B f xs:=by cases s<;>simp_all[SOp.canon]
theorem Mt{s:SOp}{x:SX}{xs:List SX}(a:∀k q,s≠.atq k q)(h:s.canon= .callv false [] x xs):(∃b B,s= .callv b B x xs)\/∃b,s= .callp b x xs:=by cases s<;>simp_all[SOp.canon]
theorem Rk{s:SOp}{e:TypeId}{x:SX}(a:∀k q,s≠.atq k q)(h:s.canon= .box e x):s= .box e x\/s= .boxD e x:=by cases s<;>simp_all[SOp.canon]
theorem Kp{s:SOp}{e:TypeId}{z l:Nat}{xs:List SX}(a:∀k q,s≠.atq k q)(h:s.canon= .bslice false e z l xs):(∃b,s= .bslice b e z l xs)\/s= .bsliceN e z l xs\/∃k j x,xs=[x]/\s= .bsliceT k j e z l x:=by cases s<;>simp_all[SOp.canon];exact⟨_,_,_,h.2.2.2.symm,rfl,rfl,rfl⟩
theorem Kq{s:SOp}{e:TypeId}{z b:Nat}{v:Value}{x y:SX}(a:∀k q,s≠.atq k q)(h:s.canon= .mslice e z b v x y):s= .mslice e z b v x y\/∃k,s= .msliceT k e z b v x y:=by cases s<;>simp_all[SOp.canon]
theorem Ko{s:SOp}{e:TypeId}{z b:Nat}{x y:SX}(a:∀k q,s≠.atq k q)(h:s.canon= .append e z b x y):s= .append e z b x y\/s= .appD e z b x y\/(∃k,s= .appT k e z b x y)\/∃k j,s= .appH k j e z b x y:=by cases s<;>simp_all[SOp.canon]
def X9(P:Program)(o:Oper):Bool:=match o.op with
 | .binOp _ t _ _ _=>match P.underlying t with
  |some (.struct _)=> !P.eqGuardType P.depth t
  |_=>true
 | .makeInterface t _=>match P.underlying t with
  |some (.interface _)=>false
  |some _=>true
  |none=>false
 | .panic x=>match x with
  | .tmp _=>true
  |_=>false
 |_=>true
theorem HJ(r:Inv c θ D st a w)(hd:∀k,o.dst=some k->k<c.n){s:SOp}{K KP:St->Prop}(g:∀k q,s≠.atq k q)(hc:iJ P o=some s.canon)(T:X9 P o=true)(h:sexec P o.dst s st K KP):Leaves P o c K KP a w:=by
 have d:Yields P o a w (Res c θ st a λx=>K (st.putO o.dst x))->Leaves P o c K KP a w:=λhy=>C7 hd hy λ_ h=>h;unfold iJ at hc;split at hc;·rename_i x j;cases be g (f_ hc).symm (by simp) (by simp) (by simp) (by simp) (by simp);exact d (NS r (.inl j) h)
 ·rename_i x j;cases be g (f_ hc).symm (by simp) (by simp) (by simp) (by simp) (by simp);exact d (NS r (.inr j) h)
 ·rename_i x y z j;cases be g (f_ hc).symm (by simp) (by simp) (by simp) (by simp) (by simp);exact d (PL r j h)
 ·rename_i op t x y t' j;split at hc;·cases be g (f_ hc).symm (by simp) (by simp) (by simp) (by simp) (by simp);exact d (JS r j h)
  ·cases be g (f_ hc).symm (by simp) (by simp) (by simp) (by simp) (by simp);exact d (JS r j h)
  ·rename_i F;split at hc;·cases be g (f_ hc).symm (by simp) (by simp) (by simp) (by simp) (by simp);exact d (JU (neg:=false) r j F h)
   ·cases be g (f_ hc).symm (by simp) (by simp) (by simp) (by simp) (by simp);exact d (JU (neg:=true) r j F h)
   ·cases hc
  ·rename_i fs F;have hg:P.eqGuardType P.depth t=false:=by unfold X9 at T;grind
   split at hc;·cases be g (f_ hc).symm (by simp) (by simp) (by simp) (by simp) (by simp);exact d (JV (neg:=false) r j rfl F hg h)
   ·cases be g (f_ hc).symm (by simp) (by simp) (by simp) (by simp) (by simp);exact d (JV (neg:=true) r j rfl F hg h)
   ·cases hc
  ·cases hc
 ·rename_i op t x j;cases be g (f_ hc).symm (by simp) (by simp) (by simp) (by simp) (by simp);exact d (Vq r j h)
 ·rename_i cl j;split at hc
  ·rename_i A;split at hc
   ·rename_i x t p C;split at hc;·rename_i e F;cases be g (f_ hc).symm (by simp) (by simp) (by simp) (by simp) (by simp);exact d (Su r j A (lJ p) (lJ C) F h)
    ·rename_i F;cases be g (f_ hc).symm (by simp) (by simp) (by simp) (by simp) (by simp);exact d (PG r j A (lJ p) (lJ C) F h)
    ·rename_i n e F;cases be g (f_ hc).symm (by simp) (by simp) (by simp) (by simp) (by simp);refine d (NP r ?_ h);simp[execOp,j,resolve,A,lJ p,lJ C,invoke,builtin,Builtin.len_,run_underlying F,goInt]
    ·rename_i k e F;cases be g (f_ hc).symm (by simp) (by simp) (by simp) (by simp) (by simp);exact d (PF r j A (lJ p) (lJ C) F h)
    ·cases hc
   ·cases hc
  ·rename_i A;split at hc
   ·rename_i x y t u p C;split at hc
    ·rename_i el;subst el;simp only[b_]at hc;obtain⟨e,L,s',hs,b,O,z,J,hc⟩:=hc;split at hc
     ·rename_i E;obtain⟨I,M,Q⟩:=E;rcases Ko g (f_ hc).symm with rfl|rfl|⟨k,rfl⟩|⟨k,jj,rfl⟩;·exact Lp r hd j A (fA p) (fA C) L hs O J I M Q h
      ·exact Pq r hd j A (fA p) (fA C) L hs O J I M Q h
      ·exact Ps r hd j A (fA p) (fA C) L hs O J I M Q h
      ·exact Pr r hd j A (fA p) (fA C) L hs O J I M Q h
     ·cases hc
    ·cases hc
   ·cases hc
  ·rename_i A;split at hc
   ·rename_i x y t u p C;simp only[b_]at hc;obtain⟨e,L,e',gc,s',hs,hc⟩:=hc;split at hc;·rename_i E;obtain⟨rfl,h0⟩:=E;cases be g (f_ hc).symm (by simp) (by simp) (by simp) (by simp) (by simp);exact Pw r hd j A (fA p) (fA C) L hs h0 h
    ·cases hc
   ·cases hc
  ·rename_i A;split at hc
   ·rename_i x ys t l p C;split at hc;·cases be g (f_ hc).symm (by simp) (by simp) (by simp) (by simp) (by simp);exact d (GM (mx:=false) r j A p h)
    ·cases hc
   ·cases hc
  ·rename_i A;split at hc
   ·rename_i x ys t l p C;split at hc;·cases be g (f_ hc).symm (by simp) (by simp) (by simp) (by simp) (by simp);exact d (GM (mx:=true) r j A p h)
    ·cases hc
   ·cases hc
  ·rename_i f A;split at hc
   ·rename_i R;rcases Ow g (f_ hc).symm with⟨bor,rfl⟩|⟨bor,B,rfl⟩;·exact Pv r hd j A R h
    ·exact NM r hd j A R h
   ·cases hc
  ·rename_i t A;rcases Mt g (f_ hc).symm with⟨bor,B,rfl⟩|⟨bor,rfl⟩;·exact NO r hd j A h
   ·exact NN r hd j A h
  ·cases hc
 ·rename_i t x i j;split at hc;·rename_i F;cases be g (f_ hc).symm (by simp) (by simp) (by simp) (by simp) (by simp);exact d (PD r j F h)
  ·rename_i n e F;split at hc;·rename_i H;obtain⟨U,H⟩:=t_.1 H;simp only[c_]at hc;obtain⟨sz,hs,hc⟩:=hc;cases be g hc.symm (by simp) (by simp) (by simp) (by simp) (by simp);exact d (PE r j F H hs h)
   ·cases hc
  ·cases hc
 ·rename_i t x i j;split at hc;·rename_i e F;simp only[c_]at hc;obtain⟨sz,hs,hc⟩:=hc;cases be g hc.symm (by simp) (by simp) (by simp) (by simp) (by simp);exact d (Pz r j F hs h)
  ·rename_i n e F;simp only[c_]at hc;obtain⟨sz,hs,hc⟩:=hc;cases be g hc.symm (by simp) (by simp) (by simp) (by simp) (by simp);exact d (PC r j F hs h)
  ·cases hc
 ·rename_i t x f j;simp only[b_]at hc;obtain⟨fd,R,sz,hs,hc⟩:=hc;split at hc;·cases hc
  ·rename_i hsz;cases be g (f_ hc).symm (by simp) (by simp) (by simp) (by simp) (by simp);exact d (Py r j R hs hsz h)
 ·rename_i t x f j;simp only[b_]at hc;obtain⟨fd,R,hc⟩:=hc;split at hc;·rename_i H;obtain⟨U,H⟩:=t_.1 H;simp only[c_]at hc;obtain⟨sz,hs,hc⟩:=hc;cases be g hc.symm (by simp) (by simp) (by simp) (by simp) (by simp);exact d (Ss r j R H hs h)
  ·cases hc
 ·rename_i t x j;simp only[b_]at hc;obtain⟨sz,hs,hc⟩:=hc;split at hc;·rename_i H;obtain⟨U,H⟩:=t_.1 H;cases be g (f_ hc).symm (by simp) (by simp) (by simp) (by simp) (by simp);exact d (PH r j H hs h)
  ·cases hc
 ·rename_i t x v j;simp only[c_]at hc;obtain⟨sz,hs,hc⟩:=hc;cases be g hc.symm (by simp) (by simp) (by simp) (by simp) (by simp);have N:o.dst=none:=by obtain⟨_,_,_,_,I,_⟩:=h;exact I
  exact NU r N j hs h
 ·rename_i e j;simp only[c_]at hc;obtain⟨z,J,hc⟩:=hc;cases be g hc.symm (by simp) (by simp) (by simp) (by simp) (by simp);exact NK r hd j J h
 ·rename_i e x j;rcases Rk g (f_ hc).symm with rfl|rfl;·exact Sq r hd j h
  ·exact Pt r hd j h
 ·rename_i t parts j;simp only[b_,c_]at hc;obtain⟨z,J,ps,Y,hc⟩:=hc;cases be g hc.symm (by simp) (by simp) (by simp) (by simp) (by simp);exact d (NL r j J Y h)
 ·rename_i t len parts j;simp only[b_]at hc;obtain⟨e,L,sz,hs,z,J,hc⟩:=hc;split at hc
  ·rename_i E;obtain⟨I,M⟩:=E;rcases Kp g (f_ hc).symm with⟨own,rfl⟩|rfl|⟨k,jj,x,hx,rfl⟩
   rotate_left
   ·exact Io r hd j L hs J I M h
   ·exact Iq r hd j L hs J I M hx h
   cases own;·exact Lq r hd j L hs J I M h
   ·exact Ip r hd j L hs J I M h
  ·cases hc
 ·rename_i t l m j;simp only[b_,c_]at hc;obtain⟨e,L,sz,hs,b,O,z,J,hc⟩:=hc;rcases Kq g hc.symm with rfl|⟨k,rfl⟩;·exact Ls r hd j L hs O J h
  ·exact Ir r hd j L hs O J h
 ·rename_i s' U x j;split at hc;·rename_i ds k I M;cases be g (f_ hc).symm (by simp) (by simp) (by simp) (by simp) (by simp);exact d (Px r j I M h)
  ·rename_i e I M;split at hc;·rename_i Q;cases be g (f_ hc).symm (by simp) (by simp) (by simp) (by simp) (by simp);exact d (Sp r j I M Q h)
   ·cases hc
  ·cases hc
 ·rename_i t x lo hi mx j;split at hc;·rename_i e F;simp only[c_]at hc;obtain⟨sz,hs,hc⟩:=hc;cases be g hc.symm (by simp) (by simp) (by simp) (by simp) (by simp);exact d (Sv r j F hs h)
  ·rename_i F;split at hc;·cases be g (f_ hc).symm (by simp) (by simp) (by simp) (by simp) (by simp);exact d (PM r j F h)
   ·cases hc
  ·cases hc
 ·rename_i x i j;cases be g (f_ hc).symm (by simp) (by simp) (by simp) (by simp) (by simp);exact d (Sr r j h)
 ·rename_i x j;cases be g (f_ hc).symm (by simp) (by simp) (by simp) (by simp) (by simp);exact d (PK r j h)
 ·rename_i f first caps j
  split at hc;·rename_i E;simp only[m_]at E;cases be g (f_ hc).symm (by simp) (by simp) (by simp) (by simp) (by simp);exact d (PI r j (by simpa using E.1) h)
  ·cases hc
 ·rename_i t j;split at hc;·cases be g (f_ hc).symm (by simp) (by simp) (by simp) (by simp) (by simp);exact NR r hd j h
  ·cases hc
 ·rename_i t m x ok j;split at hc;·rename_i k e F;simp only[c_]at hc;obtain⟨z,J,hc⟩:=hc;cases be g hc.symm (by simp) (by simp) (by simp) (by simp) (by simp);exact d (Lr r j F J h)
  ·cases hc
 ·rename_i t m x v j;split at hc
  ·rename_i k e F;cases be g (f_ hc).symm (by simp) (by simp) (by simp) (by simp) (by simp);have N:o.dst=none:=by obtain⟨_,_,_,_,_,_,_,_,_,_,_,_,_,_,I,_⟩:=h;exact I
   exact Cf r N (.inl j) F h
  ·cases hc
 ·rename_i t m x v j;split at hc
  ·rename_i k e F;cases be g (f_ hc).symm (by simp) (by simp) (by simp) (by simp) (by simp);have N:o.dst=none:=by obtain⟨_,_,_,_,_,_,_,_,_,_,_,_,_,_,I,_⟩:=h;exact I
   exact Cf r N (.inr j) F h
  ·cases hc
 ·rename_i x j;cases be g (f_ hc).symm (by simp) (by simp) (by simp) (by simp) (by simp);exact NT r j h
 ·rename_i t x j;cases be g (f_ hc).symm (by simp) (by simp) (by simp) (by simp) (by simp);refine d (NQ r j ?_ h);unfold X9 at T;grind
 ·cases hc
theorem OA{t:TypeId}{zl:List Value}(hc:iJ P o=some (.alloc t zl)):∃z,o.op= .alloc t/\cZ P t=some z/\zl=z.cells.toList:=by
 unfold iJ at hc
 (repeat' split at hc)<;>simp_all[b_,c_]
 grind
theorem Ts{t:TypeId}{x:SX}(hc:iJ P o=some (.box t x)):∃y,o.op= .box t y/\x= .of y:=by
 unfold iJ at hc
 (repeat' split at hc)<;>simp_all[b_,c_]
theorem OB{k e:TypeId}(hc:iJ P o=some (.mkmap k e)):∃t,o.op= .makeMap t none:=by
 unfold iJ at hc
 (repeat' split at hc)<;>simp_all[b_,c_]
theorem Mx{own:Bool}{e:TypeId}{sz len:Nat}{xs:List SX}(hc:iJ P o=some (.bslice own e sz len xs)):∃t parts z,o.op= .buildSlice t len parts/\eZ P t=some e/\bK P e=some sz/\cZ P e=some z/\p9 parts.toList=true/\z.cells.size=sz/\xs=parts.toList.map λq=>SX.of q.2:=by
 unfold iJ at hc
 (repeat' split at hc)<;>simp_all[b_,c_]
 grind
theorem My{e:TypeId}{sz b:Nat}{z:Value}{l m:SX}(hc:iJ P o=some (.mslice e sz b z l m)):∃t x y,o.op= .makeSlice t x y/\eZ P t=some e/\bK P e=some sz/\ig P e=some b/\cZ P e=some z/\l= .of x/\m= .of y:=by
 unfold iJ at hc
 (repeat' split at hc)<;>simp_all[b_,c_]
 grind
theorem Mw{e:TypeId}{sz b:Nat}{l m:SX}(hc:iJ P o=some (.append e sz b l m)):∃a x y t z,o.op= .call a/\a.callee= .builtin .append/\a.args= #[x,y]/\a.argTypes= #[t,t]/\eZ P t=some e/\bK P e=some sz/\ig P e=some b/\cZ P e=some z/\z.cells.size=sz/\0<sz/\0<b/\l= .of x/\m= .of y:=by
 unfold iJ at hc
 (repeat' split at hc)<;>simp_all[b_,c_]
 rename_i a _ s _ _ x y t u j k v;obtain⟨r,d,s',f,p,g,n,h,c,rfl,rfl,rfl,rfl,rfl⟩:=hc;exact⟨x,y,fA j,u,fA k,d,f,g,n,h,c.1,c.2.1,c.2.2,rfl,rfl⟩
theorem Vp(n:Inv c θ D st a w)(hd:∀k,o.dst=some k->k<c.n){k:Nat}{q:SOp}{K KP:St->Prop}(hc:iJ P o=some q.canon)(h:sexec P o.dst (.atq k q) st K KP):Leaves P o c K KP a w:=by
 cases q with
 |alloc t zl=>obtain⟨z,d,g,rfl⟩:=OA hc;exact Nh n hd (pl:=some k) d g h
 |box t x=>obtain⟨y,d,rfl⟩:=Ts hc;exact T7 n hd (pl:=some k) d h
 |mkmap t e=>obtain⟨t,d⟩:=OB hc;exact Ni n hd (pl:=some k) d h
 |bslice own e sz len xs=>cases own with|false=>exact h.elim|true=>obtain⟨t,parts,z,d,p,hs,g,r,j,rfl⟩:=Mx hc;exact Ju n hd d p hs g r j (pl:=some k) h
 |mslice e sz b z l m=>obtain⟨t,x,y,d,p,hs,u,g,rfl,rfl⟩:=My hc;exact Jv n hd d p hs u g (pl:=some k) h
 |append e sz b l m=>obtain⟨C,x,y,t,z,d,A,f,s,p,hs,u,g,j,B,v,rfl,rfl⟩:=Mw hc;exact RS n hd d A f s p hs u g j B v (pl:=some k) h
 |_=>exact h.elim
theorem AZ(f:Inv c θ D st a w)(hd:∀k,o.dst=some k->k<c.n){s:SOp}{K KP:St->Prop}(hc:iJ P o=some s.canon)(d:X9 P o=true)(h:sexec P o.dst s st K KP):Leaves P o c K KP a w:=by
 by_cases b:∀k q,s≠.atq k q;·exact HJ f hd b hc d h
 ·have:∃k q,s= .atq k q:=y_ λhn=>b λk q e=>hn ⟨k,q,e⟩;obtain⟨k,q,rfl⟩:=this;exact Vp f hd (k:=k) (q:=q) hc h
def vV(P:Program)(n:Nat)(ops:Array Oper)(o:Oper)(s:SOper):Prop:=
 (iJ P o=some s.op.canon/\X9 P o=true)/\s.dst=o.dst/\(∀k,o.dst=some k->k<n)/\
  match o.guard with
  |none=>s.gd=none
  |some (j,want)=>∃t,(ops[j]?).bind (·.dst)=some t/\s.gd=some (t,want)
theorem PU{ops:Array Oper}{j t:Nat}(a:(ops[j]?).bind (·.dst)=some t)(tmps:Array Value):yielded ops tmps j=yv (tmps.getD t undef):=by
 unfold yielded;rw[a];simp only[Option.bind_some];rcases F_ t tmps.size with h|h;·simp only[l_ h,ai_,h,dif_pos];show _=yv tmps[t];cases tmps[t]<;>rfl
 ·simp only[Array.getElem?_eq_none h,ai_,aI_.2 h,dif_neg,not_false_eq_true];rfl
theorem qX{n:Nat}{ops:Array Oper}{s:SOper}{K KP:St->Prop}(p:Inv c θ D st a w)(hn:c.n=n)(hc:vV P n ops o s)(h:jA P s st K KP)(next:Act->World->Prop)(Q:Exit->Act->World->Prop) (b:∀z w',(∃d,K d/\Rel c d z w')->next z w') (hp:∀A w',(tC A/\∃d,KP d/\Rel c d a w')->Q (.panic A) a w'):if Region.wanted o (yielded ops a.tmps)then o.wp P a w next Q else next (a.put o.dst undef) w:=by
 obtain⟨l,r,H,e⟩:=hc;have hd:∀k,o.dst=some k->k<c.n:=by grind
 unfold jA at h;unfold Region.wanted;cases hg:o.guard with
 |none=>rw[hg]at e;simp only at e;rw[e]at h;simp only[if_true];rw[r]at h;exact AZ p hd l.1 l.2 h next Q b hp
 |some F=>
  obtain⟨j,want⟩:=F;rw[hg]at e;obtain⟨t,C,u⟩:=e;rw[u]at h;obtain⟨g,x,v,rfl,f,y⟩:=h;have E:=Pd (p.fr t _ x);simp only[PU C,E];by_cases B:yv v=some want;·rw[if_pos (by grind)];have:=f B;rw[r]at this;exact AZ p hd l.1 l.2 this next Q b hp
  ·rw[if_neg (by grind)];have:=y B;rw[r]at this;exact b _ _ ⟨_,this,θ,D,p.put hd (RelP.sc _)⟩
end
section
variable {P:Program} {c:Ctx} {st:St} {a:Act} {w:World}
def tJ(P:Program)(n:Nat)(ops:Array Oper):List Oper->List SOper->Prop
 |[],[]=>True
 |o::l,s::m=>vV P n ops o s/\tJ P n ops l m
 |_,_=>False
theorem vW{n:Nat}{ops:Array Oper}:∀{l:List Oper} {m:List SOper},tJ P n ops l m->l.length=m.length/\∀(i:Nat) (o:Oper) (s:SOper),l[i]? =some o->m[i]? =some s->vV P n ops o s
 |[],[],_=>⟨rfl,λi o s h=>by simp⟩
 |o::l,s::m,h=>by obtain⟨b,a⟩:=h;obtain⟨c,d⟩:=vW a;grind
theorem Pp{n m:Nat}{ops:Array Oper}(hn:c.n=n)(u:c.th.length<=m){K KP:St->Prop}{Q:Exit->Act->World->Prop}(A:∀a w,(∃b,K b/\Rel c b a w)->Q .normal a w)(z:∀g a w,(tC g/\∃b,KP b/\Rel c b a w)->Q (.panic g) a w): ∀(d:List Oper) (e:List SOper) (k:Nat),(∀i,d[i]? =ops[k+i]?)->tJ P n ops d e->∀(st:St) (a:Act) (w:World),sops P m e st K KP->Rel c st a w->wpOps P ops Q (ba_ k d.length) a w:=by
 intro d;induction d with
 |nil=>intro e k _ hc st a w h hr;cases e with|cons s e=>exact hc.elim|nil=>simp only[sops]at h;obtain⟨b,r,j⟩:=h;exact A a w ⟨b,j,r _ _ _ u hr⟩
 |cons o d C=>
  intro e k j hc st a w h hr;cases e with
  |nil=>exact hc.elim|cons s e=>
   obtain⟨v,x⟩:=hc;simp only[sops]at h;obtain⟨st1,r,h⟩:=h;obtain⟨θ,D,y⟩:=r _ _ _ u hr;have B:ops[k]? =some o:=by simpa using(j 0).symm
   have:=qX y hn v h (λl w'=>wpOps P ops Q (ba_ (k+1) d.length) l w') Q (λl w' ⟨b,p,f⟩=>C e (k+1) (λi=>by have:=j (i+1);grind) x b l w' p f) (λg w' hp=>z g a w' hp);simp only[H_,List.range'_succ,wpOps,B];grind
theorem Lj{id n m:Nat}{ops:Array Oper}{d:List SOper}(hn:c.n=n)(j:c.th.length<=m)(hc:tJ P n ops ops.toList d){K KP:St->Prop}{Q:Exit->Act->World->Prop}(h:sops P m d st K KP)(hr:Rel c st a w) (g:∀a w,(∃b,K b/\Rel c b a w)->Q .normal a w) (f:∀e a w,(tC e/\∃b,KP b/\Rel c b a w)->Q (.panic e) a w):(Code.region id ops false).wp P Q a w:=by refine wp_region ?_;have:=Pp hn j g f ops.toList d 0 (λi=>by simp) hc st a w h hr;rw[List.range_eq_range'];omega
def SX.rd:SX->List Nat
 | .tm k=>[k]
 |_=>[]
def SOp.rd:SOp->List Nat
 | .mv x| .un _ x| .len _ x| .lenM _ _ x| .fldA _ _ _ x| .fld _ _ _ x| .load _ _ x| .box _ x| .boxD _ x| .cvtI _ x| .ext x _| .nilc x| .b2s x| .panic x| .iface _ x| .bsliceT _ _ _ _ _ x=>x.rd
 | .pick c a b=>c.rd++a.rd++b.rd
 | .bin _ x y| .eqB _ x y| .eqT _ _ x y| .idxS x y| .idxV _ _ _ x y| .idxA _ x y| .idxP _ _ _ x y| .store _ x y| .mslice _ _ _ _ x y| .append _ _ _ x y| .appD _ _ _ x y| .msliceT _ _ _ _ _ x y| .appT _ _ _ _ x y| .appH _ _ _ _ _ x y| .lookup _ _ _ _ x y| .copy _ _ x y=>x.rd++y.rd
 | .mapset _ _ x y z=>x.rd++y.rd++z.rd
 | .alloc _ _| .mkmap _ _=>[]
 | .build _ E=>E.flatMap λq=>q.2.2.rd
 | .bslice _ _ _ _ E=>E.flatMap SX.rd
 | .bsliceN _ _ _ E=>E.flatMap SX.rd
 | .slc _ x lo H mx=>x.rd++(lo.map SX.rd).getD []++(H.map SX.rd).getD []++(mx.map SX.rd).getD []
 | .slcS x lo H=>x.rd++(lo.map SX.rd).getD []++(H.map SX.rd).getD []
 | .call _ _ xs| .callA _ _ _ xs| .mkfn _ xs=>xs.flatMap SX.rd
 | .callv _ _ x xs| .mnmx _ _ x xs| .callp _ x xs=>x.rd++xs.flatMap SX.rd
 | .atq _ op=>op.rd
def SOper.rd(o:SOper):List Nat:=o.op.rd++(o.gd.map λg=>[g.1]).getD []
theorem aQ{st a:St}{x:SX}(h:∀t∈x.rd,look a.fr t=look st.fr t):a.get x=st.get x:=by cases x<;>simp only[St.get];exact h _ (by simp[SX.rd])
theorem cI{α β:Type}{f g:α->Option β}:∀{l:List α},(∀x∈l,f x=g x)->l.mapM f=l.mapM g
 |[],_=>rfl
 |x::l,h=>by rw[A_,A_,h x (by simp),cI (l:=l) λy a=>h y (by grind)]
theorem sI{st a:St}{x:Option SX}(h:∀t∈(x.map SX.rd).getD [],look a.fr t=look st.fr t)(d:Nat)(K:Nat->Prop):bnd a x d K=bnd st x d K:=by cases x with|none=>rfl|some x=>simp only[bnd,aQ (x:=x) (by simpa using h)]
theorem Sn{st d:St}{s:SOp}(n:d.hp=st.hp)(h:∀t∈s.rd,look d.fr t=look st.fr t)(K:AV->Prop):kg P d s K=kg P st s K:=by
 cases s<;>simp only[SOp.rd,o_]at h<;>simp only[kg,n];case mv x=>rw[aQ h]
 case pick x y z=>rw[aQ (x:=x) λt a=>h t (.inl (.inl a)),aQ (x:=y) λt a=>h t (.inl (.inr a)),aQ (x:=z) λt a=>h t (.inr a)]
 case un op x=>rw[aQ h]
 case len b x=>rw[aQ h]
 case fldA x=>rw[aQ h]
 case fld x=>rw[aQ h]
 case load x=>rw[aQ h]
 case cvtI x=>rw[aQ h]
 case ext x i=>rw[aQ h]
 case nilc x=>rw[aQ h]
 case b2s x=>rw[aQ h]
 case lenM k e x=>rw[aQ h]
 case boxD k x=>rw[aQ h]
 case iface k x=>rw[aQ h]
 case appD e sz p x y=>rw[aQ (x:=x) λt a=>h t (.inl a),aQ (x:=y) λt a=>h t (.inr a)]
 case eqT op t x y=>rw[aQ (x:=x) λt a=>h t (.inl a),aQ (x:=y) λt a=>h t (.inr a)]
 case lookup k e ok z x y=>rw[aQ (x:=x) λt a=>h t (.inl a),aQ (x:=y) λt a=>h t (.inr a)]
 case mkfn f xs=>rw[cI (l:=xs) λq c=>aQ (x:=q) λt a=>h t (e_.2 ⟨q,c,a⟩)]
 case mnmx mx k x xs=>rw[aQ (x:=x) λt a=>h t (.inl a),cI (l:=xs) λq c=>aQ (x:=q) λt a=>h t (.inr (e_.2 ⟨q,c,a⟩))]
 case bin op x y=>rw[aQ (x:=x) λt a=>h t (.inl a),aQ (x:=y) λt a=>h t (.inr a)]
 case eqB op x y=>rw[aQ (x:=x) λt a=>h t (.inl a),aQ (x:=y) λt a=>h t (.inr a)]
 case idxS x y=>rw[aQ (x:=x) λt a=>h t (.inl a),aQ (x:=y) λt a=>h t (.inr a)]
 case idxV x y=>rw[aQ (x:=x) λt a=>h t (.inl a),aQ (x:=y) λt a=>h t (.inr a)]
 case idxA x y=>rw[aQ (x:=x) λt a=>h t (.inl a),aQ (x:=y) λt a=>h t (.inr a)]
 case idxP x y=>rw[aQ (x:=x) λt a=>h t (.inl a),aQ (x:=y) λt a=>h t (.inr a)]
 case build z g=>rw[cI (l:=g) λq c=>by rw[aQ (x:=q.2.2) λt a=>h t (e_.2 ⟨q,c,a⟩)]]
 case bslice b e sz l g=>
  cases b;·simp only;rw[cI (l:=g) λq c=>by rw[aQ (x:=q) λt a=>h t (e_.2 ⟨q,c,a⟩)]]
  simp
 case bsliceN e sz l g=>rw[cI (l:=g) λq c=>by rw[aQ (x:=q) λt a=>h t (e_.2 ⟨q,c,a⟩)]]
 case call b f xs=>rw[cI (l:=xs) λq c=>by rw[aQ (x:=q) λt a=>h t (e_.2 ⟨q,c,a⟩)]]
 case callp b x xs=>rw[aQ (x:=x) λt a=>h t (.inl a),cI (l:=xs) λq c=>by rw[aQ (x:=q) λt a=>h t (.inr (e_.2 ⟨q,c,a⟩))]]
 case slc sz x lo j mx=>simp only[aQ (x:=x) λt a=>h t (.inl (.inl (.inl a))),sI (x:=lo) λt a=>h t (.inl (.inl (.inr a))),sI (x:=j) λt a=>h t (.inl (.inr a)),sI (x:=mx) λt a=>h t (.inr a)]
 case slcS x lo j=>simp only[aQ (x:=x) λt a=>h t (.inl (.inl a)),sI (x:=lo) λt a=>h t (.inl (.inr a)),sI (x:=j) λt a=>h t (.inr a)]
def gg(P:Program)(o:SOper)(st:St)(x:AV):Prop:=
 match o.gd with
 |none=>kg P st o.op λy=>y=x
 |some (t,want)=>aM (look st.fr t) λg=>CJ g λv=>(yv v=some want->kg P st o.op λy=>y=x)/\(yv v≠some want->x= .v undef)
theorem Lu{o:SOper}{st a:St}{x:AV}(c:a.hp=st.hp)(h:∀t∈o.rd,look a.fr t=look st.fr t)(b:gg P o st x):gg P o a x:=by simp only[SOper.rd,o_]at h;have e:=Sn (P:=P) (s:=o.op) c λt d=>h t (.inl d);unfold gg at b⊢;split at b;all_goals grind
theorem aj{α:Type}{o:Option α}{K b:α->Prop}(h:aM o K)(e:∀x,K x->b x):aM o b:=let⟨a,c,d⟩:=h;⟨a,c,e a d⟩
theorem bk{a:AV}{K b:Value->Prop}(h:CJ a K)(e:∀x,K x->b x):CJ a b:=let⟨v,c,d⟩:=h;⟨v,c,e v d⟩
theorem bJ{v:Value}{K a:IntKind->Int->Prop}(h:isInt v K)(d:∀k n,K k n->a k n):isInt v a:=let⟨k,n,b,c⟩:=h;⟨k,n,b,d k n c⟩
theorem oH{v:Value}{K a:Bool->Prop}(h:isBool v K)(e:∀x,K x->a x):isBool v a:=let⟨b,c,d⟩:=h;⟨b,c,e b d⟩
theorem qG{v:Value}{K a:ByteArray->Prop}(h:M1 v K)(e:∀x,K x->a x):M1 v a:=let⟨b,c,d⟩:=h;⟨b,c,e b d⟩
theorem OR{hp:List AObj}{a:AV}{K f:Nat->Prop}(h:isLen hp a K)(c:∀x,K x->f x):isLen hp a f:=by
 rcases h with⟨h,b⟩|⟨sz,L,h,b⟩|⟨id,e,sz,L,h,d,b⟩|⟨sz,L,h,b⟩|⟨id,e,sz,k,L,g,h,d,b⟩;·exact .inl ⟨h,c _ b⟩
 ·exact .inr (.inl ⟨sz,L,h,c _ b⟩)
 ·exact .inr (.inr (.inl ⟨id,e,sz,L,h,d,c _ b⟩))
 ·exact .inr (.inr (.inr (.inl ⟨sz,L,h,c _ b⟩)))
 ·exact .inr (.inr (.inr (.inr ⟨id,e,sz,k,L,g,h,d,c _ b⟩)))
theorem zY{hp:List AObj}{k e:TypeId}{a:AV}{K b:Nat->List (PV×PV)->Prop}(h:isMap hp k e a K)(g:∀i x,K i x->b i x):isMap hp k e a b:=let⟨id,kvs,c,d,f⟩:=h;⟨id,kvs,c,d,g _ _ f⟩
theorem gB{st:St}{x:Option SX}{d:Nat}{K a:Nat->Prop}(h:bnd st x d K)(b:∀n,K n->a n):bnd st x d a:=by cases x with|none=>exact b _ h|some x=>exact aj h λ_ h=>bk h λ_ h=>bJ h λ_ _ h=>⟨h.1,b _ h.2⟩
theorem Rh{op:BinOp}{x y:Value}{K a:Value->Prop}(h:Kk op x y K)(b:∀v,K v->a v):Kk op x y a:=by
 unfold Kk at h⊢;split at h;·cases op<;>simp only at h⊢<;>first|grind|grind
 ·cases op<;>simp only at h⊢<;>first|grind|grind|exact h
 omega
theorem Vw{op:UnOp}{x:Value}{K a:Value->Prop}(h:Ye op x K)(b:∀v,K v->a v):Ye op x a:=by unfold Ye at h⊢;grind
theorem Gm{hp:List AObj}{sz:Nat}{ag:Bool}{a:AV}{K j:AV->Prop}(h:DV hp sz ag a K)(g:∀v,K v->j v):DV hp sz ag a j:=by
 unfold DV at h⊢;split at h;·grind
 ·exact aj h λ_ ⟨t,cs,b,c,d,f⟩=>⟨t,cs,b,c,d,f.imp (g _) λh=>aj h λ_ h=>g _ h⟩
 ·refine aj h λ_ h=>h.imp (fun⟨e,s,xs,b,c,d,f,l⟩=>⟨e,s,xs,b,c,d,f,?_⟩) fun⟨e,s,k,xs,x,b,c,d,f,l⟩=>⟨e,s,k,xs,x,b,c,d,f,l.imp (λh=>⟨h.1,g _ h.2⟩) fun⟨n,p,r,u,w⟩=>⟨n,p,r,u,g _ w⟩⟩;grind
 omega
theorem fY{hp:List AObj}{sz:Nat}{a:AV}{K d:List PV->Prop}(h:pm hp sz a K)(c:∀x,K x->d x):pm hp sz a d:=by
 rcases h with⟨h,b⟩|⟨L,h,b⟩|⟨id,e,L,h,f,b⟩|⟨L,h,b⟩;·exact .inl ⟨h,c _ b⟩
 ·exact .inr (.inl ⟨L,h,c _ b⟩)
 ·exact .inr (.inr (.inl ⟨id,e,L,h,f,c _ b⟩))
 ·exact .inr (.inr (.inr ⟨L,h,c _ b⟩))
theorem Ce{st:St}{s:SOp}{K u:AV->Prop}(h:kg P st s K)(b:∀x,K x->u x):kg P st s u:=by
 cases s<;>simp only[kg]at h⊢;case mv=>exact aj h b
 case pick=>exact aj h λ_ h=>bk h λ_ h=>oH h λ_ h=>⟨λe=>aj (h.1 e) b,λe=>aj (h.2 e) b⟩
 case bin=>exact aj h λ_ h=>aj h λ_ h=>bk h λ_ h=>bk h λ_ h=>Rh h λ_ h=>b _ h
 case eqB=>exact aj h λ_ h=>aj h λ_ h=>bk h λ_ h=>bk h λ_ h=>oH h λ_ h=>oH h λ_ h=>b _ h
 case un=>exact aj h λ_ h=>bk h λ_ h=>Vw h λ_ h=>b _ h
 case len str x=>
  refine aj h λ_ h=>?_;cases str;·exact OR h λ_ h=>b _ h
  ·exact bk h λ_ h=>qG h λ_ h=>b _ h
 case idxS=>exact aj h λ_ h=>aj h λ_ h=>bk h λ_ h=>bk h λ_ h=>bJ h λ_ _ h=>qG h λ_ h=>⟨h.1,h.2.1,b _ h.2.2⟩
 case idxV=>exact aj h λ_ h=>aj h λ_ h=>bk h λ_ h=>bJ h λ_ _ h=>aj h λ_ ⟨c,a,d,j,l,n⟩=>⟨c,a,d,j,l,b _ n⟩
 case idxA=>
  refine aj h λ_ h=>aj h λ_ h=>bk h λ_ h=>bJ h λ_ _ h=>?_;rcases h with⟨L,c,a,d,j⟩|⟨id,c,a⟩;·grind
  ·exact .inr ⟨id,c,aj a λ_ h=>h.imp (fun⟨e,L,d,j,l,n⟩=>⟨e,L,d,j,l,b _ n⟩) fun⟨e,k,L,y,d,j,l,n⟩=>⟨e,k,L,y,d,j,l,b _ n⟩⟩
 case idxP=>refine aj h λ_ h=>aj h λ_ h=>bk h λ_ h=>bJ h λ_ _ ⟨c,a,h⟩=>⟨c,a,?_⟩;grind
 case lenM=>exact aj h λ_ h=>zY h λ_ _ h=>b _ h
 case boxD=>exact aj h λ_ h=>aj h λ_ h=>⟨h.1,h.2.1,b _ h.2.2⟩
 case iface=>exact aj h λ_ h=>b _ h
 case eqT=>exact aj h λ_ h=>aj h λ_ h=>aj h λ_ h=>aj h λ_ h=>aj h λ_ h=>b _ h
 case lookup=>exact aj h λ_ h=>aj h λ_ h=>zY h λ_ _ h=>aj h λ_ ⟨c,a,d,h⟩=>⟨c,a,d,aj h λ_ h=>b _ h⟩
 case mkfn=>refine aj h λ_ h=>?_;grind
 case mnmx=>exact aj h λ_ h=>bk h λ_ h=>bJ h λ_ _ h=>aj h λ_ ⟨z,c,a,d⟩=>⟨z,c,a,b _ d⟩
 case fldA=>refine aj h λ_ h=>?_;grind
 case fld=>refine aj h λ_ h=>?_;grind
 case load=>exact aj h λ_ h=>Gm h b
 case cvtI=>exact aj h λ_ h=>bk h λ_ h=>bJ h λ_ _ h=>b _ h
 case slc=>
  refine aj h λ_ h=>?_;rcases h with h|⟨id,c,h⟩;·refine .inl (aj h λ_ ⟨L,c,h⟩=>⟨L,c,gB h λ_ h=>gB h λ_ h=>gB h λ_ ⟨a,d,j,l,n⟩=>⟨a,d,j,l,?_⟩⟩);grind
  ·exact .inr ⟨id,c,aj h λ_ ⟨e,k,L,g,a,h⟩=>⟨e,k,L,g,a,gB h λ_ h=>gB h λ_ h=>gB h λ_ ⟨a,d,j,l,n,w⟩=>⟨a,d,j,l,n,b _ w⟩⟩⟩
 case slcS=>exact aj h λ_ h=>bk h λ_ h=>qG h λ_ h=>gB h λ_ h=>gB h λ_ ⟨a,d,j⟩=>⟨a,d,b _ j⟩
 case ext=>
  refine aj h λ_ h=>?_;rcases h with⟨xs,c,a⟩|⟨xs,c,a⟩;·exact .inl ⟨xs,c,aj a λ_ h=>b _ h⟩
  ·exact .inr ⟨xs,c,aj a λ_ h=>b _ h⟩
 case b2s=>exact aj h λ_ h=>fY h λ_ h=>aj h λ_ h=>b _ h
 case nilc=>exact aj h λ_ h=>⟨h.1,b _ h.2⟩
 case build=>exact aj h λ_ h=>⟨h.1,b _ h.2⟩
 case call=>exact aj h λ_ h=>ACalls.mono h λ_ ⟨r,p,c,a,d,j⟩=>⟨r,p,c,a,d,b _ j⟩
 case callp=>exact aj h λ_ ⟨f,cs,c,a,d⟩=>⟨f,cs,c,a,aj d λ_ h=>ACalls.mono h λ_ ⟨r,p,c,a,d,j⟩=>⟨r,p,c,a,d,b _ j⟩⟩
 case bslice own e sz len A=>
  cases own;·exact aj h λ_ ⟨c,a,d,j,l⟩=>⟨c,a,d,j,l.imp (b _) (b _)⟩
  omega
 case bsliceN=>exact aj h λ_ ⟨c,a,d,j,l⟩=>⟨c,a,d,j,b _ l⟩
 case appD=>exact aj h λ_ h=>aj h λ_ h=>fY h λ_ ⟨c,v,a,d,j⟩=>⟨c,v,a,d,b _ j⟩
theorem pn{o:SOper}{st:St}{x:AV}{K KP:St->Prop}(h:gg P o st x)(b:K (st.putO o.dst x)):jA P o st K KP:=by
 have key:∀s,(kg P st s λy=>y=x)->sexec P o.dst s st K KP:=by
  intro s hs;have a:kg P st s λy=>K (st.putO o.dst y):=Ce hs λy c=>by grind
  unfold sexec;split<;>first|exact a|exact hs.elim
 unfold gg at h;unfold jA;split at h;·grind
 ·rename_i t want hg;rw[hg];refine aj h λ_ h=>bk h λv h=>⟨λe=>key _ (h.1 e),λe=>by grind⟩
end
def sdraw(P:Program)(m:Nat):Nat->List SOper->St->(St->Prop)->(St->Prop)->Prop
 |0,l,st,K,KP=>sops P m l st K KP
 |_+1,[],st,K,_=>K st
 |k+1,o::l,st,K,KP=>∃x,gg P o st x/\sdraw P m k l (st.putO o.dst x) K KP
def fO:List (List Nat)->List (List Nat)->List (List Nat)
 |a,[]=>a
 |a,l::ls=>fO (a++[l.flatMap λe=>e::a.getD e []]) ls
def CP(x y:SOper):Bool:=
 (match x.dst with|some d=> !y.rd.contains d&&y.dst != some d|none=>true)&&(match y.dst with|some d=> !x.rd.contains d|none=>true)
def CU(ops:List SOper)(a:List (List Nat))(k:Nat):Bool:=
 (S_ ops.length).all λj=>(S_ j).all λi=>(a.getD j []).contains i||(decide (j<k)&&(match ops[i]?,ops[j]? with|some x,some y=>CP x y|_,_=>false))
def tE(ops:Array Oper):List (List Nat):=ops.toList.map λo=>(o.after.toList.filter (Region.binds .any)).map (·.on)
def C8(after:List (List Nat)):Bool:=(S_ after.length).all λi=>(after.getD i []).all λe=>decide (e<i)
section
variable {P:Program} {c:Ctx} {w:World} {a:Act}
def c8(p:Nat->Bool):Nat->Option Nat
 |0=>none
 |k+1=>if p k then some k else c8 p k
theorem lh{p q:Nat->Bool}:∀{k:Nat},(∀j,j<k->p j=q j)->c8 p k=c8 q k
 |0,_=>rfl
 |k+1,h=>by have a:=lh (p:=p) (q:=q) (k:=k) λj b=>h j (by omega);simp only[c8,h k (by simp),a]
theorem uh{p:Nat->Bool}:∀{k i:Nat},i<=k->(∀j,i<=j->j<k->p j=false)->c8 p k=c8 p i
 |0,i,h,_=>by grind
 |k+1,i,h,hp=>by
  rcases F_ i (k+1)with a|a;·simp only[c8,hp k (by omega) (by simp),s_,if_false];exact uh (by omega) λj b c=>hp j b (by omega)
  grind
def Hb(d:Nat->Option Nat)(X:Nat->AV)(st:St)(S:Nat->Bool):Nat->St
 |0=>st
 |k+1=>if S k then(Hb d X st S k).putO (d k) (X k)else Hb d X st S k
theorem Aj(d:Nat->Option Nat)(X:Nat->AV)(st:St)(S:Nat->Bool):∀k,(Hb d X st S k).hp=st.hp
 |0=>rfl
 |k+1=>by
  simp only[Hb];split;·cases d k<;>simp[St.putO,St.put,Aj d X st S k]
  ·exact Aj d X st S k
theorem fB(st:St)(d:Option Nat)(x:AV)(t:Nat):look (st.putO d x).fr t=if d=some t then some x else look st.fr t:=by cases d with|none=>simp[St.putO]|some k=>simp only[St.putO,St.put,look,g_];grind
theorem oM(d:Nat->Option Nat)(X:Nat->AV)(st:St)(S:Nat->Bool)(t:Nat):∀k,look (Hb d X st S k).fr t=(match c8 (λj=>S j&&d j==some t) k with|some j=>some (X j)|none=>look st.fr t)
 |0=>rfl
 |k+1=>by
  simp only[Hb,c8];by_cases a:S k=true
  ·rw[if_pos a,fB];by_cases hd:d k=some t;·grind
   ·rw[if_neg hd,oM d X st S t k];grind
  ·rw[if_neg a,oM d X st S t k];grind
theorem Rel.congr{st E:St}(H:E.hp=st.hp)(h:∀t,look E.fr t=look st.fr t)(hr:Rel c st a w):Rel c E a w:=by obtain⟨θ,D,z⟩:=hr;exact⟨θ,D,z.size,z.defers,by rw[H];exact z.ok,z.keep,z.dsub,z.dnew,z.onew,λk x I=>z.fr k x (by grind),z.fix⟩
theorem Sm{m:Nat}:∀(k:Nat) (ops:List SOper) (st:St) (K KP:St->Prop),sdraw P m k ops st K KP->k<=ops.length->∃X:Nat->AV,(∀i s,i<k->ops[i]? =some s->gg P s (Hb (λj=>(ops[j]?).bind (·.dst)) X st (λ_=>true) i) (X i))/\sops P m (ops.drop k) (Hb (λj=>(ops[j]?).bind (·.dst)) X st (λ_=>true) k) K KP:=by
 intro k;induction k with
 |zero=>intro ops st K KP h _;exact⟨λ_=>default,λi s c=>absurd c (by simp),h⟩|succ k b=>
  intro ops st K KP h hl;cases ops with|nil=>grind|cons o ops=>
  simp only[sdraw]at h;obtain⟨x,d,h⟩:=h;obtain⟨X,e,f⟩:=b ops _ K KP h (by grind);have a:∀i,Hb (λj=>((o::ops)[j]?).bind (·.dst)) (λj=>match j with|0=>x|j+1=>X j) st (λ_=>true) (i+1)=Hb (λj=>(ops[j]?).bind (·.dst)) X (st.putO o.dst x) (λ_=>true) i:=by intro i;induction i with|zero=>simp[Hb]|succ i b=>rw[Hb,b];simp[Hb]
  refine⟨λj=>match j with|0=>x|j+1=>X j,λi s c hs=>?_,?_⟩
  ·cases i with|zero=>simp at hs;subst hs;exact d|succ i=>grind
  grind
theorem Me:∀(ls a:List (List Nat)),(fO a ls).length=a.length+ls.length
 |[],a=>rfl
 |l::ls,a=>by rw[fO,Me ls];simp;omega
theorem Fs:∀(ls a:List (List Nat)) (i:Nat),i<a.length->(fO a ls)[i]? =a[i]?
 |[],a,i,_=>rfl
 |l::ls,a,i,h=>by rw[fO,Fs ls _ i (by grind),k_ h]
theorem AS:∀(ls a:List (List Nat)) (j:Nat) (l:List Nat),ls[j]? =some l->(fO a ls).getD (a.length+j) []=l.flatMap λe=>e::(fO a (ls.take j)).getD e []
 |[],a,j,l,h=>by grind
 |m::ls,a,0,l,h=>by
  simp at h;subst h;have:(fO a (m::ls))[a.length]? =some (m.flatMap λe=>e::a.getD e []):=by rw[fO,Fs ls _ _ (by simp)];simp
  show((fO a (m::ls))[a.length+0]?).getD []=_;rw[aZ_,this];rfl
 |m::ls,a,j+1,l,h=>by have:=AS ls (a++[m.flatMap λe=>e::a.getD e []]) j l (by grind);simp only[Z_,ae_]at this;rw[show a.length+(j+1)=a.length+1+j by omega,fO,this];rfl
def TK{α:Type}(n:Nat)(k:Nat->α):α:=match n with
 |0=>k 0
 |p+1=>k (p+1)
theorem Ry{α:Type}(n:Nat)(k:Nat->α):TK n k=k n:=by cases n<;>rfl
def OU(a:List Nat)(l:List Nat):Nat:=l.foldl (λm e=>m|||2^e|||a.getD e 0) 0
def Td:List Nat->List (List Nat)->List Nat
 |a,[]=>a
 |a,l::ls=>TK (OU a l) λm=>Td (a++[m]) ls
def bitsOf(m:Nat):List Nat:=(S_ (m.log2+1)).filter λi=>m.testBit i
def HG(after:List (List Nat)):List (List Nat):=(Td [] after).map bitsOf
theorem Cq(a:List Nat)(i:Nat):∀(l:List Nat) (m:Nat),(l.foldl (λm e=>m|||2^e|||a.getD e 0) m).testBit i=(m.testBit i||l.any λe=>decide (e=i)||(a.getD e 0).testBit i)
 |[],m=>by simp
 |e::l,m=>by rw[aR_,Cq a i l,aV_,aV_,Nat.testBit_two_pow,List.any_cons,aE_,aE_,aE_]
theorem Ee(m i:Nat):(bitsOf m).contains i=m.testBit i:=by
 rw[aP_,L_];unfold bitsOf;rw[Q_,v_];refine⟨λh=>h.2,λh=>⟨?_,h⟩⟩;have a:=Nat.ge_two_pow_of_testBit h;have b:m≠0:=by rintro rfl;simp at h
 have:=(Nat.le_log2 b).2 a;omega
theorem P0(i:Nat):∀(ls a:List (List Nat)) (b:List Nat),a.length=b.length->(∀j,(a.getD j []).contains i=(b.getD j 0).testBit i)->∀j,((fO a ls).getD j []).contains i=((Td b ls).getD j 0).testBit i
 |[],a,b,_,h=>h
 |l::ls,a,b,hl,h=>by
  unfold fO Td;rw[Ry];refine P0 i ls _ _ (by simp[hl]) λj=>?_;rcases Nat.lt_trichotomy j a.length with c|c|c;·rw[N_,N_,k_ c,k_ (by omega)];exact h j
  ·subst c;have e:(OU b l).testBit i=l.any λe=>decide (e=i)||(b.getD e 0).testBit i:=by unfold OU;rw[Cq];simp
   rw[N_,N_,n_ (by omega),n_ (by omega),hl];simp only[aL_,List.getElem?_cons_zero,X_];rw[e,aP_,L_,e_,List.any_eq_true];refine exists_congr λe=>and_congr_right λ_=>?_;rw[U_,<-L_,h e,T_,decide_eq_true_eq];exact or_congr_left eq_comm
  ·rw[N_,N_,aA_ (by simp;omega),aA_ (by simp;omega)];simp
theorem EM(after:List (List Nat))(j i:Nat):((HG after).getD j []).contains i=((fO [] after).getD j []).contains i:=by rw[P0 i after [] [] rfl (λj=>by simp) j];unfold HG;rw[N_,W_,N_];cases(Td [] after)[j]? with|none=>simp|some m=>exact Ee m i
theorem MF(ops:List SOper)(after:List (List Nat))(k:Nat):CU ops (HG after) k=CU ops (fO [] after) k:=by simp only[CU,EM]
theorem Rb(ls:List (List Nat))(j e:Nat)(h:e<j)(k:j<=ls.length):(fO [] (ls.take j)).getD e []=(fO [] ls).getD e []:=by
 have key:∀(b c a:List (List Nat)),fO a (b++c)=fO (fO a b) c:=by intro b;induction b with|nil=>intro c a;rfl|cons m b d=>intro c a;simp only[as_,fO,d]
 have f:(fO [] (ls.take j)).length=j:=by rw[Me];grind
 have:=key (ls.take j) (ls.drop j) [];rw[List.take_append_drop]at this;have g:(fO [] ls)[e]? =(fO [] (ls.take j))[e]? :=by rw[this,Fs _ _ e (by omega)]
 grind
theorem qz{after:List (List Nat)}(a:C8 after=true){S:Nat->Prop}(h:∀i l,after[i]? =some l->S i->∀e∈l,S e):∀(n i j:Nat),i<=n->S i->(((fO [] after).getD i []).contains j)=true->i<after.length->S j:=by
 intro n;induction n with
 |zero=>
  intro i j k hs hc b;have f:i=0:=by omega
  subst f;have hl:=d_ b;have:=AS after [] 0 _ hl;simp only[M_,J_]at this;rw[this]at hc;simp only[L_,e_]at hc;obtain⟨e,g,_⟩:=hc;simp only[C8,j_,v_,decide_eq_true_eq]at a;have:=a 0 b e (by grind);omega
 |succ n r=>
  intro i j k hs hc b;have hl:=d_ b;have hg:=AS after [] i _ hl;simp only[M_,J_]at hg;rw[hg]at hc;simp only[L_,e_]at hc;obtain⟨e,g,c⟩:=hc;have p:=h i _ hl hs e g;simp only[C8,j_,v_,decide_eq_true_eq]at a;have d:=a i b e (by grind);simp only[U_]at c;rcases c with rfl|c;·omega
  ·rw[Rb after i e d (by omega)]at c;grind
theorem dN{n:Nat}{a:Array Bool}(hn:a.size=n){i j:Nat}(b:i<n):(a.setIfInBounds i true).getD j false=(if j=i then true else a.getD j false):=by
 by_cases h:j=i;·subst h;simp[hn,b]
 ·simp[h,ad_ (Ne.symm h)]
theorem conflict{x y:SOper}{t:Nat}(h:CP x y=true):(x.dst=some t->t∉y.rd/\y.dst≠some t)/\(y.dst=some t->t∉x.rd):=by unfold CP at h;grind
theorem OH{id n k ml:Nat}{ops:Array Oper}{f:List SOper}{after:List (List Nat)}(hm:P.follows .mixedOrders=true)(hn:c.n=n)(Nd:c.th.length<=ml)(hc:tJ P n ops ops.toList f)(Fk:after=tE ops)(F:C8 after=true)(RT:CU f (fO [] after) k=true)(Hx:k<=f.length) {st:St} {K KP:St->Prop} {Q:Exit->Act->World->Prop} (h:sdraw P ml k f st K KP) (hr:Rel c st a w) (hQ:∀a w,(∃r,K r/\Rel c r a w)->Q .normal a w) (hP:∀ch a w,(tC ch/\∃r,KP r/\Rel c r a w)->Q (.panic ch) a w):(Code.region id ops true).wp P Q a w:=by
 obtain⟨JT,DB⟩:=vW hc;have hsz:ops.size=f.length:=by simpa using JT
 obtain⟨X,hX,rg⟩:=Sm k f st K KP h Hx;generalize hd:(λj:Nat=>(f[j]?).bind (λs:SOper=>s.dst))=d at hX rg;have hdj:∀(j:Nat) (s:SOper),f[j]? =some s->d j=s.dst:=λj s hs=>by rw[<-hd];simp[hs]
 have SM:after.length=f.length:=by rw[Fk];simp[tE,hsz]
 have CT:∀(i:Nat) (o:Oper),ops[i]? =some o->after[i]? =some ((o.after.toList.filter (Region.binds .any)).map (·.on)):=λi o ho=>by rw[Fk];simp[tE,ho]
 have v:∀(b:Array Bool) (i:Nat),b.size=f.length->(i∈Region.ready .any ops b↔i<f.length/\b.getD i true=false/\∀l:List Nat,after[i]? =some l->∀e∈l,b.getD e false=true):=by
  intro b i g;unfold Region.ready;simp only[Q_,v_,m_,ao_,hsz];constructor;·rintro⟨z,A,h3⟩;refine⟨z,A,λl hl e N=>?_⟩;have ho:ops[i]? =some ops[i]:=l_ (by omega);rw[CT i _ ho]at hl;cases hl;rw[ho]at h3;simp only[D_,X_,Y_]at h3;simp only[E_,Q_]at N;obtain⟨ed,⟨h4,h5⟩,rfl⟩:=N;have:=h3 ed (by simpa using h4);simpa[h5]using this
  ·rintro⟨z,A,h3⟩;refine⟨z,A,?_⟩;have ho:ops[i]? =some ops[i]:=l_ (by omega);rw[ho];simp only[D_,X_,Y_];intro ed PA;by_cases L:Region.binds .any ed=true;·have:=h3 _ (CT i _ ho) ed.on (E_.2 ⟨ed,Q_.2 ⟨by simpa using PA,L⟩,rfl⟩);simp only[L,aq_,aW_];exact this
   ·simp[L]
 have Y:∀i j,i<j->j<f.length->((fO [] after).getD j []).contains i=true\/(j<k/\∃x y,f[i]? =some x/\f[j]? =some y/\CP x y=true):=by intro i j GS E;simp only[CU,j_,v_,T_,m_,decide_eq_true_eq]at RT;grind
 have BT:∀(m j:Nat) (b:Array Bool) (r:St) (a:Act) (w:World),j<=f.length->f.length<=j+m->k<=j->b.size=f.length->(∀i,i<f.length->b.getD i false=decide (i<j))->sops P ml (f.drop j) r K KP->Rel c r a w->wpAny P .any ops Q m b a w:=by
  have DS:∀(b:Array Bool) (r:St) (a:Act) (w:World),b.size=f.length->(∀i,i<f.length->b.getD i false=decide (i<f.length))->sops P ml (f.drop f.length) r K KP->Rel c r a w->Region.ready .any ops b=[]/\Q .normal a w:=by intro b r a w g O hs hr;rw[aM_]at hs;simp only[sops]at hs;obtain⟨st1,DP,hs⟩:=hs;refine⟨?_,hQ a w ⟨st1,hs,DP _ _ _ Nd hr⟩⟩;apply af_.2;grind
  intro m
  induction m with
  |zero=>
   intro j b r a w E hm _ g O hs hr;have DM:j=f.length:=by omega
   subst DM;exact DS b r a w g O hs hr
  |succ m ih=>
   intro j b r a w E hm Vc g O hs hr;rcases F_ j f.length with I|I;case inr=>
    have DM:j=f.length:=by omega
    subst DM;obtain⟨f1,f2⟩:=DS b r a w g O hs hr;exact⟨λ_=>f2,λi C=>by rw[f1]at C;cases C⟩
   have Fr:∀i,i<f.length->b.getD i true=decide (i<j):=λi C=>by
    have h4:i<b.size:=by omega
    have:=O i C;simp[h4]at this⊢;exact this
   have Pa:∀i,i∈Region.ready .any ops b↔i=j:=by
    intro i;rw[v b i g];constructor
    ·rintro⟨z,A,h3⟩;rw[Fr i z]at A;simp only[decide_eq_false_iff_not,aI_]at A;rcases F_ j i with h4|h4
     ·rcases Y j i h4 z with h5|⟨h5,_⟩
      ·have ph:=qz F (S:=λx=>x<j\/x=i) (λx l hl U e N=>by
        have u:=F;simp only[C8,j_,v_,decide_eq_true_eq]at u;have DQ:=(a_.1 hl).1;have Fm:=u x DQ e (by simpa[N_,hl]using N);rcases U with U|rfl;·exact .inl (by omega)
        ·have:=h3 l hl e N;rw[O e (by omega)]at this;exact .inl (by simpa using this)) i i j (x_ _) (.inr rfl) h5 (by omega)
       omega
      ·omega
     ·omega
    ·rintro rfl;refine⟨I,by rw[Fr _ I];simp,λl hl e N=>?_⟩;have u:=F;simp only[C8,j_,v_,decide_eq_true_eq]at u;have DQ:=(a_.1 hl).1;have Fm:=u i DQ e (by simpa[N_,hl]using N);rw[O e (by omega)];simpa using Fm
   refine⟨λh0=>?_,λi C=>?_⟩;·have:=(Pa j).2 rfl;rw[h0]at this;cases this
   ·have:=(Pa i).1 C;subst this;have ho:ops[i]? =some ops[i]:=l_ (by omega);have R:=d_ I;have DH:=DB i _ _ (by rw[q_];exact ho) R;rw[ak_ I]at hs;simp only[sops]at hs;obtain⟨st1,DP,hs⟩:=hs;obtain⟨θ,D,hI⟩:=DP _ _ _ Nd hr;have:=qX hI hn DH hs (λa' w'=>wpAny P .any ops Q m (b.setIfInBounds i true) a' w') Q (λa' w' ⟨DE,z,A⟩=>
     ih (i+1) _ DE a' w' (by omega) (by omega) (by omega) (by simpa using g) (λx U=>by
      rw[dN g (by omega),O x U];by_cases J:x=i;·subst J;simp
      ·rw[if_neg J];apply decide_eq_decide.2;omega) z A) (λch w' hp=>hP ch a w' hp)
    unfold wpOp;rw[ho];simp only;split;·rename_i hw;rw[if_pos hw]at this;exact .inl this
    ·rename_i hw;rw[if_neg hw]at this;exact this
 have Bx:∀(m:Nat) (b:Array Bool) (a:Act) (w:World),b.size=f.length->(∀i,i<f.length->b.getD i false=true->i<k)->(∀(i:Nat) (l:List Nat),after[i]? =some l->b.getD i false=true->∀e∈l,b.getD e false=true)->((S_ f.length).filter λi=> !b.getD i false).length<=m->Rel c (Hb d X st (λj=>b.getD j false) k) a w->wpAny P .any ops Q m b a w:=by
  have full:∀(m:Nat) (b:Array Bool) (a:Act) (w:World),b.size=f.length->(∀i,i<f.length->b.getD i false=true->i<k)->(∀i,i<k->b.getD i false=true)->f.length<=k+m->Rel c (Hb d X st (λj=>b.getD j false) k) a w->wpAny P .any ops Q m b a w:=by
   intro m b a w g B M hm hr;refine BT m k b (Hb d X st (λ_=>true) k) a w Hx hm (x_ _) g (λi C=>?_) rg (Rel.congr ?_ (λt=>?_) hr)
   ·rcases F_ i k with z|z;·rw[M i z];simp[z]
    ·cases L:b.getD i false with|true=>have:=B i C L;omega|false=>simp;omega
   ·rw[Aj,Aj]
   ·rw[oM,oM,lh (p:=λj=>(λ_=>true) j&&d j==some t) (q:=λj=>b.getD j false&&d j==some t) (k:=k) λj E=>by simp only[M j E]]
  have CD:∀(b:Array Bool),(∀i,i<f.length->b.getD i false=true->i<k)->f.length<=k+((S_ f.length).filter λi=> !b.getD i false).length:=by
   intro b B;have:∀n,n<=f.length->n<=k+((S_ n).filter λi=> !b.getD i false).length:=by intro n;induction n with|zero=>intro _;omega|succ n ih=>intro hn;have:=ih (by omega);rw[List.range_succ,List.filter_append,Z_];cases L:b.getD n false with|true=>have:=B n (by omega) L;omega|false=>simp only[au_,L,aB_,if_true,List.filter_nil,ae_];omega
   exact this _ (x_ _)
  intro m
  induction m with
  |zero=>intro b a w g B ph DA hr;refine full 0 b a w g B (λi C=>?_) (by have:=CD b B;omega) hr;have h0:=w_ (Nat.le_zero.1 DA);have:=List.filter_eq_nil_iff.1 h0 i (by simp;omega);simpa using this|succ m ih=>
   intro b a w g B ph DA hr;by_cases M:∀i,i<k->b.getD i false=true;·exact full (m+1) b a w g B M (by have:=CD b B;omega) hr
   ·obtain⟨T,Th,Pc,MT⟩:∃T,T<k/\b.getD T false=false/\∀j,j<T->b.getD j false=true:=by
     have:∀n,(∃i,i<n/\b.getD i false=false)->∃T,T<n/\b.getD T false=false/\∀j,j<T->b.getD j false=true:=by
      intro n;induction n with
      |zero=>rintro⟨i,C,_⟩;omega
      |succ n So=>
       rintro⟨i,C,hu⟩;by_cases z:∃i,i<n/\b.getD i false=false;·obtain⟨T,A,h3⟩:=So z;exact⟨T,by omega,h3⟩
       ·refine⟨n,by omega,?_,λj E=>?_⟩
        ·have:i=n:=by
          rcases F_ i n with A|A;·exact absurd ⟨i,A,hu⟩ z
          ·omega
         subst this;exact hu
        ·cases L:b.getD j false with|true=>rfl|false=>exact absurd ⟨j,E,L⟩ z
     refine this k ?_;apply y_;intro RM;refine M λi C=>?_;cases L:b.getD i false with|true=>rfl|false=>exact absurd ⟨i,C,L⟩ RM
    have u:=F;simp only[C8,j_,v_,decide_eq_true_eq]at u;have Pb:∀i,i<f.length->b.getD i true=b.getD i false:=λi C=>by
     have h4:i<b.size:=by omega
     simp[h4]
    refine⟨λh0=>?_,λi C=>?_⟩;·have:T∈Region.ready .any ops b:=(v b T g).2 ⟨by omega,by rw[Pb T (by omega)];exact Pc,λl hl e N=>MT e (u T (by omega) e (by simpa[N_,hl]using N))⟩;rw[h0]at this;cases this
    ·obtain⟨r1,r2,r3⟩:=(v b i g).1 C;rw[Pb i r1]at r2;have Dg:∀j,((fO [] after).getD i []).contains j=true->j=i\/b.getD j false=true:=λj E=>by
      have:=qz F (S:=λx=>x=i\/b.getD x false=true) (λx l hl U e N=>by
       rcases U with rfl|U;·exact .inr (r3 l hl e N)
       ·exact .inr (ph x l hl U e N)) i i j (x_ _) (.inl rfl) E (by omega)
      exact this
     have PB:i<k:=by
      apply y_;intro Wf;rcases Y T i (by omega) r1 with z|⟨z,_⟩
      ·rcases Dg T z with A|A;·omega
       ·rw[Pc]at A;cases A
      ·omega
     have ho:ops[i]? =some ops[i]:=l_ (by omega);have R:f[i]? =some f[i]:=d_ r1;have DH:=DB i _ _ (by rw[q_];exact ho) R;have ur:∀j,i<j->j<k->b.getD j false=true->∃y,f[j]? =some y/\CP f[i] y=true:=λj GS wr hl=>by
      rcases Y i j GS (by omega)with z|⟨_,x,y,U,hy,A⟩;·have:=qz F (S:=λx=>b.getD x false=true) (λx l hl U e N=>ph x l hl U e N) j j i (x_ _) hl z (by omega);rw[r2]at this;cases this
      ·rw[R]at U;cases U;exact⟨y,hy,A⟩
     have el:∀j,j<i->b.getD j false=false->∃y,f[j]? =some y/\CP y f[i]=true:=λj qr hl=>by
      rcases Y j i qr r1 with z|⟨_,x,y,U,hy,A⟩
      ·rcases Dg j z with h3|h3;·omega
       ·rw[hl]at h3;cases h3
      ·rw[R]at hy;cases hy;exact⟨x,U,A⟩
     have At:∀t∈f[i].rd,look (Hb d X st (λj=>b.getD j false) k).fr t=look (Hb d X st (λ_=>true) i).fr t:=by
      intro t ht;rw[oM,oM];have e1:c8 (λj=>b.getD j false&&d j==some t) k=c8 (λj=>b.getD j false&&d j==some t) i:=uh (by omega) λj E wr=>by
       rcases Nat.eq_or_lt_of_le E with rfl|E;·rw[r2];rfl
       ·cases L:b.getD j false with|false=>rfl|true=>obtain⟨y,hy,gc⟩:=ur j E wr L;rw[hdj j y hy];cases H:(y.dst==some t)with|false=>rfl|true=>exact absurd ht ((conflict gc).2 (by simpa using H))
      have e2:c8 (λj=>b.getD j false&&d j==some t) i=c8 (λj=>(λ_=>true) j&&d j==some t) i:=lh λj E=>by cases L:b.getD j false with|true=>rfl|false=>obtain⟨y,hy,gc⟩:=el j E L;rw[hdj j y hy];cases H:(y.dst==some t)with|false=>rfl|true=>exact absurd ht ((conflict gc).1 (by simpa using H)).1
      rw[e1,e2]
     have hy:gg P f[i] (Hb d X st (λj=>b.getD j false) k) (X i):=Lu (by rw[Aj,Aj]) At (hX i _ PB R);obtain⟨θ,D,hI⟩:=hr;have:=qX (hp:=λ_ _ h=>h.2.elim λ_ h=>h.1.elim) hI hn DH (pn (KP:=λ_=>False) (K:=λr=>r=(Hb d X st (λj=>b.getD j false) k).putO f[i].dst (X i)) hy rfl) (λa' w'=>wpAny P .any ops Q m (b.setIfInBounds i true) a' w') Q (λa' w' ⟨DE,z,A⟩=>by
      subst z;refine ih _ a' w' (by simpa using g) (λj E hl=>?_) (λj l hl I e N=>?_) ?_ (Rel.congr ?_ (λt=>?_) A)
      ·rw[dN g r1]at hl;split at hl;·omega
       ·exact B j E hl
      ·rw[dN g r1]at I⊢;split at I
       ·rename_i qr;subst qr;split;·rfl
        ·exact r3 l hl e N
       ·split;·rfl
        ·exact ph j l hl I e N
      ·have Rg:∀(l:List Nat),i∈l->(l.filter λj=> !(b.setIfInBounds i true).getD j false).length<(l.filter λj=> !b.getD j false).length:=by
        intro l;have PJ:∀(l:List Nat),(l.filter λj=> !(b.setIfInBounds i true).getD j false).length<=(l.filter λj=> !b.getD j false).length:=by
         intro l;induction l with
         |nil=>exact x_ _|cons x l Bk=>
          simp only[au_,dN g r1]at Bk⊢;by_cases J:x=i;·subst J;simp only[if_true,aq_,s_,if_false,r2,aB_,H_];omega
          ·simp only[J,if_false];split<;>(try simp only[H_])<;>omega
        induction l with
        |nil=>intro h;cases h|cons x l Bk=>
         intro KK;have In:=PJ l;simp only[au_,dN g r1]at Bk In⊢;by_cases J:x=i;·subst J;simp only[if_true,aq_,s_,if_false,r2,aB_,H_];omega
         ·have RK:i∈l:=by
           rcases U_.1 KK with h|h;·exact absurd h.symm J
           ·exact h
          have:=Bk RK;simp only[J,if_false];split<;>(try simp only[H_])<;>omega
       have:=Rg (S_ f.length) (by simpa using r1);omega
      ·cases SW:f[i].dst<;>simp[St.putO,St.put,Aj]
      ·rw[fB,oM,oM];by_cases H:f[i].dst=some t
       ·rw[if_pos H];have e1:c8 (λj=>(b.setIfInBounds i true).getD j false&&d j==some t) k=c8 (λj=>(b.setIfInBounds i true).getD j false&&d j==some t) (i+1):=uh (by omega) λj E wr=>by rw[dN g r1,if_neg (by omega)];cases L:b.getD j false with|false=>rfl|true=>obtain⟨y,RW,gc⟩:=ur j (by omega) wr L;rw[hdj j y RW];have:=((conflict gc).1 H).2;simpa using this
        rw[e1,c8,dN g r1,if_pos rfl,hdj i _ R,H];simp
       ·rw[if_neg H];rw[lh (p:=λj=>(b.setIfInBounds i true).getD j false&&d j==some t) (q:=λj=>b.getD j false&&d j==some t) λj E=>by
         rw[dN g r1];split;·rename_i qr;subst qr;rw[hdj j _ R,r2];simpa using H
         ·rfl])
     unfold wpOp;rw[ho];simp only;split;·rename_i hw;rw[if_pos hw]at this;exact .inl this
     ·rename_i hw;rw[if_neg hw]at this;exact this
 refine wp_region_any hm ?_;have h0:=Bx ops.size (z_ ops.size false) a {w with drawn:=w.drawn+1} (by simp[hsz]) (λi C hl=>by simp[hsz,C]at hl) (λi l hl A=>by
  have C:i<ops.size:=by have:=(a_.1 hl).1;omega
  simp[C]at A) (by have:=List.length_filter_le (λi=> !(z_ ops.size false).getD i false) (S_ f.length);simpa[hsz]using this) ?_
 ·exact h0
 ·have:∀j,Hb d X st (λj=>(z_ ops.size false).getD j false) j=st:=by
   intro j;induction j with
   |zero=>rfl|succ j ih=>
    rw[Hb,ih];have:(z_ ops.size false).getD j false=false:=by by_cases E:j<ops.size<;>simp[E]
    rw[this];rfl
  rw[this];obtain⟨θ,D,hI⟩:=hr;exact⟨θ,D,hI.drew⟩
end
theorem zW(v:Value):(bz v).ids=[]:=by unfold bz;split<;>rfl
theorem C4(v:Value):(gC v).ids=[]:=by
 unfold gC;split;·simp only[AV.ids,List.flatMap_map,List.flatMap_eq_nil_iff];intro x _;exact zW x
 ·exact zW _
structure Foot(rd:List Nat)(a b:St):Prop where
 fr:∀k∈rd,∀y,look b.fr k=some y->look a.fr k=some y
 hp:∀k∈rd,∀y,look b.fr k=some y->∀i∈y.ids,∀ob,b.hp[i]? =some ob->a.hp[i]? =some ob
def L3(y:AV)(h h':List AObj):Prop:=∀i∈y.ids,∀ob,h[i]? =some ob->h'[i]? =some ob
section
variable {P:Program} {rd:List Nat} {a b:St}
theorem Foot.get(h:Foot rd a b){x:SX}(H:∀t∈x.rd,t∈rd){y:AV}(z:b.get x=some y):a.get x=some y/\L3 y b.hp a.hp:=by cases x with|tm k=>exact⟨h.fr k (H k (by simp[SX.rd])) y z,h.hp k (H k (by simp[SX.rd])) y z⟩|c v=>simp only[St.get,g_]at z⊢;subst z;exact⟨rfl,λi E=>by rw[C4]at E;cases E⟩|g n=>simp only[St.get,g_]at z⊢;subst z;exact⟨rfl,λi E=>by cases E⟩|f n=>simp only[St.get,g_]at z⊢;subst z;exact⟨rfl,λi E=>by cases E⟩
theorem Foot.bind(h:Foot rd a b){x:SX}(R:∀t∈x.rd,t∈rd){K z:AV->Prop}(hs:aM (b.get x) K)(N:∀y,L3 y b.hp a.hp->K y->z y):aM (a.get x) z:=by obtain⟨y,E,H⟩:=hs;obtain⟨I,J⟩:=h.get R E;exact⟨y,I,N y J H⟩
theorem Foot.bnd(h:Foot rd a b){x:Option SX}(I:∀t∈(x.map SX.rd).getD [],t∈rd){d:Nat}{K z:Nat->Prop}(hs:bnd b x d K)(E:∀n,K n->z n):bnd a x d z:=by cases x with|none=>exact E _ hs|some x=>exact h.bind (by simpa using I) hs λy _ J=>bk J λv H=>bJ H λ_ n hn=>⟨hn.1,E _ hn.2⟩
theorem qJ{α β:Type}{f g:α->Option β}:∀{l:List α} {m:List β},(∀x∈l,∀y,f x=some y->g x=some y)->l.mapM f=some m->l.mapM g=some m
 |[],m,_,a=>a
 |x::l,m,h,a=>by simp only[A_,B_,K_,b_,g_]at a⊢;obtain⟨z,b,e,c,rfl⟩:=a;exact⟨z,h x (by simp) _ b,e,qJ (λy d=>h y (by simp[d])) c,rfl⟩
theorem Foot.bindM(h:Foot rd a b){β:Type}{l:List SX}(hl:∀x∈l,∀t∈x.rd,t∈rd){g E:AV->Option β}(hg:∀y z,L3 y b.hp a.hp->g y=some z->E y=some z){K:List β->Prop}(hs:aM (l.mapM λx=>(b.get x).bind g) K):aM (l.mapM λx=>(a.get x).bind E) K:=by obtain⟨ys,R,U⟩:=hs;refine⟨ys,qJ (λx Y y hy=>?_) R,U⟩;obtain⟨u,H,I⟩:=b_.1 hy;obtain⟨J,N⟩:=h.get (hl x Y) H;rw[J];exact hg u y N I
theorem qg{h h':List AObj}{sz:Nat}{y:AV}{K b:List PV->Prop}(c:L3 y h h')(hs:pm h sz y K)(a:∀L,K L->b L):pm h' sz y b:=by
 rcases hs with⟨rfl,hs⟩|⟨L,rfl,hs⟩|⟨id,e,L,rfl,d,hs⟩|⟨L,rfl,hs⟩;·exact .inl ⟨rfl,a _ hs⟩
 ·exact .inr (.inl ⟨L,rfl,a _ hs⟩)
 ·exact .inr (.inr (.inl ⟨id,e,L,rfl,c id (by simp[AV.ids,BV.ids]) _ d,a _ hs⟩))
 ·exact .inr (.inr (.inr ⟨L,rfl,a _ hs⟩))
theorem TS{h h':List AObj}{y:AV}{K c:Nat->Prop}(d:L3 y h h')(hs:isLen h y K)(a:∀L,K L->c L):isLen h' y c:=by
 rcases hs with⟨rfl,hs⟩|⟨sz,L,rfl,hs⟩|⟨id,e,sz,L,rfl,b,hs⟩|⟨sz,L,rfl,hs⟩|⟨id,e,sz,k,L,hole,rfl,b,hs⟩;·exact .inl ⟨rfl,a _ hs⟩
 ·exact .inr (.inl ⟨sz,L,rfl,a _ hs⟩)
 ·exact .inr (.inr (.inl ⟨id,e,sz,L,rfl,d id (by simp[AV.ids,BV.ids]) _ b,a _ hs⟩))
 ·exact .inr (.inr (.inr (.inl ⟨sz,L,rfl,a _ hs⟩)))
 ·exact .inr (.inr (.inr (.inr ⟨id,e,sz,k,L,hole,rfl,d id (by simp[AV.ids,BV.ids]) _ b,a _ hs⟩)))
theorem M0{h h':List AObj}{k e:TypeId}{y:AV}{K a:Nat->List (PV×PV)->Prop}(b:L3 y h h')(hs:isMap h k e y K)(c:∀i L,K i L->a i L):isMap h' k e y a:=by obtain⟨id,kvs,rfl,d,hs⟩:=hs;exact⟨id,kvs,rfl,b id (by simp[AV.ids,BV.ids]) _ d,c _ _ hs⟩
theorem TY{h h':List AObj}{sz:Nat}{ag:Bool}{y:AV}{K c:AV->Prop}(d:L3 y h h')(hs:DV h sz ag y K)(e:∀L,K L->c L):DV h' sz ag y c:=by
 have a:=Gm hs e;revert a;unfold DV;split;·exact λh=>h
 ·rename_i id off;rintro⟨o,b,a⟩;exact⟨o,d id (by simp[AV.ids,BV.ids]) _ b,a⟩
 ·rename_i id i off;rintro⟨o,b,a⟩;exact⟨o,d id (by simp[AV.ids,BV.ids]) _ b,a⟩
 ·exact λh=>h
theorem P1{h h':List AObj}{bor:Bool}{y:BV}{p:PV}(b:∀i∈y.ids,∀ob,h[i]? =some ob->h'[i]? =some ob)(hs:tF h bor y=some p):tF h' bor y=some p:=by
 cases y with
 |sl id=>
  simp only[tF]at hs⊢;cases bor;·exact hs
  ·simp only[if_true,Lm]at hs⊢;cases a:h[id]? with|none=>rw[a]at hs;cases hs|some ob=>rw[a]at hs;rw[b id (by simp[BV.ids]) _ a];exact hs
 |_=>exact hs
theorem Mk{h h':List AObj}{bor:Bool}{y:AV}{p:PV}(d:L3 y h h')(hs:kt h bor y=some p):kt h' bor y=some p:=by
 cases y with
 |b x=>exact P1 (λi a ob c=>d i a ob c) hs|agg xs=>simp only[kt,c_]at hs⊢;obtain⟨j,e,rfl⟩:=hs;refine⟨j,qJ (λx f y g=>P1 (λi a ob c=>d i (e_.2 ⟨x,f,a⟩) ob c) g) e,rfl⟩
 |tup xs=>exact hs
theorem Cd{s:SOp}{K:AV->Prop}(h:Foot s.rd a b)(hs:kg P b s K):kg P a s K:=by
 cases s<;>simp only[SOp.rd]at h<;>simp only[kg]at hs⊢;case mv=>exact h.bind (λ_ h=>h) hs λ_ _ h=>h
 case pick x y z=>exact h.bind (λt c=>by simp[c]) hs λ_ _ hs=>bk hs λ_ hs=>oH hs λ_ hs=>⟨λe=>h.bind (λt c=>by simp[c]) (hs.1 e) λ_ _ h=>h,λe=>h.bind (λt c=>by simp[c]) (hs.2 e) λ_ _ h=>h⟩
 case bin=>exact h.bind (λt c=>by simp[c]) hs λ_ _ hs=>h.bind (λt c=>by simp[c]) hs λ_ _ h=>h
 case eqB=>exact h.bind (λt c=>by simp[c]) hs λ_ _ hs=>h.bind (λt c=>by simp[c]) hs λ_ _ h=>h
 case un=>exact h.bind (λ_ h=>h) hs λ_ _ h=>h
 case len str x=>
  refine h.bind (λ_ h=>h) hs λ_ d hs=>?_;cases str;·exact TS d hs λ_ h=>h
  ·exact hs
 case lenM=>exact h.bind (λ_ h=>h) hs λ_ d hs=>M0 d hs λ_ _ h=>h
 case idxS=>exact h.bind (λt c=>by simp[c]) hs λ_ _ hs=>h.bind (λt c=>by simp[c]) hs λ_ _ h=>h
 case idxV=>exact h.bind (λt c=>by simp[c]) hs λ_ _ hs=>h.bind (λt c=>by simp[c]) hs λ_ _ h=>h
 case idxA=>
  exact h.bind (λt c=>by simp[c]) hs λx d hs=>h.bind (λt c=>by simp[c]) hs λ_ _ hs=>bk hs λ_ hs=>bJ hs λ_ _ hs=>by
   rcases hs with hs|⟨id,rfl,ob,C,hs⟩;·exact .inl hs
   ·exact .inr ⟨id,rfl,ob,d id (by simp[AV.ids,BV.ids]) _ C,hs⟩
 case idxP=>exact h.bind (λt c=>by simp[c]) hs λ_ _ hs=>h.bind (λt c=>by simp[c]) hs λ_ _ h=>h
 case fldA=>exact h.bind (λ_ h=>h) hs λ_ _ h=>h
 case fld=>exact h.bind (λ_ h=>h) hs λ_ _ h=>h
 case load=>exact h.bind (λ_ h=>h) hs λ_ d hs=>TY d hs λ_ h=>h
 case cvtI=>exact h.bind (λ_ h=>h) hs λ_ _ h=>h
 case slc sz x lo F mx=>refine h.bind (λt c=>by simp[c]) hs λ_ d hs=>hs.imp (λhs=>aj hs λq ⟨L,l,w⟩=>⟨L,l,h.bnd (λt c=>by simp[c]) w λ_ A=>h.bnd (λt c=>by simp[c]) A λ_ B=>h.bnd (λt c=>by simp[c]) B λ_ h=>h⟩) ?_;rintro⟨id,rfl,ob,C,e,k,L,g,l,w⟩;exact⟨id,rfl,ob,d id (by simp[AV.ids,BV.ids]) _ C,e,k,L,g,l,h.bnd (λt c=>by simp[c]) w λ_ A=>h.bnd (λt c=>by simp[c]) A λ_ B=>h.bnd (λt c=>by simp[c]) B λ_ h=>h⟩
 case slcS x lo F=>exact h.bind (λt c=>by simp[c]) hs λ_ _ hs=>bk hs λ_ hs=>qG hs λ_ hs=>h.bnd (λt c=>by simp[c]) hs λ_ hs=>h.bnd (λt c=>by simp[c]) hs λ_ h=>h
 case ext=>exact h.bind (λ_ h=>h) hs λ_ _ h=>h
 case nilc=>exact h.bind (λ_ h=>h) hs λ_ _ h=>h
 case build z v=>obtain⟨ys,n,l⟩:=hs;refine⟨ys,qJ (λq j y r=>?_) n,l⟩;obtain⟨u,D,E⟩:=c_.1 r;rw[(h.get (λt c=>e_.2 ⟨q,j,c⟩) D).1,<-E];rfl
 case call=>exact h.bindM (λq j t c=>e_.2 ⟨q,j,c⟩) (λy z d p=>Mk d p) hs
 case callp=>exact h.bind (λt c=>by simp[c]) hs λ_ _ ⟨f,cs,n,l,hs⟩=>⟨f,cs,n,l,h.bindM (λq j t c=>o_.2 (.inr (e_.2 ⟨q,j,c⟩))) (λy z d p=>Mk d p) hs⟩
 case boxD=>exact h.bind (λ_ h=>h) hs λ_ _ h=>h
 case b2s=>exact h.bind (λ_ h=>h) hs λ_ d hs=>qg d hs λ_ h=>h
 case bslice own e sz len v=>
  cases own;·exact h.bindM (λq j t c=>e_.2 ⟨q,j,c⟩) (λy z _ p=>p) hs
  ·exact hs
 case bsliceN e sz len v=>exact h.bindM (λq j t c=>e_.2 ⟨q,j,c⟩) (λy z _ p=>p) hs
 case mkfn f v=>obtain⟨ys,n,l⟩:=hs;exact⟨ys,qJ (λq j y r=>(h.get (λt c=>e_.2 ⟨q,j,c⟩) r).1) n,l⟩
 case lookup=>exact h.bind (λt c=>by simp[c]) hs λ_ d hs=>h.bind (λt c=>by simp[c]) hs λ_ _ hs=>M0 d hs λ_ _ h=>h
 case eqT=>exact h.bind (λt c=>by simp[c]) hs λ_ _ hs=>h.bind (λt c=>by simp[c]) hs λ_ _ h=>h
 case mnmx mx k x v=>refine h.bind (λt c=>by simp[c]) hs λ_ _ hs=>bk hs λ_ hs=>bJ hs λ_ _ hs=>?_;obtain⟨ys,n,l⟩:=hs;exact⟨ys,qJ (λq j y r=>(h.get (λt c=>o_.2 (.inr (e_.2 ⟨q,j,c⟩))) r).1) n,l⟩
 case iface=>exact h.bind (λ_ h=>h) hs λ_ _ h=>h
 case appD=>exact h.bind (λt c=>by simp[c]) hs λ_ _ hs=>h.bind (λt c=>by simp[c]) hs λ_ d hs=>qg d hs λ_ h=>h
theorem qV{st:St}{s:SOp}{R j:AObj->(Nat->BV)->Prop}(hs:GL st s R)(a:∀o m,R o m->j o m):GL st s j:=by
 cases s<;>simp only[GL]at hs⊢;case alloc=>exact a _ _ hs
 case box=>exact aj hs λ_ h=>⟨h.1,a _ _ h.2⟩
 case bslice own e sz len n=>
  cases own;·exact hs
  ·exact aj hs λ_ ⟨b,c,d,f,g⟩=>⟨b,c,d,f,a _ _ g⟩
 case mslice=>exact aj hs λ_ hs=>aj hs λ_ hs=>bk hs λ_ hs=>bk hs λ_ hs=>bJ hs λ_ _ hs=>bJ hs λ_ _ ⟨b,c,d,f,g,k,l⟩=>⟨b,c,d,f,g,k,aj l λ_ h=>⟨h.1,a _ _ h.2⟩⟩
 case append=>exact aj hs λ_ hs=>aj hs λ_ hs=>fY hs λ_ ⟨b,c,d,f⟩=>⟨b,c,d,a _ _ f⟩
 case mkmap=>exact a _ _ hs
theorem NJ{s:SOp}{R:AObj->(Nat->BV)->Prop}(h:Foot s.rd a b)(hs:GL b s R):GL a s R:=by
 cases s<;>simp only[SOp.rd]at h<;>simp only[GL]at hs⊢;case alloc=>exact hs
 case box=>exact h.bind (λ_ h=>h) hs λ_ _ h=>h
 case bslice own e sz len j=>
  cases own;·exact hs
  ·exact h.bindM (λq f t c=>e_.2 ⟨q,f,c⟩) (λy z _ g=>g) hs
 case mslice=>exact h.bind (λt c=>by simp[c]) hs λ_ _ hs=>h.bind (λt c=>by simp[c]) hs λ_ _ h=>h
 case append=>exact h.bind (λt c=>by simp[c]) hs λ_ _ hs=>h.bind (λt c=>by simp[c]) hs λ_ d hs=>qg d hs λ_ h=>h
 case mkmap=>exact hs
theorem NW{o:SOper}{x:AV}(h:Foot o.rd a b)(hs:gg P o b x):gg P o a x:=by
 have hr:Foot o.op.rd a b:=⟨λk c=>h.fr k (by simp[SOper.rd,c]),λk c=>h.hp k (by simp[SOper.rd,c])⟩;unfold gg at hs⊢;split at hs;·rename_i hg;exact Cd hr hs
 ·rename_i t want hg;obtain⟨g,d,v,rfl,f,j⟩:=hs;exact⟨_,h.fr t (by simp[SOper.rd,hg]) _ d,v,rfl,λe=>Cd hr (f e),j⟩
theorem NV{hp:List AObj}{sz:Nat}{a v:AV}{K y:List AObj->Prop}(h:Dn hp sz a v K)(u:∀x,K x->y x):Dn hp sz a v y:=by
 unfold Dn at h⊢;split at h;·exact aj h λ_ ⟨t,cs,j,l,n,p,c⟩=>⟨t,cs,j,l,n,p,u _ c⟩
 ·refine aj h λ_ h=>h.imp (fun⟨e,s,xs,j,l,n⟩=>⟨e,s,xs,j,l,aj n λ_ ⟨p,c,r⟩=>⟨p,c,?_⟩⟩) fun⟨e,s,k,xs,A,j,l,n,p⟩=>⟨e,s,k,xs,A,j,l,n,p.imp (fun⟨c,r,d⟩=>⟨c,r,aj d λ_ ⟨f,g,w⟩=>⟨f,g,u _ w⟩⟩) fun⟨b,z,c,r,d,f,g⟩=>⟨b,z,c,r,d,f,u _ g⟩⟩;rcases r with⟨d,f,g⟩|⟨d,f,g⟩;·exact .inl ⟨d,f,u _ g⟩
  ·exact .inr ⟨d,f,u _ g⟩
 ·exact h
theorem FB{st:St}{d:Option Nat}{bor:Bool}{B:List Nat}{f:FuncId}{ars:List AV}{os:List AObj}{K e KP b:St->Prop}(h:sexec.callK P st d bor B f ars os K KP)(n:∀x,K x->e x)(c:∀x,KP x->b x):sexec.callK P st d bor B f ars os e b:=by
 obtain⟨g,j,k,l⟩:=h;refine⟨g,j,k,l.mono λo a=>?_⟩
 match o,a with|some (_,_),a=>exact⟨a.1,n _ a.2⟩|none,a=>exact c _ a
theorem nC{d:Option Nat}{op:SOp}{st:St}{K y KP v:St->Prop}(h:sexec P d op st K KP)(l:∀x,K x->y x)(u:∀x,KP x->v x):sexec P d op st y v:=by
 have s:(kg P st op λa=>K (st.putO d a))->kg P st op λa=>y (st.putO d a):=λh=>Ce h λ_ h=>l _ h;cases op<;>simp only[sexec]at h⊢<;>try exact s h
 case store=>exact aj h λ_ h=>aj h λ_ h=>⟨h.1,NV h.2 λ_ h=>l _ h⟩
 case alloc=>exact l _ h
 case box=>exact aj h λ_ h=>⟨h.1,l _ h.2⟩
 case bslice own e sz len C=>
  cases own;·exact s h
  ·exact aj h λ_ ⟨j,k,b,c,g⟩=>⟨j,k,b,c,l _ g⟩
 case mslice=>exact aj h λ_ h=>aj h λ_ h=>bk h λ_ h=>bk h λ_ h=>bJ h λ_ _ h=>bJ h λ_ _ ⟨j,k,b,c,g,n,r⟩=>⟨j,k,b,c,g,n,aj r λ_ h=>⟨h.1,l _ h.2⟩⟩
 case append=>
  refine aj h λ_ h=>aj h λ_ h=>fY h λ_ ⟨j,k⟩=>⟨j,?_⟩;rcases k with⟨id,b,c⟩|⟨b,c,g⟩;·exact .inl ⟨id,b,aj c λ_ ⟨xs,g,n,r⟩=>⟨xs,g,n,l _ r⟩⟩
  ·exact .inr ⟨b,c,l _ g⟩
 case msliceT=>exact aj h λ_ h=>aj h λ_ h=>bk h λ_ h=>bk h λ_ h=>bJ h λ_ _ h=>bJ h λ_ _ ⟨j,k,b,c,g,n,r⟩=>⟨j,k,b,c,g,n,aj r λ_ h=>⟨h.1,h.2.1,l _ h.2.2⟩⟩
 case appT=>
  refine aj h λ_ h=>aj h λ_ h=>fY h λ_ ⟨j,k⟩=>⟨j,?_⟩;rcases k with⟨id,b,c⟩|⟨b,c,g⟩;·exact .inl ⟨id,b,aj c λ_ ⟨xs,g,n,r⟩=>⟨xs,g,n,l _ r⟩⟩
  ·exact .inr ⟨b,c,l _ g⟩
 case bsliceT=>exact aj h λ_ ⟨cs,id,p,j,k,b,c,g,n,r,w,A,z⟩=>⟨cs,id,p,j,k,b,c,g,n,r,w,A,l _ z⟩
 case appH=>exact aj h λ_ h=>aj h λ_ ⟨i,i',B,xs,p,j,k,b,c,g,n,r,w,A⟩=>⟨i,i',B,xs,p,j,k,b,c,g,n,r,w,l _ A⟩
 case callA=>exact aj h λ_ h=>aj h λ_ h=>FB h l u
 case callv=>exact aj h λ_ ⟨f,caps,j,k,b⟩=>⟨f,caps,j,k,aj b λ_ h=>aj h λ_ h=>FB h l u⟩
 case mkmap=>exact l _ h
 case mapset=>exact aj h λ_ h=>aj h λ_ h=>aj h λ_ h=>zY h λ_ _ h=>aj h λ_ h=>aj h λ_ ⟨j,k,b,c,g,n⟩=>⟨j,k,b,c,g,aj n λ_ ⟨r,w⟩=>⟨r,l _ w⟩⟩
 case copy=>exact aj h λ_ h=>aj h λ_ h=>fY h λ_ ⟨j,id,k,b,c⟩=>⟨j,id,k,b,aj c λ_ ⟨xs,g,n⟩=>⟨xs,g,l _ n⟩⟩
 case panic=>exact aj h λ_ h=>⟨h.1,u _ h.2⟩
 case atq =>exact qV h λ_ _ h=>⟨h.1,l _ h.2⟩
theorem uw{o:SOper}{st:St}{K d KP a:St->Prop}(h:jA P o st K KP)(c:∀x,K x->d x)(b:∀x,KP x->a x):jA P o st d a:=by
 unfold jA at h⊢;split at h;·exact nC h c b
 ·exact aj h λ_ h=>bk h λ_ h=>⟨λe=>nC (h.1 e) c b,λe=>c _ (h.2 e)⟩
end
theorem uj{α:Type}{f:α->α}:∀{l:List α},(∀x∈l,f x=x)->l.map f=l
 |[],_=>rfl
 |x::l,h=>by rw[I_,h x (by simp),uj λy a=>h y (by grind)]
def BV.kids:BV->List Nat
 | .sl id=>[id]
 | .elt id _ _=>[id]
 |_=>[]
def AV.kids:AV->List Nat
 | .b x=>x.kids
 | .agg xs=>xs.flatMap BV.kids
 | .tup xs=>xs.flatMap BV.kids
def AObj.kids:AObj->List Nat
 | .box _ cs=>cs.flatMap BV.kids
 | .tree _ _ _ _ (some (_,_,b))=>b.kids
 |_=>[]
theorem BV.kids_ids{x:BV}{i:Nat}(h:i∈x.kids):i∈x.ids:=by cases x<;>first|exact h|cases h
theorem AV.kids_ids{x:AV}{i:Nat}(h:i∈x.kids):i∈x.ids:=by
 have z:∀xs:List BV,i∈xs.flatMap BV.kids->i∈xs.flatMap BV.ids:=λxs h=>by obtain⟨y,H,E⟩:=e_.1 h;exact e_.2 ⟨y,H,BV.kids_ids E⟩
 cases x with|b x=>exact BV.kids_ids h|agg xs=>exact z xs h|tup xs=>exact z xs h
theorem BV.kill_off{id:Nat}{x:BV}(h:id∉x.kids):x.kill id=x:=by cases x<;>simp only[BV.kill]<;>simp only[BV.kids,aa_]at h;all_goals grind
theorem AV.kill_off{id:Nat}{x:AV}(h:id∉x.kids):x.kill id=x:=by cases x with|b x=>simp only[AV.kill,BV.kill_off h]|agg xs=>simp only[AV.kill,AV.agg.injEq];exact uj (λy E=>BV.kill_off λz=>h (e_.2 ⟨y,E,z⟩))|tup xs=>simp only[AV.kill,AV.tup.injEq];exact uj (λy E=>BV.kill_off λz=>h (e_.2 ⟨y,E,z⟩))
theorem AObj.kill_off{id:Nat}{o:AObj}(h:id∉o.kids):o.kill id=o:=by
 cases o<;>simp only[AObj.kill];case tree e sz k xs hole=>cases hole with|none=>rfl|some q=>obtain⟨i,j,b⟩:=q;simp only[La,BV.kill_off (show id∉b.kids from h)]
 simp only[AObj.box.injEq,true_and];exact uj (λy E=>BV.kill_off λz=>h (e_.2 ⟨y,E,z⟩))
theorem BV.killB_off{B:List Nat}{x:BV}(h:∀i∈x.kids,i∉B):x.killB B=x:=by
 cases x<;>simp only[BV.killB];·rename_i k;have:=h k (by simp[BV.kids]);grind
 ·rename_i k i o;have:=h k (by simp[BV.kids]);grind
theorem AV.killB_off{B:List Nat}{x:AV}(h:∀i∈x.kids,i∉B):x.killB B=x:=by cases x with|b x=>simp only[AV.killB,BV.killB_off h]|agg xs=>simp only[AV.killB,AV.agg.injEq];exact uj (λy E=>BV.killB_off λi z=>h i (e_.2 ⟨y,E,z⟩))|tup xs=>simp only[AV.killB,AV.tup.injEq];exact uj (λy E=>BV.killB_off λi z=>h i (e_.2 ⟨y,E,z⟩))
theorem AObj.killB_off{B:List Nat}{o:AObj}(h:∀i∈o.kids,i∉B):o.killB B=o:=by
 cases o<;>simp only[AObj.killB];case tree e sz k xs hole=>cases hole with|none=>rfl|some q=>obtain⟨i,j,b⟩:=q;simp only[La,BV.killB_off (show ∀i∈b.kids,i∉B from h)]
 simp only[AObj.box.injEq,true_and];exact uj (λy E=>BV.killB_off λi z=>h i (e_.2 ⟨y,E,z⟩))
def SOp.lent:SOp->List Nat
 | .callA _ B _ _=>B
 | .callv _ B _ _=>B
 | .atq s op=>s::op.lent
 |_=>[]
def touch(st:St)(o:SOper):List Nat:=(o.rd.flatMap λk=>match look st.fr k with|some a=>a.ids|none=>[])++o.op.lent
def Cc(q:Option (Nat×AObj))(hp:List AObj):List AObj:=match q with
 |none=>hp
 |some (s,ob)=>hp.set s ob
structure Over(T:List Nat)(d:Option Nat)(x:AV)(q:Option (Nat×AObj))(st st1:St):Prop where
 hp:st1.hp=Cc q st.hp
 fr:∀t,look st1.fr t=if d=some t then some x else look st.fr t
 sl:∀s ob,q=some (s,ob)->st.hp[s]? =some .free/\s∉T/\∀j∈ob.kids,j∉T
structure Conf(T:List Nat)(d:Option Nat)(st st':St):Prop where
 fr:∀t,d≠some t->(∀y,look st.fr t=some y->∀i∈y.kids,i∉T)->look st'.fr t=look st.fr t
 hp:∀i ob,st.hp[i]? =some ob->i∉T->(∀j∈ob.kids,j∉T)->st'.hp[i]? =some ob
def KO(T:List Nat)(e:Option Nat)(d:Option Nat)(x:AV)(q:Option (Nat×AObj))(st:St)(K:St->Prop):St->Prop:=λb=>Conf T e st b/\∃a,Over T d x q b a/\K a
theorem Vi(q:Option (Nat×AObj))(hp:List AObj):(Cc q hp).length=hp.length:=by unfold Cc;split<;>simp
theorem On(B:List Nat)(hp os:List AObj):(mj B hp os).length=hp.length+(os.length - B.length):=by unfold mj;simp
theorem Fu{B:List Nat}{hp os:List AObj}{i:Nat}{ob:AObj}(b:hp[i]? =some ob)(a:i∉B):(mj B hp os)[i]? =some (ob.killB B):=by unfold mj;grind
section
variable {P:Program} {T:List Nat} {e d:Option Nat} {x:AV} {q:Option (Nat×AObj)} {st st1:St} {K:St->Prop} {KP:Prop}
theorem Over.get(hO:Over T d x q st st1){i:Nat}(z:i∈T):st1.hp[i]? =st.hp[i]? :=by
 rw[hO.hp];unfold Cc;split;·rfl
 ·rename_i s ob;exact i_ fun(h:s=i)=>(hO.sl s ob rfl).2.1 (h▸z)
theorem Over.len(hO:Over T d x q st st1):st1.hp.length=st.hp.length:=by rw[hO.hp,Vi]
theorem Over.app(hO:Over T d x q st st1)(l:List AObj):Cc q (st.hp++l)=st1.hp++l:=by
 rw[hO.hp];unfold Cc;split;·rfl
 ·rename_i s ob;have h:=(a_.1 (hO.sl s ob rfl).1).1;rw[List.set_append_left _ _ h]
theorem Over.set(hO:Over T d x q st st1){i:Nat}(z:i∈T)(o:AObj):Cc q (st.hp.set i o)=st1.hp.set i o:=by
 rw[hO.hp];unfold Cc;split;·rfl
 ·rename_i s ob;exact aF_ _ _ fun(h:i=s)=>(hO.sl s ob rfl).2.1 (h▸z)
theorem Over.moved(hO:Over T d x q st st1){id:Nat}(z:id∈T)(o:AObj):Cc q ((st.hp.map (AObj.kill id)).set id o)=(st1.hp.map (AObj.kill id)).set id o:=by
 rw[hO.hp];unfold Cc;split;·rfl
 ·rename_i s ob;obtain⟨I,E,H⟩:=hO.sl s ob rfl;rw[List.map_set,AObj.kill_off λh=>H id h z];exact aF_ _ _ fun(h:id=s)=>E (h▸z)
theorem Over.back(hO:Over T d x q st st1){B:List Nat}(E:∀i∈B,i∈T)(os:List AObj):Cc q (mj B st.hp os)=mj B st1.hp os:=by
 rw[hO.hp];unfold Cc;split;·rfl
 ·rename_i s ob;obtain⟨H,I,J⟩:=hO.sl s ob rfl;have hs:=(a_.1 H).1;refine ac_ λi=>?_;by_cases z:i=s;·subst z;rw[p_ (by rw[On];omega),Fu (p_ hs) (λh=>I (E _ h)),AObj.killB_off λj R N=>J j R (E j N)]
  ·rw[i_ (Ne.symm z)];unfold mj;simp only[ax_];by_cases hl:i<st.hp.length;·rw[k_ (by simpa using hl),k_ (by simpa using hl),aC_,aC_,i_ (Ne.symm z)]
   ·rw[n_ (by simp;omega),n_ (by simp;omega)];simp only[List.length_mapIdx,ax_]
theorem Gt(hO:Over T d x q st st1)(hd:∀t,d=some t->e≠some t)(y:AV):Over T d x q (st.putO e y) (st1.putO e y):=by refine⟨by cases e<;>exact hO.hp,λt=>?_,λs ob h=>by cases e<;>exact hO.sl s ob h⟩;rw[fB,fB,hO.fr];grind
theorem PX(hO:Over T d x q st st1)(hd:∀t,d=some t->e≠some t){h':List AObj}{y:AV}(hc:∀i ob,st.hp[i]? =some ob->i∉T->(∀j∈ob.kids,j∉T)->h'[i]? =some ob) (g:K (St.putO {st1 with hp:=Cc q h'} e y)):KO T e d x q st K (St.putO {st with hp:=h'} e y):=by
 refine⟨⟨λt k _=>?_,λi ob l b a=>?_⟩,_,Gt (st:={st with hp:=h'}) (st1:={st1 with hp:=Cc q h'}) ⟨rfl,hO.fr,λs ob h=>?_⟩ hd y,g⟩;·rw[fB,if_neg k]
 ·have:(St.putO {st with hp:=h'} e y).hp=h':=by cases e<;>rfl
  grind
 ·obtain⟨b,a,c⟩:=hO.sl s ob h;exact⟨hc s _ b a (λj f=>by cases f),a,c⟩
theorem Fa(hO:Over T d x q st st1)(hd:∀t,d=some t->e≠some t){id:Nat}{o:AObj}{y:AV}(c:id∈T)(r:∀i∈x.kids,i∉T)(n:K ((st1.moved id o).putO e y)):KO T e d x q st K ((st.moved id o).putO e y):=by
 have k:∀s:St,((s.moved id o).putO e y).hp=(s.hp.map (AObj.kill id)).set id o:=λs=>by cases e<;>rfl
 have hc:∀i ob,st.hp[i]? =some ob->i∉T->(∀j∈ob.kids,j∉T)->((st.hp.map (AObj.kill id)).set id o)[i]? =some ob:=λi ob f b a=>by rw[i_ (λv=>b (by grind)),W_,f];simp only[D_,AObj.kill_off λh=>a id h c]
 refine⟨⟨λt p u=>?_,λi ob f b a=>by rw[k];exact hc i ob f b a⟩,_,Gt (st:=st.moved id o) (st1:=st1.moved id o) ⟨(hO.moved c o).symm,λt=>?_,λs ob h=>?_⟩ hd y,n⟩;·rw[fB,if_neg p];simp only[St.moved,oL];cases hl:look st.fr t with|none=>rfl|some z=>simp only[D_,AV.kill_off λh=>u z hl id h c]
 ·simp only[St.moved,oL,hO.fr];by_cases h:d=some t;·rw[if_pos h,if_pos h];simp only[D_,AV.kill_off λh=>r id h c]
  grind
 ·obtain⟨b,a,g⟩:=hO.sl s ob h;exact⟨hc s _ b a (λj l=>by cases l),a,g⟩
theorem VS(hO:Over T d x q st st1)(hd:∀t,d=some t->e≠some t){B:List Nat}{os:List AObj}{y:AV}(g:∀i∈B,i∈T)(u:∀i∈x.kids,i∉T)(p:K ((st1.back B os).putO e y)):KO T e d x q st K ((st.back B os).putO e y):=by
 have n:∀s:St,((s.back B os).putO e y).hp=mj B s.hp os:=λs=>by cases e<;>rfl
 have hc:∀i ob,st.hp[i]? =some ob->i∉T->(∀j∈ob.kids,j∉T)->(mj B st.hp os)[i]? =some ob:=λi ob b f c=>by rw[Fu b (λa=>f (g i a)),AObj.killB_off λj k a=>c j k (g j a)]
 refine⟨⟨λt r v=>?_,λi ob b f c=>by rw[n];exact hc i ob b f c⟩,_,Gt (st:=st.back B os) (st1:=st1.back B os) ⟨(hO.back g os).symm,λt=>?_,λs ob h=>?_⟩ hd y,p⟩;·rw[fB,if_neg r];simp only[St.back,oL];cases hl:look st.fr t with|none=>rfl|some z=>simp only[D_,AV.killB_off λi b a=>v z hl i b (g i a)]
 ·simp only[St.back,oL,hO.fr];by_cases h:d=some t;·rw[if_pos h,if_pos h];simp only[D_,AV.killB_off λi b a=>u i b (g i a)]
  grind
 ·obtain⟨f,c,l⟩:=hO.sl s ob h;exact⟨hc s _ f c (λj k=>by cases k),c,l⟩
theorem Mf{h h':List AObj}{bor:Bool}{z:BV}(a:∀i∈z.ids,h[i]? =h'[i]?):tF h bor z=tF h' bor z:=by
 cases z<;>try rfl
 rename_i id;simp only[tF,Lm,a id (by simp[BV.ids])]
theorem Re{h h':List AObj}{bor:Bool}{y:AV}(a:∀i∈y.ids,h[i]? =h'[i]?):kt h bor y=kt h' bor y:=by cases y with|b z=>exact Mf a|agg zs=>show(zs.mapM (tF h bor)).map PV.agg=_;rw[cI (g:=tF h' bor) λz d=>Mf λi c=>a i (e_.2 ⟨z,d,c⟩)];rfl|tup zs=>rfl
theorem Rc{h h':List AObj}{bor:Bool}{B:List Nat}{y:AV}(a:∀i∈y.ids,h[i]? =h'[i]?):qx h bor B y=qx h' bor B y:=by
 cases y with
 |b z=>
  cases z<;>try rfl
  rename_i id;simp only[qx,Re a]
 |agg zs=>rfl|tup zs=>rfl
theorem qd{op:SOp}{st:St}{b:St->Prop}(hs:kg P st op λa=>K (st.putO e a)):sexec P e op st K b:=by unfold sexec;split<;>first|exact hs|exact hs.elim
theorem Pn{op:SOp}(hO:Over T d x q st st1)(BT:∀t,d=some t->t∉op.rd)(hd:∀t,d=some t->e≠some t)(hT:∀t∈op.rd,∀y,look st.fr t=some y->∀i∈y.ids,i∈T)(gc:∀i∈op.lent,i∈T) (hx:∀i∈x.kids,i∉T) (h:sexec P e op st1 K λ_=>KP):sexec P e op st (KO T e d x q st K) (λ_=>KP):=by
 have hl:∀t∈op.rd,look st1.fr t=look st.fr t:=λt w=>by rw[hO.fr,if_neg λh=>BT t h w]
 have hF:Foot op.rd st st1:=⟨λk j y hy=>by rw[<-hl k j];exact hy,λk j y hy i D ob M=>by rw[<-hO.get (hT k j y (by rw[<-hl k j];exact hy) i D)];exact M⟩;have hg:∀q:SX,(∀t∈q.rd,t∈op.rd)->st1.get q=st.get q:=λq z=>aQ λt w=>hl t (z t w);have hid:∀(q:SX) (y:AV),(∀t∈q.rd,t∈op.rd)->st.get q=some y->∀i∈y.ids,i∈T:=λq y z hy=>by cases q with|tm k=>exact hT k (z k (by simp[SX.rd])) y hy|c v=>simp only[St.get,g_]at hy;subst hy;intro i D;rw[C4]at D;grind|g n=>simp only[St.get,g_]at hy;subst hy;intro i D;cases D|f n=>simp only[St.get,g_]at hy;subst hy;intro i D;cases D
 have rg:kg P st1 op (λa=>K (st1.putO e a))->sexec P e op st (KO T e d x q st K) (λ_=>KP):=λhs=>qd (Ce (Cd hF hs) λa ha=>PX (h':=st.hp) hO hd (λi ob D _ _=>D) (by rw[<-hO.hp];exact ha));have Q:∀(o:AObj) (y:AV),K (St.putO {st1 with hp:=st1.hp++[o]} e y)->KO T e d x q st K (St.putO {st with hp:=st.hp++[o]} e y):=λo y j=>PX hO hd (λi ob D _ _=>get_append D) (by rw[hO.app];exact j);have F:∀(id:Nat) (o:AObj) (y:AV),id∈T->K (St.putO {st1 with hp:=st1.hp.set id o} e y)->KO T e d x q st K (St.putO {st with hp:=st.hp.set id o} e y):=λid o y hid j=>PX hO hd (λi ob D A _=>by rw[i_ (λ(e':id=i)=>A (e'▸hid))];exact D) (by rw[hO.set hid];exact j);have ph:∀(bor:Bool) (B:List Nat) (l:List SX),(∀q∈l,∀t∈q.rd,t∈op.rd)->(l.mapM λx=>(st1.get x).bind (qx st1.hp bor B))=(l.mapM λx=>(st.get x).bind (qx st.hp bor B)):=λbor B l hl=>cI λq z=>by rw[hg q (hl q z)];cases hy:st.get q with|none=>rfl|some y=>exact Rc λi D=>hO.get (hid q y (hl q z) hy i D)
 have qr:∀(bor:Bool) (B:List Nat) (f:FuncId) (ars:List AV) (os:List AObj),(∀i∈B,i∈T)->sexec.callK P st1 e bor B f ars os K (λ_=>KP)->sexec.callK P st e bor B f ars os (KO T e d x q st K) (λ_=>KP):=λbor B f ars os hB ⟨A,C,I,J⟩=>by refine⟨A,C,I,J.mono λo M=>?_⟩;cases o with|none=>exact M|some r=>refine⟨M.1,VS hO hd hB hx ?_⟩;have:=M.2;rw[hO.len]at this;exact this
 cases op with
 |store sz q v=>
  obtain⟨H,z,O,N,he,hs⟩:=h;have CD:=z;rw[hg q (λt w=>by simp[SOp.rd,w])]at z;rw[hg v (λt w=>by simp[SOp.rd,w])]at N;have E:=hid q H (λt w=>by simp[SOp.rd,w]) z;refine⟨H,z,O,N,he,?_⟩;subst he;revert hs;unfold Dn;split;·rename_i id off;rintro⟨o,A,t,cs,C,I,J,R,j⟩;rw[hO.get (E id (by simp[AV.ids,BV.ids]))]at A;have:=F id (.box t (splice cs off O.cells)) O (E id (by simp[AV.ids,BV.ids])) j;exact⟨o,A,t,cs,C,I,J,R,this⟩
  ·rename_i id i off;have D:=E id (by simp[AV.ids,BV.ids]);rintro⟨o,A,⟨t,s,xs,C,I,p,J,R,U,j⟩|⟨t,s,k,xs,M,C,I,J,j⟩⟩<;>rw[hO.get D]at A
   ·refine⟨o,A,.inl ⟨t,s,xs,C,I,p,J,R,U,?_⟩⟩;rcases j with⟨Y,h8,j⟩|⟨Y,h8,j⟩;·exact .inl ⟨Y,h8,F id _ O D j⟩
    ·exact .inr ⟨Y,h8,F id _ O D j⟩
   ·refine⟨o,A,.inr ⟨t,s,k,xs,M,C,I,J,?_⟩⟩;rcases j with⟨R,U,p,Y,h8,h9,j⟩|⟨b,b',R,U,Y,h8,j⟩;·exact .inl ⟨R,U,p,Y,h8,h9,F id _ O D j⟩
    ·exact .inr ⟨b,b',R,U,Y,h8,F id _ O D j⟩
  simp
 |alloc t zero=>exact Q _ _ (by have:=h;simp only[sexec,hO.len]at this⊢;exact this)|box t q=>obtain⟨H,z,A,j⟩:=h;rw[hg q (λt w=>by simp[SOp.rd,w])]at z;exact⟨H,z,A,Q _ _ (by rw[hO.len]at j;exact j)⟩
 |bslice own t sz len ps=>cases own with|false=>exact rg h|true=>obtain⟨qs,z,A,C,I,J,j⟩:=h;rw[cI (g:=λx=>(st.get x).bind AV.toPV) λq z=>by rw[hg q (λt w=>e_.2 ⟨q,z,w⟩)]]at z;exact⟨qs,z,A,C,I,J,Q _ _ (by rw[hO.len]at j;exact j)⟩
 |mslice t sz ur zero l c=>obtain⟨al,z,ac,hc,j⟩:=h;rw[hg l (λt w=>by simp[SOp.rd,w])]at z;rw[hg c (λt w=>by simp[SOp.rd,w])]at hc;exact⟨al,z,ac,hc,bk j λ_ j=>bk j λ_ j=>bJ j λ_ _ j=>bJ j λ_ _ ⟨A,C,I,J,R,U,Y⟩=>⟨A,C,I,J,R,U,aj Y λ_ h=>⟨h.1,Q _ _ (by have:=h.2;rw[hO.len]at this;exact this)⟩⟩⟩
 |append t sz ur q v=>
  obtain⟨H,z,O,N,hs⟩:=h;rw[hg q (λt w=>by simp[SOp.rd,w])]at z;rw[hg v (λt w=>by simp[SOp.rd,w])]at N;have E:=hid q H (λt w=>by simp[SOp.rd,w]) z;have el:=hid v O (λt w=>by simp[SOp.rd,w]) N;refine⟨H,z,O,N,?_⟩;refine fY (qg (h:=st1.hp) (λi D ob M=>by rw[<-hO.get (el i D)];exact M) hs λL h=>h) λL hs=>⟨hs.1,?_⟩;rcases hs.2 with⟨id,rfl,o,M,xs,rfl,A,j⟩|⟨A,C,j⟩;·exact .inl ⟨id,rfl,_,by rw[<-hO.get (E id (by simp[AV.ids,BV.ids]))];exact M,xs,rfl,A,Fa hO hd (E id (by simp[AV.ids,BV.ids])) hx j⟩
  ·exact .inr ⟨A,C,Q _ _ (by rw[hO.len]at j;exact j)⟩
 |msliceT kk t sz ur zero l c=>obtain⟨al,z,ac,hc,j⟩:=h;rw[hg l (λt w=>by simp[SOp.rd,w])]at z;rw[hg c (λt w=>by simp[SOp.rd,w])]at hc;exact⟨al,z,ac,hc,bk j λ_ j=>bk j λ_ j=>bJ j λ_ _ j=>bJ j λ_ _ ⟨A,C,I,J,R,U,Y⟩=>⟨A,C,I,J,R,U,aj Y λ_ h=>⟨h.1,h.2.1,Q _ _ (by have:=h.2.2;rw[hO.len]at this;exact this)⟩⟩⟩
 |appT kk t sz ur q v=>
  obtain⟨H,z,O,N,hs⟩:=h;rw[hg q (λt w=>by simp[SOp.rd,w])]at z;rw[hg v (λt w=>by simp[SOp.rd,w])]at N;have E:=hid q H (λt w=>by simp[SOp.rd,w]) z;have el:=hid v O (λt w=>by simp[SOp.rd,w]) N;refine⟨H,z,O,N,?_⟩;refine fY (qg (h:=st1.hp) (λi D ob M=>by rw[<-hO.get (el i D)];exact M) hs λL h=>h) λL hs=>⟨hs.1,?_⟩;rcases hs.2 with⟨id,rfl,o,M,xs,rfl,A,j⟩|⟨A,C,j⟩;·exact .inl ⟨id,rfl,_,by rw[<-hO.get (E id (by simp[AV.ids,BV.ids]))];exact M,xs,rfl,A,Fa hO hd (E id (by simp[AV.ids,BV.ids])) hx j⟩
  ·exact .inr ⟨A,C,Q _ _ (by rw[hO.len]at j;exact j)⟩
 |bsliceT kk jj t sz len q=>obtain⟨H,z,cs,id,p,A,C,I,J,R,U,Y,h8,h9,j⟩:=h;rw[hg q (λt w=>by simp[SOp.rd,w])]at z;exact⟨H,z,cs,id,p,A,C,I,J,R,U,Y,h8,h9,Q _ _ (by rw[hO.len]at j;exact j)⟩
 |appH kk jj t sz ur q v=>obtain⟨H,z,O,N,id,At,kid,xs,p,rfl,rfl,A,C,I,J,R,U,j⟩:=h;rw[hg q (λt w=>by simp[SOp.rd,w])]at z;rw[hg v (λt w=>by simp[SOp.rd,w])]at N;have E:=hid q _ (λt w=>by simp[SOp.rd,w]) z;have el:=hid v _ (λt w=>by simp[SOp.rd,w]) N;exact⟨_,z,_,N,id,At,kid,xs,p,rfl,rfl,A,by rw[<-hO.get (E id (by simp[AV.ids,BV.ids]))];exact C,by rw[<-hO.get (el At (by simp[AV.ids,BV.ids]))];exact I,J,R,U,Fa hO hd (E id (by simp[AV.ids,BV.ids])) hx j⟩
 |callA bor B f args=>obtain⟨ars,A,os,C,j⟩:=h;rw[ph bor B args (λq z t w=>e_.2 ⟨q,z,w⟩)]at A;rw[cI (l:=B) (g:=(st.hp[·]?)) λi D=>hO.get (gc i D)]at C;exact⟨ars,A,os,C,qr bor B f ars os gc j⟩
 |callv bor B q args=>obtain⟨H,z,f,caps,h0,Bk,ars,A,os,C,j⟩:=h;rw[hg q (λt w=>by simp[SOp.rd,w])]at z;rw[ph bor B args (λq z t w=>o_.2 (.inr (e_.2 ⟨q,z,w⟩)))]at A;rw[cI (l:=B) (g:=(st.hp[·]?)) λi D=>hO.get (gc i D)]at C;exact⟨H,z,f,caps,h0,Bk,ars,A,os,C,qr bor B f _ os gc j⟩
 |mkmap k t=>exact Q _ _ (by have:=h;simp only[sexec,hO.len]at this⊢;exact this)|mapset k t m q v=>obtain⟨am,hm,H,z,O,N,hs⟩:=h;rw[hg m (λt w=>by simp[SOp.rd,w])]at hm;rw[hg q (λt w=>by simp[SOp.rd,w])]at z;rw[hg v (λt w=>by simp[SOp.rd,w])]at N;have wr:=hid m am (λt w=>by simp[SOp.rd,w]) hm;refine⟨am,hm,H,z,O,N,?_⟩;obtain⟨id,kvs,rfl,M,p,A,r,C,he,I,J,R,U,u,Y,h8,j⟩:=hs;refine⟨id,kvs,rfl,by rw[<-hO.get (wr id (by simp[AV.ids,BV.ids]))];exact M,p,A,r,C,he,I,J,R,U,u,Y,h8,?_⟩;subst he;exact F id _ O (wr id (by simp[AV.ids,BV.ids])) j
 |copy t sz q v=>obtain⟨H,z,O,N,hs⟩:=h;rw[hg q (λt w=>by simp[SOp.rd,w])]at z;rw[hg v (λt w=>by simp[SOp.rd,w])]at N;have E:=hid q H (λt w=>by simp[SOp.rd,w]) z;have el:=hid v O (λt w=>by simp[SOp.rd,w]) N;refine⟨H,z,O,N,?_⟩;refine fY (qg (h:=st1.hp) (λi D ob M=>by rw[<-hO.get (el i D)];exact M) hs λL h=>h) λL ⟨A,id,C,I,o,M,xs,J,j⟩=>?_;subst C;exact⟨A,id,rfl,I,o,by rw[<-hO.get (E id (by simp[AV.ids,BV.ids]))];exact M,xs,J,F id _ _ (E id (by simp[AV.ids,BV.ids])) j⟩
 |panic q=>obtain⟨H,z,A,j⟩:=h;rw[hg q (λt w=>by simp[SOp.rd,w])]at z;exact⟨H,z,A,j⟩
 | atq s u=>
  have Bx:Foot u.rd st st1:=hF;have h':GL st1 u λo m=>BX st1 (some s)/\K ((st1.new (some s) o).putO e (.b (m s))):=h;show GL st u λo m=>BX st (some s)/\KO T e d x q st K ((st.new (some s) o).putO e (.b (m s)));refine qV (NJ Bx h') λo m ⟨A,j⟩=>⟨?_,?_⟩;·simp only[BX]at A⊢;rw[<-hO.get (gc s (by simp[SOp.lent]))];exact A
  ·exact F s o _ (gc s (by simp[SOp.lent])) j
 |_=>exact rg h
end
structure Eff where
 x:AV
 slot:Option (Nat×AObj)
def St.app(st:St)(d:Option Nat)(E:Eff):St:=St.putO ⟨st.fr,match E.slot with|none=>st.hp|some (s,ob)=>st.hp.set s ob⟩ d E.x
def ui(P:Program)(o:SOper)(st:St)(E:Eff):Prop:=match E.slot with
 |none=>gg P o st E.x
 |some (s,ob)=>o.gd=none/\∃q,o.op= .atq s q/\GL st q λa mk=>a=ob/\E.x= .b (mk s)/\st.hp[s]? =some .free
def Eqs(a b:St):Prop:=a.hp=b.hp/\∀t,look a.fr t=look b.fr t
theorem Eqs.refl(a:St):Eqs a a:=⟨rfl,λ_=>rfl⟩
theorem Eqs.symm{a b:St}(h:Eqs a b):Eqs b a:=⟨h.1.symm,λt=>(h.2 t).symm⟩
theorem Eqs.trans{a b c:St}(h:Eqs a b)(k:Eqs b c):Eqs a c:=⟨h.1.trans k.1,λt=>(h.2 t).trans (k.2 t)⟩
def comm(r:Rec)(T:List Nat)(o:SOper)(b:Bool):Prop:=
 (∀t,r.d=some t->t∉o.rd/\o.dst≠some t)/\(∀t,o.dst=some t->t∉r.rd)/\(∀s,r.s=some s->s∉T)/\(b=true->∀s∈o.op.lent,s∉r.F)/\(b=false->∀i∈T,i∉r.G)
def SOp.hf:SOp->Bool
 | .mv _=>true
 |_=>false
def dQ(st:St)(o:SOper):List Nat:=if o.op.hf=true/\o.gd=none then []else touch st o
def Xd(F:List Nat)(st:St)(o:SOper)(E:Eff):Prop:=
 (∀i∈dQ st o,i∈F/\∃ob,st.hp[i]? =some ob/\∀j∈ob.kids,j∈F)/\∀i∈E.x.kids,i∈F
def YU(G:List Nat)(st:St)(o:SOper)(E:Eff):Prop:=(∀i∈E.x.kids,i∈G)/\∀t∈o.rd,∀y,look st.fr t=some y->∀i∈y.kids,i∈G
def YW(P:Program)(S:List AObj->Prop)(F:List Nat)(st:St)(o:SOper)(E:Eff):Prop:=∀a:St,S a.hp->(∀t∈o.rd,look a.fr t=look st.fr t)->ui P o a E/\Xd F a o E
def Yh(R:List (Rec×(List AObj->Prop)))(S:List AObj->Prop)(G:List Nat)(E:Eff):Prop:=∀s ob,E.slot=some (s,ob)->(∀j∈ob.kids,j∈G)/\(∀hp,¬S hp)/\∀r∈R,∀hp:List AObj,hp[s]? =some .free->r.2 (hp.set s ob)->r.2 hp
def S5(un:Nat->Nat->Bool)(R:List (Rec×(List AObj->Prop)))(j:Nat)(T:List Nat)(hp:List AObj):Prop:=∀r∈R,un r.1.i j=true->(∀i∈T,i∉r.1.F)\/r.2 hp
def uv(P:Program)(un:Nat->Nat->Bool)(K:St->Prop)(KP:Prop):List (Rec×(List AObj->Prop))->List (Nat×Bool×SOper)->St->Prop
 |_,[],st=>∃b,Eqs b st/\K b
 |R,(j,true,o)::l,st=>(∀r∈R,un r.1.i j=true->comm r.1 (dQ st o) o true)/\∃E F G S,ui P o st E/\Xd F st o E/\YU G st o E/\YW P S F st o E/\Yh R S G E/\uv P un K KP (R++[(⟨j,o.dst,o.rd,E.slot.map (·.1),F,G⟩,S)]) l (st.app o.dst E)
 |R,(j,false,o)::l,st=>(∀r∈R,un r.1.i j=true->comm r.1 (touch st o) o false)/\jA P o st (λa=>S5 un R j (touch st o) a.hp/\uv P un K KP R l a) λ_=>KP
section
variable {P:Program} {un:Nat->Nat->Bool} {K:St->Prop} {KP:Prop}
theorem ww{α β:Type}{f g:α->List β}:∀{l:List α},(∀x∈l,f x=g x)->l.flatMap f=l.flatMap g
 |[],_=>rfl
 |x::l,h=>by rw[aJ_,aJ_,h x (by simp),ww λy a=>h y (by grind)]
theorem G1{a b:St}{o:SOper}(h:∀t∈o.rd,look a.fr t=look b.fr t):touch a o=touch b o:=by unfold touch;congr 1;exact ww λk c=>by grind
theorem td{a b:St}{o:SOper}(h:∀t∈o.rd,look a.fr t=look b.fr t):dQ a o=dQ b o:=by unfold dQ;rw[G1 h]
theorem N3{st:St}{o:SOper}{t:Nat}{y:AV}{i:Nat}(a:t∈o.rd)(c:look st.fr t=some y)(b:i∈y.ids):i∈touch st o:=o_.2 (.inl (e_.2 ⟨t,a,by grind⟩))
theorem An{st:St}{o:SOper}{i:Nat}(a:i∈o.op.lent):i∈touch st o:=o_.2 (.inr a)
theorem kC(st:St)(d:Option Nat)(E:Eff)(t:Nat):look (st.app d E).fr t=if d=some t then some E.x else look st.fr t:=fB _ _ _ _
theorem ue(st:St)(d:Option Nat)(E:Eff):(st.app d E).hp=match E.slot with|none=>st.hp|some (s,ob)=>st.hp.set s ob:=by unfold St.app;cases d<;>rfl
theorem xx{st:St}{d:Option Nat}{E:Eff}{i:Nat}(h:∀s,E.slot.map (·.1)=some s->i≠s):(st.app d E).hp[i]? =st.hp[i]? :=by rw[ue];grind
theorem GN{o:SOper}{T:List Nat}{d:Option Nat}{x:AV}{q:Option (Nat×AObj)}{st st1:St}(hO:Over T d x q st st1)(a:∀t,d=some t->t∉o.rd/\o.dst≠some t)(f:∀i∈touch st o,i∈T)(l:∀i∈x.kids,i∉T) (h:jA P o st1 K λ_=>KP):jA P o st (KO T o.dst d x q st K) (λ_=>KP):=by
 have ex:sexec P o.dst o.op st1 K (λ_=>KP)->sexec P o.dst o.op st (KO T o.dst d x q st K) (λ_=>KP):=λh=>Pn hO (λt b hr=>(a t b).1 (by simp[SOper.rd,hr])) (λt b=>(a t b).2) (λt b y n i c=>f i (N3 (by simp[SOper.rd,b]) n c)) (λi c=>f i (An c)) l h;unfold jA at h⊢;split at h;·grind
 ·rename_i t want hg;obtain⟨g,p,v,rfl,j,k⟩:=h;have b:look st1.fr t=look st.fr t:=by rw[hO.fr,if_neg λe=>(a t e).1 (by simp[SOper.rd,hg])]
  refine⟨_,by grind,v,rfl,λe=>ex (j e),λe=>PX (h':=st.hp) hO (λt b=>(a t b).2) (λi ob c _ _=>c) (by rw[<-hO.hp];exact k e)⟩
theorem Jp{o:SOper}{a b:St}{E:Eff}(h:Foot o.rd a b)(n:∀s,E.slot.map (·.1)=some s->b.hp[s]? =some .free->a.hp[s]? =some .free)(c:ui P o b E):ui P o a E:=by
 unfold ui at c⊢;cases hs:E.slot with
 |none=>rw[hs]at c;exact NW h c|some q=>
  rw[hs]at c;obtain⟨j,p,d,l⟩:=c;refine⟨j,p,d,qV (NJ ⟨λk r=>h.fr k ?_,λk r=>h.hp k ?_⟩ l) λo m ⟨e,f,g⟩=>⟨e,f,n _ (by grind) g⟩⟩;·simp only[SOper.rd,d,SOp.rd,o_];grind
  ·simp only[SOper.rd,d,SOp.rd,o_];grind
theorem zZ{o:SOper}{a b:St}{E:Eff}(d:∀k∈o.rd,∀y,look b.fr k=some y->look a.fr k=some y)(g:∀i∈dQ b o,∀ob,b.hp[i]? =some ob->a.hp[i]? =some ob) (u:∀s,E.slot.map (·.1)=some s->b.hp[s]? =some .free->a.hp[s]? =some .free) (c:ui P o b E):ui P o a E:=by
 by_cases j:o.op.hf=true/\o.gd=none
 ·obtain⟨f,n⟩:=j;unfold ui at c⊢;cases hs:E.slot with
  |none=>
   rw[hs]at c;cases e:o.op<;>rw[e]at f<;>try (cases f;done)
   rename_i x;simp only[gg,n,e,kg]at c⊢;obtain⟨y,h,l⟩:=c;refine⟨y,?_,l⟩;cases x with|tm k=>exact d k (by simp[SOper.rd,e,SOp.rd,SX.rd]) y h|_=>exact h
  |some q=>rw[hs]at c;obtain⟨_,p,r,_⟩:=c;rw[r]at f;cases f
 ·have z:dQ b o=touch b o:=if_neg j;exact Jp ⟨d,λk w y A i v ob e=>g i (by rw[z];exact N3 w A v) ob e⟩ u c
theorem Jq{o:SOper}{a:St}{E:Eff}(c:ui P o a E):∀s,E.slot.map (·.1)=some s->a.hp[s]? =some .free/\s∈o.op.lent:=by
 intro s hs;unfold ui at c;cases e:E.slot with
 |none=>grind|some q=>
  rw[e]at c hs;simp only[D_,g_]at hs;obtain⟨f,p,d,b⟩:=c;rw[d,<-hs];refine⟨?_,by simp[SOp.lent]⟩;clear d;cases p<;>simp only[GL]at b;case alloc=>grind
  case box=>obtain⟨_,_,_,h⟩:=b;grind
  case bslice own _ _ _ _=>
   cases own;·grind
   ·obtain⟨_,_,_,_,_,_,h⟩:=b;grind
  case mslice=>obtain⟨_,_,_,_,_,_,_,_,_,_,_,_,_,_,_,_,_,_,_,_,_,_,_,h⟩:=b;grind
  case append=>obtain⟨_,_,_,_,h⟩:=b;rcases h with⟨_,_,_,_,h⟩|⟨_,_,_,_,_,h⟩|⟨_,_,_,_,_,_,_,_,h⟩|⟨_,_,_,_,_,h⟩<;>exact h.2.2
  grind
theorem Is{o:SOper}{st:St}{E:Eff}{K a:St->Prop}(h:ui P o st E)(j:K (st.app o.dst E)):jA P o st K a:=by
 unfold ui at h;cases hs:E.slot with
 |none=>
  rw[hs]at h;refine pn h ?_;have:st.app o.dst E=st.putO o.dst E.x:=by unfold St.app;rw[hs]
  grind
 |some q=>
  rw[hs]at h;obtain⟨e,p,f,g⟩:=h;unfold jA;rw[e,f];show GL st p λo' mk=>BX st (some q.1)/\K ((st.new (some q.1) o').putO o.dst (.b (mk q.1)));refine qV g λob m ⟨b,c,d⟩=>⟨d,?_⟩;have:st.app o.dst E=(st.new (some q.1) ob).putO o.dst (.b (m q.1)):=by unfold St.app;rw[hs,b,c];rfl
  grind
theorem TB{a b:St}{T:List Nat}(h:Eqs a b):Over T none (.v undef) none b a:=⟨h.1,λt=>by rw[h.2 t];simp,λ_ _ h=>by cases h⟩
theorem TA{a b:St}(h:Eqs a b)(rd:List Nat):Foot rd b a:=⟨λk _ y d=>by rw[<-h.2];exact d,λk _ y _ i _ ob c=>by rw[<-h.1];exact c⟩
theorem Wc{a b:St}(h:Eqs a b)(d:Option Nat)(E:Eff):Eqs (a.app d E) (b.app d E):=⟨by rw[ue,ue,h.1],λt=>by rw[kC,kC,h.2 t]⟩
theorem Lo{S:List AObj->Prop}{F:List Nat}{a b:St}{o:SOper}{E:Eff}(h:∀t∈o.rd,look b.fr t=look a.fr t)(hs:YW P S F a o E):YW P S F b o E:=λc e f=>hs c e λt d=>(f t d).trans (h t d)
theorem K1{G:List Nat}{a b:St}{o:SOper}{E:Eff}(h:∀t∈o.rd,look b.fr t=look a.fr t)(hs:YU G a o E):YU G b o E:=⟨hs.1,λt c y d=>hs.2 t c y (by grind)⟩
theorem s4:∀(l:List (Nat×Bool×SOper)) (R:List (Rec×(List AObj->Prop))) (a b:St),Eqs a b->uv P un K KP R l a->uv P un K KP R l b
 |[],R,a,b,h,hs=>by obtain⟨p,f,d⟩:=hs;exact⟨p,f.trans h,d⟩
 |(j,true,o)::l,R,a,b,h,hs=>by obtain⟨f,E,F,G,S,d,g,hg,w,v,u⟩:=hs;have k:dQ b o=dQ a o:=td λt _=>(h.2 t).symm;refine⟨λr hr y=>by grind,E,F,G,S,Jp (TA h _) (λs _ z=>by rw[<-h.1];omega) d,⟨λi c=>?_,g.2⟩,K1 (λt _=>(h.2 t).symm) hg,Lo (λt _=>(h.2 t).symm) w,v,s4 l _ _ _ (Wc h _ _) u⟩;rw[k]at c;exact⟨(g.1 i c).1,by rw[<-h.1];exact(g.1 i c).2⟩
 |(j,false,o)::l,R,a,b,h,hs=>by obtain⟨f,d⟩:=hs;have k:touch b o=touch a o:=G1 λt _=>(h.2 t).symm;refine⟨λr hr y=>by grind,?_⟩;refine uw (GN (T:=touch b o) (TB h) (λt e=>by grind) (λi c=>c) (λi c=>by cases c) d) (λn ⟨_,st1,hO,x⟩=>?_) λ_ h=>h;have e:st1.hp=n.hp:=hO.hp;exact⟨by rw[k,<-e];grind,s4 l _ _ _ ⟨e,λt=>by rw[hO.fr];simp⟩ x.2⟩
theorem Dm:∀(l:List (Nat×Bool×SOper)) (R b:List (Rec×(List AObj->Prop))) (a:St),(∀r∈b,r∈R)->uv P un K KP R l a->uv P un K KP b l a
 |[],R,b,a,_,hs=>hs
 |(j,true,o)::l,R,b,a,h,hs=>by obtain⟨f,E,F,G,S,g,k,hg,p,c,n⟩:=hs;refine⟨λr hr=>f r (h r hr),E,F,G,S,g,k,hg,p,λs ob e=>⟨(c s ob e).1,(c s ob e).2.1,λr hr=>(c s ob e).2.2 r (h r hr)⟩,Dm l _ _ _ (λr hr=>?_) n⟩;grind
 |(j,false,o)::l,R,b,a,h,hs=>⟨λr hr=>hs.1 r (h r hr),uw hs.2 (λu d=>⟨λr hr=>d.1 r (h r hr),Dm l _ _ _ h d.2⟩) λ_ h=>h⟩
def Hd(P:Program)(un:Nat->Nat->Bool)(K:St->Prop)(KP:Prop)(R:List (Rec×(List AObj->Prop)))(l:List (Nat×Bool×SOper))(st:St)(j:Nat)(o:SOper):Bool->Prop
 |true=>∃G,ui P o st G/\uv P un K KP R l (st.app o.dst G)
 |false=>jA P o st (λa=>S5 un R j (touch st o) a.hp/\uv P un K KP R l a) λ_=>KP
theorem Yp{l2:List (Nat×Bool×SOper)}{j:Nat}{b:Bool}{o:SOper}:∀(l1:List (Nat×Bool×SOper)) (R:List (Rec×(List AObj->Prop))) (st:St),uv P un K KP R (l1++(j,b,o)::l2) st->(∀u∈l1,u.2.1=true/\un u.1 j=true)->(∀r∈R,un r.1.i j=true->comm r.1 (match b with|true=>dQ st o|false=>touch st o) o b)/\Hd P un K KP R (l1++l2) st j o b:=by
 intro l1;induction l1 with
 |nil=>
  intro R st h _;cases b with
  |true=>obtain⟨h1,E,F,G,S,Y,_,_,_,_,h4⟩:=h;exact⟨h1,E,Y,Dm l2 _ _ _ (λr hr=>o_.2 (.inl hr)) h4⟩
  |false=>exact h
 |cons q l1 ih=>
  intro R st h hu;obtain⟨i,bu,u⟩:=q;obtain⟨hb,Q⟩:=hu _ (List.mem_cons_self ..);simp only at hb Q;subst hb;obtain⟨h1,E,F,G0,S,Y,w,hg,hS,hL,h4⟩:=h;obtain⟨hA,hB⟩:=ih _ _ h4 λv hv=>hu v (List.mem_cons_of_mem _ hv);obtain⟨c1,c2,B,c4,c5⟩:=hA (⟨i,u.dst,u.rd,E.slot.map (·.1),F,G0⟩,S) (by simp) Q;simp only at c1 c2 B c4 c5;have gc:∀t∈o.rd,look (st.app u.dst E).fr t=look st.fr t:=λt U=>by rw[kC,if_neg λe=>(c1 t e).1 U]
  have N:touch (st.app u.dst E) o=touch st o:=G1 gc;have D:dQ (st.app u.dst E) o=dQ st o:=td gc;have el:=Jq Y;cases b with
  |true=>
   refine⟨λr hr n=>by grind,?_⟩;simp only at B c5;rw[D]at B;obtain⟨G,g1,g2⟩:=hB;have z:=Jq g1;have ph:ui P o st G:=by
    refine zZ (λk hk y hy=>by grind) (λi a ob C=>?_) (λs hs hf=>?_) g1;·rw[D]at a;rw[<-xx (d:=u.dst) (E:=E) λs hs e=>B s hs (e▸a)];omega
    ·rw[<-xx (d:=u.dst) (E:=E) λs' A e=>?_];·omega
     ·have H:=(z s hs).2;by_cases I:o.op.hf=true/\o.gd=none
      ·cases C:o.op<;>rw[C]at I<;>try (cases I.1;done)
       rw[C]at H;cases H
      ·refine B s' A (e▸?_);rw[show dQ st o=touch st o from if_neg I];exact An H
   have c:∀t∈u.rd,look (st.app o.dst G).fr t=look st.fr t:=λt U=>by rw[kC,if_neg λe=>c2 t e U]
   have O:dQ (st.app o.dst G) u=dQ st u:=td c;have J:∀i∈dQ st u,(st.app o.dst G).hp[i]? =st.hp[i]? :=λi a=>xx λs hs e=>c4 rfl s (z s hs).2 (e▸(w.1 i a).1);have f:∀s,E.slot.map (·.1)=some s->s∈F:=λs hs=>by
    have H:=(el s hs).2;by_cases I:u.op.hf=true/\u.gd=none
    ·cases C:u.op<;>rw[C]at I<;>try (cases I.1;done)
     rw[C]at H;cases H
    ·exact(w.1 s (by rw[show dQ st u=touch st u from if_neg I];exact An H)).1
   refine⟨G,ph,λr hr n=>by grind,E,F,G0,S,?_,⟨λi a=>?_,w.2⟩,K1 c hg,Lo c hS,hL,s4 _ _ _ _ ⟨?_,λt=>?_⟩ g2⟩;·refine zZ (λk hk y hy=>by grind) (λi a ob C=>by grind) (λs hs hf=>?_) Y;rw[xx λs' A e=>c4 rfl s' (z s' A).2 (e▸f s hs)];omega
   ·rw[O]at a;exact⟨(w.1 i a).1,by rw[J i a];exact(w.1 i a).2⟩
   ·rw[ue,ue,ue,ue];cases hs:E.slot with|none=>rfl|some p=>cases A:G.slot with|none=>rfl|some p'=>simp only;exact aF_ _ _ λe=>c4 rfl p'.1 (z p'.1 (by grind)).2 (e▸f p.1 (by grind))
   ·rw[kC,kC,kC,kC];grind
  |false=>
   refine⟨λr hr n=>by grind,?_⟩;have c7:=c5 rfl;rw[N]at c7;simp only at B;rw[N]at B;have hO:Over (touch st o) u.dst E.x E.slot st (st.app u.dst E):=⟨by rw[ue];rfl,λt=>kC _ _ _ t,λs ob e=>⟨(el s (by rw[e];rfl)).1,B s (by rw[e];rfl),λj hj x=>c7 j x ((hL s ob e).1 j hj)⟩⟩;refine uw (GN (T:=touch st o) hO c1 (λi a=>a) (λi a x=>c7 i x (hg.1 i a)) hB) (λg ⟨hC,st1,l,M,hk⟩=>?_) λ_ h=>h;rw[N,l.hp]at M;have c:∀t∈u.rd,look g.fr t=look st.fr t:=λt U=>hC.fr t (λe=>c2 t e U) λy hy i a x=>c7 i x (hg.2 t U y hy i a);have O:dQ g u=dQ st u:=td c;have key:ui P u g E/\Xd F g u E:=by
    rcases M (⟨i,u.dst,u.rd,E.slot.map (·.1),F,G0⟩,S) (by simp) Q with hdj|hs
    ·have J:∀i∈dQ st u,g.hp[i]? =st.hp[i]? :=λi a=>by obtain⟨h5,ob,h6,h7⟩:=w.1 i a;rw[h6];exact hC.hp i ob h6 (λx=>hdj i x h5) λj hj x=>hdj j x (h7 j hj)
     refine⟨zZ (λk hk y hy=>by grind) (λi a ob C=>by grind) (λs hs _=>by obtain⟨p,hp,rfl⟩:=c_.1 hs;exact(l.sl p.1 p.2 hp).1) Y,⟨λi a=>?_,w.2⟩⟩
     rw[O]at a;exact⟨(w.1 i a).1,by rw[J i a];exact(w.1 i a).2⟩
    ·cases L:E.slot with|none=>rw[L]at hs;exact hS g hs c|some p=>exact absurd hs ((hL p.1 p.2 L).2.1 _)
   refine⟨λr hr n=>?_,λr hr n=>by grind,E,F,G0,S,key.1,key.2,K1 c hg,Lo c hS,hL,?_⟩
   ·rcases M r (o_.2 (.inl hr)) n with h|h;·exact .inl h
    ·refine .inr ?_;cases L:E.slot with|none=>rw[L]at h;exact h|some p=>rw[L]at h;exact(hL p.1 p.2 L).2.2 r hr _ (l.sl p.1 p.2 L).1 h
   refine s4 _ _ _ _ ⟨?_,λt=>?_⟩ hk;·rw[ue];exact l.hp
   ·rw[kC,l.fr]
theorem Vn{u:SOp}{ob:AObj}{R:AObj->(Nat->BV)->Prop}{st:St}(h:GL st u λo m=>o=ob/\R o m):∀j∈ob.kids,∃t∈u.rd,∃y,look st.fr t=some y/\j∈y.kids:=by
 intro j r;cases u<;>simp only[GL]at h<;>try exact h.elim
 case alloc t zero=>obtain⟨rfl,_⟩:=h;obtain⟨b,l,d⟩:=e_.1 r;obtain⟨v,_,rfl⟩:=E_.1 l;have:=BV.kids_ids d;rw[zW]at this;cases this
 case box t x=>
  obtain⟨a,w,_,rfl,_⟩:=h;obtain⟨b,l,d⟩:=e_.1 r;have s:j∈a.kids:=by
   cases a with
   |b z=>
    cases z with
    |pv p=>obtain⟨A,_,rfl⟩:=E_.1 l;cases d
    |_=>rw[aa_.1 l]at d;exact d
   |agg xs=>exact e_.2 ⟨b,l,d⟩|tup xs=>rw[aa_.1 l]at d;cases d
  cases x with|tm k=>exact⟨k,aa_.2 rfl,a,w,s⟩|c v=>cases w;have:=AV.kids_ids s;rw[C4]at this;cases this|g n=>cases w;cases s|f n=>cases w;cases s
 case bslice own e sz len B=>
  cases own;·exact h.elim
  ·obtain⟨_,_,_,_,_,_,rfl,_⟩:=h;cases r
 case mslice=>obtain⟨_,_,_,_,_,_,_,_,_,_,_,_,_,_,_,_,_,_,_,_,_,_,_,rfl,_⟩:=h;cases r
 case append=>obtain⟨_,_,_,_,h⟩:=h;rcases h with⟨_,_,_,_,rfl,_⟩|⟨_,_,_,_,_,rfl,_⟩|⟨_,_,_,_,_,_,_,_,rfl,_⟩|⟨_,_,_,_,_,rfl,_⟩<;>cases r
 case mkmap=>obtain⟨rfl,_⟩:=h;cases r
end
def Dq(n:Nat)(a:List (List Nat))(k:Nat):Bool:=(S_ n).all λj=>decide (j<k)||(S_ j).all λi=>(a.getD j []).contains i
def rY(a:List (List Nat)):List (Nat×Bool)->Bool
 |[]=>true
 |u::l=>l.all (λo=> !(a.getD u.1 []).contains o.1&&((a.getD o.1 []).contains u.1||u.2))&&rY a l
theorem N2(n:Nat)(after:List (List Nat))(k:Nat):Dq n (HG after) k=Dq n (fO [] after) k:=by simp only[Dq,EM]
theorem Ld(after:List (List Nat)):∀l,rY (HG after) l=rY (fO [] after) l
 |[]=>rfl
 |u::l=>by simp only[rY,EM,Ld after l]
theorem wB:∀(k:Nat) (L:List Nat),L.Nodup->(∀x∈L,x<k)->L.length<=k
 |0,L,_,h=>by cases L with|nil=>simp|cons x L=>exact absurd (h x (by simp)) (Nat.not_lt_zero _)
 |k+1,L,hn,h=>by
  by_cases b:k∈L
  ·have:=wB k (L.erase k) (hn.erase k) λx a=>by grind
   grind
  ·have:=wB k L hn λx a=>by grind
   omega
section
variable {P:Program} {c:Ctx} {w:World} {a:Act}
theorem Jx{a:List (List Nat)}:∀{l1 l2:List (Nat×Bool)} {o:Nat×Bool},rY a (l1++o::l2)=true->∀u∈l1,((a.getD o.1 []).contains u.1=true\/u.2=true)
 |[],_,_,_,u,b=>by grind
 |v::l1,l2,o,h,u,b=>by
  simp only[as_,rY,m_,j_,T_]at h;rcases U_.1 b with rfl|b;·grind
  ·exact Jx h.2 u b
theorem Gs{a:List (List Nat)}:∀{l1 l2:List (Nat×Bool)} {o:Nat×Bool},rY a (l1++o::l2)=true->rY a (l1++l2)=true
 |[],l2,o,h=>by simp only[ay_,rY,m_]at h⊢;grind
 |v::l1,l2,o,h=>by simp only[as_,rY,m_,j_]at h⊢;exact⟨λx b=>h.1 x (by grind),Gs h.2⟩
theorem ME{id n k ml:Nat}{ops:Array Oper}{s:List SOper}{after:List (List Nat)}{l:List (Nat×Bool×SOper)}(hm:P.follows .mixedOrders=true)(hn:c.n=n)(JT:c.th.length<=ml)(hc:tJ P n ops ops.toList s)(DP:after=tE ops)(J:C8 after=true) (Nd:Dq s.length (fO [] after) k=true) (GS:k<=s.length) (B:rY (fO [] after) (l.map λu=>(u.1,u.2.1))=true) (Bk:∀u∈l,u.1<k/\s[u.1]? =some u.2.2) (MT:(l.map (·.1)).Nodup) (Hx:l.length=k) {st:St} {K KP:St->Prop} {KC:Prop} {Q:Exit->Act->World->Prop} (h:uv P (λi j=> !((fO [] after).getD j []).contains i) (λst=>sops P ml (s.drop k) st K KP) KC [] l st) (hr:Rel c st a w) (hQ:∀a w,(∃f,K f/\Rel c f a w)->Q .normal a w) (hP:∀ch a w,(tC ch/\∃f,KP f/\Rel c f a w)->Q (.panic ch) a w) (RK:KC->∀ch a w,(tC ch/\∃f,Rel c f a w)->Q (.panic ch) a w):(Code.region id ops true).wp P Q a w:=by
 obtain⟨CT,At⟩:=vW hc;have hsz:ops.size=s.length:=by simpa using CT
 have WD:after.length=s.length:=by rw[DP];simp[tE,hsz]
 have ur:∀(i:Nat) (o:Oper),ops[i]? =some o->after[i]? =some ((o.after.toList.filter (Region.binds .any)).map (·.on)):=λi o U=>by rw[DP];simp[tE,U]
 have y:∀(d:Array Bool) (i:Nat),d.size=s.length->(i∈Region.ready .any ops d↔i<s.length/\d.getD i true=false/\∀l:List Nat,after[i]? =some l->∀e∈l,d.getD e false=true):=by
  intro d i p;unfold Region.ready;simp only[Q_,v_,m_,ao_,hsz];constructor;·rintro⟨z,M,h3⟩;refine⟨z,M,λl hl e C=>?_⟩;have U:ops[i]? =some ops[i]:=l_ (by omega);rw[ur i _ U]at hl;cases hl;rw[U]at h3;simp only[D_,X_,Y_]at h3;simp only[E_,Q_]at C;obtain⟨ed,⟨h4,h5⟩,rfl⟩:=C;have:=h3 ed (by simpa using h4);simpa[h5]using this
  ·rintro⟨z,M,h3⟩;refine⟨z,M,?_⟩;have U:ops[i]? =some ops[i]:=l_ (by omega);rw[U];simp only[D_,X_,Y_];intro ed RT;by_cases N:Region.binds .any ed=true;·have:=h3 _ (ur i _ U) ed.on (E_.2 ⟨ed,Q_.2 ⟨by simpa using RT,N⟩,rfl⟩);simp only[N,aq_,aW_];exact this
   ·simp[N]
 have Bx:∀i j,i<j->j<s.length->k<=j->((fO [] after).getD j []).contains i=true:=by
  intro i j RW hj SM;simp only[Dq,j_,v_,T_,decide_eq_true_eq]at Nd;rcases Nd j hj with h|h;·omega
  ·exact h i RW
 have T:∀(m j:Nat) (d:Array Bool) (f:St) (a:Act) (w:World),j<=s.length->s.length<=j+m->k<=j->d.size=s.length->(∀i,i<s.length->d.getD i false=decide (i<j))->sops P ml (s.drop j) f K KP->Rel c f a w->wpAny P .any ops Q m d a w:=by
  have DM:∀(d:Array Bool) (f:St) (a:Act) (w:World),d.size=s.length->(∀i,i<s.length->d.getD i false=decide (i<s.length))->sops P ml (s.drop s.length) f K KP->Rel c f a w->Region.ready .any ops d=[]/\Q .normal a w:=by intro d f a w p r hs hr;rw[aM_]at hs;simp only[sops]at hs;obtain⟨st1,DB,hs⟩:=hs;refine⟨?_,hQ a w ⟨st1,hs,DB _ _ _ JT hr⟩⟩;apply af_.2;grind
  intro m
  induction m with
  |zero=>
   intro j d f a w hj hm _ p r hs hr;have CD:j=s.length:=by omega
   subst CD;exact DM d f a w p r hs hr
  |succ m ih=>
   intro j d f a w hj hm SM p r hs hr;rcases F_ j s.length with H|H;case inr=>
    have CD:j=s.length:=by omega
    subst CD;obtain⟨f1,f2⟩:=DM d f a w p r hs hr;exact⟨λ_=>f2,λi F=>by rw[f1]at F;cases F⟩
   have Fm:∀i,i<s.length->d.getD i true=decide (i<j):=λi F=>by
    have h4:i<d.size:=by omega
    have:=r i F;simp[h4]at this⊢;exact this
   have Pb:∀i,i∈Region.ready .any ops d↔i=j:=by
    intro i;rw[y d i p];constructor
    ·rintro⟨z,M,h3⟩;rw[Fm i z]at M;simp only[decide_eq_false_iff_not,aI_]at M;rcases F_ j i with h4|h4
     ·rcases(Or.inl (Bx j i h4 z (by omega)):_\/False)with h5|h5
      ·have gc:=qz J (S:=λx=>x<j\/x=i) (λx l hl Y e C=>by
        have g:=J;simp only[C8,j_,v_,decide_eq_true_eq]at g;have DE:=(a_.1 hl).1;have Fk:=g x DE e (by simpa[N_,hl]using C);rcases Y with Y|rfl;·exact .inl (by omega)
        ·have:=h3 l hl e C;rw[r e (by omega)]at this;exact .inl (by simpa using this)) i i j (x_ _) (.inr rfl) h5 (by omega)
       omega
      ·exact h5.elim
     ·omega
    ·rintro rfl;refine⟨H,by rw[Fm _ H];simp,λl hl e C=>?_⟩;have g:=J;simp only[C8,j_,v_,decide_eq_true_eq]at g;have DE:=(a_.1 hl).1;have Fk:=g i DE e (by simpa[N_,hl]using C);rw[r e (by omega)];simpa using Fk
   refine⟨λh0=>?_,λi F=>?_⟩;·have:=(Pb j).2 rfl;rw[h0]at this;cases this
   ·have:=(Pb i).1 F;subst this;have U:ops[i]? =some ops[i]:=l_ (by omega);have Th:=d_ H;have BT:=At i _ _ (by rw[q_];exact U) Th;rw[ak_ H]at hs;simp only[sops]at hs;obtain⟨st1,DB,hs⟩:=hs;obtain⟨θ,D,hI⟩:=DB _ _ _ JT hr;have:=qX hI hn BT hs (λa' w'=>wpAny P .any ops Q m (d.setIfInBounds i true) a' w') Q (λa' w' ⟨L,z,M⟩=>
     ih (i+1) _ L a' w' (by omega) (by omega) (by omega) (by simpa using p) (λx Y=>by
      rw[dN p (by omega),r x Y];by_cases Rg:x=i;·subst Rg;simp
      ·rw[if_neg Rg];apply decide_eq_decide.2;omega) z M) (λch w' hp=>hP ch a w' hp)
    unfold wpOp;grind
 have DQ:∀i,i<k->i∈l.map (·.1):=by
  intro i F;refine y_ λhn=>?_;have:=wB k (i::l.map (·.1)) (aS_.2 ⟨hn,MT⟩) λx Y=>by
   rcases U_.1 Y with rfl|Y;·exact F
   ·obtain⟨u,hu,rfl⟩:=E_.1 Y;exact(Bk u hu).1
  simp only[H_,List.length_map,Hx]at this;omega
 have g:=J;simp only[C8,j_,v_,decide_eq_true_eq]at g;have rg:∀(m:Nat) (l':List (Nat×Bool×SOper)) (d:Array Bool) (f:St) (a:Act) (w:World),d.size=s.length->(∀i,i<s.length->(d.getD i false=true↔i<k/\i∉l'.map (·.1)))->l'.Sublist l->rY (fO [] after) (l'.map λu=>(u.1,u.2.1))=true->(∀(i:Nat) (l:List Nat),after[i]? =some l->d.getD i false=true->∀e∈l,d.getD e false=true)->s.length+l'.length<=k+m->uv P (λi j=> !((fO [] after).getD j []).contains i) (λst=>sops P ml (s.drop k) st K KP) KC [] l' f->Rel c f a w->wpAny P .any ops Q m d a w:=by
  intro m
  induction m with
  |zero=>
   intro l' d f a w p r R B gc E hs hr;cases l' with
   |cons u l'=>simp only[H_]at E;omega|nil=>
    obtain⟨DH,C,hk⟩:=hs;refine T 0 k d DH a w GS (by simpa using E) (x_ _) p (λi F=>?_) hk (Rel.congr C.1 C.2 hr);have:=r i F;simp only[aY_,aN_,not_false_eq_true,and_true]at this;cases N:d.getD i false with
    |true=>simp[this.1 N]|false=>
     have:¬i<k:=λh=>by have:=this.2 h;rw[N]at this;cases this
     simp[this]
  |succ m ih=>
   intro l' d f a w p r R B gc E hs hr;cases ph:l' with
   |nil=>
    subst ph;obtain⟨DH,C,hk⟩:=hs;refine T (m+1) k d DH a w GS (by simpa using E) (x_ _) p (λi F=>?_) hk (Rel.congr C.1 C.2 hr);have:=r i F;simp only[aY_,aN_,not_false_eq_true,and_true]at this;cases N:d.getD i false with
    |true=>simp[this.1 N]|false=>
     have:¬i<k:=λh=>by have:=this.2 h;rw[N]at this;cases this
     simp[this]
   |cons q l0=>
    have PB:∀i,i<s.length->d.getD i true=d.getD i false:=λi F=>by
     have h4:i<d.size:=by omega
     simp[h4]
    have I:∀u∈l',u.1<k/\s[u.1]? =some u.2.2:=λu hu=>Bk u (R.subset hu);have DA:∀u∈l',d.getD u.1 false=false:=λu hu=>by cases N:d.getD u.1 false with|false=>rfl|true=>exact absurd (E_.2 ⟨u,hu,rfl⟩) ((r u.1 (by have:=(I u hu).1;omega)).1 N).2
    have hq:q∈l':=by rw[ph];simp
    have wr:∀i,i<s.length->(∀l:List Nat,after[i]? =some l->∀e∈l,d.getD e false=true)->∀j,((fO [] after).getD i []).contains j=true->j=i\/d.getD j false=true:=λi F h3 j hj=>
     qz J (S:=λx=>x=i\/d.getD x false=true) (λx l hl Y e C=>by
      rcases Y with rfl|Y;·exact .inr (h3 l hl e C)
      ·exact .inr (gc x l hl Y e C)) i i j (x_ _) (.inl rfl) hj (by omega)
    refine⟨λh0=>?_,λi F=>?_⟩
    ·have SW:=(I q hq).1;have:q.1∈Region.ready .any ops d:=(y d q.1 p).2 ⟨by omega,by rw[PB _ (by omega)];exact DA q hq,λlq In e C=>by
      have n6:=g q.1 (by omega) e (by simpa[N_,In]using C);cases N:d.getD e false with
      |true=>rfl|false=>
       exfalso;have DS:e∈l'.map (·.1):=y_ λhn=>by have:=(r e (by omega)).2 ⟨by omega,hn⟩;rw[N]at this;cases this
       rw[ph,I_]at DS;rcases U_.1 DS with z|z;·omega
       ·obtain⟨u,hu,rfl⟩:=E_.1 z;rw[ph,I_,rY,m_,j_]at B;have:=B.1 (u.1,u.2.1) (E_.2 ⟨u,hu,rfl⟩);simp only[m_,ao_]at this;have hg:=AS after [] q.1 lq In;simp only[M_,J_]at hg;have M:((fO [] after).getD q.1 []).contains u.1=true:=by rw[hg];simp only[L_,e_];exact⟨u.1,C,by simp⟩
        rw[M]at this;exact absurd this.1 (by simp)⟩
     rw[h0]at this;cases this
    ·obtain⟨r1,r2,r3⟩:=(y d i p).1 F;rw[PB i r1]at r2;have Fr:i<k:=by
      apply y_;intro n7;have SW:=(I q hq).1;rcases wr i r1 r3 q.1 (Bx q.1 i (by omega) r1 (by omega))with z|z;·omega
      ·rw[DA q hq]at z;cases z
     have So:i∈l'.map (·.1):=y_ λhn=>by have:=(r i r1).2 ⟨Fr,hn⟩;rw[r2]at this;cases this
     obtain⟨u,hu,PJ⟩:=E_.1 So;obtain⟨l1,l2,A⟩:=List.append_of_mem hu;obtain⟨i',b,o⟩:=u;simp only at PJ;subst PJ;have O:(l'.map (·.1)).Nodup:=(R.map _).nodup MT;have Pa:∀v∈l1,v.2.1=true/\(!((fO [] after).getD i' []).contains v.1)=true:=λv hv=>by
      have Wf:v∈l':=by rw[A];exact o_.2 (.inl hv)
      have KK:((fO [] after).getD i' []).contains v.1=false:=by
       cases N:((fO [] after).getD i' []).contains v.1 with
       |false=>rfl|true=>
        rcases wr i' r1 r3 v.1 N with z|z;·rw[A,P_,I_]at O;have:=(aK_.1 O).2.2 v.1 (E_.2 ⟨v,hv,rfl⟩) i' (by simp);exact absurd z this
        ·rw[DA v Wf]at z;cases z
      refine⟨?_,by rw[KK];rfl⟩;rw[A,P_,I_]at B;rcases Jx B (v.1,v.2.1) (E_.2 ⟨v,hv,rfl⟩)with z|z;·simp only at z;rw[KK]at z;cases z
      ·exact z
     rw[A]at hs;have hh:=(Yp l1 [] f hs Pa).2;have Vc:jA P o f (λf=>uv P (λi j=> !((fO [] after).getD j []).contains i) (λst=>sops P ml (s.drop k) st K KP) KC [] (l1++l2) f) λ_=>KC:=by
      cases b with
      |true=>obtain⟨G,g1,g2⟩:=hh;exact Is g1 g2
      |false=>exact uw hh (λ_ h=>h.2) λ_ h=>h
     have PA:=(I _ hu).2;simp only at PA;have U:ops[i']? =some ops[i']:=l_ (by omega);have BT:=At i' _ _ (by rw[q_];exact U) PA;obtain⟨θ,D,hI⟩:=hr;have:=qX (hp:=λch w' ⟨RM,L,hk,Pc⟩=>RK hk ch _ _ ⟨RM,L,Pc⟩) hI hn BT Vc (λa' w'=>wpAny P .any ops Q m (d.setIfInBounds i' true) a' w') Q (λa' w' ⟨L,z,M⟩=>by
      have Dg:(l1++l2).Sublist l':=by rw[A];exact List.Sublist.append_left (List.sublist_cons_self _ _) _
      refine ih (l1++l2) _ L a' w' (by simpa using p) (λj hj=>?_) (Dg.trans R) ?_ (λj lj qr H e C=>?_) ?_ z M
      ·rw[dN p r1];have qr:=r j hj;by_cases el:j=i'
       ·subst el;simp only[if_true,true_iff];refine⟨Fr,λhm=>?_⟩;rw[A,P_,I_]at O;obtain⟨n1,n2,n3⟩:=aK_.1 O;rw[P_]at hm;rcases o_.1 hm with h5|h5;·exact n3 _ h5 j (by simp) rfl
        ·exact(aS_.1 n2).1 h5
       ·rw[if_neg el,qr,A];simp only[P_,I_,o_,U_,el,false_or]
      ·rw[A,P_,I_]at B;rw[P_];exact Gs B
      ·rw[dN p r1]at H⊢;split at H
       ·rename_i el;subst el;split;·rfl
        ·exact r3 lj qr e C
       ·split;·rfl
        ·exact gc j lj qr H e C
      ·rw[A]at E;simp only[Z_,H_]at E⊢;omega)
     unfold wpOp;rw[U];simp only;split;·rename_i hw;rw[if_pos hw]at this;exact .inl this
     ·rename_i hw;rw[if_neg hw]at this;exact this
 refine wp_region_any hm ?_;obtain⟨θ,D,hI⟩:=hr;refine rg ops.size l (z_ ops.size false) st a {w with drawn:=w.drawn+1} (by simp[hsz]) (λi F=>?_) (List.Sublist.refl _) B (λi l hl M=>by
  have F:i<ops.size:=by have:=(a_.1 hl).1;omega
  simp[F]at M) (by omega) h ⟨θ,D,hI.drew⟩
 have:(z_ ops.size false).getD i false=false:=by simp[hsz,F]
 rw[this];constructor;·intro h;cases h
 ·rintro⟨z,M⟩;exact absurd (DQ i z) M
end
inductive AC where
 |skip
 |region (ops:List SOper)
 |draw (k:Nat) (ops:List SOper) (after:List (List Nat))
 |draw2 (ord:List (Nat×Bool)) (ops:List SOper) (after:List (List Nat))
 |seq (a b:AC)
 |cond (c:SX) (thn els:AC)
 |block (id:Nat) (body:AC)
 |loop (body:AC)
 |exit (id:Nat)
 |ret
 deriving Inhabited
def WY(n:Nat)(d:Option Nat):Bool:=match d with
 |some k=>decide (k<n)
 |none=>true
def xp(P:Program)(n:Nat)(ops:Array Oper)(o:Oper):Option SOper:=
 (iJ P o).bind λs=>
  if(WY n o.dst&&X9 P o)=true then
   match o.guard with
   |none=>some ⟨o.dst,s,none⟩
   |some (j,want)=>((ops[j]?).bind (·.dst)).map λt=>⟨o.dst,s,some (t,want)⟩
  else none
def bW(P:Program)(n:Nat):Code->Option AC
 | .skip=>some .skip
 | .region _ ops e=>(ops.toList.mapM (xp P n ops)).map λd=>if e then .draw 0 d (tE ops)else .region d
 | .seq a b=>(bW P n a).bind λx=>(bW P n b).map λy=>.seq x y
 | .cond c a b=>(bW P n a).bind λx=>(bW P n b).map λy=>.cond (.of c) x y
 | .block id a=>(bW P n a).map (.block id)
 | .loop a=>(bW P n a).map .loop
 | .exit id=>some (.exit id)
 | .ret=>some .ret
 |_=>none
def SOper.canon(o:SOper):SOper:={o with op:=o.op.canon}
def AC.canon:AC->AC
 | .region ops=>.region (ops.map SOper.canon)
 | .draw _ ops af=>.draw 0 (ops.map SOper.canon) af
 | .draw2 _ ops af=>.draw 0 (ops.map SOper.canon) af
 | .seq a b=>.seq a.canon b.canon
 | .cond c a b=>.cond c a.canon b.canon
 | .block id a=>.block id a.canon
 | .loop a=>.loop a.canon
 |x=>x
def AC.okB:AC->Bool
 | .draw k ops af=>C8 af&&CU ops (HG af) k&&decide (k<=ops.length)
 | .draw2 ord ops af=>C8 af&&Dq ops.length (HG af) ord.length&&decide (ord.length<=ops.length)&&rY (HG af) ord&&ord.all (λu=>decide (u.1<ord.length))&&decide (ord.map (·.1)).Nodup
 | .seq a b=>a.okB&&b.okB
 | .cond _ a b=>a.okB&&b.okB
 | .block _ a=>a.okB
 | .loop a=>a.okB
 |_=>true
inductive AE where
 |normal
 |exit (id:Nat)
 |ret
 |pan
def AE.then(m:Nat)(f:St->Prop)(Q:AE->St->Prop):AE->St->Prop
 | .normal,s=>W m f s
 |e,s=>Q e s
def AE.inBlock(id:Nat)(Q:AE->St->Prop):AE->St->Prop
 | .exit i,s=>if i=id then Q .normal s else Q (.exit i) s
 |e,s=>Q e s
def Md(m:Nat)(body:(AE->St->Prop)->St->Prop)(Q:AE->St->Prop):Nat->St->Prop
 |0,_=>False
 |n+1,st=>body (AE.then m (Md m body Q n) Q) st
def LS(P:Program)(m:Nat):AC->(AE->St->Prop)->St->Prop
 | .skip,Q,st=>W m (Q .normal) st
 | .region d,Q,st=>sops P m d st (Q .normal) (Q .pan)
 | .draw k d _,Q,st=>W m (λst=>sdraw P m k d st (Q .normal) (Q .pan)) st
 | .draw2 ord d af,Q,st=>W m (λst=>uv P (λi j=> !((fO [] af).getD j []).contains i) (λst=>sops P m (d.drop ord.length) st (Q .normal) (Q .pan)) (∀s,Q .pan s) [] (ord.map λu=>(u.1,u.2,d.getD u.1 default)) st) st
 | .seq a b,Q,st=>LS P m a (AE.then m (LS P m b Q) Q) st
 | .cond c a b,Q,st=>W m (λst=>aM (st.get c) λv=>CJ v λv=>isBool v λt=>(t=true->LS P m a Q st)/\(t=false->LS P m b Q st)) st
 | .block id a,Q,st=>LS P m a (AE.inBlock id Q) st
 | .loop a,Q,st=>W m (λs=>∃n,Md m (LS P m a) Q n s) st
 | .exit id,Q,st=>W m (Q (.exit id)) st
 | .ret,Q,st=>W m (Q .ret) st
def AE.is:AE->Exit->Prop
 | .normal,e=>e= .normal
 | .exit i,e=>e= .exit i
 | .ret,e=>e= .ret
 | .pan,e=>∃z,tC z/\e= .panic z
theorem VY{x:AC}(h:AC.skip=x.canon):x= .skip:=by cases x<;>simp_all[AC.canon]
theorem Q6{x:AC}{s:List SOper}(h:AC.region s=x.canon):∃a,x= .region a/\s=a.map SOper.canon:=by cases x<;>simp_all[AC.canon]
theorem VV{x:AC}{s:List SOper}{af:List (List Nat)}(h:AC.draw 0 s af=x.canon):(∃k a,x= .draw k a af/\s=a.map SOper.canon)\/∃ord a,x= .draw2 ord a af/\s=a.map SOper.canon:=by cases x<;>simp_all[AC.canon];all_goals grind
theorem Xf{x p q:AC}(h:AC.seq p q=x.canon):∃a b,x= .seq a b/\p=a.canon/\q=b.canon:=by cases x<;>simp_all[AC.canon];exact⟨_,_,⟨rfl,rfl⟩,rfl,rfl⟩
theorem VU{x p q:AC}{s:SX}(h:AC.cond s p q=x.canon):∃a b,x= .cond s a b/\p=a.canon/\q=b.canon:=by cases x<;>simp_all[AC.canon];grind
theorem S7{x p:AC}{i:Nat}(h:AC.block i p=x.canon):∃a,x= .block i a/\p=a.canon:=by cases x<;>simp_all[AC.canon]
theorem VX{x p:AC}(h:AC.loop p=x.canon):∃a,x= .loop a/\p=a.canon:=by cases x<;>simp_all[AC.canon]
theorem VW{x:AC}{i:Nat}(h:AC.exit i=x.canon):x= .exit i:=by cases x<;>simp_all[AC.canon]
theorem Xe{x:AC}(h:AC.ret=x.canon):x= .ret:=by cases x<;>simp_all[AC.canon]
section
variable {P:Program} {c:Ctx}
def Rn(c:Ctx)(Q:AE->St->Prop):Exit->Act->World->Prop:=λe a w=>∃b st,AE.is b e/\Q b st/\Rel c st a w
theorem Jc{m:Nat}(p:c.th.length<=m){f:St->Prop}{Q:AE->St->Prop}{e:Exit}{a:Act}{w:World}(h:Rn c (AE.then m f Q) e a w):Exit.then (λa w=>∃st,f st/\Rel c st a w) (Rn c Q) e a w:=by
 obtain⟨k,st,b,d,hr⟩:=h;cases k with
 |normal=>cases b;obtain⟨s',l,n⟩:=d;exact⟨s',n,l _ _ _ p hr⟩
 |exit i=>cases b;exact⟨.exit i,st,rfl,d,hr⟩|ret=>cases b;exact⟨.ret,st,rfl,d,hr⟩|pan=>obtain⟨j,g,rfl⟩:=b;exact⟨.pan,st,⟨j,g,rfl⟩,d,hr⟩
theorem OC{id:Nat}{Q:AE->St->Prop}{e:Exit}{a:Act}{w:World}(h:Rn c (AE.inBlock id Q) e a w):Exit.inBlock id (Rn c Q) e a w:=by
 obtain⟨j,st,d,b,hr⟩:=h;cases j with
 |normal=>cases d;exact⟨.normal,st,rfl,b,hr⟩|exit i=>
  cases d;simp only[Exit.inBlock];simp only[AE.inBlock]at b;split;·rename_i h;rw[if_pos h]at b;exact⟨.normal,st,rfl,b,hr⟩
  ·rename_i h;rw[if_neg h]at b;exact⟨.exit i,st,rfl,b,hr⟩
 |ret=>cases d;exact⟨.ret,st,rfl,b,hr⟩|pan=>obtain⟨g,f,rfl⟩:=d;exact⟨.pan,st,⟨g,f,rfl⟩,b,hr⟩
theorem Ks{n:Nat}{ops:Array Oper}{o:Oper}{s:SOper}(h:xp P n ops o=some s.canon):vV P n ops o s:=by
 unfold xp at h;simp only[b_]at h;obtain⟨f,g,a⟩:=h;split at a
 ·rename_i hd;rw[m_]at hd;obtain⟨hd,d⟩:=hd;have b:∀k,o.dst=some k->k<n:=λk c=>by rw[c]at hd;simpa[WY]using hd
  unfold vV;cases hg:o.guard with|none=>rw[hg]at a;simp only[g_,SOper.canon]at a;grind|some e=>obtain⟨j,want⟩:=e;rw[hg]at a;simp only[c_]at a;obtain⟨t,l,a⟩:=a;cases s;simp only[SOper.canon,SOper.mk.injEq]at a;grind
 grind
theorem rI{n:Nat}{ops:Array Oper}:∀{l:List Oper} {a:List SOper},l.mapM (xp P n ops)=some (a.map SOper.canon)->tJ P n ops l a
 |[],a,h=>by simp at h;cases a with|nil=>trivial|cons s a=>grind
 |o::l,a,h=>by simp only[A_,B_,K_,b_,g_]at h;obtain⟨s',c,m,d,b⟩:=h;cases a with|nil=>grind|cons s a=>simp only[I_,List.cons.injEq]at b;obtain⟨rfl,rfl⟩:=b;exact⟨Ks c,rI d⟩
theorem xm(T:P.follows .mixedOrders=true){n m:Nat}(hn:c.n=n)(g:c.th.length<=m):∀(code:Code) (x:AC) (Q:AE->St->Prop) (st:St) (a:Act) (w:World),bW P n code=some x.canon->x.okB=true->LS P m x Q st->Rel c st a w->code.wp P (Rn c Q) a w:=by
 intro code;induction code with
 |skip=>intro x Q st a w hc b h hr;simp only[bW,g_]at hc;cases VY hc;obtain⟨s',f,j⟩:=h;exact wp_skip ⟨.normal,s',rfl,j,f _ _ _ g hr⟩
 |region id ops dr=>
  intro x Q st a w hc b h hr;simp only[bW,c_]at hc;obtain⟨el,B,hc⟩:=hc;cases dr;·simp only[s_,if_false]at hc;obtain⟨L,rfl,rfl⟩:=Q6 hc;exact Lj hn g (rI B) h hr (λa w ⟨d,f,j⟩=>⟨.normal,d,rfl,f,j⟩) (λA a w ⟨r,d,f,j⟩=>⟨.pan,d,⟨A,r,rfl⟩,f,j⟩)
  ·simp only[if_true]at hc;rcases VV hc with⟨k,L,rfl,rfl⟩|⟨ord,L,rfl,rfl⟩
   rotate_left
   ·simp only[AC.okB,MF,N2,Ld,m_,decide_eq_true_eq,j_]at b;obtain⟨⟨⟨⟨⟨o1,o2⟩,o3⟩,o4⟩,o5⟩,o6⟩:=b;obtain⟨J,z,h⟩:=h;refine ME (l:=ord.map λu=>(u.1,u.2,L.getD u.1 default)) T hn g (rI B) rfl o1 o2 o3 ?_ (λu hu=>?_) ?_ (by simp) h (z _ _ _ g hr) (λa w ⟨d,f,j⟩=>⟨.normal,d,rfl,f,j⟩) (λA a w ⟨r,d,f,j⟩=>⟨.pan,d,⟨A,r,rfl⟩,f,j⟩) λhk A a w ⟨r,d,j⟩=>⟨.pan,d,⟨A,r,rfl⟩,hk d,j⟩;·rw[List.map_map];have:((λu:Nat×Bool×SOper=>(u.1,u.2.1))∘λu:Nat×Bool=>(u.1,u.2,L.getD u.1 default))=λu=>u:=rfl;rw[this,List.map_id'];omega
    all_goals grind
   simp only[AC.okB,MF,N2,Ld,m_,decide_eq_true_eq]at b;obtain⟨J,z,h⟩:=h;exact OH T hn g (rI B) rfl b.1.1 b.1.2 b.2 h (z _ _ _ g hr) (λa w ⟨d,f,j⟩=>⟨.normal,d,rfl,f,j⟩) (λA a w ⟨r,d,f,j⟩=>⟨.pan,d,⟨A,r,rfl⟩,f,j⟩)
 |seq p q v C=>intro x Q st a w hc b h hr;simp only[bW,b_,c_]at hc;obtain⟨R,f,x2,j,hc⟩:=hc;obtain⟨Y,y2,rfl,rfl,rfl⟩:=Xf hc;simp only[AC.okB,m_]at b;refine wp_seq (wp_mono (v _ _ st a w f b.1 h hr) λe a w H=>?_);have:=Jc g H;cases e<;>first|(obtain⟨d,E,F⟩:=this;exact C _ _ d a w j b.2 E F)|exact this
 |cond cc p q v C=>intro x Q st a w hc b h hr;simp only[bW,b_,c_]at hc;obtain⟨R,f,x2,j,hc⟩:=hc;obtain⟨Y,y2,rfl,rfl,rfl⟩:=VU hc;simp only[AC.okB,m_]at b;obtain⟨J,z,av,N,hv⟩:=h;have O:=z _ _ _ g hr;obtain⟨θ,D,M⟩:=O;obtain⟨t,ht,E,F⟩:=cx (M.get N) hv;exact wp_cond_split ht (λe=>v _ _ J a w f b.1 (E e) ⟨θ,D,M⟩) (λe=>C _ _ J a w j b.2 (F e) ⟨θ,D,M⟩)
 |block id p v=>intro x Q st a w hc b h hr;simp only[bW,c_]at hc;obtain⟨R,f,hc⟩:=hc;obtain⟨Y,rfl,rfl⟩:=S7 hc;exact wp_block (wp_mono (v _ _ st a w f b h hr) λe a w H=>OC H)
 |loop p v=>
  intro x Q st a w hc b h hr;simp only[bW,c_]at hc;obtain⟨R,f,hc⟩:=hc;obtain⟨y,rfl,rfl⟩:=VX hc;obtain⟨s0,hw,U,h⟩:=h;have key:∀(I:Nat) (s:St) (a:Act) (w:World),Md m (LS P m y) Q I s->Rel c s a w->Code.rounds P p (Rn c Q) I a w:=by intro I;induction I with|zero=>intro s a w h _;exact h.elim|succ I ih=>intro s a w h hr;rw[rounds_succ];refine wp_mono (v _ _ s a w f b h hr) λe a w H=>?_;have:=Jc g H;cases e<;>first|(obtain⟨d,E,F⟩:=this;exact ih d a w E F)|exact this
  exact wp_loop_rounds U (key U s0 a w h (hw _ _ _ g hr))
 |exit id=>intro x Q st a w hc b h hr;simp only[bW,g_]at hc;cases VW hc;obtain⟨s',f,j⟩:=h;exact wp_exit ⟨.exit id,s',rfl,j,f _ _ _ g hr⟩
 |ret=>intro x Q st a w hc b h hr;simp only[bW,g_]at hc;cases Xe hc;obtain⟨s',f,j⟩:=h;exact wp_ret ⟨.ret,s',rfl,j,f _ _ _ g hr⟩
 |rangeFunc=>intro x Q st a w hc;cases hc|scope=>intro x Q st a w hc;cases hc|label=>intro x Q st a w hc;cases hc|goto=>intro x Q st a w hc;cases hc|refuse=>intro x Q st a w hc;cases hc
end
inductive RV where
 |tm (k:Nat)
 |cell (k sz:Nat) (ag:Bool)
def mq(P:Program):ResultVar->Option RV
 | .tmp t=>some (.tm t)
 | .cell a t=>(bK P t).bind λs=>if(P.underlying t).isSome then some (.cell a s (jc P t))else none
def Im(st:St):RV->Option AV
 | .tm k=>look st.fr k
 | .cell k sz ag=>(look st.fr k).bind fun
  | .b (.ptr id off)=>match st.hp[id]? with
   |some (.box _ cs)=>if off+sz<=cs.length/\(ag=false->sz=1)then some (ol ag ((cs.drop off).take sz))else none
   |_=>none
  |_=>none
def Jl:List AV->AV->Prop
 |[x],r=>r=x
 |xs,r=>∃a:List BV,r= .tup a/\a.length=xs.length/\∀(i:Nat) (x:AV) (b:BV),xs[i]? =some x->a[i]? =some b->x= .b b\/∃p,x.toPV=some p/\b= .pv p
def vO:Nat->List AV->List (Nat×AV)
 |_,[]=>[]
 |k,p::a=>(k,p)::vO (k+1) a
theorem z7:∀(a:List AV) (k t:Nat) (x:AV),look (vO k a) t=some x->∃i,t=k+i/\a[i]? =some x
 |[],k,t,x,h=>by cases h
 |p::a,k,t,x,h=>by
  simp only[vO,look]at h;split at h;·rename_i b;cases h;exact⟨0,by omega,rfl⟩
  ·obtain⟨i,b,c⟩:=z7 a (k+1) t x h;exact⟨i+1,by omega,by grind⟩
def DR(m:Nat)(c:List RV)(K:Fo->Prop):AE->St->Prop
 | .exit _,_=>False
 | .pan,_=>K none
 |_,st=>W m (λst=>∃xs r,c.mapM (Im st)=some xs/\Jl xs r/\∃b a,(∀T,Weak m ⟨[(T,r)],st.hp⟩ ⟨[(T,b)],a⟩)/\K (some (b,a))/\m<=a.length) st
def Va(tmps:Array Value)(r:ResultVar):Sem Value:=match r with
 | .tmp t=>pure (tmps.getD t undef)
 | .cell b t=>do loadVar t (<-asAddr (tmps.getD b undef))
theorem GF(fn:Func)(tmps:Array Value):results fn tmps=(do let vs<-fn.results.mapM (Va tmps);pure (if h:vs.size=1 then vs[0]else .tuple vs)):=rfl
theorem NG{P:Program}{c:Ctx}{θ:List Loc}{D:Nat->Prop}{st:St}{a:Act}{w:World}(n:Inv c θ D st a w){r:ResultVar}{z:RV}{x:AV}(hc:mq P r=some z)(hr:Im st z=some x): ∃u,(Va a.tmps r).run P w= .ok u w/\RelA θ D w u x:=by
 cases r with
 |tmp t=>simp only[mq,g_]at hc;subst hc;exact⟨_,rfl,n.fr t x hr⟩|cell b t=>
  simp only[mq,b_]at hc;obtain⟨s,hs,hc⟩:=hc;split at hc
  ·rename_i hd;obtain⟨d,hd⟩:=t_.1 hd;cases hc;simp only[Im,b_]at hr;obtain⟨y,H,hr⟩:=hr;split at hr
   ·rename_i id off;split at hr
    ·rename_i I cs F;split at hr
     ·rename_i f;cases hr;obtain⟨p,e⟩:=f;obtain⟨g,hg,E⟩:=n.fr b _ H;obtain⟨l,A,B,C⟩:=n.ok.objs id _ _ hg F;have h:off+s<=l.size:=by omega
      have k:=DY (P:=P) (w:=w) (b:=g) (o:=off) hd hs (l.extract off (off+s)).toList (by grind) e (λj v J=>by rw[cell_of_row w g _ l I (0,0) A];grind)
      rw[rZ _ _ _ _ e h]at k;refine⟨_,?_,qc B C p e⟩;simp only[Va,E,asAddr,Sem.run_bind,Sem.run_pure,Result.andThen_ok,k]
     grind
    grind
   grind
  grind
theorem NB{θ:List Loc}{D:Nat->Prop}{w:World}{a:List Value}{xs:List AV}{r:AV}(hl:a.length=xs.length)(h:∀(i:Nat) (u:Value) (x:AV),a[i]? =some u->xs[i]? =some x->RelA θ D w u x)(hr:Jl xs r): RelA θ D w (if h:a.toArray.size=1 then a.toArray[0]else .tuple a.toArray) r:=by
 have c:xs.length≠1->(∃e:List BV,r= .tup e/\e.length=xs.length/\∀(i:Nat) (x:AV) (b:BV),xs[i]? =some x->e[i]? =some b->x= .b b\/∃p,x.toPV=some p/\b= .pv p)->RelA θ D w (if h:a.toArray.size=1 then a.toArray[0]else .tuple a.toArray) r:=by
  rintro s ⟨e,rfl,f,g⟩;rw[dif_neg (by simp;omega)];refine⟨_,rfl,by simp;omega,λi u b n j=>?_⟩;obtain⟨x,k⟩:=bi (l:=xs) f.symm j;have d:=h i u x (by simpa using n) k;rcases g i x b k j with rfl|⟨p,hp,rfl⟩;·exact d
  ·exact cr d hp
 match xs,hl,h,hr with
 |[x],hl,h,hr=>
  simp only[Jl]at hr
  subst hr
  match a,hl,h with|[u],_,h=>exact h 0 u r rfl rfl
 |[],_,_,hr=>exact c (by simp) hr|x::y::l,_,_,hr=>exact c (by simp) hr
theorem Q8{P:Program}{f:FuncId}{fn:Func}{code:Code}{x:AC}{Y:List RV}{xs:List AV}{os:List AObj}{K:Fo->Prop}(hm:P.follows .mixedOrders=true)(hf:P.funcs[f]? =some fn)(hb:fn.body=some code)(hc:bW P fn.ntmps code=some x.canon)(qr:x.okB=true) (N:fn.results.toList.mapM (mq P)=some Y) (DE:xs.length<=fn.ntmps) (h:LS P os.length x (DR os.length Y K) ⟨vO 0 xs,os⟩):ACalls P f xs os K:=by
 intro w θ D vs hG d Bx BT;have j:θ.length=os.length:=d.len;have hO:∀b,D b->¬owns θ b:=λb hb ⟨i,l,E,hl⟩=>(d.olt i l b E hl).2 hb;refine calls_of_wp hf hb (wp_mono (xm hm (m:=os.length) (c:=⟨fn.ntmps,w,D,owns θ,[],θ,λw' z=>?_⟩) rfl (by simp[j]) code x _ ⟨vO 0 xs,os⟩ {tmps:=vs.toArray++z_ (fn.ntmps - vs.toArray.size) undef,defers:=[]} w hc qr h ?_) λe a w' M=>?_);·exact hG.mono z hO λ_ h=>h
 ·refine⟨θ,D,by simp;omega,rfl,d,Keep.refl _ _,λ_ h=>h,λ_ h=>.inl h,λi l g E hg=>.inl ⟨i,l,E,hg⟩,λk y z=>?_,λ_ _ h _=>h⟩;obtain⟨i,rfl,hp⟩:=z7 xs 0 k y z;have E:i<vs.length:=by rw[Bx];exact(a_.1 hp).1
  have hv:=d_ E;have:(vs.toArray++z_ (fn.ntmps - vs.toArray.size) undef).getD (0+i) undef=vs[i]:=by simp[az_,E]
  rw[this];exact BT i _ y hv hp
 ·obtain⟨e',st,M,B,hr⟩:=M;have I:(∀st,DR os.length Y K .normal st->True)->W os.length (λst=>∃xs r,Y.mapM (Im st)=some xs/\Jl xs r/\∃F s,(∀T,Weak os.length ⟨[(T,r)],st.hp⟩ ⟨[(T,F)],s⟩)/\K (some (F,s))/\os.length<=s.length) st->a.defers=[]/\∃v,(results fn a.tmps).run P w'= .ok v w'/\Back θ D w K (.returned v) w':=by
   rintro _ ⟨DB,hw,ys,r,CT,O,F,s,CD,hK,ph⟩
   obtain⟨θ',D',n⟩:=hw _ _ _ (by simp[j]) hr
   refine⟨n.defers,?_⟩
   have H:∀(l:List ResultVar) (U:List RV) (pl:List AV),l.mapM (mq P)=some U->U.mapM (Im DB)=some pl->∃p:List Value,(l.mapM (Va a.tmps)).run P w'= .ok p w'/\p.length=pl.length/\∀(i:Nat) (u:Value) (q:AV),p[i]? =some u->pl[i]? =some q->RelA θ' D' w' u q:=by
    intro l;induction l with
    |nil=>intro U pl J L;simp at J;subst J;simp at L;subst L;exact⟨[],rfl,rfl,λi u q R=>by simp at R⟩|cons r l ih=>
     intro U pl J L;simp only[A_,B_,K_,b_,g_]at J;obtain⟨rv,Bk,DA,At,rfl⟩:=J;simp only[A_,B_,K_,b_,g_]at L;obtain⟨q0,ur,Dg,rg,rfl⟩:=L;obtain⟨u0,e1,e2⟩:=NG n Bk ur;obtain⟨p,e3,e4,e5⟩:=ih DA Dg At rg;refine⟨u0::p,?_,by simp[e4],λi u q R B=>?_⟩;·rw[A_,Sem.run_bind,e1];simp only[Result.andThen_ok,Sem.run_bind,e3,Sem.run_pure]
     ·cases i with|zero=>simp at R B;subst R;subst B;exact e2|succ i=>exact e5 i u q (by simpa using R) (by simpa using B)
   obtain⟨p,e1,e2,e3⟩:=H _ _ _ N CT
   have C:(results fn a.tmps).run P w'= .ok (if h:p.toArray.size=1 then p.toArray[0]else .tuple p.toArray) w':=by rw[GF,aj_];simp only[Sem.run_bind,Sem.run_map];rw[e1];rfl
   have Q:=NB e2 e3 O
   generalize hv:(if h:p.toArray.size=1 then p.toArray[0]else .tuple p.toArray)=v at C Q
   have hsz:a.tmps.size=fn.ntmps:=n.size
   obtain⟨θ2,D2,A⟩:=CD fn.ntmps ⟨fn.ntmps+1,w,D,owns θ,[],θ,λw' z=>hG.mono z hO λ_ h=>h⟩ {tmps:=a.tmps.push v,defers:=[]} w' (by simp[j])
    ⟨θ',D',by simp[hsz],rfl,n.ok,n.keep,n.dsub,n.dnew,n.onew,(λk y z=>by
     simp only[look]at z;split at z
     ·rename_i gc;cases z;subst gc;have:(a.tmps.push v).getD fn.ntmps undef=v:=by rw[<-hsz];simp[ai_]
      rw[this];exact Q
     ·cases z),n.fix⟩
   have wr:RelA θ2 D2 w' v F:=by
    have:=A.fr fn.ntmps F (by simp[look]);have e:(a.tmps.push v).getD fn.ntmps undef=v:=by rw[<-hsz];simp[ai_]
    rw[e]at this;exact this
   exact⟨_,C,.inl ⟨_,F,s,θ2,D2,rfl,hK,wr,A.ok,A.keep,A.dsub,A.dnew,A.onew,A.fix,by rw[A.ok.len,j];exact ph⟩⟩
  cases e' with|normal=>cases M;exact I (λ_ _=>trivial) B|ret=>cases M;exact I (λ_ _=>trivial) B|exit i=>exact B.elim|pan=>obtain⟨ch,el,rfl⟩:=M;obtain⟨θ',D',n⟩:=hr;exact⟨n.defers,.inr ⟨ch,el,rfl,B,n.keep⟩⟩
def Loc.like(l l':Loc):Prop:=l'=l\/∃g n cap sz O z,l= .hdr g n cap sz O/\l'= .hdr g n cap sz z
section
variable {θ θ':List Loc} {D:Nat->Prop} {w:World}
theorem RelB.like(J:∀(k:Nat) (l:Loc),θ[k]? =some l->∃l',θ'[k]? =some l'/\l.like l'){v:Value}{x:BV}(h:RelB θ D w v x):RelB θ' D w v x:=by
 have E:∀(k:Nat) (l:Loc),θ[k]? =some l->l.fixed=true->θ'[k]? =some l:=λk l hl hf=>by
  obtain⟨l',H,z|⟨g,n,cap,sz,O,U,rfl,rfl⟩⟩:=J k l hl;·grind
  ·cases hf
 cases x with
 |pv p=>exact h|nils=>exact h|sl k=>
  obtain⟨l,H,z⟩:=h;obtain⟨l',I,rfl|⟨g,n,cap,sz,O,U,rfl,rfl⟩⟩:=J k l H;·exact⟨l',I,z⟩
  ·exact⟨_,I,z⟩
 |ptr k off=>obtain⟨g,H,z⟩:=h;exact⟨g,E _ _ H rfl,z⟩
 |elt k i off=>
  obtain⟨g,n,cap,sz,O,H,z⟩:=h;obtain⟨l',I,rfl|⟨g',n',R,el,O1,Y,N,rfl⟩⟩:=J k _ H;·exact⟨g,n,cap,sz,O,I,z⟩
  ·cases N;exact⟨g,n,cap,sz,Y,I,z⟩
 |clo f ids=>obtain⟨gs,H,z,I⟩:=h;exact⟨gs,H,λk id g N e2=>E _ _ (z k id g N e2) rfl,I⟩
 |mp k=>obtain⟨g,H,z⟩:=h;exact⟨g,E _ _ H rfl,z⟩
 |full p=>exact h|ifc=>exact h
theorem RelA.like(z:∀(k:Nat) (l:Loc),θ[k]? =some l->∃l',θ'[k]? =some l'/\l.like l'){v:Value}{x:AV}(h:RelA θ D w v x):RelA θ' D w v x:=by
 cases x with
 |b x=>exact RelB.like z h|agg xs=>obtain⟨vs,J,E,H⟩:=h;exact⟨vs,J,E,λi u x I N=>(H i u x I N).like z⟩
 |tup xs=>obtain⟨vs,J,E,H⟩:=h;exact⟨vs,J,E,λi u x I N=>(H i u x I N).like z⟩
theorem RelO.like(z:∀(k:Nat) (l:Loc),θ[k]? =some l->∃l',θ'[k]? =some l'/\l.like l'){l:Loc}{o:AObj}(h:RelO θ D w l o):RelO θ' D w l o:=by
 cases l<;>cases o<;>simp only[RelO]at h⊢<;>try exact h
 case blk.box=>obtain⟨c,E,J,N⟩:=h;exact⟨c,E,J,λi u x hu R=>(N i u x hu R).like z⟩
 case hdr.tree hole=>obtain⟨E,J,N,h4,h5,c,Os,h6,h7,h8,h9,I,H⟩:=h;refine⟨E,J,N,h4,h5,c,Os,h6,h7,h8,h9,I,λi j x y R hy=>?_⟩;obtain⟨u,Y,U⟩:=H i j x y R hy;refine⟨u,Y,?_⟩;cases hq:bS hole i j with|none=>grind|some b=>rw[hq]at U;exact U.like z
end
theorem Ki:∀{k:K},k.allF=true->∀j,k.at j=none
 | .e,_,_=>rfl
 | .f _,_,0=>rfl
 | .f r,h,j+1=>Ki (k:=r) h j
 | .s _ _ _ _,h,_=>by cases h
def mJ(q:TypeId×Nat×K)(L:List PV):AObj:=if q.2.2.allF then .vec q.1 q.2.1 L else .tree q.1 q.2.1 q.2.2 L none
theorem RelT.inner{D:Nat->Prop}{w:World}{q:TypeId×Nat×K}{O:Nat->Prop}{v:Value}{p:PV}{L:List PV}(h:RelT D w (some q) O v p)(hp:p=nz q.2.1 L): ∃l:Loc,l.head v/\(∀b,l.has b->O b)/\l.fixed=false/\∀θ,RelO θ D w l (mJ q L):=by
 cases h with
 |nil q O a=>
  have:L=[]:=by cases L with|nil=>rfl|cons x L=>simp[nz]at hp
  subst this;refine⟨.nil a,rfl,λ_ h=>h.elim,rfl,λθ=>?_⟩;unfold mJ;split;·rfl
  ·exact⟨rfl,rfl⟩
 |hdr e sz k O g cap xs p cs val Os J hcap hmax hsz hg hcs I hOs hdj hc hr=>
  have:xs=L:=Qu (J.symm.trans hp);subst this;refine⟨.hdr g xs.length cap sz (λb=>O b/\b≠g),rfl,λb H=>H.elim (λe=>e▸I) λh=>h.1,rfl,λθ=>?_⟩;unfold mJ;split;·rename_i N;refine⟨rfl,rfl,hcap,hmax,hsz,cs,hg,hcs,λi j x y z E=>⟨val i j,hc i j x y z E,?_⟩⟩;have:=hr i j x y z E;rw[Ki N j]at this;cases this with|flat _ _ _ h=>omega
  ·exact⟨rfl,rfl,hcap,hmax,hsz,cs,Os,hg,hcs,λi j b H=>⟨hOs i j b H,(hOs i j b H).2⟩,hdj,λ_ _ _ h=>(nomatch h),λi j x y z E=>⟨val i j,hc i j x y z E,hr i j x y z E⟩⟩
theorem P9{α β:Type} [Inhabited α]{p:Nat->Nat->α->Prop}{q:Nat->Nat->β->Prop}(h:∀i j y,q i j y->∃u,p i j u):∃f:Nat->Nat->α,∀i j y,q i j y->p i j (f i j):=by refine⟨λi j=>bb_ (p i j),λi j y a=>?_⟩;exact aX_ (h i j y a)
theorem RelT.outer{θ:List Loc}{D:Nat->Prop}{w:World}{q:TypeId×Nat×K}{L:List PV}{l:Loc}{v:Value}(hl:l.head v)(h:RelO θ D w l (mJ q L)):RelT D w (some q) l.has v (nz q.2.1 L):=by
 unfold mJ at h;split at h
 ·rename_i hk;cases l<;>simp only[RelO,Loc.head]at h hl;·subst h;subst hl;exact .nil _ _ _
  ·rename_i g n cap s O;obtain⟨rfl,rfl,R,U,Y,cs,h6,h7,h8⟩:=h;subst hl;obtain⟨val,E⟩:=P9 (α:=Value) (β:=PV×PV) (p:=λi j u=>∀x y,L[i]? =some x->x.cells[j]? =some y->cs[i*q.2.1+j]? =some u/\RelP D w u y) (q:=λi j z=>L[i]? =some z.1/\z.1.cells[j]? =some z.2) (λi j z J=>by obtain⟨u,e1,e2⟩:=h8 i j _ _ J.1 J.2;exact⟨u,λx y H I=>by grind⟩)
   exact .hdr q.1 q.2.1 q.2.2 _ g cap L _ cs val (λ_ _ _=>False) rfl R U Y h6 h7 (.inl rfl) (λ_ _ _ h=>h.elim) (λ_ _ _ _ _ h _=>h.elim) (λi j x y H I=>(E i j (x,y) ⟨H,I⟩ x y H I).1) λi j x y H I=>by rw[Ki hk j];exact .flat _ _ _ (E i j (x,y) ⟨H,I⟩ x y H I).2
 ·cases l<;>simp only[RelO,Loc.head]at h hl;·obtain⟨rfl,-⟩:=h;subst hl;exact .nil _ _ _
  ·rename_i g n cap s O;obtain⟨rfl,rfl,R,U,Y,cs,Os,h6,h7,h9,N,-,h8⟩:=h;subst hl;obtain⟨val,E⟩:=P9 (α:=Value) (β:=PV×PV) (p:=λi j u=>∀x y,L[i]? =some x->x.cells[j]? =some y->cs[i*q.2.1+j]? =some u/\RelT D w (q.2.2.at j) (Os i j) u y) (q:=λi j z=>L[i]? =some z.1/\z.1.cells[j]? =some z.2) (λi j z J=>by obtain⟨u,e1,e2⟩:=h8 i j _ _ J.1 J.2;exact⟨u,λx y H I=>by rw[J.1]at H;cases H;rw[J.2]at I;cases I;exact⟨e1,e2⟩⟩)
   exact .hdr q.1 q.2.1 q.2.2 _ g cap L _ cs val Os rfl R U Y h6 h7 (.inl rfl) (λi j b h=>⟨.inr (h9 i j b h).1,(h9 i j b h).2⟩) N (λi j x y H I=>(E i j (x,y) ⟨H,I⟩ x y H I).1) λi j x y H I=>(E i j (x,y) ⟨H,I⟩ x y H I).2
theorem PT{m:Nat}{st:St}{id i j e sz:Nat}{k:K}{xs:List PV}{x y:PV}{q:TypeId×Nat×K}{L:List PV}(ho:st.hp[id]? =some (.tree e sz k xs none))(hx:xs[i]? =some x)(hy:x.cells[j]? =some y)(hk:k.at j=some q)(hL:y=nz q.2.1 L): Weak m st ⟨st.fr,st.hp.set id (.tree e sz k xs (some (i,j,.sl st.hp.length)))++[mJ q L]⟩:=by
 rintro c a w _ ⟨θ,D,A⟩;have F:id<st.hp.length:=(a_.1 ho).1;have Bk:id<θ.length:=by rw[A.ok.len];exact F
 obtain⟨l,hl⟩:∃l,θ[id]? =some l:=⟨θ[id],d_ Bk⟩;have gc:=A.ok.objs id l _ hl ho;cases l<;>simp only[RelO]at gc;·rw[gc.1]at hx;simp at hx
 rename_i g n cap s O;obtain⟨rfl,rfl,h3,h4,h5,cv,Os,h6,h7,h8,h9,-,qr⟩:=gc;obtain⟨u,DB,ph⟩:=qr i j x y hx hy;simp only[bS]at ph;rw[hk]at ph;obtain⟨li,wr,T,DM,At⟩:=ph.inner hL;let O1:Nat->Prop:=λb=>O b/\¬Os i j b;let l1:Loc:=.hdr g xs.length cap s O1;let θ':=θ.set id l1++[li];have R:(θ.set id l1).length=st.hp.length:=by simp[A.ok.len]
 have E:∀(k:Nat) (l:Loc),θ[k]? =some l->∃l',θ'[k]? =some l'/\l.like l':=λk l N=>by
  have ur:k<(θ.set id l1).length:=by simp;exact(a_.1 N).1
  by_cases rg:k=id;·subst rg;rw[hl]at N;cases N;exact⟨l1,by show(θ.set k l1++[li])[k]? =_;rw[k_ ur,p_ Bk],.inr ⟨g,xs.length,cap,s,O,O1,rfl,rfl⟩⟩
  ·exact⟨l,by show(θ.set id l1++[li])[k]? =_;rw[k_ ur,i_ (Ne.symm rg)];exact N,.inl rfl⟩
 have C:∀(p:Nat) (v:Loc),θ'[p]? =some v->(p≠id/\θ[p]? =some v)\/(p=id/\v=l1)\/(p=st.hp.length/\v=li):=λp v hp=>by rcases F_ p (θ.set id l1).length with H|H;all_goals grind
 have B:∀(p:Nat) (v:Loc) (b:Nat),θ'[p]? =some v->v.has b->∃P U,θ[P]? =some U/\U.has b/\((p≠id/\p<st.hp.length/\P=p)\/(P=id/\((p=id/\¬Os i j b)\/(p=st.hp.length/\Os i j b)))):=λp v b hp f=>by
  rcases C p v hp with⟨H,h2⟩|⟨rfl,rfl⟩|⟨rfl,rfl⟩;·exact⟨p,v,h2,f,.inl ⟨H,by rw[<-A.ok.len];exact(a_.1 h2).1,rfl⟩⟩
  ·refine⟨_,_,hl,f.imp (λh=>h) λh=>h.1,.inr ⟨rfl,.inl ⟨rfl,λh=>?_⟩⟩⟩;rcases f with rfl|f;·exact(h8 i j _ h).2 rfl
   ·exact f.2 h
  ·exact⟨_,_,hl,.inr (h8 i j b (T b f)).1,.inr ⟨rfl,.inr ⟨rfl,T b f⟩⟩⟩
 refine⟨θ',D,A.size,A.defers,⟨?_,A.ok.dlt,λp r v lr b hp hr CT Dg=>?_,λp v b hp f=>?_,λp v o hp el=>?_⟩,A.keep,A.dsub,A.dnew,λp v b hp f=>?_,λt z hz=>(A.fr t z hz).like E,λt lt ht hf=>?_⟩;·simp[θ',A.ok.len]
 ·obtain⟨P,U,J,Q,e3⟩:=B p v b hp CT;obtain⟨r0,m0,f1,f2,f3⟩:=B r lr b hr Dg;have:=A.ok.inj P r0 U m0 b J f1 Q f2;grind
 ·obtain⟨P,U,J,Q,_⟩:=B p v b hp f;exact A.ok.olt P U b J Q
 ·have M:(st.hp.set id (.tree e s k xs (some (i,j,.sl st.hp.length)))).length=st.hp.length:=by simp
  rcases C p v hp with⟨H,h2⟩|⟨rfl,rfl⟩|⟨rfl,rfl⟩
  ·have DA:p<st.hp.length:=by rw[<-A.ok.len];exact(a_.1 h2).1
   have d:(st.hp.set id (.tree e s k xs (some (i,j,.sl st.hp.length))))[p]? =some o:=by rw[<-el];exact(k_ (by rw[M];exact DA)).symm
   rw[i_ (Ne.symm H)]at d;exact(A.ok.objs p v o h2 d).like E
  ·have d:(st.hp.set p (.tree e s k xs (some (i,j,.sl st.hp.length))))[p]? =some o:=by rw[<-el];exact(k_ (by rw[M];exact F)).symm
   rw[p_ F]at d;cases d;refine⟨rfl,rfl,h3,h4,h5,cv,λi' I b=>Os i' I b/\¬(i'=i/\I=j),h6,h7,λi' I b f=>⟨⟨(h8 i' I b f.1).1,λh=>f.2 (h9 i' I i j b f.1 h)⟩,(h8 i' I b f.1).2⟩,λi1 j1 i2 j2 b BT CD=>h9 i1 j1 i2 j2 b BT.1 CD.1,λi' I b f=>by cases f;exact⟨(a_.1 hx).1,by rw[hk];rfl⟩,λi' I x' y' DE DH=>?_⟩
   obtain⟨u',J,Q⟩:=qr i' I x' y' DE DH;refine⟨u',J,?_⟩;by_cases Y:i=i'/\j=I;·obtain⟨rfl,rfl⟩:=Y;simp only[bS,and_self,if_true];rw[DB]at J;cases J;exact⟨li,by show(θ.set p l1++[li])[st.hp.length]? =_;rw[n_ (by rw[R];omega),R];simp,wr⟩
   ·simp only[bS,if_neg Y];simp only[bS]at Q;refine Q.mono (λ_ h=>h) (λ_ _=>rfl) (λ_ _=>rfl) |>.wide λb f=>⟨f,λh=>Y ⟨h.1.symm,h.2.symm⟩⟩
  ·have d:([mJ q L]:List AObj)[st.hp.length - (st.hp.set id (.tree e s k xs (some (i,j,.sl st.hp.length)))).length]? =some o:=by rw[<-el];exact(n_ (by rw[M];omega)).symm
   rw[M,aL_]at d;cases d;exact At _
 ·obtain⟨P,U,J,Q,_⟩:=B p v b hp f;exact A.onew P U b J Q
 ·have H:=A.fix t lt ht hf;by_cases Bx:t=id;·subst Bx;rw[hl]at H;cases H;cases hf
  ·show(θ.set id l1++[li])[t]? =_;rw[k_ (by simp;exact(a_.1 H).1),i_ (Ne.symm Bx)];exact H
def PV.setc(x:PV)(j:Nat)(y:PV):PV:=match x with
 | .agg cs=>.agg (cs.set j y)
 |_=>y
theorem Ag{x y:PV}{j:Nat}(a:j<x.cells.length)(b:y.cells=[y]):(x.setc j y).cells=x.cells.set j y:=by
 cases x with
 |agg cs=>rfl|_=>
  simp only[PV.cells,H_,M_]at a;obtain rfl:j=0:=by omega
  exact b
theorem C9(sz:Nat)(L:List PV):(nz sz L).cells=[nz sz L]:=by cases L<;>rfl
theorem PR{m:Nat}{st:St}{id kid i j e sz:Nat}{k:K}{xs:List PV}{x:PV}{q:TypeId×Nat×K}{L:List PV}(ho:st.hp[id]? =some (.tree e sz k xs (some (i,j,.sl kid))))(hx:xs[i]? =some x)(hj:j<x.cells.length)(hk:k.at j=some q)(qr:st.hp[kid]? =some (mJ q L))(CT:kid≠id): Weak m st ⟨st.fr.map λx=>(x.1,x.2.kill kid),((st.hp.map (AObj.kill kid)).set kid .gone).set id (.tree e sz k (xs.set i (x.setc j (nz q.2.1 L))) none)⟩:=by
 rintro c a w _ ⟨θ,D,A⟩;have ur:id<st.hp.length:=(a_.1 ho).1;have Q:kid<st.hp.length:=(a_.1 qr).1;have JT:id<θ.length:=by rw[A.ok.len];exact ur
 have DB:kid<θ.length:=by rw[A.ok.len];exact Q
 obtain⟨l,hl⟩:∃l,θ[id]? =some l:=⟨θ[id],d_ JT⟩;obtain⟨l2,B⟩:∃l,θ[kid]? =some l:=⟨θ[kid],d_ DB⟩;have Dg:=A.ok.objs id l _ hl ho;have E:=A.ok.objs kid l2 _ B qr;cases l<;>simp only[RelO]at Dg;·cases Dg.2
 rename_i g n cap s O;obtain⟨rfl,rfl,h3,h4,h5,cv,Os,h6,h7,h8,h9,Nd,At⟩:=Dg;have hi:i<xs.length:=(a_.1 hx).1;obtain⟨u,MT,Fm⟩:=At i j x _ hx (d_ hj);simp only[bS,and_self,if_true]at Fm;obtain⟨Pa,rg,BT⟩:=Fm;rw[B]at rg;cases rg;have DQ:=RelT.outer BT E;have P:l2.fixed=false:=by unfold mJ at E;split at E<;>cases l2<;>simp only[RelO]at E<;>rfl
 have DM:∀g,l2≠.blk g:=λg e=>by subst e;cases P
 have DP:∀g,l2≠.mp g:=λg e=>by subst e;cases P
 let O1:Nat->Prop:=λb=>O b\/l2.has b;let l1:Loc:=.hdr g xs.length cap s O1;let H:=θ.set kid .no;let θ':=H.set id l1;have DE:H[id]? =some (.hdr g xs.length cap s O):=by show(θ.set kid .no)[id]? =_;rw[i_ CT];exact hl
 have DH:id<H.length:=(a_.1 DE).1;have R:∀(k:Nat) (l:Loc),H[k]? =some l->∃l',θ'[k]? =some l'/\l.like l':=λk l CD=>by
  by_cases DA:k=id;·subst DA;rw[DE]at CD;cases CD;exact⟨l1,p_ DH,.inr ⟨g,xs.length,cap,s,O,O1,rfl,rfl⟩⟩
  ·exact⟨l,by show(H.set id l1)[k]? =_;rw[i_ (Ne.symm DA)];exact CD,.inl rfl⟩
 have M:∀(p:Nat) (v:Loc),θ'[p]? =some v->(p≠id/\p≠kid/\θ[p]? =some v)\/(p=id/\v=l1)\/(p=kid/\v= .no):=λp v hp=>by grind
 have C:∀(p:Nat) (v:Loc) (b:Nat),θ'[p]? =some v->v.has b->∃T l0,θ[T]? =some l0/\l0.has b/\((p≠id/\p≠kid/\T=p)\/(p=id/\(T=id\/T=kid))):=λp v b hp d=>by
  rcases M p v hp with⟨Y,wr,h2⟩|⟨rfl,rfl⟩|⟨rfl,rfl⟩;·exact⟨p,v,h2,d,.inl ⟨Y,wr,rfl⟩⟩
  ·rcases d with d|d|d;·exact⟨_,_,hl,.inl d,.inr ⟨rfl,.inl rfl⟩⟩
   ·exact⟨_,_,hl,.inr d,.inr ⟨rfl,.inl rfl⟩⟩
   ·exact⟨_,_,B,d,.inr ⟨rfl,.inr rfl⟩⟩
  ·exact d.elim
 refine⟨θ',D,A.size,A.defers,⟨?_,A.ok.dlt,λp r v lr b hp hr Hx In=>?_,λp v b hp d=>?_,λp v o hp KK=>?_⟩,A.keep,A.dsub,A.dnew,λp v b hp d=>?_,λt z hz=>?_,λt lt ht hf=>?_⟩;·simp[θ',H,A.ok.len]
 ·obtain⟨T,l0,U,J,e3⟩:=C p v b hp Hx;obtain⟨r0,m0,f1,f2,f3⟩:=C r lr b hr In;have:=A.ok.inj T r0 l0 m0 b U f1 J f2;omega
 ·obtain⟨T,l0,U,J,_⟩:=C p v b hp d;exact A.ok.olt T l0 b U J
 ·have f:(((st.hp.map (AObj.kill kid)).set kid .gone).set id (.tree e s k (xs.set i (x.setc j (nz q.2.1 L))) none))[p]? =some o:=KK;rcases M p v hp with⟨Y,wr,h2⟩|⟨rfl,rfl⟩|⟨rfl,rfl⟩;·rw[i_ (Ne.symm Y),i_ (Ne.symm wr),W_]at f;obtain⟨o0,Bk,rfl⟩:=c_.1 f;exact((A.ok.objs p v o0 h2 Bk).kill B DM DP).like R
  ·rw[p_ (by simp;exact ur)]at f;cases f;have N:∀b,l2.has b->¬(b=g\/O b):=λb d Bx=>CT (A.ok.inj kid p l2 _ b B hl d Bx);refine⟨rfl,by simp,h3,h4,λy hy=>?_,cv,λi' I b=>(i'=i/\I=j/\l2.has b)\/(¬(i'=i/\I=j)/\Os i' I b),h6,h7,λi' I b d=>?_,λi1 j1 i2 j2 b GS Bx=>?_,λ_ _ _ h=>(nomatch h),λi' I x' y' ph F=>?_⟩
   ·rcases al_ hy with h|h;·exact h5 y h
    ·subst h;rw[Ag hj (C9 _ _),ax_];exact h5 x (h_ hx)
   ·rcases d with⟨_,_,d⟩|⟨_,d⟩;·exact⟨.inr d,λe=>N b d (.inl e)⟩
    ·exact⟨.inl (h8 i' I b d).1,(h8 i' I b d).2⟩
   ·rcases GS with⟨a1,a2,a3⟩|⟨a1,a2⟩<;>rcases Bx with⟨b1,b2,b3⟩|⟨b1,b2⟩;·exact⟨a1.trans b1.symm,a2.trans b2.symm⟩
    ·exact(N b a3 (.inr (h8 _ _ b b2).1)).elim
    ·exact(N b b3 (.inr (h8 _ _ b a2).1)).elim
    ·exact h9 _ _ _ _ b a2 b2
   ·simp only[bS];by_cases el:i'=i
    ·subst el;rw[p_ hi]at ph;cases ph;rw[Ag hj (C9 _ _)]at F;by_cases gc:I=j;·subst gc;rw[p_ hj]at F;cases F;exact⟨u,MT,by rw[hk];exact DQ.wide λb d=>.inl ⟨rfl,rfl,d⟩⟩
     ·rw[i_ (Ne.symm gc)]at F;obtain⟨u',U,J⟩:=At i' I x y' hx F;simp only[bS,true_and,if_neg (show ¬(j=I)from λh=>gc h.symm)]at J;exact⟨u',U,J.wide λb d=>.inr ⟨λh=>gc h.2,d⟩⟩
    ·rw[i_ (Ne.symm el)]at ph;obtain⟨u',U,J⟩:=At i' I x' y' ph F;simp only[bS,if_neg (show ¬(i=i'/\j=I)from λh=>el h.1.symm)]at J;exact⟨u',U,J.wide λb d=>.inr ⟨λh=>el h.1,d⟩⟩
  ·rw[i_ (Ne.symm CT),p_ (by simp;exact Q)]at f;cases f;trivial
 ·obtain⟨T,l0,U,J,_⟩:=C p v b hp d;exact A.onew T l0 b U J
 ·have Fr:look (st.fr.map λx=>(x.1,x.2.kill kid)) t=some z:=hz;rw[oL]at Fr;obtain⟨z0,Bk,rfl⟩:=c_.1 Fr;exact((A.fr t z0 Bk).kill B DM DP).like R
 ·have Y:=A.fix t lt ht hf;by_cases DS:t=id;·subst DS;rw[hl]at Y;cases Y;cases hf
  ·by_cases Fk:t=kid;·subst Fk;rw[B]at Y;cases Y;rw[P]at hf;cases hf
   ·show((θ.set kid .no).set id l1)[t]? =_;rw[i_ (Ne.symm DS),i_ (Ne.symm Fk)];exact Y
section
variable {P:Program}
theorem ND{fn:Func}{rs:List RV}{K:Fo->Prop}{w w':World}{D:Nat->Prop}{c:Ctx}{st:St}{a:Act}(hn:c.n=fn.ntmps)(hw:c.w0=w)(hD:c.D0=D)(hO:c.O0=owns []) (F:fn.results.toList.mapM (mq P)=some rs) (hr:Rel c st a w') {ys:List AV} {r J:AV} {s:List AObj} (ph:rs.mapM (Im st)=some ys) (H:Jl ys r) (gc:∀T,Weak 0 ⟨[(T,r)],st.hp⟩ ⟨[(T,J)],s⟩) (hK:K (some (J,s))): ∃v,(results fn a.tmps).run P w'= .ok v w'/\Back [] D w K (.returned v) w':=by
 obtain⟨θ',D',j⟩:=hr;have z:∀(l:List ResultVar) (L:List RV) (pl:List AV),l.mapM (mq P)=some L->L.mapM (Im st)=some pl->∃b:List Value,(l.mapM (Va a.tmps)).run P w'= .ok b w'/\b.length=pl.length/\∀(i:Nat) (u:Value) (q:AV),b[i]? =some u->pl[i]? =some q->RelA θ' D' w' u q:=by
  intro l;induction l with
  |nil=>intro L pl A B;simp at A;subst A;simp at B;subst B;simp|cons r l ih=>
   intro L pl A B;simp only[A_,B_,K_,b_,g_]at A;obtain⟨rv,el,rg,Y,rfl⟩:=A;simp only[A_,B_,K_,b_,g_]at B;obtain⟨q0,R,qr,Q,rfl⟩:=B;obtain⟨u0,M,e2⟩:=NG j el R;obtain⟨b,N,e4,e5⟩:=ih rg qr Y Q;refine⟨u0::b,?_,by simp[e4],λi u q hu hq=>?_⟩;·rw[A_,Sem.run_bind,M];simp only[Result.andThen_ok,Sem.run_bind,N,Sem.run_pure]
   grind
 obtain⟨b,M,e2,N⟩:=z _ _ _ F ph;have g:(results fn a.tmps).run P w'= .ok (if h:b.toArray.size=1 then b.toArray[0]else .tuple b.toArray) w':=by rw[GF,aj_];simp only[Sem.run_bind,Sem.run_map];rw[M];rfl
 have I:=NB e2 N H;generalize hv:(if h:b.toArray.size=1 then b.toArray[0]else .tuple b.toArray)=v at g I;have hsz:a.tmps.size=fn.ntmps:=by rw[<-hn];exact j.size
 have p:=c.gk;have d:=j.keep;have C:=j.dsub;have n:=j.dnew;have E:=j.onew;rw[hw,hO]at p d;rw[hD]at C n p;rw[hw,hO]at n E;obtain⟨θ2,D2,x⟩:=gc fn.ntmps ⟨fn.ntmps+1,w,D,owns [],[],[],p⟩ {tmps:=a.tmps.push v,defers:=[]} w' (by simp)
  ⟨θ',D',by simp[hsz],rfl,j.ok,d,C,n,E,(λk y f=>by
   simp only[look]at f;split at f
   ·rename_i O;cases f;subst O;have:(a.tmps.push v).getD fn.ntmps undef=v:=by rw[<-hsz];simp[ai_]
    rw[this];exact I
   ·cases f),λk l f=>by simp at f⟩
 have U:RelA θ2 D2 w' v J:=by
  have:=x.fr fn.ntmps J (by simp[look]);have e:(a.tmps.push v).getD fn.ntmps undef=v:=by rw[<-hsz];simp[ai_]
  rw[e]at this;exact this
 exact⟨_,g,.inl ⟨_,J,s,θ2,D2,rfl,hK,U,x.ok,x.keep,x.dsub,x.dnew,x.onew,λk l f=>by simp at f,Nat.zero_le _⟩⟩
structure Catch(P:Program)(h:FuncId)(CH:Code):Prop where
 ex:∃hn j t1 t2 p1 p2 a1 a2,P.funcs[h]? =some hn/\hn.ntmps=5/\hn.results= #[]/\
  hn.body=some (.seq (.region j #[⟨some 2,.call {callee:=.builtin .recover,args:= #[],argTypes:= #[]},t1,p1,a1,none⟩,⟨some 3,.binOp .neq t1 (.tmp 2) (.const .nilIface) t1,t2,p2,a2,none⟩] false) (.cond (.tmp 3) CH .skip))/\
  (∃ms,P.underlying t1=some (.interface ms))/\(hn.name== "runtime.NumGoroutine")=false
theorem Catch.idle{h:FuncId}{CH:Code}(hc:Catch P h CH)(U Y:Value)(w:World):CallsD P h #[U,Y] .returning w λe u' w'=>e= .returned (.tuple #[])/\u'= .returning/\w'=w:=by obtain⟨hn,j,t1,t2,p1,p2,a1,a2,N,E,I,J,⟨ms,H⟩,_⟩:=hc.ex;refine callsD_of_wpS N J λz cs R=>?_;apply wpS_seq;apply wpS_region;simp[wpOpsS,go_sem,recoverD,R,E,Exit.thenS,H];refine wpS_cond (t:=false) (by simp[Act.eval,z_]) ?_;simp only[s_,if_false];refine wpS_of_wp (wp_skip ?_);cases z;simp_all[bodyPostS,results]
theorem Catch.panicking{h:FuncId}{CH:Code}(hc:Catch P h CH)(Y pb:Value)(w:World)(t:TypeId)(v:Value){Post:World->Prop} (z:∀x y,CH.wp P (λe N w'=>(e= .normal\/e= .ret)/\N.defers=[]/\Post w') {tmps:= #[Y,pb,x,y,undef],defers:=[]} w): CallsD P h #[Y,pb] (.panicking [{v:=.iface t v,recovered:=false}]) w λe u' w'=>e= .returned (.tuple #[])/\u'= .panicking [{v:=.iface t v,recovered:=true}]/\Post w':=by obtain⟨hn,j,t1,t2,p1,p2,a1,a2,hf,H,U,hb,⟨ms,J⟩,_⟩:=hc.ex;refine callsD_of_wpS hf hb λR cs hu=>?_;apply wpS_seq;apply wpS_region;simp[wpOpsS,go_sem,recoverD,hu,H,Exit.thenS,J];refine wpS_cond (t:=true) (by simp[Act.eval,z_]) ?_;simp only[if_true];refine wpS_of_wp (wp_mono (z _ _) λe N w' he=>?_);obtain⟨E,el,I⟩:=he;rcases E with rfl|rfl<;>simp_all[bodyPostS,results]
theorem Inv.loose{c:Ctx}{θ:List Loc}{D:Nat->Prop}{st:St}{a:Act}{w:World}{ds:List Deferred}{th:List Loc}(h:Inv c θ D st a w)(z:∀(k:Nat) (l:Loc),th[k]? =some l->l.fixed=true->θ[k]? =some l):Inv ⟨c.n,c.w0,c.D0,c.O0,ds,th,c.gk⟩ θ D st {tmps:=a.tmps,defers:=ds} w:=⟨h.size,rfl,h.ok,h.keep,h.dsub,h.dnew,h.onew,h.fr,z⟩
def Yl(P:Program)(b:AC)(a:List RV)(ta tb:Nat)(K:Fo->Prop):AE->St->Prop
 | .normal,st| .ret,st=>DR 0 a K .normal st
 | .exit _,_=>False
 | .pan,st=>W 2 (λst=>look st.fr ta=some (.b (.ptr 0 0))/\look st.fr tb=some (.b (.ptr 1 0))/\
  LS P 2 b (λe s=>(e= .normal\/e= .ret)/\DR 0 a K .normal ⟨[(ta,.b (.ptr 0 0)),(tb,.b (.ptr 1 0))],s.hp⟩) ⟨[(0,.b (.ptr 0 0)),(1,.b (.ptr 1 0))],st.hp⟩) st
theorem Oh{f h:FuncId}{fn:Func}{CA CB CH:Code}{xa xb xh:AC}{rs:List RV}{xs:List AV}{K:Fo->Prop}{ta tb t8 j:Nat}{y3 y4:TypeId}{p3 p4:String}{a3 a4:Array Edge}(hm:P.follows .mixedOrders=true)(hf:P.funcs[f]? =some fn) (hb:fn.body=some (.seq CA (.seq (.region j #[⟨some t8,.makeFunc (.func h) #[] #[.tmp ta,.tmp tb],y3,p3,a3,none⟩,⟨none,.defer {callee:=.value (.tmp t8),args:= #[],argTypes:= #[]},y4,p4,a4,none⟩] false) CB))) (Dg:bW P fn.ntmps CA=some xa.canon) (wr:xa.okB=true) (DA:bW P fn.ntmps CB=some xb.canon) (At:xb.okB=true) (DB:bW P 5 CH=some xh.canon) (Bk:xh.okB=true) (d:Catch P h CH) (M:fn.results.toList.mapM (mq P)=some rs) (Pc:xs.length<=fn.ntmps) (Hx:t8<fn.ntmps) (h0:LS P 0 xa (λe st=>e= .normal/\(look st.fr t8=none/\look st.fr ta=some (.b (.ptr 0 0))/\look st.fr tb=some (.b (.ptr 1 0))/\st.hp.length=2)/\LS P 2 xb (Yl P xh rs ta tb K) st) ⟨vO 0 xs,[]⟩):ACalls P f xs [] K:=by
 intro w θ D vs hG E Rg RK;have Bx:θ.length=0:=E.len;obtain rfl:θ=[]:=w_ Bx;have hO:∀b,D b->¬owns [] b:=λb hb ⟨i,l,hi,hl⟩=>by grind
 refine calls_of_wp_defers hf hb ?_;apply wp_seq;have C:∀w',Keep (owns []) w w'->GW D w':=λw' p=>hG.mono p hO λ_ h=>h;refine wp_mono (xm hm (m:=0) (c:=⟨fn.ntmps,w,D,owns [],[],[],C⟩) rfl (by simp) CA xa _ ⟨vO 0 xs,[]⟩ {tmps:=vs.toArray++z_ (fn.ntmps - vs.toArray.size) undef,defers:=[]} w Dg wr h0 ?_) λe I w1 he=>?_
 ·refine⟨[],D,by grind,rfl,E,Keep.refl _ _,λ_ h=>h,λ_ h=>.inl h,λi l g hi hg=>by grind,λk y p=>?_,λ_ _ h _=>h⟩;obtain⟨i,rfl,hp⟩:=z7 xs 0 k y p;have hi:i<vs.length:=by grind
  have hv:=d_ hi;have:(vs.toArray++z_ (fn.ntmps - vs.toArray.size) undef).getD (0+i) undef=vs[i]:=by simp[az_,hi]
  grind
 obtain⟨e',st,B,⟨rfl,⟨h8,DS,Fk,DQ⟩,h1⟩,n,D1,u⟩:=he;cases B;obtain⟨H,gc,In⟩:∃g,n[0]? =some (Av.Loc.blk g)/\I.tmps.getD ta undef= .pointer (some ⟨g,0,none⟩):=u.fr ta _ DS;obtain⟨gb,qr,JT⟩:∃g,n[1]? =some (Av.Loc.blk g)/\I.tmps.getD tb undef= .pointer (some ⟨g,0,none⟩):=u.fr tb _ Fk;have PA:n=[Av.Loc.blk H,Av.Loc.blk gb]:=by
  have hl:=u.ok.len;rw[DQ]at hl
  match n,hl,gc,qr with|[x,y],_,gc,qr=>grind
 show Code.wp P _ _ I w1;apply wp_seq;apply wp_region;have ph:I.tmps[ta]?.getD undef= .pointer (some ⟨H,0,none⟩):=by simpa using In
 have rg:I.tmps[tb]?.getD undef= .pointer (some ⟨gb,0,none⟩):=by simpa using JT
 have hsz:I.tmps.size=fn.ntmps:=u.size;simp[wpOps,go_sem,Instr.makeFunc,ph,rg,hsz,Hx];refine .inl (.inl ?_);have DE:I.defers=[]:=u.defers;rw[DE];generalize PJ:(Value.func (Fn.func h) #[] #[Value.pointer (some {block:=H,off:=0}),Value.pointer (some {block:=gb,off:=0})])=v8;generalize A:({target:=Target.fn (Fn.func h) #[Value.pointer (some {block:=H,off:=0}),Value.pointer (some {block:=gb,off:=0})],args:= #[]}:Deferred)=Y;have BT:Inv ⟨fn.ntmps,w,D,owns [],[Y],n,C⟩ n D1 st {tmps:=I.tmps.setIfInBounds t8 v8,defers:=[Y]} w1:=by
  refine⟨by grind,rfl,u.ok,u.keep,u.dsub,u.dnew,u.onew,λk x p=>?_,λ_ _ h _=>h⟩;have Fm:k≠t8:=λe=>by grind
  have:=u.fr k x p;simpa[Array.getD_eq_getD_getElem?,Array.getElem?_setIfInBounds,Ne.symm Fm]using this
 have N:∀w,(invoke Y.target Y.args).run P w= .ok (.enter h #[Value.pointer (some {block:=H,off:=0}),Value.pointer (some {block:=gb,off:=0})]) w:=by
  intro w;subst A;obtain⟨hn,_,_,_,_,_,_,_,DP,_,_,CT,_,PB⟩:=d.ex;have ur:¬hn.name= "runtime.NumGoroutine" :=by grind
  simp[invoke,callFunc,DP,CT,ur,go_sem]
 refine wp_mono (xm hm (m:=2) (c:=⟨fn.ntmps,w,D,owns [],[Y],n,C⟩) rfl (by grind) CB xb _ st _ w1 DA At h1 ⟨n,D1,BT⟩) λe a w' he=>?_;obtain⟨e',Nd,B,hq,θ2,D2,s⟩:=he;have L:a.defers=[Y]:=s.defers;have el:DR 0 rs K .normal Nd->Go.Leaves P fn a.tmps (Back [] D w K) a.defers .returning w':=by rintro⟨RM,hw,ys,r,T,F,r',MT,R,hK,_⟩;have hr:=hw _ _ _ (by simp) ⟨θ2,D2,s.loose (ds:=[]) (th:=[]) λ_ _ h _=>by grind⟩;obtain⟨v,e1,e2⟩:=ND rfl rfl rfl rfl M hr T F R hK;rw[L,<-A];refine leaves_cons (by simp) (by subst A;exact N w') ((d.idle _ _ w').mono ?_);rintro e u' Pb ⟨rfl,rfl,rfl⟩;exact⟨v,e1,e2⟩
 cases e' with
 |normal=>cases B;exact el hq|ret=>cases B;exact el hq|exit i=>exact hq.elim|pan=>
  obtain⟨ch,⟨t,v,rfl⟩,rfl⟩:=B;obtain⟨Pa,KK,ha,CD,hq⟩:=hq;obtain⟨θ2,D2,s⟩:=KK _ _ _ (by grind) ⟨θ2,D2,s⟩;have f1:θ2[0]? =some (Av.Loc.blk H):=s.fix 0 _ (by omega) rfl;have f2:θ2[1]? =some (Av.Loc.blk gb):=s.fix 1 _ (by omega) rfl;obtain⟨g,hg,va⟩:∃g,θ2[0]? =some (Av.Loc.blk g)/\a.tmps.getD ta undef= .pointer (some ⟨g,0,none⟩):=s.fr ta _ ha;obtain rfl:H=g:=by grind
  obtain⟨g,hg,vb⟩:∃g,θ2[1]? =some (Av.Loc.blk g)/\a.tmps.getD tb undef= .pointer (some ⟨g,0,none⟩):=s.fr tb _ CD;obtain rfl:gb=g:=by grind
  show Go.Leaves P fn a.tmps (Back [] D w K) a.defers (.panicking _) w';rw[L,<-A];refine leaves_cons (by simp) (by subst A;exact N w') ((d.panicking (Post:=λw3=>∃v,(results fn a.tmps).run P w3= .ok v w3/\Back [] D w K (.returned v) w3) _ _ w' t v λx y=>?_).mono ?_)
  ·refine wp_mono (xm hm (m:=2) (c:=⟨5,w,D,owns [],[],n,C⟩) rfl (by grind) CH xh _ _ _ w' DB Bk hq ⟨θ2,D2,by simp,rfl,s.ok,s.keep,s.dsub,s.dnew,s.onew,λk z p=>?_,s.fix⟩) λe3 a3 w3 DH=>?_
   ·simp only[look]at p;split at p;·rename_i O;cases p;subst O;exact⟨H,f1,rfl⟩
    ·split at p;·rename_i Q;cases p;subst Q;exact⟨gb,f2,rfl⟩
     grind
   ·obtain⟨e4,Pa,DM,⟨Fr,GS⟩,U,D4,J⟩:=DH;refine⟨by rcases Fr with rfl|rfl<;>cases DM<;>simp,J.defers,?_⟩;obtain⟨RT,hw,ys,r,T,F,r',MT,R,hK,_⟩:=GS;have f3:U[0]? =some (Av.Loc.blk H):=J.fix 0 _ (by omega) rfl;have f4:U[1]? =some (Av.Loc.blk gb):=J.fix 1 _ (by omega) rfl;have hr:=hw ⟨fn.ntmps,w,D,owns [],[],[],C⟩ {tmps:=a.tmps,defers:=[]} w3 (by simp) ⟨U,D4,s.size,rfl,J.ok,J.keep,J.dsub,J.dnew,J.onew,λk z p=>(by
     simp only[look]at p;split at p;·rename_i O;cases p;subst O;exact⟨H,f3,va⟩
     ·split at p;·rename_i Q;cases p;subst Q;exact⟨gb,f4,vb⟩
      grind),λ_ _ h _=>by grind⟩
    exact ND (a:={tmps:=a.tmps,defers:=[]}) rfl rfl rfl rfl M hr T F R hK
  ·rintro e u' Pb ⟨rfl,rfl,v,e1,e2⟩;exact⟨v,e1,e2⟩
end
end Go.Av
