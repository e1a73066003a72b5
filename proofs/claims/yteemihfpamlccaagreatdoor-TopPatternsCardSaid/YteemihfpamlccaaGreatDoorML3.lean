import Derived.Laws.StructEq
import Derived.Laws.CopyRow
import Derived.MapKept
import Derived.Test.YteemihfpamlccaaGreatDoorML1
import Derived.Recover
import Derived.Tactics
import Derived.Tactics2
import Derived.Laws.Pointers
set_option linter.unusedVariables false
set_option linter.unusedSimpArgs false
open Array renaming getElem?_eq_getElem->m_,getElem?_toList->q_,replicate->w_,getElem?_append_left->K_,getElem?_eq_some_iff->V_,all_eq_true'->Y_,getElem?_setIfInBounds_ne->Z_,getD->ag_,mapM_eq_mapM_toList->ai_,getElem?_append->as_,size_append->aD_,ext'->aN_
open Bool renaming and_eq_true->n_,false_eq_true->p_,not_true->ad_,or_eq_true->ae_,not_eq_true'->ak_,not_false->av_,false_or->aP_
open Classical renaming byContradiction->v_,epsilon_spec->aQ_,epsilon->aW_
open List renaming getElem?_eq_getElem->a_,getElem?_eq_some_iff->b_,mem_flatMap->f_,mem_of_getElem?->g_,getElem?_set_ne->i_,all_eq_true->j_,getElem?_append_left->k_,mem_append->l_,getElem?_set_self->o_,eq_nil_of_length_eq_zero->r_,getElem?_append_right->t_,mem_range->y_,length_cons->A_,map_cons->B_,mapM_cons->C_,mem_map->D_,getElem?_eq_none->E_,getElem?_of_mem->F_,getElem?_map->H_,mem_cons->J_,length_nil->M_,map_append->N_,length_append->Q_,range->R_,mem_filter->S_,getD->W_,length_take->X_,contains_iff_mem->aa_,eq_nil_iff_forall_not_mem->ab_,getElem?_take->ah_,drop_eq_getElem_cons->aj_,ext_getElem?->al_,cons_append->an_,filter_cons->ao_,nil_append->ar_,length_singleton->au_,mem_of_mem_drop->aw_,mem_of_mem_take->ax_,getElem?_drop->az_,flatMap_cons->aE_,nodup_append->aF_,size_toArray->aG_,drop_length->aI_,not_mem_nil->aJ_,zipIdx_cons->aK_,find?_cons->aL_,nodup_cons->aM_,take_zero->aO_,map_map->aR_,map_nil->aS_,range'->aV_
open Nat renaming le_refl->u_,lt_or_ge->z_,mul_le_mul_right->G_,pos_of_ne_zero->L_,zero_add->O_,add_mul->P_,div_lt_iff_lt_mul->U_,div_add_mod->af_,add_assoc->am_,le_mul_of_pos_right->ap_,mul_comm->aq_,one_mul->ay_,eq_zero_or_pos->aA_,mod_lt->aB_,not_lt->aC_,le_trans->aH_,add_zero->aT_,sub_self->aU_
open Option renaming bind_eq_some_iff->c_,map_eq_some_iff->d_,isSome_iff_exists->s_,map_some->x_,bind_eq_bind->I_,pure_def->T_,getD_some->ac_
open Option.some renaming inj->e_,injEq->h_
namespace Go.Av
open Go Go.RowKit
section
variable {P:Program} {o:Oper} {c:Ctx} {θ:List Loc} {D:Nat->Prop} {st:St} {a:Act} {w:World}
theorem i8{v u:Value}(h:RelP D w v (.sc u)):v=u:=by cases h;rfl
def VR(P:Program)(D:Nat->Prop)(w:World)(d:Nat):Prop:=∀(t:TypeId) (p q:PV) (b:Bool) (v u:Value) (n:Nat),eqP P d t p q=some b->d<=n->RelP D w v p->RelP D w u q->(Op.equalIn n t v u).run P w= .ok b w
theorem S3{d:Nat}(ih:VR P D w d):∀(l:List Field) (xs ys:List PV) (b:Bool) (vs us:Array Value) (n:Nat),eqP.eqFs P d l xs ys=some b->d<=n->RelP D w (.agg vs) (.agg xs)->RelP D w (.agg us) (.agg ys)->(Op.eqFields n vs us l).run P w= .ok b w:=by
 intro l
 induction l with
 |nil=>
  intro xs ys b vs us n h _ _ _
  simp only[eqP.eqFs,h_]at h
  subst h
  simp[Op.eqFields]
 |cons f l ihl=>
  intro xs ys b vs us n h hn hv hu
  simp only[eqP.eqFs]at h
  split at h
  ·cases h
  ·rename_i hname
   simp only[c_]at h
   obtain⟨i,hi,h⟩:=h
   split at h
   ·cases h
   ·rename_i hc
    simp only[not_or,aC_,not_and,Decidable.not_not,Option.isNone_iff_eq_none]at hc
    obtain⟨h1,h2,h3,h4⟩:=hc
    obtain⟨d0,hd0⟩:=Option.ne_none_iff_exists'.1 h1
    simp only[c_]at h
    obtain⟨b0,hb0,h⟩:=h
    have hsz:b9 P f.type=some i.size:=by simp[b9,hi]
    have hag1:gJ P f.type=false->i.size=1:=λe=>h4 e
    obtain⟨s1,r1⟩:=wN (off:=f.offset) (sz:=i.size) hv rfl h2 hag1
    obtain⟨s2,r2⟩:=wN (off:=f.offset) (sz:=i.size) hu rfl h3 hag1
    have p1:=ti (P:=P) (w:=w) (t:=f.type) (cs:=vs) (off:=f.offset) hd0 hsz (by rw[s1];exact h2) hag1
    have p2:=ti (P:=P) (w:=w) (t:=f.type) (cs:=us) (off:=f.offset) hd0 hsz (by rw[s2];exact h3) hag1
    have e:=ih f.type _ _ b0 _ _ n hb0 hn r1 r2
    simp only[Op.eqFields]
    rw[if_pos hname]
    simp only[Sem.run_bind,p1,p2,e,Result.andThen_ok]
    cases b0
    ·simp only[p_,if_false,h_]at h
     subst h
     simp
    ·simp only[if_true]at h
     simp only[ad_,p_,if_false]
     exact ihl xs ys b vs us n h hn hv hu
theorem JS:∀(d:Nat),VR P D w d:=by
 intro d
 induction d with
 |zero=>intro t p q b v u n h _ _ _;simp[eqP]at h
 |succ d ih=>
  intro t p q b v u n h hn hv hu
  obtain⟨m,rfl⟩:∃m,n=m+1:=⟨n - 1,by omega⟩
  unfold eqP at h
  split at h
  ·rename_i ht
   rw[i8 hv,i8 hu]
   cases h
   exact run_equalIn_bool' w m t _ _ ht
  ·rename_i ht
   rw[i8 hv,i8 hu]
   split at h
   ·rename_i hk
    subst hk
    cases h
    exact run_equalIn_int w m t _ _ _ _ ht
   ·cases h
  ·rename_i ht
   rw[i8 hv,i8 hu]
   cases h
   rw[beq_toListBytes]
   exact run_equalIn_string w m t _ _ ht
  ·rename_i fs xs ys ht
   split at h
   ·cases h
   ·rename_i hs
    have hf:P.fieldsOf t=fs:=by simp[Program.fieldsOf,ht]
    cases hv with
    |agg vs _ hs1 hh1=>
     cases hu with
     |agg us _ hs2 hh2=>
      rw[run_equalIn_struct w m t vs us (by rw[hf];exact ht) (by simpa using hs),hf]
      exact S3 ih fs.toList xs ys b vs us m h (by omega) (.agg vs xs hs1 hh1) (.agg us ys hs2 hh2)
  ·cases h
theorem Ja(hI:Inv c θ D st a w){K:AV->Prop}{op:BinOp}{neg:Bool}{t t':TypeId}{fs:Array Field}{x y:Operand}(ho:o.op= .binOp op t x y t')(hop:op=if neg then .neq else .eql)(ht:P.underlying t=some (.struct fs))(hg:P.eqGuardType P.depth t=false)
 (h:jp P st (.eqT neg t (.of x) (.of y)) K):Yields P o a w (Res c θ st a K):=by
 obtain⟨ax,hx,ay,hy,p,hp,q,hq,b,hb,hk⟩:=h
 have r1:=cF (hI.get hx) hp
 have r2:=cF (hI.get hy) hq
 refine aF hI ?_ hk (RelP.sc _)
 have e:=JS (P:=P) (D:=D) (w:=w) 64 t p q b _ _ 10000 hb (by decide) r1 r2
 have hagg:∃xs ys,a.eval x= .agg xs/\a.eval y= .agg ys:=by
  unfold eqP at hb
  rw[ht]at hb
  generalize a.eval x=u1 at r1⊢
  generalize a.eval y=u2 at r2⊢
  split at hb
  ·rename_i h0;cases h0
  ·rename_i h0;cases h0
  ·rename_i h0;cases h0
  ·cases r1;cases r2;exact⟨_,_,rfl,rfl⟩
  ·cases hb
 obtain⟨xs,ys,e1,e2⟩:=hagg
 rw[e1,e2]at e
 simp only[execOp,ho,e1,e2,Sem.run_bind,run_eqGuard_agg w op t x y xs ys hg,Result.andThen_ok]
 subst hop
 cases neg
 ·simp only[p_,if_false,run_eql_struct,e,Result.andThen_ok,Sem.run_pure,Bool.false_xor]
 ·simp only[if_true,run_neq_struct,e,Result.andThen_ok,Sem.run_pure,Bool.true_xor]
theorem Iu{k:TypeId}{x:PV}:∀{l:List (PV×PV)} {i:Nat} {r:Option (Nat×PV)},uX P k x l i=some r->
 (r=none/\∀kv∈l,eqP P 64 k x kv.1=some false)\/(∃j kv,r=some (i+j,kv.2)/\l[j]? =some kv/\eqP P 64 k x kv.1=some true/\∀kv'∈l.take j,eqP P 64 k x kv'.1=some false)
 |[],i,r,h=>by simp only[uX,h_]at h;exact .inl ⟨h.symm,by simp⟩
 |kv::l,i,r,h=>by
  simp only[uX,c_]at h
  obtain⟨b,hb,h⟩:=h
  cases b
  ·simp only[p_,if_false]at h
   rcases Iu h with⟨h1,h2⟩|⟨j,kv',h1,h2,h3,h4⟩
   ·exact .inl ⟨h1,λy hy=>(J_.1 hy).elim (λe=>by rw[e];exact hb) (h2 y)⟩
   ·refine .inr ⟨j+1,kv',by rw[h1];simp;omega,by simpa using h2,h3,λy hy=>?_⟩
    simp only[List.take_succ_cons,J_]at hy
    rcases hy with rfl|hy
    ·exact hb
    ·exact h4 y hy
  ·simp only[if_true,h_]at h
   exact .inr ⟨0,kv,by rw[<-h];simp,rfl,hb,by simp⟩
theorem wu{k:TypeId}{v:Value}:∀(es:List MapEntry) (i:Nat) (f:MapEntry->Bool),(∀e∈es,(Op.equal k v e.key).run P w= .ok (f e) w)->
 (Instr.findAsking k v es i).run P w= .ok ((es.zipIdx i).find? (λe=>f e.1) |>.map λe=>(e.2,e.1.val)) w
 |[],i,f,_=>by simp[Instr.findAsking]
 |e::es,i,f,h=>by
  simp only[Instr.findAsking,Sem.run_bind,h e (by simp),Result.andThen_ok,aK_,aL_]
  cases hf:f e
  ·simp only[p_,if_false]
   exact wu es (i+1) f λy hy=>h y (by simp[hy])
  ·simp
theorem findNow_spec{d:TypeDesc}{v:Value}:∀(es:List MapEntry) (i:Nat) (f:MapEntry->Bool) {r:Option (Nat×Value)},(∀e∈es,∀b,Instr.sameNow d v e.key=some b->b=f e)->Instr.findNow d v es i=some r->
 r=((es.zipIdx i).find? (λe=>f e.1) |>.map λe=>(e.2,e.1.val))
 |[],i,f,r,_,h=>by simp only[Instr.findNow,h_]at h;subst h;simp
 |e::es,i,f,r,hs,h=>by
  simp only[Instr.findNow]at h
  simp only[aK_,aL_]
  split at h
  ·rename_i h1
   rw[<-hs e (by simp) true h1]
   simp only[h_]at h
   subst h;rfl
  ·rename_i h1
   rw[<-hs e (by simp) false h1]
   exact findNow_spec es (i+1) f (λy hy=>hs y (by simp[hy])) h
  ·cases h
theorem Vd{es:List MapEntry}{l:List (PV×PV)}{k:TypeId}{x:PV}{i:Nat}{r:Option (Nat×PV)}{f:MapEntry->Bool}(hl:es.length=l.length)(hf:∀(j:Nat) (e:MapEntry) (kv:PV×PV),es[j]? =some e->l[j]? =some kv->eqP P 64 k x kv.1=some (f e))(h:uX P k x l i=some r):
 (r=none/\(es.zipIdx i).find? (λe=>f e.1)=none)\/∃j kv e,r=some (i+j,kv.2)/\l[j]? =some kv/\es[j]? =some e/\(es.zipIdx i).find? (λe=>f e.1)=some (e,i+j):=by
 rcases Iu h with⟨h1,h2⟩|⟨j,kv,h1,h2,h3,h4⟩
 ·refine .inl ⟨h1,?_⟩
  rw[List.find?_eq_none]
  rintro⟨e,n⟩ he
  obtain⟨j,hj⟩:=F_ he
  rw[List.getElem?_zipIdx]at hj
  cases hej:es[j]? with
  |none=>rw[hej]at hj;cases hj
  |some e0=>
   rw[hej]at hj;cases hj
   obtain⟨kv,hkv⟩:=bw (l:=l) hl.symm hej
   have:=hf j _ kv hej hkv
   rw[h2 kv (g_ hkv)]at this
   cases hfe:f e<;>simp_all
 ·obtain⟨e,he⟩:=bw (l:=es) hl h2
  refine .inr ⟨j,kv,e,h1,h2,he,?_⟩
  have hlt:j<es.length:=(b_.1 he).1
  rw[List.find?_eq_some_iff_getElem]
  have hfe:=hf j e kv he h2
  rw[h3]at hfe
  refine⟨by simpa using(e_ hfe).symm,j,by simpa using hlt,?_,λm hm=>?_⟩
  ·have:es[j]=e:=(b_.1 he).2
   simp[this,Nat.add_comm]
  ·have hml:m<es.length:=by omega
   obtain⟨kv',hkv'⟩:=bw (l:=l) hl.symm (a_ hml)
   have h5:=hf m _ kv' (a_ hml) hkv'
   rw[h4 kv' (g_ (by rw[ah_,if_pos hm];exact hkv'))]at h5
   simpa using(e_ h5).symm
theorem lX(em:Bool):∀(d n:Nat) (t:TypeId) (v:Value) (p:PV),B7 P d t p=true->d<=n->RelP D w v p->(Instr.checkKey em n t v).run P w= .ok () w
 |0,n,t,v,p,h,_,_=>by simp[B7]at h
 |d+1,n,t,v,p,h,hn,hv=>by
  obtain⟨m,rfl⟩:∃m,n=m+1:=⟨n - 1,by omega⟩
  unfold B7 at h
  rw[Instr.checkKey]
  split at h
  ·rename_i ht;rw[i8 hv];simp[run_underlying ht]
  ·rename_i ht;rw[i8 hv];simp[run_underlying ht]
  ·rename_i ht;rw[i8 hv];simp[run_underlying ht]
  ·rename_i fs xs ht
   cases hv with
   |agg vs _ hs hh=>
    have hv':RelP D w (.agg vs) (.agg xs):=.agg vs xs hs hh
    simp only[Sem.run_bind,run_underlying ht,Result.andThen_ok]
    rw[<-Array.forIn_toList]
    have hall:=j_.1 h
    revert hall
    generalize fs.toList=l
    intro hall
    induction l with
    |nil=>simp
    |cons f l ih=>
     have hf:=hall f (by simp)
     simp only[n_,bne_iff_ne,ne_eq]at hf
     obtain⟨hne,hf⟩:=hf
     split at hf
     ·rename_i i hi
      simp only[n_,decide_eq_true_eq,ae_]at hf
      obtain⟨⟨⟨h1,h2⟩,h3⟩,h4⟩:=hf
      obtain⟨d0,hd0⟩:=s_.1 h1
      have hsz:b9 P f.type=some i.size:=by simp[b9,hi]
      have hag:gJ P f.type=false->i.size=1:=λe=>h3.elim (λh3=>by rw[e]at h3;cases h3) id
      obtain⟨s1,r1⟩:=wN (off:=f.offset) (sz:=i.size) hv' rfl h2 hag
      have p1:=ti (P:=P) (w:=w) (t:=f.type) (cs:=vs) (off:=f.offset) hd0 hsz (by rw[s1];exact h2) hag
      have e:=lX em d m f.type _ _ h4 (by omega) r1
      have ih':=ih λf hf=>hall f (by simp[hf])
      simp only[List.forIn_cons,Sem.run_bind,Sem.run_ite,hne,not_false_eq_true,ne_eq,if_true,p1,Result.andThen_ok,e,Sem.run_pure]
      simpa using ih'
     ·cases hf
  ·cases h
theorem Cl{k:TypeId}{v:Value}{es:Array MapEntry}{f:MapEntry->Bool}{d:TypeDesc}(hd:P.underlying k=some d)(h:∀e∈es.toList,(Op.equal k v e.key).run P w= .ok (f e) w)(hs:∀e∈es.toList,∀b,Instr.sameNow d v e.key=some b->b=f e):
 (Instr.findKey k v es.toList).run P w= .ok ((es.toList.zipIdx 0).find? (λe=>f e.1) |>.map λe=>(e.2,e.1.val)) w:=by
 simp only[Instr.findKey,Sem.run_bind,run_underlying hd,Result.andThen_ok]
 cases hn:Instr.findNow d v es.toList 0 with
 |none=>exact wu es.toList 0 f h
 |some r=>rw[findNow_spec es.toList 0 f hs hn];simp
theorem OB{k:TypeId}{d:TypeDesc}{v u:Value}{b c:Bool}(hd:P.underlying k=some d)(h:Instr.sameNow d v u=some b)(he:(Op.equal k v u).run P w= .ok c w):b=c:=by
 have h9:(Op.equal k v u)=Op.equalIn (9999+1) k v u:=rfl
 rw[h9]at he
 unfold Instr.sameNow at h
 split at h
 ·split at h
  ·rename_i hk;subst hk;cases h;rw[run_equalIn_int w 9999 k _ _ _ _ hd]at he;cases he;rfl
  ·cases h
 ·cases h;rw[run_equalIn_string w 9999 k _ _ hd,<-beq_toListBytes]at he;cases he;rfl
 ·cases h;rw[run_equalIn_bool' w 9999 k _ _ hd]at he;cases he;rfl
 ·cases h
theorem L8(hI:Inv c θ D st a w){k:TypeId}{kvs:List (PV×PV)}{es:Array MapEntry}{v:Value}{p:PV}{r:Option (Nat×PV)}(hes:es.size=kvs.length)
 (hrel:∀(i:Nat) (en:MapEntry) (kv:PV×PV),es[i]? =some en->kvs[i]? =some kv->RelP D w en.key kv.1/\RelP D w en.val kv.2) (hv:RelP D w v p) (hr:uX P k p kvs 0=some r) (hall:∀kv∈kvs,(eqP P 64 k p kv.1).isSome=true) (hd:(P.underlying k).isSome=true):
 ∃res,(Instr.findKey k v es.toList).run P w= .ok res w/\((r=none/\res=none)\/∃j kv en,r=some (j,kv.2)/\kvs[j]? =some kv/\es[j]? =some en/\res=some (j,en.val)/\eqP P 64 k p kv.1=some true):=by
 have _:=hI
 obtain⟨d,hd⟩:=s_.1 hd
 have hget:∀en∈es.toList,∃(i:Nat) (kv:PV×PV) (b:Bool),es[i]? =some en/\kvs[i]? =some kv/\eqP P 64 k p kv.1=some b/\(Op.equal k v en.key).run P w= .ok b w:=by
  intro en hen
  obtain⟨i,hi⟩:=F_ hen
  rw[q_]at hi
  have hlt:i<kvs.length:=by rw[<-hes];exact(V_.1 hi).1
  have hkv:=a_ hlt
  obtain⟨b,hb⟩:=s_.1 (hall _ (g_ hkv))
  exact⟨i,_,b,hi,hkv,hb,JS (P:=P) (D:=D) (w:=w) 64 k p _ b v en.key 10000 hb (by decide) hv (hrel i en _ hi hkv).1⟩
 classical
 let f:MapEntry->Bool:=λen=>if h:en∈es.toList then(hget en h).choose_spec.choose_spec.choose else false
 have hf:∀en,(h:en∈es.toList)->(Op.equal k v en.key).run P w= .ok (f en) w:=λen h=>by
  have:=(hget en h).choose_spec.choose_spec.choose_spec.2.2.2
  simp only[f,dif_pos h]
  exact this
 have hfind:=Cl (f:=f) hd hf λen h b hb=>OB hd hb (hf en h)
 refine⟨_,hfind,?_⟩
 have hfe:∀(j:Nat) (en:MapEntry) (kv:PV×PV),es.toList[j]? =some en->kvs[j]? =some kv->eqP P 64 k p kv.1=some (f en):=by
  intro j en kv hj hkv
  obtain⟨b,hb⟩:=s_.1 (hall _ (g_ hkv))
  have h1:=JS (P:=P) (D:=D) (w:=w) 64 k p _ b v en.key 10000 hb (by decide) hv (hrel j en kv (by rw[<-q_];exact hj) hkv).1
  have h2:=hf en (g_ hj)
  have h3:(Op.equal k v en.key).run P w= .ok b w:=h1
  rw[h2]at h3
  cases h3
  exact hb
 rcases Vd (by simpa using hes) hfe hr with⟨h1,h2⟩|⟨j,kv,en,h1,h2,h3,h4⟩
 ·exact .inl ⟨h1,by rw[h2];rfl⟩
 ·refine .inr ⟨j,kv,en,by simpa using h1,h2,by rw[<-q_];exact h3,by rw[h4];simp,?_⟩
  have:=hfe j en kv h3 h2
  rw[this]
  have:=List.find?_some h4
  simpa using this
theorem qL{g:Nat}{es:Array MapEntry}{clock:Nat}(h:w.heap[g]? =some (.map es clock)):(getObj g).run P w= .ok (.map es clock) w:=MapKept.run_getObj_map h
theorem Ks(hI:Inv c θ D st a w){K:AV->Prop}{t k e:TypeId}{m x:Operand}{okb:Bool}{z:Value}(ho:o.op= .lookup t m x okb)(ht:P.underlying t=some (.map k e))(hz:dI P e=some z)
 (h:jp P st (.lookup k e okb z (.of m) (.of x)) K):Yields P o a w (Res c θ st a K):=by
 obtain⟨am,hm,ax,hx,id,kvs,rfl,hob,p,hp,hkey,hd,hall,r,hr,hk⟩:=h
 obtain⟨g,hg,hv⟩:=hI.get hm
 obtain⟨es,clock,h1,h2,h3⟩:=hI.ok.objs id _ _ hg hob
 have hrel:=cF (hI.get hx) hp
 obtain⟨res,hres,hcase⟩:=L8 hI h2 h3 hrel hr hall hd
 have hck:∀em,(Instr.checkKey em 10000 k (a.eval x)).run P w= .ok () w:=λem=>lX em 64 10000 k _ p hkey (by decide) hrel
 simp only[dI,c_]at hz
 obtain⟨it,hit,hz1⟩:=hz
 have hzero:(zeroValue e).run P w= .ok z w:=by simp[zeroValue,typeInfo,hit,hz1]
 have fin:∀(u:Value) (q:PV) (b:Bool),RelP D w u q->(execOp a.eval o).run P w= .ok (.value (if okb then .tuple #[u,.bool b]else u)) w->K (match okb with|true=>.tup [.pv q,.pv (.sc (.bool b))]|false=>.p q)->Yields P o a w (Res c θ st a K):=by
  intro u q b hu hrun hk
  cases okb
  ·exact aF hI hrun hk hu
  ·refine aF hI hrun hk ⟨#[u,.bool b],rfl,rfl,λi v x hv hx=>?_⟩
   match i with
   |0=>simp at hv hx;subst hv;subst hx;exact hu
   |1=>simp at hv hx;subst hv;subst hx;exact RelP.sc _
   |i+2=>simp at hx
 rcases hcase with⟨rfl,rfl⟩|⟨j,kv,en,rfl,hj,hen,rfl,_⟩
 ·refine fin z (.sc z) false (RelP.sc z) ?_ (by cases okb<;>exact hk)
  simp[execOp,ho,Instr.lookup,run_underlying ht,hv,qL h1,hck,hres,hzero]
 ·refine fin en.val kv.2 true (h3 j en kv hen hj).2 ?_ (by cases okb<;>exact hk)
  simp[execOp,ho,Instr.lookup,run_underlying ht,hv,qL h1,hck,hres]
theorem OP(hI:Inv c θ D st a w){K:AV->Prop}{x:Operand}{t k e:TypeId}{cl:Call}(ho:o.op= .call cl)(hcl:cl.callee= .builtin .len)(hargs:cl.args= #[x])(htys:cl.argTypes= #[t])
 (ht:P.underlying t=some (.map k e)) (h:jp P st (.lenM k e (.of x)) K):Yields P o a w (Res c θ st a K):=by
 obtain⟨ax,hx,id,kvs,rfl,hob,hk⟩:=h
 obtain⟨g,hg,hv⟩:=hI.get hx
 obtain⟨es,clock,h1,h2,h3⟩:=hI.ok.objs id _ _ hg hob
 refine aF hI ?_ hk (RelP.sc _)
 simp[execOp,ho,resolve,hcl,hargs,htys,invoke,builtin,Builtin.len_,run_underlying ht,hv,goInt,qL h1,h2]
theorem Md(hI:Inv c θ D st a w)(hd:∀k,o.dst=some k->k<c.n){K KP:St->Prop}{t k e:TypeId}(ho:o.op= .makeMap t none){pl:Option Nat}
 (h:Hy st (.mkmap k e) λob mk=>AU st pl/\K ((st.new pl ob).putO o.dst (.b (mk (st.nid pl))))):Leaves P o c K KP a w:=by
 intro next Q hn _
 obtain⟨hpl,h⟩:=h
 obtain⟨θ',hI',hid⟩:=hI.allocAt hpl (l:=.mp w.heap.size) (o:=.map k e []) (ob:=.map #[] 0) (λ_ h=>h) λθ' hθ=>⟨#[],0,eV w _,rfl,λi en kv he=>by simp at he⟩
 have hrun:(execOp a.eval o).run P w= .ok (.value (.map (some w.heap.size))) (w.alloc (.map #[] 0)):=by
  simp[execOp,ho,Instr.makeMap]
 unfold Oper.wp
 rw[hrun]
 exact hn _ _ ⟨_,h,_,_,hI'.put hd ⟨w.heap.size,hid,rfl⟩⟩
theorem MU(hI:Inv c θ D st a w)(hd:∀k,o.dst=some k->k<c.n){K KP:St->Prop}{t k e:TypeId}(ho:o.op= .makeMap t none)(h:sexec P o.dst (.mkmap k e) st K KP):Leaves P o c K KP a w:=
 Md hI hd ho (pl:=none) ⟨trivial,h⟩
theorem Gi:∀{p q:PV} {v u:Value},p.plain=true->RelP D w v p->RelP D w u p->Instr.sameBits 10000 v u=true:=by
 intro p q v u hp hv hu
 cases p with
 |sc s=>
  rw[i8 hv,i8 hu]
  cases s<;>simp[PV.plain]at hp<;>simp[Instr.sameBits,beq_toListBytes]
 |agg xs=>
  cases hv with
  |agg vs _ h1 h2=>
   cases hu with
   |agg us _ h3 h4=>
    simp only[PV.plain,j_]at hp
    show((vs.size==us.size)&&_)=true
    simp only[n_,beq_iff_eq,j_]
    refine⟨by omega,λx hx=>?_⟩
    obtain⟨i,hi⟩:=F_ hx
    rw[List.getElem?_zip_eq_some]at hi
    obtain⟨a1,a2⟩:=hi
    rw[q_]at a1 a2
    have hlt:i<xs.length:=by rw[<-h1];exact(V_.1 a1).1
    have hxi:=a_ hlt
    have hpi:=hp _ (g_ hxi)
    have r1:=h2 i _ _ a1 hxi
    have r2:=h4 i _ _ a2 hxi
    revert r1 r2 hpi
    generalize xs[i]=y
    intro hpi r1 r2
    cases y with
    |sc s=>rw[i8 r1,i8 r2];cases s<;>simp at hpi<;>simp[Instr.sameBits,beq_toListBytes]
    |_=>simp at hpi
 |_=>simp[PV.plain]at hp
theorem I4{h:Array Obj}{g k:Nat}{ob:Obj}(hk:k≠g):(h.setIfInBounds g ob)[k]? =h[k]? :=Z_ (Ne.symm hk)
theorem Bb(hI:Inv c θ D st a w)(hdn:o.dst=none){K KP:St->Prop}{t k e:TypeId}{m x y:Operand}(ho:o.op= .mapUpdate t m x y\/o.op= .insert t m x y)(ht:P.underlying t=some (.map k e))
 (h:sexec P o.dst (.mapset k e (.of m) (.of x) (.of y)) st K KP):Leaves P o c K KP a w:=by
 intro next Q hn _
 obtain⟨am,hm,ax,hx,ay,hy,id,kvs,rfl,hob,p,hp,q,hq,_,hplain,hkey,hd,hall,r,hr,hsame,hk⟩:=h
 obtain⟨g,hg,hv⟩:=hI.get hm
 obtain⟨es,clock,h1,h2,h3⟩:=hI.ok.objs id _ _ hg hob
 have hrel:=cF (hI.get hx) hp
 have hval:=cF (hI.get hy) hq
 obtain⟨res,hres,hcase⟩:=L8 hI h2 h3 hrel hr hall hd
 have hck:∀em,(Instr.checkKey em 10000 k (a.eval x)).run P w= .ok () w:=λem=>lX em 64 10000 k _ p hkey (by decide) hrel
 have hgs:g<w.heap.size:=(hI.ok.olt id _ g hg rfl).1
 have fin:∀(ob:Obj) (kvs':List (PV×PV)),(execOp a.eval o).run P w= .ok .skip {w with heap:=w.heap.setIfInBounds g ob}->(∃(es':Array MapEntry) (clock':Nat),ob= .map es' clock'/\es'.size=kvs'.length/\∀(i:Nat) (en:MapEntry) (kv:PV×PV),es'[i]? =some en->kvs'[i]? =some kv->RelP D w en.key kv.1/\RelP D w en.val kv.2)->
  K {st with hp:=st.hp.set id (.map k e kvs')}->o.wp P a w next Q:=by
  rintro ob kvs' hrun ⟨es',clock',rfl,hl',hrel'⟩ hk
  have hD:∀b,D b->({w with heap:=w.heap.setIfInBounds g (.map es' clock')}:World).heap[b]? =w.heap[b]? :=λb hb=>I4 λe=>(hI.ok.olt id _ g hg rfl).2 (e▸hb)
  have hI':=hI.store (o':=.map k e kvs') (w':={w with heap:=w.heap.setIfInBounds g (.map es' clock')}) hg rfl rfl rfl rfl (by simp) (λk' hk'=>I4 hk')
   ⟨es',clock',by simp[hgs],hl',λi en kv he hkv=>⟨(hrel' i en kv he hkv).1.mono (λ_ h=>h) hD,(hrel' i en kv he hkv).2.mono (λ_ h=>h) hD⟩⟩
  unfold Oper.wp
  rw[hrun]
  refine hn _ _ ⟨_,hk,θ,D,?_⟩
  have:=hI'.put (d:=none) (v:=undef) (x:=.v undef) (λ_ h=>by cases h) (RelP.sc _)
  rw[hdn]
  exact this
 have hset:∀(ob:Obj),(setObj g ob).run P w= .ok () {w with heap:=w.heap.setIfInBounds g ob}:=λob=>MapKept.run_setObj_map ob h1
 rcases hcase with⟨rfl,rfl⟩|⟨j,kv,en,rfl,hj,hen,rfl,_⟩
 ·refine fin (.map (es.push {key:=a.eval x,val:=a.eval y,born:=clock}) (clock+1)) (kvs++[(p,q)]) ?_ ⟨_,_,rfl,by simp[h2],λi en kv he hkv=>?_⟩ hk
  ·rcases ho with ho|ho<;>simp only[execOp,ho,Instr.mapUpdate,Sem.run_bind,run_underlying ht,Result.andThen_ok,hv,qL h1,hck,hres,hset,Sem.run_pure]
  ·rw[Array.getElem?_push]at he
   split at he
   ·rename_i hi
    rw[hi,h2,t_ (u_ _),aU_]at hkv
    cases he
    simp at hkv
    subst hkv
    exact⟨hrel,hval⟩
   ·rename_i hi
    have hlt:i<es.size:=(V_.1 he).1
    rw[k_ (by omega)]at hkv
    exact h3 i en kv he hkv
 ·obtain⟨u',hu'⟩:=hsame j kv.2 rfl
  rw[hj]at hu'
  cases hu'
  have hold:((es[j]?).map (·.key)).getD (a.eval x)=en.key:=by rw[hen];rfl
  have hbits:=Gi (q:=p) hplain (h3 j en _ hen hj).1 hrel
  refine fin (.map (es.modify j λe=>{e with key:=a.eval x,val:=a.eval y}) clock) (kvs.set j (p,q)) ?_ ⟨_,_,rfl,by simp[h2],λi en' kv' he hkv=>?_⟩ hk
  ·rcases ho with ho|ho<;>simp only[execOp,ho,Instr.mapUpdate,Sem.run_bind,run_underlying ht,Result.andThen_ok,hv,qL h1,hck,hres,hold,Instr.keyThatStays,hbits,if_true,Sem.run_pure,hset]
  ·rw[Array.getElem?_modify]at he
   rw[List.getElem?_set]at hkv
   by_cases hij:j=i
   ·subst hij
    rw[if_pos rfl,hen]at he
    rw[if_pos rfl,if_pos (b_.1 hj).1]at hkv
    simp at he hkv
    subst he;subst hkv
    exact⟨hrel,hval⟩
   ·rw[if_neg hij]at he
    rw[if_neg hij]at hkv
    exact h3 i en' kv' he hkv
theorem OS(hI:Inv c θ D st a w){K:AV->Prop}{f:FuncId}{first caps:Array Operand}(ho:o.op= .makeFunc (.func f) first caps)(hf:first= #[])(h:jp P st (.mkfn f (caps.toList.map SX.of)) K):Yields P o a w (Res c θ st a K):=by
 obtain⟨ars,has,hcase⟩:=h
 obtain⟨m1,m2⟩:=mapM_some has
 subst hf
 have hrun:(execOp a.eval o).run P w= .ok (.value (.func (.func f) #[] (caps.map a.eval))) w:=by simp[execOp,ho,Instr.makeFunc]
 have hev:∀(i:Nat) (x:AV),ars[i]? =some x->∃y,caps.toList[i]? =some y/\RelA θ D w (a.eval y) x:=λi x hx=>by
  obtain⟨s,hs⟩:=bw (l:=caps.toList.map SX.of) m1 hx
  have hg:=m2 i s x hs hx
  rw[H_]at hs
  cases hc:caps.toList[i]? with
  |none=>rw[hc]at hs;cases hs
  |some y=>rw[hc]at hs;cases hs;exact⟨y,rfl,hI.get hg⟩
 rcases hcase with⟨ids,rfl,hk⟩|⟨ps,rfl,hk⟩
 ·refine aF hI hrun hk ?_
  have hg:∀(i:Nat),i<ids.length->∃g:Nat,∀id y,ids[i]? =some id->caps.toList[i]? =some y->θ[id]? =some (.blk g)/\a.eval y= .pointer (some ⟨g,0,none⟩):=λi hi=>by
   obtain⟨y,hy,hr⟩:=hev i (.b (.ptr ids[i] 0)) (by simp[a_ hi])
   obtain⟨g,e1,e2⟩:=hr
   exact⟨g,λid y' h1 h2=>by rw[a_ hi]at h1;cases h1;rw[hy]at h2;cases h2;exact⟨e1,e2⟩⟩
  obtain⟨gs,g1,g2⟩:=gm hg
  refine⟨gs,g1,λk id g hid hgk=>?_,?_⟩
  ·have hk:k<ids.length:=(b_.1 hid).1
   obtain⟨y,hy,_⟩:=hev k (.b (.ptr id 0)) (by simp[hid])
   exact(g2 k g hgk id y hid hy).1
  ·congr 1
   apply aN_
   apply al_
   intro i
   simp only[Array.toList_map,H_]
   have hlen:caps.toList.length=ids.length:=by simpa using m1
   rcases z_ i ids.length with hi|hi
   ·have hgi:=a_ (l:=gs) (i:=i) (by omega)
    have hyi:=a_ (l:=caps.toList) (i:=i) (by omega)
    rw[hgi,hyi]
    simp only[x_]
    rw[(g2 i _ hgi _ _ (a_ hi) hyi).2]
   ·rw[E_ (by omega:caps.toList.length<=i),E_ (by omega:gs.length<=i)]
    rfl
 ·refine aF hI hrun hk (RelP.fn _ _ _ (by simpa using m1) λi v x hv hx=>?_)
  obtain⟨y,hy,hr⟩:=hev i (.p x) (by simp[hx])
  rw[Array.getElem?_map]at hv
  rw[q_]at hy
  rw[hy]at hv
  cases hv
  exact hr
theorem OG(hI:Inv c θ D st a w)(hd:∀k,o.dst=some k->k<c.n){K KP:St->Prop}{t:TypeId}{x:Operand}(ho:o.op= .box t x)(h:jp P st (.boxD t (.of x)) λx=>K (st.putO o.dst x)):Leaves P o c K KP a w:=by
 intro next Q hn _
 obtain⟨ax,hx,p,hp,hok,hnf,hk⟩:=h
 have hX:=hI.get hx
 obtain⟨h1,h2⟩:=qI hX hok
 have hrun:(execOp a.eval o).run P w= .ok (.value (.pointer (some ⟨w.heap.size,0,none⟩))) (w.alloc (.cells (a.eval x).cells t)):=by
  simp[execOp,ho,Instr.box,newVar,newRow]
 have hI':=hI.below (D':=λb=>D b\/(w.heap.size<=b/\b<(w.alloc (.cells (a.eval x).cells t)).heap.size)) (kA w _) hI.w0le (λb hb=>.inl hb) (λb hb=>hb)
 unfold Oper.wp
 rw[hrun]
 refine hn _ _ ⟨_,hk,θ,_,hI'.put hd ?_⟩
 have hz:∀(j:Nat) (y:PV),p.cells[j]? =some y->∃z,ax.cells[j]? =some z/\z.toPV=some y:=by
  intro j y hy
  cases ax with
  |tup xs=>simp[AV.ok,AV.cells,BV.cellOk,PV.cellOk]at hok
  |agg xs=>
   simp only[AV.toPV,d_]at hp
   obtain⟨ps,hps,rfl⟩:=hp
   obtain⟨m1,m2⟩:=mapM_some hps
   simp only[PV.cells]at hy
   obtain⟨z,hz⟩:=bw (l:=xs) m1 hy
   exact⟨z,hz,m2 j z y hz hy⟩
  |b bx=>
   cases bx with
   |pv q=>
    cases hp
    exact⟨.pv y,by simp[AV.cells,hy],rfl⟩
   |nils=>
    cases hp
    simp only[PV.cells]at hy
    cases j with
    |zero=>simp at hy;subst hy;exact⟨.nils,rfl,rfl⟩
    |succ j=>simp at hy
   |full q=>exact absurd rfl (hnf q)
   |_=>cases hp
 have hcells:∀(j:Nat) (y:PV),p.cells[j]? =some y->∃u,(a.eval x).cells[j]? =some u/\RelP D w u y:=by
  intro j y hy
  obtain⟨z,e1,e2⟩:=hz j y hy
  have hj:j<(a.eval x).cells.size:=by rw[h1];exact(b_.1 e1).1
  exact⟨_,m_ hj,mI (h2 j _ z (m_ hj) e1).1 e2⟩
 exact r4 (b:=w.heap.size) (o:=0) (.inr ⟨u_ _,by simp⟩) λj y hy=>by
  obtain⟨u,e1,e2⟩:=hcells j y hy
  refine⟨u,?_,e2.mono (λb hb=>.inl hb) (λb hb=>ez w _ b (hI.ok.dlt b hb))⟩
  rw[O_,cell_of_row _ _ _ (a.eval x).cells t (0,0) (eV w _)]
  exact e1
theorem MS(hI:Inv c θ D st a w){K:AV->Prop}{t:TypeId}{x:Operand}(ho:o.op= .makeInterface t x)(ht:(match P.underlying t with|some (.interface _)=>false|some _=>true|none=>false)=true)(h:jp P st (.iface t (.of x)) K):Yields P o a w (Res c θ st a K):=by
 obtain⟨ax,hx,hk⟩:=h
 cases hd:P.underlying t with
 |none=>rw[hd]at ht;cases ht
 |some d=>
  refine aF hI (v:=.iface t (a.eval x)) ?_ hk ⟨t,a.eval x,rfl⟩
  rw[hd]at ht
  cases d<;>simp at ht<;>simp[execOp,ho,Instr.makeInterface,run_underlying hd]
theorem Ma{k:IntKind}(mx:Bool):∀(ns:List Int) (n:Int),((ns.map λn=>Value.int k n).foldlM (if mx then Builtin.max2 else Builtin.min2) (.int k n)).run P w= .ok (.int k (ns.foldl (λa b=>if mx then max a b else min a b) n)) w
 |[],n=>by simp
 |m::ns,n=>by
  have ih:=Ma (k:=k) mx ns (if mx then max n m else min n m)
  simp only[B_,List.foldlM_cons,List.foldl_cons,Sem.run_bind]
  cases mx
  ·have:(Builtin.min2 (.int k n) (.int k m)).run P w= .ok (.int k (min n m)) w:=by
    simp only[Builtin.min2,Sem.run_pure]
    congr 2
    split<;>omega
   simp only[p_,if_false,this,Result.andThen_ok]at ih⊢
   exact ih
  ·have:(Builtin.max2 (.int k n) (.int k m)).run P w= .ok (.int k (max n m)) w:=by
    simp only[Builtin.max2,Sem.run_pure]
    congr 2
    split<;>omega
   simp only[if_true,this,Result.andThen_ok]at ih⊢
   exact ih
theorem Gm(hI:Inv c θ D st a w){K:AV->Prop}{mx:Bool}{k:IntKind}{x:Operand}{ys:List Operand}{cl:Call}(ho:o.op= .call cl)(hcl:cl.callee= .builtin (if mx then .max else .min))(hargs:cl.args.toList=x::ys)
 (h:jp P st (.mnmx mx k (.of x) (ys.map SX.of)) K):Yields P o a w (Res c θ st a K):=by
 obtain⟨ax,hx,hv⟩:=h
 obtain⟨k1,n,hn,ars,has,ns,rfl,rfl,hk⟩:=cN (hI.get hx) hv
 obtain⟨m1,m2⟩:=mapM_some has
 have hvals:ys.map a.eval=ns.map λn=>Value.int k1 n:=by
  apply al_
  intro i
  simp only[H_]
  have hl:ys.length=ns.length:=by simpa using m1
  rcases z_ i ns.length with hi|hi
  ·have hy:=a_ (l:=ys) (i:=i) (by omega)
   have hni:=a_ hi
   rw[hy,hni]
   have:=m2 i (SX.of ys[i]) (.v (.int k1 ns[i])) (by rw[H_,hy];rfl) (by rw[H_,hni];rfl)
   simp only[x_]
   rw[Oo (hI.get this)]
  ·rw[E_ (by omega:ys.length<=i),E_ hi]
   rfl
 have hargs':cl.args.toList.map a.eval=Value.int k1 n::ns.map λn=>Value.int k1 n:=by
  rw[hargs,B_,hn,hvals]
 refine aF hI ?_ hk (RelP.sc _)
 have hf:=Ma (P:=P) (w:=w) (k:=k1) mx ns n
 cases mx
 ·simp only[p_,if_false]at hcl hf
  simp[execOp,ho,resolve,hcl,invoke,builtin,Builtin.min_,hargs',hf]
 ·simp only[if_true]at hcl hf
  simp[execOp,ho,resolve,hcl,invoke,builtin,Builtin.max_,hargs',hf]
theorem MW(hI:Inv c θ D st a w){K KP:St->Prop}{x:Operand}(ho:o.op= .panic x)(h:sexec P o.dst (.panic (.of x)) st K KP):Leaves P o c K KP a w:=by
 intro next Q _ hp
 obtain⟨ax,hx,rfl,hk⟩:=h
 obtain⟨t,u,hv⟩:=hI.get hx
 have hrun:(execOp a.eval o).run P w= .halt (.panic (.iface t u)) w:=by
  simp[execOp,ho,hv,Instr.panic,goPanic]
 unfold Oper.wp
 rw[hrun]
 exact hp _ w ⟨⟨t,u,rfl⟩,st,hk,θ,D,hI⟩
theorem RF{L:List PV}{ad:Option Addr}{cap sz n:Nat}(hI:Inv c θ D st a w)(h0:0<sz)(hok:∀p∈L,p.ok=true)(hn:n<=L.length)
 (hcells:0<L.length->∃b o,ad=some ⟨b,o,none⟩/\b<w.heap.size/\(∀x∈L,x.cells.length=sz)/\∀(i j:Nat) (x y:PV),L[i]? =some x->x.cells[j]? =some y->∃u,w.cell? ⟨b,o+i*sz+j,none⟩=some u/\RelP D w u y):
 ∃news:List Value,news.length=n*sz/\(Builtin.firstCells sz n (.slice ad L.length cap)).run P w= .ok news.toArray w/\(∀u∈news,u.oneCell'=true)/\
  (0<n->∀x∈L,x.cells.length=sz)/\∀(i j:Nat) (p q:PV),i<n->L[i]? =some p->p.cells[j]? =some q->∃u,news[i*sz+j]? =some u/\RelP D w u q:=by
 have _:=hI
 rcases aA_ n with rfl|hpos
 ·refine⟨[],by simp,?_,λu hu=>by simp at hu,λh=>absurd h (by omega),λi j p q hi=>absurd hi (by omega)⟩
  cases ad with
  |none=>simp[Builtin.firstCells]
  |some ab=>exact run_firstCells_some (P:=P) w sz 0 ab L.length cap [] (by simp) (λj v hj=>by simp at hj)
 ·obtain⟨g,og,rfl,hg,hsz,hc⟩:=hcells (by omega)
  obtain⟨news,n1,n2⟩:=gm (n:=n*sz) (p:=λk u=>w.cell? ⟨g,og+k,none⟩=some u/\u.oneCell'=true/\∀(p q:PV),L[k/sz]? =some p->p.cells[k%sz]? =some q->RelP D w u q) (λk hk=>by
   have hi:k/sz<n:=(U_ h0).2 hk
   have hj:k%sz<sz:=aB_ _ h0
   have hp:=a_ (l:=L) (i:=k/sz) (by omega)
   have hpl:=hsz _ (g_ hp)
   have hq:=a_ (l:=(L[k/sz]'(by omega)).cells) (i:=k%sz) (by omega)
   obtain⟨u,e1,e2⟩:=hc _ _ _ _ hp hq
   refine⟨u,?_,?_,λp q hp' hq'=>?_⟩
   ·rw[<-e1,am_,aq_,af_]
   ·have hok1:=hok _ (g_ hp)
    simp only[PV.ok,j_]at hok1
    exact iU e2 (hok1 _ (g_ hq))
   ·rw[hp]at hp';cases hp'
    rw[hq]at hq';cases hq'
    exact e2)
  refine⟨news,n1,run_firstCells_some (P:=P) w sz n ⟨g,og,none⟩ L.length cap news n1 (λj v hj=>by rw[addr_add];exact(n2 j v hj).1),λu hu=>?_,λ_=>hsz,λi j p q hi hp hq=>?_⟩
  ·obtain⟨j,hj⟩:=F_ hu
   exact(n2 j u hj).2.1
  ·have hj:j<sz:=by rw[<-hsz p (g_ hp)];exact(b_.1 hq).1
   have hlt:i*sz+j<news.length:=by
    rw[n1]
    have:(i+1)*sz<=n*sz:=G_ _ hi
    rw[P_,ay_]at this
    omega
   refine⟨news[i*sz+j],a_ hlt,?_⟩
   obtain⟨f1,f2⟩:=flat_get (i:=i) hj
   exact(n2 _ _ (a_ hlt)).2.2 p q (by rw[f1];exact hp) (by rw[f2];exact hq)
theorem OI(hI:Inv c θ D st a w)(hd:∀k,o.dst=some k->k<c.n){K KP:St->Prop}{t u e:TypeId}{sz:Nat}{x y:Operand}{cl:Call}(ho:o.op= .call cl)(hcl:cl.callee= .builtin .copy)(hargs:cl.args= #[x,y])(htys:cl.argTypes= #[t,u])
 (he:fA P t=some e) (hs:b9 P e=some sz) (h0:0<sz) (h:sexec P o.dst (.copy e sz (.of x) (.of y)) st K KP):Leaves P o c K KP a w:=by
 intro next Q hn _
 obtain⟨ax,hx,ay,hy,hl⟩:=h
 obtain⟨L,ad,cap',⟨hok,id,rfl,_,ob,hob,xs,rfl,hk⟩,hye,_,_,hcells⟩:=mH hI.ok (hI.get hy) hl
 obtain⟨l,hlθ,hh⟩:=hI.get hx
 have hro:=hI.ok.objs id l _ hlθ hob
 have hu:P.underlying t=some (.slice e):=by
  unfold fA at he
  split at he
  ·cases he;assumption
  ·cases he
 have hsz:(sizeOf e).run P w= .ok sz w:=run_sizeOf hs
 obtain⟨news,n1,n2,n3,n4,n5⟩:=RF (P:=P) (cap:=cap') (n:=min L.length xs.length) hI h0 hok (Nat.min_le_left _ _) hcells
 have fin:∀(w':World) (st':St),(Builtin.copy_ #[t,u] o.type #[a.eval x,a.eval y]).run P w= .ok (goInt ((min L.length xs.length:Nat):Int)) w'->Inv c θ D {st with hp:=st.hp.set id (.vec e sz (L.take xs.length++xs.drop L.length))} a w'->o.wp P a w next Q:=by
  intro w' _ hr hI'
  unfold Oper.wp
  have:(execOp a.eval o).run P w= .ok (.value (goInt ((min L.length xs.length:Nat):Int))) w':=by simp[execOp,ho,resolve,hcl,hargs,htys,invoke,builtin,hr]
  rw[this]
  refine hn _ _ ⟨_,hk,θ,D,hI'.put hd ?_⟩
  rw[Nat.min_comm]
  exact RelP.sc _
 cases l<;>simp only[RelO,Loc.head]at hro hh
 ·rename_i a0
  subst hro
  have hm:min L.length ([]:List PV).length=0:=by simp
  have hnil:news=[]:=r_ (by rw[n1,hm,Nat.zero_mul])
  subst hnil
  have hm':((min L.length ([]:List PV).length:Nat):Int)=0:=by rw[hm];rfl
  refine fin w st ?_ ?_
  ·rw[hh,hye,hm']
   rw[hm]at n2
   have hlen:(Builtin.lenOf (.slice ad L.length cap')).run P w= .ok L.length w:=rfl
   cases a0<;>simp[Builtin.copy_,run_underlying hu,hlen,hsz,n2,storeCells]
  ·have hset:st.hp.set id (.vec e sz (L.take ([]:List PV).length++([]:List PV).drop L.length))=st.hp:=by
    apply al_
    intro i
    by_cases hii:i=id
    ·subst hii
     rw[o_ (b_.1 hob).1,hob]
     simp
    ·rw[i_ (Ne.symm hii)]
   rw[hset]
   exact hI
 ·rename_i g m cap s O
  obtain⟨rfl,rfl,h3,h4,h5,cur,h6,h7,h8⟩:=hro
  have hle:min L.length xs.length*s<=cur.size:=by rw[h7];exact G_ _ (by omega)
  have hst:=run_storeCells_at P g 0 e news 0 cur w h6 (by rw[n1];omega) n3
  simp only[O_,aT_,aO_,ar_]at hst
  have hsr:=kd cur 0 news (by rw[n1];omega)
  simp only[aO_,ar_,O_]at hsr
  obtain⟨s1,s2⟩:=hsr
  refine fin (w.setRow g (news++cur.toList.drop news.length).toArray) st ?_ (hI.store (w':=w.setRow g (news++cur.toList.drop news.length).toArray) (l:=.hdr g xs.length cap s O) hlθ (.inl rfl) rfl rfl rfl (by simp) (λk hk=>setRow_other _ _ _ _ hk) ?_)
  ·rw[hh,hye]
   have hlen:(Builtin.lenOf (.slice ad L.length cap')).run P w= .ok L.length w:=rfl
   have hmm:Nat.min L.length xs.length=min L.length xs.length:=rfl
   simp[Builtin.copy_,run_underlying hu,hlen,hsz,hmm,n2,hst]
  ·have hD:∀b,D b->(w.setRow g (news++cur.toList.drop news.length).toArray).heap[b]? =w.heap[b]? :=λb hb=>setRow_other _ _ _ _ λe=>(hI.ok.olt id _ g hlθ (.inl rfl)).2 (e▸hb)
   refine⟨rfl,by rw[Q_,X_,List.length_drop];omega,h3,h4,λp hp=>?_,_,setRow_heap _ _ _ _ _ _ h6,by rw[s1,h7],λi j p q hp hq=>?_⟩
   ·rcases l_.1 hp with hp|hp
    ·by_cases hm:0<min L.length xs.length
     ·exact n4 hm p (ax_ hp)
     ·have:L.take xs.length=[]:=r_ (by rw[X_];omega)
      rw[this]at hp;cases hp
    ·exact h5 p (aw_ hp)
   ·by_cases hi:i<min L.length xs.length
    ·rw[k_ (by rw[X_];omega),ah_,if_pos (by omega)]at hp
     obtain⟨u,e1,e2⟩:=n5 i j p q hi hp hq
     refine⟨u,?_,e2.mono (λ_ h=>h) hD⟩
     have hlt:=(b_.1 e1).1
     rw[s2,if_pos ⟨by omega,by omega⟩]
     simpa using e1
    ·rw[t_ (by rw[X_];omega),az_]at hp
     have hidx:L.length+(i - (L.take xs.length).length)=i\/L.length+(i - (L.take xs.length).length)>=xs.length:=by rw[X_];omega
     rcases hidx with hidx|hidx
     ·rw[hidx]at hp
      obtain⟨u,e1,e2⟩:=h8 i j p q hp hq
      refine⟨u,?_,e2.mono (λ_ h=>h) hD⟩
      have hmul:min L.length xs.length*s<=i*s:=G_ _ (by omega)
      rw[s2,if_neg (by rw[n1];omega)]
      exact e1
     ·rw[E_ hidx]at hp;cases hp
end
section
variable {P:Program} {o:Oper} {c:Ctx} {θ:List Loc} {D:Nat->Prop} {st:St} {a:Act} {w:World}
theorem Rb(hI:Inv c θ D st a w)(hd:∀k,o.dst=some k->k<c.n){K KP:St->Prop}{t e:TypeId}{sz bytes:Nat}{z:Value}{x y:Operand}{cl:Call}(ho:o.op= .call cl)(hcl:cl.callee= .builtin .append)(hargs:cl.args= #[x,y])(htys:cl.argTypes= #[t,t])
 (he:fA P t=some e) (hs:b9 P e=some sz) (hb:iJ P e=some bytes) (hz:dI P e=some z) (hzs:z.cells.size=sz) (h0:0<sz) (hb0:0<bytes)
 {pl:Option Nat} (h:Hy st (.append e sz bytes (.of x) (.of y)) λob mk=>AU st pl/\K ((st.new pl ob).putO o.dst (.b (mk (st.nid pl))))):Leaves P o c K KP a w:=by
 intro next Q hn _
 obtain⟨ax,hx,ay,hy,hL⟩:=h
 have hX:=hI.get hx
 obtain⟨L,ad,m,⟨hok,hxx,hbd,hpl,hk⟩,hye,hlm,hnil,hcells⟩:=mH hI.ok (hI.get hy) hL
 have hu:P.underlying t=some (.slice e):=by
  unfold fA at he
  split at he
  ·cases he;assumption
  ·cases he
 simp only[b9,d_]at hs
 obtain⟨it,hit,rfl⟩:=hs
 have hz1:it.zero=some z:=by simpa[dI,hit]using hz
 have hb1:it.bytes=bytes:=by simpa[iJ,hit]using hb
 subst hb1
 have fin:∀(v:Value) (w':World) (st':St),(Builtin.append_ #[t,t] o.type #[a.eval x,a.eval y]).run P w= .ok v w'->K st'->Rel c st' (a.put o.dst v) w'->o.wp P a w next Q:=by
  intro v w' st' hr hk hrel
  unfold Oper.wp
  have:(execOp a.eval o).run P w= .ok (.value v) w':=by simp[execOp,ho,resolve,hcl,hargs,htys,invoke,builtin,hr]
  rw[this]
  exact hn _ _ ⟨st',hk,hrel⟩
 have hnews:0<L.length->∃(ab:Addr) (news:List Value),ad=some ab/\news.length=L.length*it.size/\(∀(j:Nat) (u:Value),news[j]? =some u->w.cell? (ab.add j)=some u)/\(∀u∈news,u.oneCell'=true)/\
  (∀p∈L,p.cells.length=it.size)/\∀(i j:Nat) (p q:PV),L[i]? =some p->p.cells[j]? =some q->∃u,news[i*it.size+j]? =some u/\RelP D w u q:=by
  intro hl
  obtain⟨g,og,rfl,hg,hsz,hc⟩:=hcells hl
  obtain⟨news,n1,n2⟩:=gm (n:=L.length*it.size) (p:=λk u=>w.cell? ⟨g,og+k,none⟩=some u/\u.oneCell'=true/\∀(p q:PV),L[k/it.size]? =some p->p.cells[k%it.size]? =some q->RelP D w u q) (λk hk=>by
   have hi:k/it.size<L.length:=(U_ h0).2 hk
   have hj:k%it.size<it.size:=aB_ _ h0
   have hp:=a_ hi
   have hpl:=hsz _ (g_ hp)
   have hq:=a_ (l:=(L[k/it.size]).cells) (i:=k%it.size) (by omega)
   obtain⟨u,e1,e2⟩:=hc _ _ _ _ hp hq
   refine⟨u,?_,?_,λp q hp' hq'=>?_⟩
   ·rw[<-e1,am_,aq_,af_]
   ·have hok1:=hok _ (g_ hp)
    simp only[PV.ok,j_]at hok1
    exact iU e2 (hok1 _ (g_ hq))
   ·rw[hp]at hp';cases hp'
    rw[hq]at hq';cases hq'
    exact e2)
  refine⟨_,news,rfl,n1,λj u hj=>by rw[addr_add];exact(n2 j u hj).1,λu hu=>?_,hsz,λi j p q hp hq=>?_⟩
  ·obtain⟨j,hj⟩:=F_ hu
   exact(n2 j u hj).2.1
  ·have hj:j<it.size:=by rw[<-hsz p (g_ hp)];exact(b_.1 hq).1
   have hi:i<L.length:=(b_.1 hp).1
   have hlt:i*it.size+j<news.length:=by
    rw[n1]
    have:(i+1)*it.size<=L.length*it.size:=G_ _ hi
    rw[P_,ay_]at this
    omega
   refine⟨news[i*it.size+j],a_ hlt,?_⟩
   obtain⟨f1,f2⟩:=flat_get (i:=i) hj
   exact(n2 _ _ (a_ hlt)).2.2 p q (by rw[f1];exact hp) (by rw[f2];exact hq)
 have rowRel:∀(w':World) (olds news:List Value) (xs:List PV) (cv:Array Value) (k:Nat),(∀b,D b->w'.heap[b]? =w.heap[b]?)->olds.length=xs.length*it.size->cv.size=k*it.size->
  (∀j,j<olds.length->cv[j]? =olds[j]?)->(∀j,j<news.length->cv[olds.length+j]? =news[j]?)->(∀p∈xs,p.cells.length=it.size)->(∀p∈L,p.cells.length=it.size)->news.length=L.length*it.size->
  (∀(i j:Nat) (p q:PV),xs[i]? =some p->p.cells[j]? =some q->∃u,olds[i*it.size+j]? =some u/\RelP D w u q)->(∀(i j:Nat) (p q:PV),L[i]? =some p->p.cells[j]? =some q->∃u,news[i*it.size+j]? =some u/\RelP D w u q)->
  ∀(i j:Nat) (p q:PV),(xs++L)[i]? =some p->p.cells[j]? =some q->∃u,cv[i*it.size+j]? =some u/\RelP D w' u q:=by
  intro w' olds news xs cv k hDw hol hcv hco hcn hxs hLs hnl ro rn i j p q hp hq
  rcases z_ i xs.length with hi|hi
  ·rw[k_ hi]at hp
   obtain⟨u,e1,e2⟩:=ro i j p q hp hq
   exact⟨u,by rw[hco _ (b_.1 e1).1];exact e1,e2.mono (λ_ h=>h) hDw⟩
  ·rw[t_ hi]at hp
   obtain⟨u,e1,e2⟩:=rn _ j p q hp hq
   refine⟨u,?_,e2.mono (λ_ h=>h) hDw⟩
   have:=hcn _ (b_.1 e1).1
   rw[e1]at this
   rw[<-this,hol]
   congr 1
   have:i*it.size=xs.length*it.size+(i - xs.length)*it.size:=by rw[<-P_];congr 1;omega
   omega
 have len_of0:∀(k:Nat),L.length*it.bytes<=k->L.length<=k:=λk h=>aH_ (ap_ _ hb0) h
 obtain⟨ad0,hxe⟩:∃ad0,a.eval x= .slice ad0 0 0:=by
  rcases hxx with rfl|rfl
  ·exact⟨none,hX⟩
  ·obtain⟨h1,a0,n0,h2⟩:=hX
   refine⟨a0,?_⟩
   rw[h2]at h1⊢
   cases h1
   rfl
 have h63:L.length<=140737488355328:=len_of0 _ hbd
 by_cases hL0:L.length=0
 ·have hLe:L=[]:=r_ hL0
  subst hLe
  obtain⟨θ',hp,hid⟩:=hI.pushAt hpl (l:=.nil ad0) (o:=.vec e it.size []) (λθ' _=>rfl) (λg hg=>by cases hg)
  refine fin (.slice ad0 0 0) w _ ?_ hk ⟨_,D,hp.put hd ⟨.nil ad0,hid,rfl⟩⟩
  rw[hxe,hye]
  exact dz hu hit ad0 0 0 (u_ _) ad m
 ·obtain⟨ab,news,rfl,n1,n2,n3,n4,n5⟩:=hnews (L_ hL0)
  have hr:=eR (P:=P) (w:=w) (ty:=o.type) hu hit hz1 ad0 ab L.length m news n1 n2 (L_ hL0) (by omega) (by omega)
  have hge:=grownCap_ge w L.length 0 e
  have hcm:grownCap w L.length 0 e<=maxLen:=grownCap_le_maxLen w _ 0 e (by simp only[maxLen];omega)
  have hcs:(news.toArray++Builtin.zeroCells z.cells (grownCap w L.length 0 e - L.length)).size=grownCap w L.length 0 e*it.size:=by
   simp only[aD_,aG_,gj,hzs,n1,<-P_]
   congr 1;omega
  have hDw:∀b,D b->(w.drew.alloc (.cells (news.toArray++Builtin.zeroCells z.cells (grownCap w L.length 0 e - L.length)) e)).heap[b]? =w.heap[b]? :=λb hb=>ez w.drew _ b (hI.ok.dlt b hb)
  obtain⟨θ',hI',hid⟩:=hI.drew.allocAt hpl (l:=.hdr w.heap.size L.length (grownCap w L.length 0 e) it.size none') (o:=.vec e it.size L) (ob:=.cells (news.toArray++Builtin.zeroCells z.cells (grownCap w L.length 0 e - L.length)) e) (λ_ h=>h.elim (λh=>h) False.elim) λθ' hθ=>
   ⟨rfl,rfl,hge,hcm,n4,_,eV w.drew _,hcs,λi j p q hp hq=>by
    have:=rowRel _ [] news [] _ _ hDw (by simp) hcs (λj hj=>by simp at hj) (λj hj=>by simp only[M_,O_];rw[K_ (by simpa using hj)];simp) (λp hp=>by cases hp) n4 n1 (λi j p q hp=>by simp at hp) n5 i j p q (by simpa using hp) hq
    exact this⟩
  refine fin _ _ _ ?_ hk ⟨_,D,hI'.put hd ⟨_,hid,rfl⟩⟩
  rw[hxe,hye]
  exact hr
theorem OE(hI:Inv c θ D st a w)(hd:∀k,o.dst=some k->k<c.n){K KP:St->Prop}{t e:TypeId}{sz bytes:Nat}{z:Value}{x y:Operand}{cl:Call}(ho:o.op= .call cl)(hcl:cl.callee= .builtin .append)(hargs:cl.args= #[x,y])(htys:cl.argTypes= #[t,t])
 (he:fA P t=some e) (hs:b9 P e=some sz) (hb:iJ P e=some bytes) (hz:dI P e=some z) (hzs:z.cells.size=sz) (h0:0<sz) (hb0:0<bytes)
 (h:jp P st (.appD e sz bytes (.of x) (.of y)) λx=>K (st.putO o.dst x)):Leaves P o c K KP a w:=by
 intro next Q hn _
 obtain⟨ax,hx,ay,hy,hL⟩:=h
 have hX:=hI.get hx
 obtain⟨L,ad,m,⟨hok,L0,hxx,hbd,hk⟩,hye,hlm,hnil,hcells⟩:=mH hI.ok (hI.get hy) hL
 have hu:P.underlying t=some (.slice e):=by
  unfold fA at he
  split at he
  ·cases he;assumption
  ·cases he
 simp only[b9,d_]at hs
 obtain⟨it,hit,rfl⟩:=hs
 have hz1:it.zero=some z:=by simpa[dI,hit]using hz
 have hb1:it.bytes=bytes:=by simpa[iJ,hit]using hb
 subst hb1
 have fin:∀(v:Value) (w':World) (st':St),(Builtin.append_ #[t,t] o.type #[a.eval x,a.eval y]).run P w= .ok v w'->K st'->Rel c st' (a.put o.dst v) w'->o.wp P a w next Q:=by
  intro v w' st' hr hk hrel
  unfold Oper.wp
  have:(execOp a.eval o).run P w= .ok (.value v) w':=by simp[execOp,ho,resolve,hcl,hargs,htys,invoke,builtin,hr]
  rw[this]
  exact hn _ _ ⟨st',hk,hrel⟩
 have hnews:0<L.length->∃(ab:Addr) (news:List Value),ad=some ab/\news.length=L.length*it.size/\(∀(j:Nat) (u:Value),news[j]? =some u->w.cell? (ab.add j)=some u)/\(∀u∈news,u.oneCell'=true)/\
  (∀p∈L,p.cells.length=it.size)/\∀(i j:Nat) (p q:PV),L[i]? =some p->p.cells[j]? =some q->∃u,news[i*it.size+j]? =some u/\RelP D w u q:=by
  intro hl
  obtain⟨g,og,rfl,hg,hsz,hc⟩:=hcells hl
  obtain⟨news,n1,n2⟩:=gm (n:=L.length*it.size) (p:=λk u=>w.cell? ⟨g,og+k,none⟩=some u/\u.oneCell'=true/\∀(p q:PV),L[k/it.size]? =some p->p.cells[k%it.size]? =some q->RelP D w u q) (λk hk=>by
   have hi:k/it.size<L.length:=(U_ h0).2 hk
   have hj:k%it.size<it.size:=aB_ _ h0
   have hp:=a_ hi
   have hpl:=hsz _ (g_ hp)
   have hq:=a_ (l:=(L[k/it.size]).cells) (i:=k%it.size) (by omega)
   obtain⟨u,e1,e2⟩:=hc _ _ _ _ hp hq
   refine⟨u,?_,?_,λp q hp' hq'=>?_⟩
   ·rw[<-e1,am_,aq_,af_]
   ·have hok1:=hok _ (g_ hp)
    simp only[PV.ok,j_]at hok1
    exact iU e2 (hok1 _ (g_ hq))
   ·rw[hp]at hp';cases hp'
    rw[hq]at hq';cases hq'
    exact e2)
  refine⟨_,news,rfl,n1,λj u hj=>by rw[addr_add];exact(n2 j u hj).1,λu hu=>?_,hsz,λi j p q hp hq=>?_⟩
  ·obtain⟨j,hj⟩:=F_ hu
   exact(n2 j u hj).2.1
  ·have hj:j<it.size:=by rw[<-hsz p (g_ hp)];exact(b_.1 hq).1
   have hi:i<L.length:=(b_.1 hp).1
   have hlt:i*it.size+j<news.length:=by
    rw[n1]
    have:(i+1)*it.size<=L.length*it.size:=G_ _ hi
    rw[P_,ay_]at this
    omega
   refine⟨news[i*it.size+j],a_ hlt,?_⟩
   obtain⟨f1,f2⟩:=flat_get (i:=i) hj
   exact(n2 _ _ (a_ hlt)).2.2 p q (by rw[f1];exact hp) (by rw[f2];exact hq)
 have rowRel:∀(w':World) (olds news:List Value) (xs:List PV) (cv:Array Value) (k:Nat),(∀b,D b->w'.heap[b]? =w.heap[b]?)->olds.length=xs.length*it.size->cv.size=k*it.size->
  (∀j,j<olds.length->cv[j]? =olds[j]?)->(∀j,j<news.length->cv[olds.length+j]? =news[j]?)->(∀p∈xs,p.cells.length=it.size)->(∀p∈L,p.cells.length=it.size)->news.length=L.length*it.size->
  (∀(i j:Nat) (p q:PV),xs[i]? =some p->p.cells[j]? =some q->∃u,olds[i*it.size+j]? =some u/\RelP D w u q)->(∀(i j:Nat) (p q:PV),L[i]? =some p->p.cells[j]? =some q->∃u,news[i*it.size+j]? =some u/\RelP D w u q)->
  ∀(i j:Nat) (p q:PV),(xs++L)[i]? =some p->p.cells[j]? =some q->∃u,cv[i*it.size+j]? =some u/\RelP D w' u q:=by
  intro w' olds news xs cv k hDw hol hcv hco hcn hxs hLs hnl ro rn i j p q hp hq
  rcases z_ i xs.length with hi|hi
  ·rw[k_ hi]at hp
   obtain⟨u,e1,e2⟩:=ro i j p q hp hq
   exact⟨u,by rw[hco _ (b_.1 e1).1];exact e1,e2.mono (λ_ h=>h) hDw⟩
  ·rw[t_ hi]at hp
   obtain⟨u,e1,e2⟩:=rn _ j p q hp hq
   refine⟨u,?_,e2.mono (λ_ h=>h) hDw⟩
   have:=hcn _ (b_.1 e1).1
   rw[e1]at this
   rw[<-this,hol]
   congr 1
   have:i*it.size=xs.length*it.size+(i - xs.length)*it.size:=by rw[<-P_];congr 1;omega
   omega
 have h63:L0.length+L.length<=140737488355328:=aH_ (ap_ _ hb0) hbd
 obtain⟨a0,hxe,hold⟩:∃a0:Option Addr,a.eval x= .slice a0 L0.length L0.length/\(0<L0.length->∃b o',a0=some ⟨b,o',none⟩/\(∀p∈L0,p.cells.length=it.size)/\∃olds:List Value,olds.length=L0.length*it.size/\
  (∀(j:Nat) (u:Value),olds[j]? =some u->w.cell? ⟨b,o'+j,none⟩=some u)/\∀(i j:Nat) (p q:PV),L0[i]? =some p->p.cells[j]? =some q->∃u,olds[i*it.size+j]? =some u/\RelP D w u q):=by
  rcases hxx with⟨rfl,rfl⟩|rfl
  ·exact⟨none,hX,λh=>absurd h (by simp)⟩
  ·obtain⟨h1,a0,n0,h2⟩:=hX
   obtain⟨a1,cap,e1,e2,e3⟩:=qK h1
   rw[h2]at e1
   cases e1
   refine⟨a0,h2,λhl=>?_⟩
   obtain⟨b,o',rfl,hb,hsz,hc⟩:=e3 hl
   obtain⟨olds,n1,n2⟩:=gm (n:=L0.length*it.size) (p:=λk u=>w.cell? ⟨b,o'+k,none⟩=some u/\∀(p q:PV),L0[k/it.size]? =some p->p.cells[k%it.size]? =some q->RelP D w u q) (λk hk=>by
    have hi:k/it.size<L0.length:=(U_ h0).2 hk
    have hj:k%it.size<it.size:=aB_ _ h0
    have hp:=a_ hi
    have hpl:=hsz _ (g_ hp)
    have hq:=a_ (l:=(L0[k/it.size]).cells) (i:=k%it.size) (by omega)
    obtain⟨u,e1,e2⟩:=hc _ _ _ _ hp hq
    refine⟨u,?_,λp q hp' hq'=>?_⟩
    ·rw[<-e1,am_,aq_,af_]
    ·rw[hp]at hp';cases hp'
     rw[hq]at hq';cases hq'
     exact e2)
   refine⟨b,o',rfl,hsz,olds,n1,λj u hj=>(n2 j u hj).1,λi j p q hp hq=>?_⟩
   have hj:j<it.size:=by rw[<-hsz p (g_ hp)];exact(b_.1 hq).1
   have hi:i<L0.length:=(b_.1 hp).1
   have hlt:i*it.size+j<olds.length:=by
    rw[n1]
    have:(i+1)*it.size<=L0.length*it.size:=G_ _ hi
    rw[P_,ay_]at this
    omega
   refine⟨olds[i*it.size+j],a_ hlt,?_⟩
   obtain⟨f1,f2⟩:=flat_get (i:=i) hj
   exact(n2 _ _ (a_ hlt)).2 p q (by rw[f1];exact hp) (by rw[f2];exact hq)
 by_cases hL0:L.length=0
 ·have hLe:L=[]:=r_ hL0
  subst hLe
  refine fin (.slice a0 L0.length L0.length) w _ ?_ hk ⟨θ,D,hI.put hd ?_⟩
  ·rw[hxe,hye]
   exact dz hu hit a0 _ _ (u_ _) ad m
  ·rw[List.append_nil]
   rcases hxx with⟨rfl,rfl⟩|rfl
   ·exact .nil _ _
   ·obtain⟨h1,_⟩:=hX
    rw[hxe]at h1
    exact h1
 ·obtain⟨ab,news,rfl,n1,n2,n3,n4,n5⟩:=hnews (L_ hL0)
  have grow:∀(olds:List Value),olds.length=L0.length*it.size->(∀p∈L0,p.cells.length=it.size)->(∀(i j:Nat) (p q:PV),L0[i]? =some p->p.cells[j]? =some q->∃u,olds[i*it.size+j]? =some u/\RelP D w u q)->
   (Builtin.append_ #[t,t] o.type #[.slice a0 L0.length L0.length,.slice (some ab) L.length m]).run P w= .ok (.slice (some ⟨w.heap.size,0,none⟩) (L0.length+L.length) (grownCap w (L0.length+L.length) L0.length e)) (w.drew.alloc (.cells (olds.toArray++news.toArray++Builtin.zeroCells z.cells (grownCap w (L0.length+L.length) L0.length e - (L0.length+L.length))) e))->
   o.wp P a w next Q:=by
   intro olds hol hxs ro hrun
   have hge:=grownCap_ge w (L0.length+L.length) L0.length e
   have hcs:(olds.toArray++news.toArray++Builtin.zeroCells z.cells (grownCap w (L0.length+L.length) L0.length e - (L0.length+L.length))).size=grownCap w (L0.length+L.length) L0.length e*it.size:=by
    simp only[aD_,aG_,gj,hzs,hol,n1,<-P_]
    congr 1;omega
   generalize hw':w.drew.alloc (.cells (olds.toArray++news.toArray++Builtin.zeroCells z.cells (grownCap w (L0.length+L.length) L0.length e - (L0.length+L.length))) e)=w' at hrun
   have hDw:∀b,D b->w'.heap[b]? =w.heap[b]? :=λb hb=>by rw[<-hw'];exact ez w.drew _ b (hI.ok.dlt b hb)
   have hnew:w'.heap[w.heap.size]? =some (.cells (olds.toArray++news.toArray++Builtin.zeroCells z.cells (grownCap w (L0.length+L.length) L0.length e - (L0.length+L.length))) e):=by rw[<-hw'];exact eV w.drew _
   have hlts:w.heap.size<w'.heap.size:=by rw[<-hw'];simp
   have hI':=hI.drew.below (D':=λb=>D b\/(w.heap.size<=b/\b<w'.heap.size)) (w':=w') (by rw[<-hw'];exact kA w.drew _) hI.w0le (λb hb=>.inl hb) (λb hb=>hb)
   refine fin (.slice (some ⟨w.heap.size,0,none⟩) (L0.length+L.length) (grownCap w (L0.length+L.length) L0.length e)) w' _ ?_ hk ⟨θ,_,hI'.put hd ?_⟩
   ·rw[hxe,hye];exact hrun
   ·have hh:RelP (λb=>D b\/(w.heap.size<=b/\b<w'.heap.size)) w' (.slice (some ⟨w.heap.size,0,none⟩) (L0++L).length (grownCap w (L0.length+L.length) L0.length e)) (mF it.size (L0++L)):=by
     refine gy (by simpa using hge) λ_=>⟨w.heap.size,0,rfl,.inr ⟨u_ _,hlts⟩,λp hp=>(l_.1 hp).elim (hxs p) (n4 p),λi j p q hp hq=>?_⟩
     obtain⟨u,e1,e2⟩:=rowRel w' olds news L0 _ _ hDw hol hcs (λj hj=>by rw[K_ (by simp;omega),K_ (by simpa using hj)];simp) (λj hj=>by
      rw[K_ (by simp;omega),Array.getElem?_append_right (by simp)];simp) hxs n4 n1 ro n5 i j p q hp hq
     refine⟨u,?_,e2.mono (λb hb=>.inl hb) (λ_ _=>rfl)⟩
     rw[O_,cell_of_row _ _ _ _ e (0,0) hnew]
     exact e1
    rw[Q_]at hh
    exact hh
  by_cases hl0:L0.length=0
  ·have hLe:L0=[]:=r_ hl0
   subst hLe
   have hr:=eR (P:=P) (w:=w) (ty:=o.type) hu hit hz1 a0 ab L.length m news n1 n2 (L_ hL0) (by simp only[M_]at h63;omega) (by simp only[M_,O_]at hbd;omega)
   refine grow [] (by simp) (λp hp=>by cases hp) (λi j p q hp=>by simp at hp) ?_
   simpa using hr
  ·obtain⟨b,o',rfl,hsz,olds,m1,m2,m3⟩:=hold (L_ hl0)
   have q1:0<L.length:=L_ hL0
   have q2:L0.length<L0.length+L.length:=Nat.lt_add_of_pos_right q1
   have q3:0<L0.length+L.length:=Nat.add_pos_right _ q1
   have q4:L0.length+L.length<=9223372036854775807:=aH_ h63 (by decide)
   have q5:((L0.length+L.length:Nat):Int)<=9223372036854775807:=Int.ofNat_le.2 q4
   have hr:=run_append_grow (P:=P) w t o.type e it z hu hit hz1 ⟨b,o',none⟩ L0.length L0.length olds m1 (λj u hj=>by rw[addr_add];exact m2 j u hj) ab L.length m news n1 n2 (by first|exact q1|exact q2|exact q5) (by first|exact q1|exact q2|exact q5) (growslice_fits (by first|exact q1|exact q2|exact q3|exact q5|exact q5) hbd)
   exact grow olds m1 hsz m3 hr
end
section
variable {P:Program} {o:Oper} {c:Ctx} {θ:List Loc} {D:Nat->Prop} {st:St} {a:Act} {w:World}
theorem kz{α:Type}{xs:Array α}{x:α}(h:xs.toList=[x]):xs= #[x]:=by
 apply aN_;simpa using h
theorem gX{α:Type}{xs:Array α}{x y:α}(h:xs.toList=[x,y]):xs= #[x,y]:=by
 apply aN_;simpa using h
theorem bp{s s':SOp}(hat:∀k q,s≠.atq k q)(h:s.canon=s')(h1:∀e z l ps,s'≠.bslice false e z l ps)(h2:∀f xs,s'≠.call false f xs)(h3:∀t x,s'≠.box t x)(h4:∀x xs,s'≠.callv false [] x xs)(h5:∀e z b x y,s'≠.append e z b x y)(h6:∀e z b v x y,s'≠.mslice e z b v x y:=by simp):s=s':=by
 cases s<;>simp only[SOp.canon]at h<;>first|exact h|exact absurd h.symm (h1 _ _ _ _)|exact absurd h.symm (h2 _ _)|exact absurd h.symm (h3 _ _)|exact absurd h.symm (h4 _ _)|exact absurd h.symm (h5 _ _ _ _ _)|exact absurd h.symm (h6 _ _ _ _ _ _)|exact absurd rfl (hat _ _)
theorem zZ(hI:Inv c θ D st a w){q:Option Operand}{dflt:Nat}{K':Nat->Prop}(h:bnd st (q.map SX.of) dflt K'):
 ∃n,K' n/\((q=none/\n=dflt)\/∃x k,∃m:Int,q=some x/\a.eval x= .int k m/\0<=m/\n=m.toNat):=by
 cases q with
 |none=>exact⟨dflt,h,.inl ⟨rfl,rfl⟩⟩
 |some x=>
  obtain⟨av,hav,h⟩:=h
  obtain⟨k,m,hm,h0,hk⟩:=cN (hI.get hav) h
  exact⟨_,hk,.inr ⟨x,k,m,rfl,hm,h0,rfl⟩⟩
theorem ja{k:IntKind}{m:Int}{y:Nat}{code:BoundsCode}(h0:0<=m)(h1:m.toNat<=y):(Instr.sliceBound (.int k m) y code).run P w= .ok m.toNat w:=by
 have h2:m<=(y:Int):=by omega
 simp only[Instr.sliceBound,asIntOf,Sem.run_bind,Sem.run_pure,Result.andThen_ok]
 rw[if_pos ⟨h0,h2⟩]
 rfl
theorem Gh(hI:Inv c θ D st a w){lo hi mx:Option Operand}{isS:Bool}{len cap l h m:Nat}
 (hl:(lo=none/\l=0)\/∃x k,∃m:Int,lo=some x/\a.eval x= .int k m/\0<=m/\l=m.toNat) (hh:(hi=none/\h=len)\/∃x k,∃m:Int,hi=some x/\a.eval x= .int k m/\0<=m/\h=m.toNat)
 (hm:(mx=none/\m=len)\/∃x k,∃m':Int,mx=some x/\a.eval x= .int k m'/\0<=m'/\m=m'.toNat) (hmh:mx.isSome=true->hi.isSome=true) (h1:l<=h) (h2:h<=m) (h3:m<=len) (h4:len<=cap):
 (Instr.sliceBounds isS len cap (lo.map a.eval) (hi.map a.eval) (mx.map a.eval)).run P w= .ok (l,h,if mx.isSome then m else cap) w:=by
 have _:=hI
 rcases hm with⟨rfl,rfl⟩|⟨x3,k3,m3,rfl,e3,g3,rfl⟩<;>rcases hh with⟨rfl,rfl⟩|⟨x2,k2,m2,rfl,e2,g2,rfl⟩<;>rcases hl with⟨rfl,rfl⟩|⟨x1,k1,m1,rfl,e1,g1,rfl⟩
 ·simp[Instr.sliceBounds]
 ·simp[Instr.sliceBounds,e1,ja g1 h1]
 ·simp[Instr.sliceBounds,e2,ja (y:=cap) g2 (by omega)]
 ·simp[Instr.sliceBounds,e2,e1,ja (y:=cap) g2 (by omega),ja g1 h1]
 ·simp at hmh
 ·simp at hmh
 ·simp[Instr.sliceBounds,e3,e2,ja (y:=cap) g3 (by omega),ja g2 h2]
 ·simp[Instr.sliceBounds,e3,e2,e1,ja (y:=cap) g3 (by omega),ja g2 h2,ja g1 h1]
theorem RU(hI:Inv c θ D st a w){K:AV->Prop}{t e:TypeId}{sz:Nat}{x:Operand}{lo hi mx:Option Operand}(ho:o.op= .slice t x lo hi mx)(ht:P.underlying t=some (.slice e))(hs:b9 P e=some sz)
 (h:jp P st (.slc sz (.of x) (lo.map .of) (hi.map .of) (mx.map .of)) K):Yields P o a w (Res c θ st a K):=by
 obtain⟨ax,hx,q,hq,L,rfl,hb⟩:=h
 obtain⟨b,cap,hv,hcap,hcells⟩:=qK (cF (hI.get hx) hq)
 obtain⟨l,hb,hl⟩:=zZ hI hb
 obtain⟨hn,hb,hh⟩:=zZ hI hb
 obtain⟨m,⟨hmh,h1,h2,h3,hk⟩,hm⟩:=zZ hI hb
 have hmh':mx.isSome=true->hi.isSome=true:=by simpa using hmh
 have hr:=Gh (P:=P) (isS:=true) hI hl hh hm hmh' h1 h2 h3 hcap
 generalize hmm:(if mx.isSome then m else cap)=mm at hr
 have hmm1:hn<=mm/\mm<=cap:=by rw[<-hmm];split<;>omega
 have hrun:(execOp a.eval o).run P w= .ok (.value (.slice (if mm=l then b else b.map (·.add (l*sz))) (hn - l) (mm - l))) w:=by
  simp only[execOp,ho,Instr.sliceAt,Sem.run_bind,run_underlying ht,Result.andThen_ok,Instr.slice,hv,hr,run_sizeOf hs,Sem.run_pure]
 have hrel:RelP D w (.slice (if mm=l then b else b.map (·.add (l*sz))) (hn - l) (mm - l)) (mF sz ((L.take hn).drop l)):=by
  have hlen:((L.take hn).drop l).length=hn - l:=by simp;omega
  rw[<-hlen]
  refine gy (by omega) λhpos=>?_
  obtain⟨g,og,rfl,hg,hsz,hc⟩:=hcells (by omega)
  rw[if_neg (by omega)]
  refine⟨g,og+l*sz,by simp[addr_add],hg,λp hp=>hsz p (ax_ (aw_ hp)),λi j p q hp hq=>?_⟩
  rw[az_,ah_]at hp
  split at hp
  ·obtain⟨u,e1,e2⟩:=hc (l+i) j p q hp hq
   refine⟨u,?_,e2⟩
   rw[<-e1,P_]
   congr 2
   omega
  ·cases hp
 rcases hk with hk|⟨hms,hhm,hk⟩
 ·exact aF hI hrun hk hrel
 ·have hmh:mm=hn:=by
   rw[<-hmm,if_pos (by simpa using hms)]
   exact hhm.symm
  refine aF hI (x:=.b (.full (mF sz ((L.take hn).drop l)))) hrun hk ⟨hrel,(if mm=l then b else b.map (·.add (l*sz))),hn - l,?_⟩
  rw[hmh]
theorem OV(hI:Inv c θ D st a w){K:AV->Prop}{t:TypeId}{x:Operand}{lo hi:Option Operand}(ho:o.op= .slice t x lo hi none)(ht:P.underlying t=some .string)
 (h:jp P st (.slcS (.of x) (lo.map .of) (hi.map .of)) K):Yields P o a w (Res c θ st a K):=by
 obtain⟨ax,hx,hv⟩:=h
 obtain⟨s,hs,hb⟩:=cN (hI.get hx) hv
 obtain⟨l,hb,hl⟩:=zZ hI hb
 obtain⟨hn,⟨h1,h2,hk⟩,hh⟩:=zZ hI hb
 have hr:=Gh (P:=P) (isS:=false) (mx:=none) (m:=s.size) hI hl hh (.inl ⟨rfl,rfl⟩) (by simp) h1 h2 (u_ _) (u_ _)
 refine aF hI ?_ hk (RelP.sc _)
 simp only[Option.map_none]at hr
 simp[execOp,ho,Instr.sliceAt,run_underlying ht,Instr.slice,hs,hr]
end
section
variable {P:Program} {o:Oper} {c:Ctx} {θ:List Loc} {D:Nat->Prop} {st:St} {a:Act} {w:World}
theorem NG{s:SOp}{f:FuncId}{xs:List SX}(hat:∀k q,s≠.atq k q)(h:s.canon= .call false f xs):(∃b,s= .call b f xs)\/∃b B,s= .callA b B f xs:=by
 cases s<;>simp_all[SOp.canon]
theorem Ll{s:SOp}{x:SX}{xs:List SX}(hat:∀k q,s≠.atq k q)(h:s.canon= .callv false [] x xs):(∃b B,s= .callv b B x xs)\/∃b,s= .callp b x xs:=by
 cases s<;>simp_all[SOp.canon]
theorem QO{s:SOp}{e:TypeId}{x:SX}(hat:∀k q,s≠.atq k q)(h:s.canon= .box e x):s= .box e x\/s= .boxD e x:=by
 cases s<;>simp_all[SOp.canon]
theorem Jz{s:SOp}{e:TypeId}{z l:Nat}{xs:List SX}(hat:∀k q,s≠.atq k q)(h:s.canon= .bslice false e z l xs):(∃b,s= .bslice b e z l xs)\/s= .bsliceN e z l xs:=by
 cases s<;>simp_all[SOp.canon]
theorem JA{s:SOp}{e:TypeId}{z b:Nat}{v:Value}{x y:SX}(hat:∀k q,s≠.atq k q)(h:s.canon= .mslice e z b v x y):s= .mslice e z b v x y\/∃k,s= .msliceT k e z b v x y:=by
 cases s<;>simp_all[SOp.canon]
theorem Jy{s:SOp}{e:TypeId}{z b:Nat}{x y:SX}(hat:∀k q,s≠.atq k q)(h:s.canon= .append e z b x y):s= .append e z b x y\/s= .appD e z b x y\/∃k,s= .appT k e z b x y:=by
 cases s<;>simp_all[SOp.canon]
def W5(P:Program)(o:Oper):Bool:=match o.op with
 | .binOp _ t _ _ _=>match P.underlying t with
  |some (.struct _)=> !P.eqGuardType P.depth t
  |_=>true
 | .makeInterface t _=>match P.underlying t with
  |some (.interface _)=>false
  |some _=>true
  |none=>false
 | .panic x=>match x with
  | .tmp _=>true
  |_=>false
 |_=>true
theorem G4(hI:Inv c θ D st a w)(hd:∀k,o.dst=some k->k<c.n){s:SOp}{K KP:St->Prop}(hat:∀k q,s≠.atq k q)(hc:ig P o=some s.canon)(hok:W5 P o=true)(h:sexec P o.dst s st K KP):Leaves P o c K KP a w:=by
 have pure_:Yields P o a w (Res c θ st a λx=>K (st.putO o.dst x))->Leaves P o c K KP a w:=λhy=>B8 hd hy λ_ h=>h
 unfold ig at hc
 split at hc
 ·rename_i x ho
  cases bp hat (e_ hc).symm (by simp) (by simp) (by simp) (by simp) (by simp)
  exact pure_ (MV hI (.inl ho) h)
 ·rename_i x ho
  cases bp hat (e_ hc).symm (by simp) (by simp) (by simp) (by simp) (by simp)
  exact pure_ (MV hI (.inr ho) h)
 ·rename_i x y z ho
  cases bp hat (e_ hc).symm (by simp) (by simp) (by simp) (by simp) (by simp)
  exact pure_ (OU hI ho h)
 ·rename_i op t x y t' ho
  split at hc
  ·cases bp hat (e_ hc).symm (by simp) (by simp) (by simp) (by simp) (by simp)
   exact pure_ (I8 hI ho h)
  ·cases bp hat (e_ hc).symm (by simp) (by simp) (by simp) (by simp) (by simp)
   exact pure_ (I8 hI ho h)
  ·rename_i ht
   split at hc
   ·cases bp hat (e_ hc).symm (by simp) (by simp) (by simp) (by simp) (by simp)
    exact pure_ (I9 (neg:=false) hI ho ht h)
   ·cases bp hat (e_ hc).symm (by simp) (by simp) (by simp) (by simp) (by simp)
    exact pure_ (I9 (neg:=true) hI ho ht h)
   ·cases hc
  ·rename_i fs ht
   have hg:P.eqGuardType P.depth t=false:=by
    unfold W5 at hok
    rw[ho]at hok
    simp only[ht]at hok
    simpa using hok
   split at hc
   ·cases bp hat (e_ hc).symm (by simp) (by simp) (by simp) (by simp) (by simp)
    exact pure_ (Ja (neg:=false) hI ho rfl ht hg h)
   ·cases bp hat (e_ hc).symm (by simp) (by simp) (by simp) (by simp) (by simp)
    exact pure_ (Ja (neg:=true) hI ho rfl ht hg h)
   ·cases hc
  ·cases hc
 ·rename_i op t x ho
  cases bp hat (e_ hc).symm (by simp) (by simp) (by simp) (by simp) (by simp)
  exact pure_ (UB hI ho h)
 ·rename_i cl ho
  split at hc
  ·rename_i hcl
   split at hc
   ·rename_i x t hargs htys
    split at hc
    ·rename_i e ht
     cases bp hat (e_ hc).symm (by simp) (by simp) (by simp) (by simp) (by simp)
     exact pure_ (RS hI ho hcl (kz hargs) (kz htys) ht h)
    ·rename_i ht
     cases bp hat (e_ hc).symm (by simp) (by simp) (by simp) (by simp) (by simp)
     exact pure_ (OQ hI ho hcl (kz hargs) (kz htys) ht h)
    ·rename_i n e ht
     cases bp hat (e_ hc).symm (by simp) (by simp) (by simp) (by simp) (by simp)
     refine pure_ (MR hI ?_ h)
     simp[execOp,ho,resolve,hcl,kz hargs,kz htys,invoke,builtin,Builtin.len_,run_underlying ht,goInt]
    ·rename_i k e ht
     cases bp hat (e_ hc).symm (by simp) (by simp) (by simp) (by simp) (by simp)
     exact pure_ (OP hI ho hcl (kz hargs) (kz htys) ht h)
    ·cases hc
   ·cases hc
  ·rename_i hcl
   split at hc
   ·rename_i x y t u hargs htys
    split at hc
    ·rename_i htu
     subst htu
     simp only[c_]at hc
     obtain⟨e,he,s',hs,b,hb,z,hz,hc⟩:=hc
     split at hc
     ·rename_i hcond
      obtain⟨h1,h2,h3⟩:=hcond
      rcases Jy hat (e_ hc).symm with rfl|rfl|⟨k,rfl⟩
      ·exact Kq hI hd ho hcl (gX hargs) (gX htys) he hs hb hz h1 h2 h3 h
      ·exact OE hI hd ho hcl (gX hargs) (gX htys) he hs hb hz h1 h2 h3 h
      ·exact OF hI hd ho hcl (gX hargs) (gX htys) he hs hb hz h1 h2 h3 h
     ·cases hc
    ·cases hc
   ·cases hc
  ·rename_i hcl
   split at hc
   ·rename_i x y t u hargs htys
    simp only[c_]at hc
    obtain⟨e,he,e',he',s',hs,hc⟩:=hc
    split at hc
    ·rename_i hcond
     obtain⟨rfl,h0⟩:=hcond
     cases bp hat (e_ hc).symm (by simp) (by simp) (by simp) (by simp) (by simp)
     exact OI hI hd ho hcl (gX hargs) (gX htys) he hs h0 h
    ·cases hc
   ·cases hc
  ·rename_i hcl
   split at hc
   ·rename_i x ys t l hargs htys
    split at hc
    ·cases bp hat (e_ hc).symm (by simp) (by simp) (by simp) (by simp) (by simp)
     exact pure_ (Gm (mx:=false) hI ho hcl hargs h)
    ·cases hc
   ·cases hc
  ·rename_i hcl
   split at hc
   ·rename_i x ys t l hargs htys
    split at hc
    ·cases bp hat (e_ hc).symm (by simp) (by simp) (by simp) (by simp) (by simp)
     exact pure_ (Gm (mx:=true) hI ho hcl hargs h)
    ·cases hc
   ·cases hc
  ·rename_i f hcl
   split at hc
   ·rename_i hf
    rcases NG hat (e_ hc).symm with⟨bor,rfl⟩|⟨bor,B,rfl⟩
    ·exact OH hI hd ho hcl hf h
    ·exact MN hI hd ho hcl hf h
   ·cases hc
  ·rename_i t hcl
   rcases Ll hat (e_ hc).symm with⟨bor,B,rfl⟩|⟨bor,rfl⟩
   ·exact MP hI hd ho hcl h
   ·exact MO hI hd ho hcl h
  ·cases hc
 ·rename_i t x i ho
  split at hc
  ·rename_i ht
   cases bp hat (e_ hc).symm (by simp) (by simp) (by simp) (by simp) (by simp)
   exact pure_ (ON hI ho ht h)
  ·rename_i n e ht
   split at hc
   ·rename_i hd'
    obtain⟨d',hd'⟩:=s_.1 hd'
    simp only[d_]at hc
    obtain⟨sz,hs,hc⟩:=hc
    cases bp hat hc.symm (by simp) (by simp) (by simp) (by simp) (by simp)
    exact pure_ (OO hI ho ht hd' hs h)
   ·cases hc
  ·cases hc
 ·rename_i t x i ho
  split at hc
  ·rename_i e ht
   simp only[d_]at hc
   obtain⟨sz,hs,hc⟩:=hc
   cases bp hat hc.symm (by simp) (by simp) (by simp) (by simp) (by simp)
   exact pure_ (OL hI ho ht hs h)
  ·rename_i n e ht
   simp only[d_]at hc
   obtain⟨sz,hs,hc⟩:=hc
   cases bp hat hc.symm (by simp) (by simp) (by simp) (by simp) (by simp)
   exact pure_ (OM hI ho ht hs h)
  ·cases hc
 ·rename_i t x f ho
  simp only[c_]at hc
  obtain⟨fd,hf,sz,hs,hc⟩:=hc
  split at hc
  ·cases hc
  ·rename_i hsz
   cases bp hat (e_ hc).symm (by simp) (by simp) (by simp) (by simp) (by simp)
   exact pure_ (OK hI ho hf hs hsz h)
 ·rename_i t x f ho
  simp only[c_]at hc
  obtain⟨fd,hf,hc⟩:=hc
  split at hc
  ·rename_i hd'
   obtain⟨d',hd'⟩:=s_.1 hd'
   simp only[d_]at hc
   obtain⟨sz,hs,hc⟩:=hc
   cases bp hat hc.symm (by simp) (by simp) (by simp) (by simp) (by simp)
   exact pure_ (RP hI ho hf hd' hs h)
  ·cases hc
 ·rename_i t x ho
  simp only[c_]at hc
  obtain⟨sz,hs,hc⟩:=hc
  split at hc
  ·rename_i hd'
   obtain⟨d',hd'⟩:=s_.1 hd'
   cases bp hat (e_ hc).symm (by simp) (by simp) (by simp) (by simp) (by simp)
   exact pure_ (OR hI ho hd' hs h)
  ·cases hc
 ·rename_i t x v ho
  simp only[d_]at hc
  obtain⟨sz,hs,hc⟩:=hc
  cases bp hat hc.symm (by simp) (by simp) (by simp) (by simp) (by simp)
  have hdn:o.dst=none:=by
   obtain⟨_,_,_,_,h1,_⟩:=h
   exact h1
  exact MX hI hdn ho hs h
 ·rename_i e ho
  simp only[d_]at hc
  obtain⟨z,hz,hc⟩:=hc
  cases bp hat hc.symm (by simp) (by simp) (by simp) (by simp) (by simp)
  exact ML hI hd ho hz h
 ·rename_i e x ho
  rcases QO hat (e_ hc).symm with rfl|rfl
  ·exact RN hI hd ho h
  ·exact OG hI hd ho h
 ·rename_i t parts ho
  simp only[c_,d_]at hc
  obtain⟨z,hz,ps,hps,hc⟩:=hc
  cases bp hat hc.symm (by simp) (by simp) (by simp) (by simp) (by simp)
  exact pure_ (MM hI ho hz hps h)
 ·rename_i t len parts ho
  simp only[c_]at hc
  obtain⟨e,he,sz,hs,z,hz,hc⟩:=hc
  split at hc
  ·rename_i hcond
   obtain⟨h1,h2⟩:=hcond
   rcases Jz hat (e_ hc).symm with⟨own,rfl⟩|rfl
   rotate_left
   ·exact Hz hI hd ho he hs hz h1 h2 h
   cases own
   ·exact Kr hI hd ho he hs hz h1 h2 h
   ·exact HA hI hd ho he hs hz h1 h2 h
  ·cases hc
 ·rename_i t l m ho
  simp only[c_,d_]at hc
  obtain⟨e,he,sz,hs,b,hb,z,hz,hc⟩:=hc
  rcases JA hat hc.symm with rfl|⟨k,rfl⟩
  ·exact Kt hI hd ho he hs hb hz h
  ·exact HB hI hd ho he hs hb hz h
 ·rename_i s' d' x ho
  split at hc
  ·rename_i ds k h1 h2
   cases bp hat (e_ hc).symm (by simp) (by simp) (by simp) (by simp) (by simp)
   exact pure_ (OJ hI ho h1 h2 h)
  ·rename_i e h1 h2
   split at hc
   ·rename_i h3
    cases bp hat (e_ hc).symm (by simp) (by simp) (by simp) (by simp) (by simp)
    exact pure_ (RL hI ho h1 h2 h3 h)
   ·cases hc
  ·cases hc
 ·rename_i t x lo hi mx ho
  split at hc
  ·rename_i e ht
   simp only[d_]at hc
   obtain⟨sz,hs,hc⟩:=hc
   cases bp hat hc.symm (by simp) (by simp) (by simp) (by simp) (by simp)
   exact pure_ (RU hI ho ht hs h)
  ·rename_i ht
   split at hc
   ·cases bp hat (e_ hc).symm (by simp) (by simp) (by simp) (by simp) (by simp)
    exact pure_ (OV hI ho ht h)
   ·cases hc
  ·cases hc
 ·rename_i x i ho
  cases bp hat (e_ hc).symm (by simp) (by simp) (by simp) (by simp) (by simp)
  exact pure_ (RO hI ho h)
 ·rename_i x ho
  cases bp hat (e_ hc).symm (by simp) (by simp) (by simp) (by simp) (by simp)
  exact pure_ (OT hI ho h)
 ·rename_i f first caps ho
  split at hc
  ·rename_i hcond
   simp only[n_]at hcond
   cases bp hat (e_ hc).symm (by simp) (by simp) (by simp) (by simp) (by simp)
   exact pure_ (OS hI ho (by simpa using hcond.1) h)
  ·cases hc
 ·rename_i t ho
  split at hc
  ·cases bp hat (e_ hc).symm (by simp) (by simp) (by simp) (by simp) (by simp)
   exact MU hI hd ho h
  ·cases hc
 ·rename_i t m x ok ho
  split at hc
  ·rename_i k e ht
   simp only[d_]at hc
   obtain⟨z,hz,hc⟩:=hc
   cases bp hat hc.symm (by simp) (by simp) (by simp) (by simp) (by simp)
   exact pure_ (Ks hI ho ht hz h)
  ·cases hc
 ·rename_i t m x v ho
  split at hc
  ·rename_i k e ht
   cases bp hat (e_ hc).symm (by simp) (by simp) (by simp) (by simp) (by simp)
   have hdn:o.dst=none:=by
    obtain⟨_,_,_,_,_,_,_,_,_,_,_,_,_,_,h1,_⟩:=h
    exact h1
   exact Bb hI hdn (.inl ho) ht h
  ·cases hc
 ·rename_i t m x v ho
  split at hc
  ·rename_i k e ht
   cases bp hat (e_ hc).symm (by simp) (by simp) (by simp) (by simp) (by simp)
   have hdn:o.dst=none:=by
    obtain⟨_,_,_,_,_,_,_,_,_,_,_,_,_,_,h1,_⟩:=h
    exact h1
   exact Bb hI hdn (.inr ho) ht h
  ·cases hc
 ·rename_i x ho
  cases bp hat (e_ hc).symm (by simp) (by simp) (by simp) (by simp) (by simp)
  exact MW hI ho h
 ·rename_i t x ho
  cases bp hat (e_ hc).symm (by simp) (by simp) (by simp) (by simp) (by simp)
  refine pure_ (MS hI ho ?_ h)
  unfold W5 at hok
  rw[ho]at hok
  exact hok
 ·cases hc
theorem NJ{t:TypeId}{zl:List Value}(hc:ig P o=some (.alloc t zl)):∃z,o.op= .alloc t/\dI P t=some z/\zl=z.cells.toList:=by
 unfold ig at hc
 (repeat' split at hc)<;>simp_all[c_,d_]
 obtain⟨z,h1,rfl,rfl⟩:=hc
 exact⟨rfl,z,h1,rfl⟩
theorem SV{t:TypeId}{x:SX}(hc:ig P o=some (.box t x)):∃y,o.op= .box t y/\x= .of y:=by
 unfold ig at hc
 (repeat' split at hc)<;>simp_all[c_,d_]
theorem NM{k e:TypeId}(hc:ig P o=some (.mkmap k e)):∃t,o.op= .makeMap t none:=by
 unfold ig at hc
 (repeat' split at hc)<;>simp_all[c_,d_]
theorem Lq{own:Bool}{e:TypeId}{sz len:Nat}{xs:List SX}(hc:ig P o=some (.bslice own e sz len xs)):∃t parts z,o.op= .buildSlice t len parts/\fA P t=some e/\b9 P e=some sz/\dI P e=some z/\rN parts.toList=true/\z.cells.size=sz/\xs=parts.toList.map λq=>SX.of q.2:=by
 unfold ig at hc
 (repeat' split at hc)<;>simp_all[c_,d_]
 obtain⟨e',h1,s',h2,z,h3,⟨h4,h5⟩,_,rfl,rfl,rfl,rfl⟩:=hc
 exact⟨_,_,⟨rfl,rfl,rfl⟩,h1,h2,z,h3,h4,h5,rfl⟩
theorem Lr{e:TypeId}{sz b:Nat}{z:Value}{l m:SX}(hc:ig P o=some (.mslice e sz b z l m)):∃t x y,o.op= .makeSlice t x y/\fA P t=some e/\b9 P e=some sz/\iJ P e=some b/\dI P e=some z/\l= .of x/\m= .of y:=by
 unfold ig at hc
 (repeat' split at hc)<;>simp_all[c_,d_]
 obtain⟨e',h1,s',h2,b',h3,z',h4,rfl,rfl,rfl,rfl,rfl,rfl⟩:=hc
 exact⟨_,_,_,⟨rfl,rfl,rfl⟩,h1,h2,h3,h4,rfl,rfl⟩
theorem Lp{e:TypeId}{sz b:Nat}{l m:SX}(hc:ig P o=some (.append e sz b l m)):∃cl x y t z,o.op= .call cl/\cl.callee= .builtin .append/\cl.args= #[x,y]/\cl.argTypes= #[t,t]/\fA P t=some e/\b9 P e=some sz/\iJ P e=some b/\dI P e=some z/\z.cells.size=sz/\0<sz/\0<b/\l= .of x/\m= .of y:=by
 unfold ig at hc
 (repeat' split at hc)<;>simp_all[c_,d_]
 rename_i cl _ h6 _ _ x y t u h7 h8 h9
 obtain⟨e',h1,s',h2,b',h3,z',h4,h5,rfl,rfl,rfl,rfl,rfl⟩:=hc
 exact⟨x,y,gX h7,u,gX h8,h1,h2,h3,z',h4,h5.1,h5.2.1,h5.2.2,rfl,rfl⟩
theorem UA(hI:Inv c θ D st a w)(hd:∀k,o.dst=some k->k<c.n){k:Nat}{q:SOp}{K KP:St->Prop}(hc:ig P o=some q.canon)(h:sexec P o.dst (.atq k q) st K KP):Leaves P o c K KP a w:=by
 cases q with
 |alloc t zl=>
  obtain⟨z,ho,hz,rfl⟩:=NJ hc
  exact Mb hI hd (pl:=some k) ho hz h
 |box t x=>
  obtain⟨y,ho,rfl⟩:=SV hc
  exact Tz hI hd (pl:=some k) ho h
 |mkmap t e=>
  obtain⟨t,ho⟩:=NM hc
  exact Md hI hd (pl:=some k) ho h
 |bslice own e sz len xs=>
  cases own with
  |false=>exact h.elim
  |true=>
   obtain⟨t,parts,z,ho,he,hs,hz,hord,hzs,rfl⟩:=Lq hc
   exact IK hI hd ho he hs hz hord hzs (pl:=some k) h
 |mslice e sz b z l m=>
  obtain⟨t,x,y,ho,he,hs,hb,hz,rfl,rfl⟩:=Lr hc
  exact IL hI hd ho he hs hb hz (pl:=some k) h
 |append e sz b l m=>
  obtain⟨cl,x,y,t,z,ho,hcl,hargs,htys,he,hs,hb,hz,hzs,h0,hb0,rfl,rfl⟩:=Lp hc
  exact Rb hI hd ho hcl hargs htys he hs hb hz hzs h0 hb0 (pl:=some k) h
 |_=>exact h.elim
theorem Af(hI:Inv c θ D st a w)(hd:∀k,o.dst=some k->k<c.n){s:SOp}{K KP:St->Prop}(hc:ig P o=some s.canon)(hok:W5 P o=true)(h:sexec P o.dst s st K KP):Leaves P o c K KP a w:=by
 by_cases hat:∀k q,s≠.atq k q
 ·exact G4 hI hd hat hc hok h
 ·have:∃k q,s= .atq k q:=v_ λhn=>hat λk q e=>hn ⟨k,q,e⟩
  obtain⟨k,q,rfl⟩:=this
  exact UA hI hd (k:=k) (q:=q) hc h
def vS(P:Program)(n:Nat)(ops:Array Oper)(o:Oper)(s:SOper):Prop:=
 (ig P o=some s.op.canon/\W5 P o=true)/\s.dst=o.dst/\(∀k,o.dst=some k->k<n)/\
  match o.guard with
  |none=>s.gd=none
  |some (j,want)=>∃t,(ops[j]?).bind (·.dst)=some t/\s.gd=some (t,want)
theorem O5{ops:Array Oper}{j t:Nat}(ht:(ops[j]?).bind (·.dst)=some t)(tmps:Array Value):yielded ops tmps j=yv (tmps.getD t undef):=by
 unfold yielded
 rw[ht]
 simp only[Option.bind_some]
 rcases z_ t tmps.size with h|h
 ·simp only[m_ h,ag_,h,dif_pos]
  show _=yv tmps[t]
  cases tmps[t]<;>rfl
 ·simp only[Array.getElem?_eq_none h,ag_,aC_.2 h,dif_neg,not_false_eq_true]
  rfl
theorem qM{n:Nat}{ops:Array Oper}{s:SOper}{K KP:St->Prop}(hI:Inv c θ D st a w)(hn:c.n=n)(hc:vS P n ops o s)(h:iV P s st K KP)(next:Act->World->Prop)(Q:Exit->Act->World->Prop)
 (hnext:∀a' w',(∃st',K st'/\Rel c st' a' w')->next a' w') (hp:∀ch w',(tH ch/\∃st',KP st'/\Rel c st' a w')->Q (.panic ch) a w'):if Region.wanted o (yielded ops a.tmps)then o.wp P a w next Q else next (a.put o.dst undef) w:=by
 obtain⟨h1,h2,h3,h4⟩:=hc
 have hd:∀k,o.dst=some k->k<c.n:=by rw[hn];exact h3
 unfold iV at h
 unfold Region.wanted
 cases hg:o.guard with
 |none=>
  rw[hg]at h4
  simp only at h4
  rw[h4]at h
  simp only[if_true]
  rw[h2]at h
  exact Af hI hd h1.1 h1.2 h next Q hnext hp
 |some jw=>
  obtain⟨j,want⟩:=jw
  rw[hg]at h4
  obtain⟨t,ht,hgd⟩:=h4
  rw[hgd]at h
  obtain⟨g,hlk,v,rfl,hyes,hno⟩:=h
  have hv:=Oo (hI.fr t _ hlk)
  simp only[O5 ht,hv]
  by_cases hy:yv v=some want
  ·rw[if_pos (by simpa using hy)]
   have:=hyes hy
   rw[h2]at this
   exact Af hI hd h1.1 h1.2 this next Q hnext hp
  ·rw[if_neg (by simpa using hy)]
   have:=hno hy
   rw[h2]at this
   exact hnext _ _ ⟨_,this,θ,D,hI.put hd (RelP.sc _)⟩
end
section
variable {P:Program} {c:Ctx} {st:St} {a:Act} {w:World}
def tO(P:Program)(n:Nat)(ops:Array Oper):List Oper->List SOper->Prop
 |[],[]=>True
 |o::l,s::m=>vS P n ops o s/\tO P n ops l m
 |_,_=>False
theorem vT{n:Nat}{ops:Array Oper}:∀{l:List Oper} {m:List SOper},tO P n ops l m->l.length=m.length/\∀(i:Nat) (o:Oper) (s:SOper),l[i]? =some o->m[i]? =some s->vS P n ops o s
 |[],[],_=>⟨rfl,λi o s h=>by simp at h⟩
 |o::l,s::m,h=>by
  obtain⟨h1,h2⟩:=h
  obtain⟨h3,h4⟩:=vT h2
  refine⟨by simp[h3],λi o' s' ho hs=>?_⟩
  cases i with
  |zero=>simp at ho hs;subst ho;subst hs;exact h1
  |succ i=>exact h4 i o' s' (by simpa using ho) (by simpa using hs)
theorem OD{n m:Nat}{ops:Array Oper}(hn:c.n=n)(hm:c.th.length<=m){K KP:St->Prop}{Q:Exit->Act->World->Prop}(hQ:∀a w,(∃st',K st'/\Rel c st' a w)->Q .normal a w)(hP:∀ch a w,(tH ch/\∃st',KP st'/\Rel c st' a w)->Q (.panic ch) a w):
 ∀(suf:List Oper) (ss:List SOper) (k:Nat),(∀i,suf[i]? =ops[k+i]?)->tO P n ops suf ss->∀(st:St) (a:Act) (w:World),sops P m ss st K KP->Rel c st a w->wpOps P ops Q (aV_ k suf.length) a w:=by
 intro suf
 induction suf with
 |nil=>
  intro ss k _ hc st a w h hr
  cases ss with
  |cons s ss=>exact hc.elim
  |nil=>
   simp only[sops]at h
   obtain⟨st',hw,hk⟩:=h
   exact hQ a w ⟨st',hk,hw _ _ _ hm hr⟩
 |cons o suf ih=>
  intro ss k hk hc st a w h hr
  cases ss with
  |nil=>exact hc.elim
  |cons s ss=>
   obtain⟨h1,h2⟩:=hc
   simp only[sops]at h
   obtain⟨st1,hw,h⟩:=h
   obtain⟨θ,D,hI⟩:=hw _ _ _ hm hr
   have ho:ops[k]? =some o:=by simpa using(hk 0).symm
   have:=qM hI hn h1 h (λa' w'=>wpOps P ops Q (aV_ (k+1) suf.length) a' w') Q (λa' w' ⟨st',hst,hrel⟩=>
    ih ss (k+1) (λi=>by have:=hk (i+1);simp only[List.getElem?_cons_succ]at this;rw[this];congr 1;omega) h2 st' a' w' hst hrel) (λch w' hp=>hP ch a w' hp)
   simp only[A_,List.range'_succ,wpOps,ho]
   split
   ·rename_i hw
    rw[if_pos hw]at this
    exact .inl this
   ·rename_i hw
    rw[if_neg hw]at this
    exact this
theorem Kj{id n m:Nat}{ops:Array Oper}{ss:List SOper}(hn:c.n=n)(hm:c.th.length<=m)(hc:tO P n ops ops.toList ss){K KP:St->Prop}{Q:Exit->Act->World->Prop}(h:sops P m ss st K KP)(hr:Rel c st a w)
 (hQ:∀a w,(∃st',K st'/\Rel c st' a w)->Q .normal a w) (hP:∀ch a w,(tH ch/\∃st',KP st'/\Rel c st' a w)->Q (.panic ch) a w):(Code.region id ops false).wp P Q a w:=by
 refine wp_region ?_
 have:=OD hn hm hQ hP ops.toList ss 0 (λi=>by simp) hc st a w h hr
 rw[List.range_eq_range']
 simpa using this
def SX.rd:SX->List Nat
 | .tm k=>[k]
 |_=>[]
def SOp.rd:SOp->List Nat
 | .mv x| .un _ x| .len _ x| .lenM _ _ x| .fldA _ _ _ x| .fld _ _ _ x| .load _ _ x| .box _ x| .boxD _ x| .cvtI _ x| .ext x _| .nilc x| .b2s x| .panic x| .iface _ x=>x.rd
 | .pick c a b=>c.rd++a.rd++b.rd
 | .bin _ x y| .eqB _ x y| .eqT _ _ x y| .idxS x y| .idxV _ _ _ x y| .idxA _ x y| .idxP _ _ _ x y| .store _ x y| .mslice _ _ _ _ x y| .append _ _ _ x y| .appD _ _ _ x y| .msliceT _ _ _ _ _ x y| .appT _ _ _ _ x y| .lookup _ _ _ _ x y| .copy _ _ x y=>x.rd++y.rd
 | .mapset _ _ x y z=>x.rd++y.rd++z.rd
 | .alloc _ _| .mkmap _ _=>[]
 | .build _ ps=>ps.flatMap λq=>q.2.2.rd
 | .bslice _ _ _ _ ps=>ps.flatMap SX.rd
 | .bsliceN _ _ _ ps=>ps.flatMap SX.rd
 | .slc _ x lo hi mx=>x.rd++(lo.map SX.rd).getD []++(hi.map SX.rd).getD []++(mx.map SX.rd).getD []
 | .slcS x lo hi=>x.rd++(lo.map SX.rd).getD []++(hi.map SX.rd).getD []
 | .call _ _ xs| .callA _ _ _ xs| .mkfn _ xs=>xs.flatMap SX.rd
 | .callv _ _ x xs| .mnmx _ _ x xs| .callp _ x xs=>x.rd++xs.flatMap SX.rd
 | .atq _ op=>op.rd
def SOper.rd(o:SOper):List Nat:=o.op.rd++(o.gd.map λg=>[g.1]).getD []
theorem aQ{st st':St}{x:SX}(h:∀t∈x.rd,look st'.fr t=look st.fr t):st'.get x=st.get x:=by
 cases x<;>simp only[St.get]
 exact h _ (by simp[SX.rd])
theorem eN{α β:Type}{f g:α->Option β}:∀{l:List α},(∀x∈l,f x=g x)->l.mapM f=l.mapM g
 |[],_=>rfl
 |x::l,h=>by
  rw[C_,C_,h x (by simp),eN (l:=l) λy hy=>h y (by simp[hy])]
theorem sS{st st':St}{x:Option SX}(h:∀t∈(x.map SX.rd).getD [],look st'.fr t=look st.fr t)(d:Nat)(K:Nat->Prop):bnd st' x d K=bnd st x d K:=by
 cases x with
 |none=>rfl
 |some x=>simp only[bnd,aQ (x:=x) (by simpa using h)]
theorem RJ{st st':St}{s:SOp}(hh:st'.hp=st.hp)(h:∀t∈s.rd,look st'.fr t=look st.fr t)(K:AV->Prop):jp P st' s K=jp P st s K:=by
 cases s<;>simp only[SOp.rd,l_]at h<;>simp only[jp,hh]
 case mv x=>rw[aQ h]
 case pick x y z=>rw[aQ (x:=x) λt ht=>h t (.inl (.inl ht)),aQ (x:=y) λt ht=>h t (.inl (.inr ht)),aQ (x:=z) λt ht=>h t (.inr ht)]
 case un op x=>rw[aQ h]
 case len b x=>rw[aQ h]
 case fldA x=>rw[aQ h]
 case fld x=>rw[aQ h]
 case load x=>rw[aQ h]
 case cvtI x=>rw[aQ h]
 case ext x i=>rw[aQ h]
 case nilc x=>rw[aQ h]
 case b2s x=>rw[aQ h]
 case lenM k e x=>rw[aQ h]
 case boxD k x=>rw[aQ h]
 case iface k x=>rw[aQ h]
 case appD e sz bt x y=>rw[aQ (x:=x) λt ht=>h t (.inl ht),aQ (x:=y) λt ht=>h t (.inr ht)]
 case eqT op t x y=>rw[aQ (x:=x) λt ht=>h t (.inl ht),aQ (x:=y) λt ht=>h t (.inr ht)]
 case lookup k e ok z x y=>rw[aQ (x:=x) λt ht=>h t (.inl ht),aQ (x:=y) λt ht=>h t (.inr ht)]
 case mkfn f xs=>rw[eN (l:=xs) λq hq=>aQ (x:=q) λt ht=>h t (f_.2 ⟨q,hq,ht⟩)]
 case mnmx mx k x xs=>rw[aQ (x:=x) λt ht=>h t (.inl ht),eN (l:=xs) λq hq=>aQ (x:=q) λt ht=>h t (.inr (f_.2 ⟨q,hq,ht⟩))]
 case bin op x y=>rw[aQ (x:=x) λt ht=>h t (.inl ht),aQ (x:=y) λt ht=>h t (.inr ht)]
 case eqB op x y=>rw[aQ (x:=x) λt ht=>h t (.inl ht),aQ (x:=y) λt ht=>h t (.inr ht)]
 case idxS x y=>rw[aQ (x:=x) λt ht=>h t (.inl ht),aQ (x:=y) λt ht=>h t (.inr ht)]
 case idxV x y=>rw[aQ (x:=x) λt ht=>h t (.inl ht),aQ (x:=y) λt ht=>h t (.inr ht)]
 case idxA x y=>rw[aQ (x:=x) λt ht=>h t (.inl ht),aQ (x:=y) λt ht=>h t (.inr ht)]
 case idxP x y=>rw[aQ (x:=x) λt ht=>h t (.inl ht),aQ (x:=y) λt ht=>h t (.inr ht)]
 case build z ps=>rw[eN (l:=ps) λq hq=>by rw[aQ (x:=q.2.2) λt ht=>h t (f_.2 ⟨q,hq,ht⟩)]]
 case bslice b e sz l ps=>
  cases b
  ·simp only
   rw[eN (l:=ps) λq hq=>by rw[aQ (x:=q) λt ht=>h t (f_.2 ⟨q,hq,ht⟩)]]
  ·rfl
 case bsliceN e sz l ps=>rw[eN (l:=ps) λq hq=>by rw[aQ (x:=q) λt ht=>h t (f_.2 ⟨q,hq,ht⟩)]]
 case call b f xs=>rw[eN (l:=xs) λq hq=>by rw[aQ (x:=q) λt ht=>h t (f_.2 ⟨q,hq,ht⟩)]]
 case callp b x xs=>rw[aQ (x:=x) λt ht=>h t (.inl ht),eN (l:=xs) λq hq=>by rw[aQ (x:=q) λt ht=>h t (.inr (f_.2 ⟨q,hq,ht⟩))]]
 case slc sz x lo hi mx=>
  simp only[aQ (x:=x) λt ht=>h t (.inl (.inl (.inl ht))),sS (x:=lo) λt ht=>h t (.inl (.inl (.inr ht))),sS (x:=hi) λt ht=>h t (.inl (.inr ht)),sS (x:=mx) λt ht=>h t (.inr ht)]
 case slcS x lo hi=>
  simp only[aQ (x:=x) λt ht=>h t (.inl (.inl ht)),sS (x:=lo) λt ht=>h t (.inl (.inr ht)),sS (x:=hi) λt ht=>h t (.inr ht)]
def fO(P:Program)(o:SOper)(st:St)(x:AV):Prop:=
 match o.gd with
 |none=>jp P st o.op λy=>y=x
 |some (t,want)=>aI (look st.fr t) λg=>Bq g λv=>(yv v=some want->jp P st o.op λy=>y=x)/\(yv v≠some want->x= .v undef)
theorem Kv{o:SOper}{st st':St}{x:AV}(hh:st'.hp=st.hp)(h:∀t∈o.rd,look st'.fr t=look st.fr t)(hy:fO P o st x):fO P o st' x:=by
 simp only[SOper.rd,l_]at h
 have h1:=RJ (P:=P) (s:=o.op) hh λt ht=>h t (.inl ht)
 unfold fO at hy⊢
 split at hy
 ·rename_i hg
  rw[h1]
  exact hy
 ·rename_i t want hg
  rw[hg]at h
  rw[h t (.inr (by simp)),h1]
  exact hy
theorem aj{α:Type}{o:Option α}{K K':α->Prop}(h:aI o K)(hk:∀x,K x->K' x):aI o K':=let⟨a,h1,h2⟩:=h;⟨a,h1,hk a h2⟩
theorem bA{a:AV}{K K':Value->Prop}(h:Bq a K)(hk:∀x,K x->K' x):Bq a K':=let⟨v,h1,h2⟩:=h;⟨v,h1,hk v h2⟩
theorem bW{v:Value}{K K':IntKind->Int->Prop}(h:isInt v K)(hk:∀k n,K k n->K' k n):isInt v K':=let⟨k,n,h1,h2⟩:=h;⟨k,n,h1,hk k n h2⟩
theorem nK{v:Value}{K K':Bool->Prop}(h:isBool v K)(hk:∀x,K x->K' x):isBool v K':=let⟨b,h1,h2⟩:=h;⟨b,h1,hk b h2⟩
theorem qq{v:Value}{K K':ByteArray->Prop}(h:LY v K)(hk:∀x,K x->K' x):LY v K':=let⟨b,h1,h2⟩:=h;⟨b,h1,hk b h2⟩
theorem N4{hp:List AObj}{a:AV}{K K':Nat->Prop}(h:isLen hp a K)(hk:∀x,K x->K' x):isLen hp a K':=by
 rcases h with⟨h,h1⟩|⟨sz,L,h,h1⟩|⟨id,e,sz,L,h,h2,h1⟩|⟨sz,L,h,h1⟩|⟨id,e,sz,k,L,ho,h,h2,h1⟩
 ·exact .inl ⟨h,hk _ h1⟩
 ·exact .inr (.inl ⟨sz,L,h,hk _ h1⟩)
 ·exact .inr (.inr (.inl ⟨id,e,sz,L,h,h2,hk _ h1⟩))
 ·exact .inr (.inr (.inr (.inl ⟨sz,L,h,hk _ h1⟩)))
 ·exact .inr (.inr (.inr (.inr ⟨id,e,sz,k,L,ho,h,h2,hk _ h1⟩)))
theorem ze{hp:List AObj}{k e:TypeId}{a:AV}{K K':Nat->List (PV×PV)->Prop}(h:isMap hp k e a K)(hk:∀i x,K i x->K' i x):isMap hp k e a K':=let⟨id,kvs,h1,h2,h3⟩:=h;⟨id,kvs,h1,h2,hk _ _ h3⟩
theorem nx{st:St}{x:Option SX}{d:Nat}{K K':Nat->Prop}(h:bnd st x d K)(hk:∀n,K n->K' n):bnd st x d K':=by
 cases x with
 |none=>exact hk _ h
 |some x=>exact aj h λ_ h=>bA h λ_ h=>bW h λ_ _ h=>⟨h.1,hk _ h.2⟩
theorem QI{op:BinOp}{x y:Value}{K K':Value->Prop}(h:Js op x y K)(hk:∀v,K v->K' v):Js op x y K':=by
 unfold Js at h⊢
 split at h
 ·cases op<;>simp only at h⊢<;>first|exact⟨h.1,hk _ h.2⟩|exact⟨h.1,h.2.1,hk _ h.2.2⟩
 ·cases op<;>simp only at h⊢<;>first|exact hk _ h|exact⟨h.1,hk _ h.2⟩|exact h
 ·exact h
theorem UF{op:UnOp}{x:Value}{K K':Value->Prop}(h:W7 op x K)(hk:∀v,K v->K' v):W7 op x K':=by
 unfold W7 at h⊢
 split at h
 ·exact hk _ h
 ·exact hk _ h
 ·exact h
theorem FM{hp:List AObj}{sz:Nat}{ag:Bool}{a:AV}{K K':AV->Prop}(h:C2 hp sz ag a K)(hk:∀v,K v->K' v):C2 hp sz ag a K':=by
 unfold C2 at h⊢
 split at h
 ·exact⟨h.1,h.2.1,hk _ h.2.2⟩
 ·exact aj h λ_ ⟨t,cs,h1,h2,h3,h4⟩=>⟨t,cs,h1,h2,h3,h4.imp (hk _) λh=>aj h λ_ h=>hk _ h⟩
 ·refine aj h λ_ h=>h.imp (fun⟨e,s,xs,h1,h2,h3,h4,h5⟩=>⟨e,s,xs,h1,h2,h3,h4,?_⟩) fun⟨e,s,k,xs,ho,h1,h2,h3,h4,h5⟩=>⟨e,s,k,xs,ho,h1,h2,h3,h4,h5.imp (λh=>⟨h.1,hk _ h.2⟩) fun⟨bv,h6,h7,h8,h9⟩=>⟨bv,h6,h7,h8,hk _ h9⟩⟩
  rcases h5 with⟨h6,h7,h8,h9⟩|⟨h6,h7⟩
  ·exact .inl ⟨h6,h7,h8,hk _ h9⟩
  ·exact .inr ⟨h6,hk _ h7⟩
 ·exact h
theorem fE{hp:List AObj}{sz:Nat}{a:AV}{K K':List PV->Prop}(h:oC hp sz a K)(hk:∀x,K x->K' x):oC hp sz a K':=by
 rcases h with⟨h,h1⟩|⟨L,h,h1⟩|⟨id,e,L,h,h2,h1⟩|⟨L,h,h1⟩
 ·exact .inl ⟨h,hk _ h1⟩
 ·exact .inr (.inl ⟨L,h,hk _ h1⟩)
 ·exact .inr (.inr (.inl ⟨id,e,L,h,h2,hk _ h1⟩))
 ·exact .inr (.inr (.inr ⟨L,h,hk _ h1⟩))
theorem Ba{st:St}{s:SOp}{K K':AV->Prop}(h:jp P st s K)(hk:∀x,K x->K' x):jp P st s K':=by
 cases s<;>simp only[jp]at h⊢
 case mv=>exact aj h hk
 case pick=>exact aj h λ_ h=>bA h λ_ h=>nK h λ_ h=>⟨λe=>aj (h.1 e) hk,λe=>aj (h.2 e) hk⟩
 case bin=>exact aj h λ_ h=>aj h λ_ h=>bA h λ_ h=>bA h λ_ h=>QI h λ_ h=>hk _ h
 case eqB=>exact aj h λ_ h=>aj h λ_ h=>bA h λ_ h=>bA h λ_ h=>nK h λ_ h=>nK h λ_ h=>hk _ h
 case un=>exact aj h λ_ h=>bA h λ_ h=>UF h λ_ h=>hk _ h
 case len str x=>
  refine aj h λ_ h=>?_
  cases str
  ·exact N4 h λ_ h=>hk _ h
  ·exact bA h λ_ h=>qq h λ_ h=>hk _ h
 case idxS=>exact aj h λ_ h=>aj h λ_ h=>bA h λ_ h=>bA h λ_ h=>bW h λ_ _ h=>qq h λ_ h=>⟨h.1,h.2.1,hk _ h.2.2⟩
 case idxV=>exact aj h λ_ h=>aj h λ_ h=>bA h λ_ h=>bW h λ_ _ h=>aj h λ_ ⟨h1,h2,h3,h4,h5,h6⟩=>⟨h1,h2,h3,h4,h5,hk _ h6⟩
 case idxA=>
  refine aj h λ_ h=>aj h λ_ h=>bA h λ_ h=>bW h λ_ _ h=>?_
  rcases h with⟨L,h1,h2,h3,h4⟩|⟨id,h1,h2⟩
  ·exact .inl ⟨L,h1,h2,h3,hk _ h4⟩
  ·exact .inr ⟨id,h1,aj h2 λ_ h=>h.imp (fun⟨e,L,h3,h4,h5,h6⟩=>⟨e,L,h3,h4,h5,hk _ h6⟩) fun⟨e,k,L,ho,h3,h4,h5,h6⟩=>⟨e,k,L,ho,h3,h4,h5,hk _ h6⟩⟩
 case idxP=>
  refine aj h λ_ h=>aj h λ_ h=>bA h λ_ h=>bW h λ_ _ ⟨h1,h2,h⟩=>⟨h1,h2,?_⟩
  rcases h with⟨id,off,h3,h4⟩|⟨p,h3,h4,h5,h6,h7⟩
  ·exact .inl ⟨id,off,h3,hk _ h4⟩
  ·exact .inr ⟨p,h3,h4,h5,h6,hk _ h7⟩
 case lenM=>exact aj h λ_ h=>ze h λ_ _ h=>hk _ h
 case boxD=>exact aj h λ_ h=>aj h λ_ h=>⟨h.1,h.2.1,hk _ h.2.2⟩
 case iface=>exact aj h λ_ h=>hk _ h
 case eqT=>exact aj h λ_ h=>aj h λ_ h=>aj h λ_ h=>aj h λ_ h=>aj h λ_ h=>hk _ h
 case lookup=>exact aj h λ_ h=>aj h λ_ h=>ze h λ_ _ h=>aj h λ_ ⟨h1,h2,h3,h⟩=>⟨h1,h2,h3,aj h λ_ h=>hk _ h⟩
 case mkfn=>
  refine aj h λ_ h=>?_
  rcases h with⟨ids,h1,h2⟩|⟨ps,h1,h2⟩
  ·exact .inl ⟨ids,h1,hk _ h2⟩
  ·exact .inr ⟨ps,h1,hk _ h2⟩
 case mnmx=>exact aj h λ_ h=>bA h λ_ h=>bW h λ_ _ h=>aj h λ_ ⟨ns,h1,h2,h3⟩=>⟨ns,h1,h2,hk _ h3⟩
 case fldA=>
  refine aj h λ_ h=>?_
  rcases h with⟨p,h1,h2,h3,h4,h5⟩|⟨id,o,h1,h2⟩|⟨id,i,o,h1,h2⟩
  ·exact .inl ⟨p,h1,h2,h3,h4,hk _ h5⟩
  ·exact .inr (.inl ⟨id,o,h1,hk _ h2⟩)
  ·exact .inr (.inr ⟨id,i,o,h1,hk _ h2⟩)
 case fld=>
  refine aj h λ_ h=>?_
  rcases h with⟨p,h1,h2,h3,h4,h5⟩|⟨cs,h1,h2,h3,h4⟩
  ·exact .inl ⟨p,h1,h2,h3,h4,hk _ h5⟩
  ·exact .inr ⟨cs,h1,h2,h3,hk _ h4⟩
 case load=>exact aj h λ_ h=>FM h hk
 case cvtI=>exact aj h λ_ h=>bA h λ_ h=>bW h λ_ _ h=>hk _ h
 case slc=>
  refine aj h λ_ h=>aj h λ_ ⟨L,h1,h⟩=>⟨L,h1,nx h λ_ h=>nx h λ_ h=>nx h λ_ ⟨h2,h3,h4,h5,h6⟩=>⟨h2,h3,h4,h5,?_⟩⟩
  rcases h6 with h6|⟨h6,h7,h8⟩
  ·exact .inl (hk _ h6)
  ·exact .inr ⟨h6,h7,hk _ h8⟩
 case slcS=>exact aj h λ_ h=>bA h λ_ h=>qq h λ_ h=>nx h λ_ h=>nx h λ_ ⟨h2,h3,h4⟩=>⟨h2,h3,hk _ h4⟩
 case ext=>
  refine aj h λ_ h=>?_
  rcases h with⟨xs,h1,h2⟩|⟨xs,h1,h2⟩
  ·exact .inl ⟨xs,h1,aj h2 λ_ h=>hk _ h⟩
  ·exact .inr ⟨xs,h1,aj h2 λ_ h=>hk _ h⟩
 case b2s=>exact aj h λ_ h=>fE h λ_ h=>aj h λ_ h=>hk _ h
 case nilc=>exact aj h λ_ h=>⟨h.1,hk _ h.2⟩
 case build=>exact aj h λ_ h=>⟨h.1,hk _ h.2⟩
 case call=>exact aj h λ_ h=>ACalls.mono h λ_ ⟨r,os',h1,h2,h3,h4⟩=>⟨r,os',h1,h2,h3,hk _ h4⟩
 case callp=>exact aj h λ_ ⟨f,cs,h1,h2,h3⟩=>⟨f,cs,h1,h2,aj h3 λ_ h=>ACalls.mono h λ_ ⟨r,os',h1,h2,h3,h4⟩=>⟨r,os',h1,h2,h3,hk _ h4⟩⟩
 case bslice own e sz len ps=>
  cases own
  ·exact aj h λ_ ⟨h1,h2,h3,h4,h5⟩=>⟨h1,h2,h3,h4,h5.imp (hk _) (hk _)⟩
  ·exact h
 case bsliceN=>exact aj h λ_ ⟨h1,h2,h3,h4,h5⟩=>⟨h1,h2,h3,h4,hk _ h5⟩
 case appD=>exact aj h λ_ h=>aj h λ_ h=>fE h λ_ ⟨h1,L0,h2,h3,h4⟩=>⟨h1,L0,h2,h3,hk _ h4⟩
theorem oD{o:SOper}{st:St}{x:AV}{K KP:St->Prop}(h:fO P o st x)(hk:K (st.putO o.dst x)):iV P o st K KP:=by
 have key:∀s,(jp P st s λy=>y=x)->sexec P o.dst s st K KP:=by
  intro s hs
  have h1:jp P st s λy=>K (st.putO o.dst y):=Ba hs λy hy=>by rw[hy];exact hk
  unfold sexec
  split<;>first|exact h1|exact hs.elim
 unfold fO at h
 unfold iV
 split at h
 ·rename_i hg
  rw[hg]
  exact key _ h
 ·rename_i t want hg
  rw[hg]
  refine aj h λ_ h=>bA h λv h=>⟨λe=>key _ (h.1 e),λe=>by rw[<-h.2 e];exact hk⟩
end
def sdraw(P:Program)(m:Nat):Nat->List SOper->St->(St->Prop)->(St->Prop)->Prop
 |0,l,st,K,KP=>sops P m l st K KP
 |_+1,[],st,K,_=>K st
 |k+1,o::l,st,K,KP=>∃x,fO P o st x/\sdraw P m k l (st.putO o.dst x) K KP
def fR:List (List Nat)->List (List Nat)->List (List Nat)
 |acc,[]=>acc
 |acc,l::ls=>fR (acc++[l.flatMap λe=>e::acc.getD e []]) ls
def BH(x y:SOper):Bool:=
 (match x.dst with|some d=> !y.rd.contains d&&y.dst != some d|none=>true)&&(match y.dst with|some d=> !x.rd.contains d|none=>true)
def NS(ops:List SOper)(anc:List (List Nat))(k:Nat):Bool:=
 (R_ ops.length).all λj=>(R_ j).all λi=>(anc.getD j []).contains i||(decide (j<k)&&(match ops[i]?,ops[j]? with|some x,some y=>BH x y|_,_=>false))
def tK(ops:Array Oper):List (List Nat):=ops.toList.map λo=>(o.after.toList.filter (Region.binds .any)).map (·.on)
def B9(after:List (List Nat)):Bool:=(R_ after.length).all λi=>(after.getD i []).all λe=>decide (e<i)
section
variable {P:Program} {c:Ctx} {w:World} {a:Act}
def dx(p:Nat->Bool):Nat->Option Nat
 |0=>none
 |k+1=>if p k then some k else dx p k
theorem j7{p q:Nat->Bool}:∀{k:Nat},(∀j,j<k->p j=q j)->dx p k=dx q k
 |0,_=>rfl
 |k+1,h=>by
  have ih:=j7 (p:=p) (q:=q) (k:=k) λj hj=>h j (by omega)
  simp only[dx,h k (by omega),ih]
theorem ue{p:Nat->Bool}:∀{k i:Nat},i<=k->(∀j,i<=j->j<k->p j=false)->dx p k=dx p i
 |0,i,h,_=>by
  have:i=0:=by omega
  subst this;rfl
 |k+1,i,h,hp=>by
  rcases z_ i (k+1)with h1|h1
  ·simp only[dx,hp k (by omega) (by omega),p_,if_false]
   exact ue (by omega) λj hj hk=>hp j hj (by omega)
  ·have:i=k+1:=by omega
   subst this;rfl
def GG(d:Nat->Option Nat)(X:Nat->AV)(st:St)(S:Nat->Bool):Nat->St
 |0=>st
 |k+1=>if S k then(GG d X st S k).putO (d k) (X k)else GG d X st S k
theorem zv(d:Nat->Option Nat)(X:Nat->AV)(st:St)(S:Nat->Bool):∀k,(GG d X st S k).hp=st.hp
 |0=>rfl
 |k+1=>by
  simp only[GG]
  split
  ·cases d k<;>simp[St.putO,St.put,zv d X st S k]
  ·exact zv d X st S k
theorem fq(st:St)(d:Option Nat)(x:AV)(t:Nat):look (st.putO d x).fr t=if d=some t then some x else look st.fr t:=by
 cases d with
 |none=>simp[St.putO]
 |some k=>
  simp only[St.putO,St.put,look,h_]
  by_cases h:t=k
  ·subst h;simp
  ·rw[if_neg h,if_neg (Ne.symm h)]
theorem nP(d:Nat->Option Nat)(X:Nat->AV)(st:St)(S:Nat->Bool)(t:Nat):∀k,look (GG d X st S k).fr t=(match dx (λj=>S j&&d j==some t) k with|some j=>some (X j)|none=>look st.fr t)
 |0=>rfl
 |k+1=>by
  simp only[GG,dx]
  by_cases hS:S k=true
  ·rw[if_pos hS,fq]
   by_cases hd:d k=some t
   ·simp[hS,hd]
   ·rw[if_neg hd,nP d X st S t k]
    simp[hd]
  ·rw[if_neg hS,nP d X st S t k]
   simp[hS]
theorem Rel.congr{st st':St}(hh:st'.hp=st.hp)(h:∀t,look st'.fr t=look st.fr t)(hr:Rel c st a w):Rel c st' a w:=by
 obtain⟨θ,D,hI⟩:=hr
 exact⟨θ,D,hI.size,hI.defers,by rw[hh];exact hI.ok,hI.keep,hI.dsub,hI.dnew,hI.onew,λk x hk=>hI.fr k x (by rw[<-h];exact hk),hI.fix⟩
theorem RG{m:Nat}:∀(k:Nat) (ops:List SOper) (st:St) (K KP:St->Prop),sdraw P m k ops st K KP->k<=ops.length->
 ∃X:Nat->AV,(∀i s,i<k->ops[i]? =some s->fO P s (GG (λj=>(ops[j]?).bind (·.dst)) X st (λ_=>true) i) (X i))/\sops P m (ops.drop k) (GG (λj=>(ops[j]?).bind (·.dst)) X st (λ_=>true) k) K KP:=by
 intro k
 induction k with
 |zero=>intro ops st K KP h _;exact⟨λ_=>default,λi s hi=>absurd hi (by omega),h⟩
 |succ k ih=>
  intro ops st K KP h hl
  cases ops with
  |nil=>exact absurd hl (by simp)
  |cons o ops=>
  simp only[sdraw]at h
  obtain⟨x,hx,h⟩:=h
  obtain⟨X,h1,h2⟩:=ih ops _ K KP h (by simpa using hl)
  have hshift:∀i,GG (λj=>((o::ops)[j]?).bind (·.dst)) (λj=>match j with|0=>x|j+1=>X j) st (λ_=>true) (i+1)=GG (λj=>(ops[j]?).bind (·.dst)) X (st.putO o.dst x) (λ_=>true) i:=by
   intro i
   induction i with
   |zero=>simp[GG]
   |succ i ih=>
    rw[GG,ih]
    simp[GG]
  refine⟨λj=>match j with|0=>x|j+1=>X j,λi s hi hs=>?_,?_⟩
  ·cases i with
   |zero=>simp at hs;subst hs;exact hx
   |succ i=>
    rw[hshift]
    exact h1 i s (by omega) (by simpa using hs)
  ·rw[hshift]
   simpa using h2
theorem K6:∀(ls acc:List (List Nat)),(fR acc ls).length=acc.length+ls.length
 |[],acc=>rfl
 |l::ls,acc=>by rw[fR,K6 ls];simp;omega
theorem EM:∀(ls acc:List (List Nat)) (i:Nat),i<acc.length->(fR acc ls)[i]? =acc[i]?
 |[],acc,i,_=>rfl
 |l::ls,acc,i,h=>by
  rw[fR,EM ls _ i (by simp;omega),k_ h]
theorem zW:∀(ls acc:List (List Nat)) (j:Nat) (l:List Nat),ls[j]? =some l->(fR acc ls).getD (acc.length+j) []=l.flatMap λe=>e::(fR acc (ls.take j)).getD e []
 |[],acc,j,l,h=>by simp at h
 |m::ls,acc,0,l,h=>by
  simp at h;subst h
  have:(fR acc (m::ls))[acc.length]? =some (m.flatMap λe=>e::acc.getD e []):=by
   rw[fR,EM ls _ _ (by simp)]
   simp
  show((fR acc (m::ls))[acc.length+0]?).getD []=_
  rw[aT_,this]
  rfl
 |m::ls,acc,j+1,l,h=>by
  have:=zW ls (acc++[m.flatMap λe=>e::acc.getD e []]) j l (by simpa using h)
  simp only[Q_,au_]at this
  rw[show acc.length+(j+1)=acc.length+1+j by omega,fR,this]
  rfl
theorem QG(ls:List (List Nat))(j e:Nat)(he:e<j)(hj:j<=ls.length):(fR [] (ls.take j)).getD e []=(fR [] ls).getD e []:=by
 have key:∀(ms ns acc:List (List Nat)),fR acc (ms++ns)=fR (fR acc ms) ns:=by
  intro ms
  induction ms with
  |nil=>intro ns acc;rfl
  |cons m ms ih=>intro ns acc;simp only[an_,fR,ih]
 have h1:(fR [] (ls.take j)).length=j:=by rw[K6];simp;omega
 have:=key (ls.take j) (ls.drop j) []
 rw[List.take_append_drop]at this
 have h2:(fR [] ls)[e]? =(fR [] (ls.take j))[e]? :=by rw[this,EM _ _ e (by omega)]
 simp only[W_,h2]
theorem qb{after:List (List Nat)}(hlow:B9 after=true){S:Nat->Prop}(hS:∀i l,after[i]? =some l->S i->∀e∈l,S e):∀(n i j:Nat),i<=n->S i->(((fR [] after).getD i []).contains j)=true->i<after.length->S j:=by
 intro n
 induction n with
 |zero=>
  intro i j hi hs hc hlt
  have hi0:i=0:=by omega
  subst hi0
  have hl:=a_ hlt
  have:=zW after [] 0 _ hl
  simp only[M_,O_]at this
  rw[this]at hc
  simp only[aa_,f_]at hc
  obtain⟨e,he,_⟩:=hc
  simp only[B9,j_,y_,decide_eq_true_eq]at hlow
  have:=hlow 0 hlt e (by simpa[W_,hl]using he)
  omega
 |succ n ih=>
  intro i j hi hs hc hlt
  have hl:=a_ hlt
  have hg:=zW after [] i _ hl
  simp only[M_,O_]at hg
  rw[hg]at hc
  simp only[aa_,f_]at hc
  obtain⟨e,he,hj⟩:=hc
  have hse:=hS i _ hl hs e he
  simp only[B9,j_,y_,decide_eq_true_eq]at hlow
  have hei:=hlow i hlt e (by simpa[W_,hl]using he)
  simp only[J_]at hj
  rcases hj with rfl|hj
  ·exact hse
  ·rw[QG after i e hei (by omega)]at hj
   exact ih e j (by omega) hse (by simpa using hj) (by omega)
theorem dV{n:Nat}{listed:Array Bool}(hn:listed.size=n){i j:Nat}(hi:i<n):(listed.setIfInBounds i true).getD j false=(if j=i then true else listed.getD j false):=by
 by_cases h:j=i
 ·subst h;simp[hn,hi]
 ·simp[h,Z_ (Ne.symm h)]
theorem conflict{x y:SOper}{t:Nat}(h:BH x y=true):(x.dst=some t->t∉y.rd/\y.dst≠some t)/\(y.dst=some t->t∉x.rd):=by
 unfold BH at h
 rw[n_]at h
 obtain⟨h1,h2⟩:=h
 refine⟨λhx=>?_,λhy=>?_⟩
 ·rw[hx]at h1
  simpa using h1
 ·rw[hy]at h2
  simpa using h2
theorem NT{id n k ml:Nat}{ops:Array Oper}{ss:List SOper}{after:List (List Nat)}(hm:P.follows .mixedOrders=true)(hn:c.n=n)(hmm:c.th.length<=ml)(hc:tO P n ops ops.toList ss)(haf:after=tK ops)(hlow:B9 after=true)(hok:NS ss (fR [] after) k=true)(hkl:k<=ss.length)
 {st:St} {K KP:St->Prop} {Q:Exit->Act->World->Prop} (h:sdraw P ml k ss st K KP) (hr:Rel c st a w) (hQ:∀a w,(∃st',K st'/\Rel c st' a w)->Q .normal a w) (hP:∀ch a w,(tH ch/\∃st',KP st'/\Rel c st' a w)->Q (.panic ch) a w):(Code.region id ops true).wp P Q a w:=by
 obtain⟨hlen,hget⟩:=vT hc
 have hsz:ops.size=ss.length:=by simpa using hlen
 obtain⟨X,hX,hrest⟩:=RG k ss st K KP h hkl
 generalize hd:(λj:Nat=>(ss[j]?).bind (λs:SOper=>s.dst))=d at hX hrest
 have hdj:∀(j:Nat) (s:SOper),ss[j]? =some s->d j=s.dst:=λj s hs=>by rw[<-hd];simp[hs]
 have hal:after.length=ss.length:=by rw[haf];simp[tK,hsz]
 have hafo:∀(i:Nat) (o:Oper),ops[i]? =some o->after[i]? =some ((o.after.toList.filter (Region.binds .any)).map (·.on)):=λi o ho=>by
  rw[haf];simp[tK,ho]
 have ready_iff:∀(listed:Array Bool) (i:Nat),listed.size=ss.length->(i∈Region.ready .any ops listed↔i<ss.length/\listed.getD i true=false/\∀l:List Nat,after[i]? =some l->∀e∈l,listed.getD e false=true):=by
  intro listed i hls
  unfold Region.ready
  simp only[S_,y_,n_,ak_,hsz]
  constructor
  ·rintro⟨h1,h2,h3⟩
   refine⟨h1,h2,λl hl e he=>?_⟩
   have ho:ops[i]? =some ops[i]:=m_ (by omega)
   rw[hafo i _ ho]at hl
   cases hl
   rw[ho]at h3
   simp only[x_,ac_,Y_]at h3
   simp only[D_,S_]at he
   obtain⟨ed,⟨h4,h5⟩,rfl⟩:=he
   have:=h3 ed (by simpa using h4)
   simpa[h5]using this
  ·rintro⟨h1,h2,h3⟩
   refine⟨h1,h2,?_⟩
   have ho:ops[i]? =some ops[i]:=m_ (by omega)
   rw[ho]
   simp only[x_,ac_,Y_]
   intro ed hed
   by_cases hb:Region.binds .any ed=true
   ·have:=h3 _ (hafo i _ ho) ed.on (D_.2 ⟨ed,S_.2 ⟨by simpa using hed,hb⟩,rfl⟩)
    simp only[hb,ad_,aP_]
    exact this
   ·simp[hb]
 have okij:∀i j,i<j->j<ss.length->((fR [] after).getD j []).contains i=true\/(j<k/\∃x y,ss[i]? =some x/\ss[j]? =some y/\BH x y=true):=by
  intro i j hij hj
  simp only[NS,j_,y_,ae_,n_,decide_eq_true_eq]at hok
  rcases hok j hj i hij with h1|⟨h1,h2⟩
  ·exact .inl h1
  ·refine .inr ⟨h1,ss[i],ss[j],a_ (by omega),a_ hj,?_⟩
   simpa[a_ (show i<ss.length by omega),a_ hj]using h2
 have phase2:∀(m j:Nat) (listed:Array Bool) (st':St) (a:Act) (w:World),j<=ss.length->ss.length<=j+m->k<=j->listed.size=ss.length->(∀i,i<ss.length->listed.getD i false=decide (i<j))->sops P ml (ss.drop j) st' K KP->Rel c st' a w->
  wpAny P .any ops Q m listed a w:=by
  have fin:∀(listed:Array Bool) (st':St) (a:Act) (w:World),listed.size=ss.length->(∀i,i<ss.length->listed.getD i false=decide (i<ss.length))->sops P ml (ss.drop ss.length) st' K KP->Rel c st' a w->Region.ready .any ops listed=[]/\Q .normal a w:=by
   intro listed st' a w hls hli hs hr
   rw[aI_]at hs
   simp only[sops]at hs
   obtain⟨st1,hw1,hs⟩:=hs
   refine⟨?_,hQ a w ⟨st1,hs,hw1 _ _ _ hmm hr⟩⟩
   apply ab_.2
   intro i hi
   obtain⟨h1,h2,_⟩:=(ready_iff listed i hls).1 hi
   have h3:=hli i h1
   have h4:i<listed.size:=by omega
   simp[h4,h1]at h2 h3
   rw[h3]at h2;cases h2
  intro m
  induction m with
  |zero=>
   intro j listed st' a w hj hm _ hls hli hs hr
   have hj':j=ss.length:=by omega
   subst hj'
   exact fin listed st' a w hls hli hs hr
  |succ m ih=>
   intro j listed st' a w hj hm hkj hls hli hs hr
   rcases z_ j ss.length with hjl|hjl
   case inr=>
    have hj':j=ss.length:=by omega
    subst hj'
    obtain⟨f1,f2⟩:=fin listed st' a w hls hli hs hr
    exact⟨λ_=>f2,λi hi=>by rw[f1]at hi;cases hi⟩
   have hgd:∀i,i<ss.length->listed.getD i true=decide (i<j):=λi hi=>by
    have h4:i<listed.size:=by omega
    have:=hli i hi
    simp[h4]at this⊢
    exact this
   have hrd:∀i,i∈Region.ready .any ops listed↔i=j:=by
    intro i
    rw[ready_iff listed i hls]
    constructor
    ·rintro⟨h1,h2,h3⟩
     rw[hgd i h1]at h2
     simp only[decide_eq_false_iff_not,aC_]at h2
     rcases z_ j i with h4|h4
     ·rcases okij j i h4 h1 with h5|⟨h5,_⟩
      ·have hcl:=qb hlow (S:=λx=>x<j\/x=i) (λx l hl hx e he=>by
        have hlow':=hlow
        simp only[B9,j_,y_,decide_eq_true_eq]at hlow'
        have hxl:=(b_.1 hl).1
        have hex:=hlow' x hxl e (by simpa[W_,hl]using he)
        rcases hx with hx|rfl
        ·exact .inl (by omega)
        ·have:=h3 l hl e he
         rw[hli e (by omega)]at this
         exact .inl (by simpa using this)) i i j (u_ _) (.inr rfl) h5 (by omega)
       omega
      ·omega
     ·omega
    ·rintro rfl
     refine⟨hjl,by rw[hgd _ hjl];simp,λl hl e he=>?_⟩
     have hlow':=hlow
     simp only[B9,j_,y_,decide_eq_true_eq]at hlow'
     have hxl:=(b_.1 hl).1
     have hex:=hlow' i hxl e (by simpa[W_,hl]using he)
     rw[hli e (by omega)]
     simpa using hex
   refine⟨λh0=>?_,λi hi=>?_⟩
   ·have:=(hrd j).2 rfl
    rw[h0]at this;cases this
   ·have:=(hrd i).1 hi
    subst this
    have ho:ops[i]? =some ops[i]:=m_ (by omega)
    have hsi:=a_ hjl
    have hco:=hget i _ _ (by rw[q_];exact ho) hsi
    rw[aj_ hjl]at hs
    simp only[sops]at hs
    obtain⟨st1,hw1,hs⟩:=hs
    obtain⟨θ,D,hI⟩:=hw1 _ _ _ hmm hr
    have:=qM hI hn hco hs (λa' w'=>wpAny P .any ops Q m (listed.setIfInBounds i true) a' w') Q (λa' w' ⟨st'',h1,h2⟩=>
     ih (i+1) _ st'' a' w' (by omega) (by omega) (by omega) (by simpa using hls) (λx hx=>by
      rw[dV hls (by omega),hli x hx]
      by_cases hxi:x=i
      ·subst hxi;simp
      ·rw[if_neg hxi];apply decide_eq_decide.2;omega) h1 h2) (λch w' hp=>hP ch a w' hp)
    unfold wpOp
    rw[ho]
    simp only
    split
    ·rename_i hw
     rw[if_pos hw]at this
     exact .inl this
    ·rename_i hw
     rw[if_neg hw]at this
     exact this
 have phase1:∀(m:Nat) (listed:Array Bool) (a:Act) (w:World),listed.size=ss.length->(∀i,i<ss.length->listed.getD i false=true->i<k)->(∀(i:Nat) (l:List Nat),after[i]? =some l->listed.getD i false=true->∀e∈l,listed.getD e false=true)->
  ((R_ ss.length).filter λi=> !listed.getD i false).length<=m->Rel c (GG d X st (λj=>listed.getD j false) k) a w->wpAny P .any ops Q m listed a w:=by
  have full:∀(m:Nat) (listed:Array Bool) (a:Act) (w:World),listed.size=ss.length->(∀i,i<ss.length->listed.getD i false=true->i<k)->(∀i,i<k->listed.getD i false=true)->ss.length<=k+m->Rel c (GG d X st (λj=>listed.getD j false) k) a w->wpAny P .any ops Q m listed a w:=by
   intro m listed a w hls hlk hall hm hr
   refine phase2 m k listed (GG d X st (λ_=>true) k) a w hkl hm (u_ _) hls (λi hi=>?_) hrest (Rel.congr ?_ (λt=>?_) hr)
   ·rcases z_ i k with h1|h1
    ·rw[hall i h1];simp[h1]
    ·cases hb:listed.getD i false with
     |true=>have:=hlk i hi hb;omega
     |false=>simp;omega
   ·rw[zv,zv]
   ·rw[nP,nP,j7 (p:=λj=>(λ_=>true) j&&d j==some t) (q:=λj=>listed.getD j false&&d j==some t) (k:=k) λj hj=>by simp only[hall j hj]]
  have cntk:∀(listed:Array Bool),(∀i,i<ss.length->listed.getD i false=true->i<k)->ss.length<=k+((R_ ss.length).filter λi=> !listed.getD i false).length:=by
   intro listed hlk
   have:∀n,n<=ss.length->n<=k+((R_ n).filter λi=> !listed.getD i false).length:=by
    intro n
    induction n with
    |zero=>intro _;omega
    |succ n ih=>
     intro hn
     have:=ih (by omega)
     rw[List.range_succ,List.filter_append,Q_]
     cases hb:listed.getD n false with
     |true=>have:=hlk n (by omega) hb;omega
     |false=>
      simp only[ao_,hb,av_,if_true,List.filter_nil,au_]
      omega
   exact this _ (u_ _)
  intro m
  induction m with
  |zero=>
   intro listed a w hls hlk hcl hcnt hr
   refine full 0 listed a w hls hlk (λi hi=>?_) (by have:=cntk listed hlk;omega) hr
   have h0:=r_ (Nat.le_zero.1 hcnt)
   have:=List.filter_eq_nil_iff.1 h0 i (by simp;omega)
   simpa using this
  |succ m ih=>
   intro listed a w hls hlk hcl hcnt hr
   by_cases hall:∀i,i<k->listed.getD i false=true
   ·exact full (m+1) listed a w hls hlk hall (by have:=cntk listed hlk;omega) hr
   ·obtain⟨i0,hi0,hu0,hmin⟩:∃i0,i0<k/\listed.getD i0 false=false/\∀j,j<i0->listed.getD j false=true:=by
     have:∀n,(∃i,i<n/\listed.getD i false=false)->∃i0,i0<n/\listed.getD i0 false=false/\∀j,j<i0->listed.getD j false=true:=by
      intro n
      induction n with
      |zero=>rintro⟨i,hi,_⟩;omega
      |succ n ihn=>
       rintro⟨i,hi,hu⟩
       by_cases h1:∃i,i<n/\listed.getD i false=false
       ·obtain⟨i0,h2,h3⟩:=ihn h1
        exact⟨i0,by omega,h3⟩
       ·refine⟨n,by omega,?_,λj hj=>?_⟩
        ·have:i=n:=by
          rcases z_ i n with h2|h2
          ·exact absurd ⟨i,h2,hu⟩ h1
          ·omega
         subst this;exact hu
        ·cases hb:listed.getD j false with
         |true=>rfl
         |false=>exact absurd ⟨j,hj,hb⟩ h1
     refine this k ?_
     apply v_
     intro hne
     refine hall λi hi=>?_
     cases hb:listed.getD i false with
     |true=>rfl
     |false=>exact absurd ⟨i,hi,hb⟩ hne
    have hlow':=hlow
    simp only[B9,j_,y_,decide_eq_true_eq]at hlow'
    have htf:∀i,i<ss.length->listed.getD i true=listed.getD i false:=λi hi=>by
     have h4:i<listed.size:=by omega
     simp[h4]
    refine⟨λh0=>?_,λi hi=>?_⟩
    ·have:i0∈Region.ready .any ops listed:=(ready_iff listed i0 hls).2 ⟨by omega,by rw[htf i0 (by omega)];exact hu0,λl hl e he=>hmin e (hlow' i0 (by omega) e (by simpa[W_,hl]using he))⟩
     rw[h0]at this;cases this
    ·obtain⟨r1,r2,r3⟩:=(ready_iff listed i hls).1 hi
     rw[htf i r1]at r2
     have hanc:∀j,((fR [] after).getD i []).contains j=true->j=i\/listed.getD j false=true:=λj hj=>by
      have:=qb hlow (S:=λx=>x=i\/listed.getD x false=true) (λx l hl hx e he=>by
       rcases hx with rfl|hx
       ·exact .inr (r3 l hl e he)
       ·exact .inr (hcl x l hl hx e he)) i i j (u_ _) (.inl rfl) hj (by omega)
      exact this
     have hik:i<k:=by
      apply v_
      intro hnk
      rcases okij i0 i (by omega) r1 with h1|⟨h1,_⟩
      ·rcases hanc i0 h1 with h2|h2
       ·omega
       ·rw[hu0]at h2;cases h2
      ·omega
     have ho:ops[i]? =some ops[i]:=m_ (by omega)
     have hsi:ss[i]? =some ss[i]:=a_ r1
     have hco:=hget i _ _ (by rw[q_];exact ho) hsi
     have later:∀j,i<j->j<k->listed.getD j false=true->∃y,ss[j]? =some y/\BH ss[i] y=true:=λj hij hjk hl=>by
      rcases okij i j hij (by omega)with h1|⟨_,x,y,hx,hy,h2⟩
      ·have:=qb hlow (S:=λx=>listed.getD x false=true) (λx l hl hx e he=>hcl x l hl hx e he) j j i (u_ _) hl h1 (by omega)
       rw[r2]at this;cases this
      ·rw[hsi]at hx;cases hx
       exact⟨y,hy,h2⟩
     have earlier:∀j,j<i->listed.getD j false=false->∃y,ss[j]? =some y/\BH y ss[i]=true:=λj hji hl=>by
      rcases okij j i hji r1 with h1|⟨_,x,y,hx,hy,h2⟩
      ·rcases hanc j h1 with h3|h3
       ·omega
       ·rw[hl]at h3;cases h3
      ·rw[hsi]at hy;cases hy
       exact⟨x,hx,h2⟩
     have hreads:∀t∈ss[i].rd,look (GG d X st (λj=>listed.getD j false) k).fr t=look (GG d X st (λ_=>true) i).fr t:=by
      intro t ht
      rw[nP,nP]
      have e1:dx (λj=>listed.getD j false&&d j==some t) k=dx (λj=>listed.getD j false&&d j==some t) i:=ue (by omega) λj hj hjk=>by
       rcases Nat.eq_or_lt_of_le hj with rfl|hj
       ·rw[r2];rfl
       ·cases hb:listed.getD j false with
        |false=>rfl
        |true=>
         obtain⟨y,hy,hap⟩:=later j hj hjk hb
         rw[hdj j y hy]
         cases hdt:(y.dst==some t)with
         |false=>rfl
         |true=>exact absurd ht ((conflict hap).2 (by simpa using hdt))
      have e2:dx (λj=>listed.getD j false&&d j==some t) i=dx (λj=>(λ_=>true) j&&d j==some t) i:=j7 λj hj=>by
       cases hb:listed.getD j false with
       |true=>rfl
       |false=>
        obtain⟨y,hy,hap⟩:=earlier j hj hb
        rw[hdj j y hy]
        cases hdt:(y.dst==some t)with
        |false=>rfl
        |true=>exact absurd ht ((conflict hap).1 (by simpa using hdt)).1
      rw[e1,e2]
     have hy:fO P ss[i] (GG d X st (λj=>listed.getD j false) k) (X i):=Kv (by rw[zv,zv]) hreads (hX i _ hik hsi)
     obtain⟨θ,D,hI⟩:=hr
     have:=qM (hp:=λ_ _ h=>h.2.elim λ_ h=>h.1.elim) hI hn hco (oD (KP:=λ_=>False) (K:=λst'=>st'=(GG d X st (λj=>listed.getD j false) k).putO ss[i].dst (X i)) hy rfl) (λa' w'=>wpAny P .any ops Q m (listed.setIfInBounds i true) a' w') Q (λa' w' ⟨st'',h1,h2⟩=>by
      subst h1
      refine ih _ a' w' (by simpa using hls) (λj hj hl=>?_) (λj l hl hjl e he=>?_) ?_ (Rel.congr ?_ (λt=>?_) h2)
      ·rw[dV hls r1]at hl
       split at hl
       ·omega
       ·exact hlk j hj hl
      ·rw[dV hls r1]at hjl⊢
       split at hjl
       ·rename_i hji
        subst hji
        split
        ·rfl
        ·exact r3 l hl e he
       ·split
        ·rfl
        ·exact hcl j l hl hjl e he
      ·have hlt:∀(l:List Nat),i∈l->(l.filter λj=> !(listed.setIfInBounds i true).getD j false).length<(l.filter λj=> !listed.getD j false).length:=by
        intro l
        have hle:∀(l:List Nat),(l.filter λj=> !(listed.setIfInBounds i true).getD j false).length<=(l.filter λj=> !listed.getD j false).length:=by
         intro l
         induction l with
         |nil=>exact u_ _
         |cons x l ihl=>
          simp only[ao_,dV hls r1]at ihl⊢
          by_cases hxi:x=i
          ·subst hxi;simp only[if_true,ad_,p_,if_false,r2,av_,A_];omega
          ·simp only[hxi,if_false]
           split<;>(try simp only[A_])<;>omega
        induction l with
        |nil=>intro h;cases h
        |cons x l ihl=>
         intro hmem
         have hlel:=hle l
         simp only[ao_,dV hls r1]at ihl hlel⊢
         by_cases hxi:x=i
         ·subst hxi;simp only[if_true,ad_,p_,if_false,r2,av_,A_];omega
         ·have hm':i∈l:=by
           rcases J_.1 hmem with h|h
           ·exact absurd h.symm hxi
           ·exact h
          have:=ihl hm'
          simp only[hxi,if_false]
          split<;>(try simp only[A_])<;>omega
       have:=hlt (R_ ss.length) (by simpa using r1)
       omega
      ·cases hdi:ss[i].dst<;>simp[St.putO,St.put,zv]
      ·rw[fq,nP,nP]
       by_cases hdt:ss[i].dst=some t
       ·rw[if_pos hdt]
        have e1:dx (λj=>(listed.setIfInBounds i true).getD j false&&d j==some t) k=dx (λj=>(listed.setIfInBounds i true).getD j false&&d j==some t) (i+1):=ue (by omega) λj hj hjk=>by
         rw[dV hls r1,if_neg (by omega)]
         cases hb:listed.getD j false with
         |false=>rfl
         |true=>
          obtain⟨y,hy',hap⟩:=later j (by omega) hjk hb
          rw[hdj j y hy']
          have:=((conflict hap).1 hdt).2
          simpa using this
        rw[e1,dx,dV hls r1,if_pos rfl,hdj i _ hsi,hdt]
        simp
       ·rw[if_neg hdt]
        rw[j7 (p:=λj=>(listed.setIfInBounds i true).getD j false&&d j==some t) (q:=λj=>listed.getD j false&&d j==some t) λj hj=>by
         rw[dV hls r1]
         split
         ·rename_i hji
          subst hji
          rw[hdj j _ hsi,r2]
          simpa using hdt
         ·rfl])
     unfold wpOp
     rw[ho]
     simp only
     split
     ·rename_i hw
      rw[if_pos hw]at this
      exact .inl this
     ·rename_i hw
      rw[if_neg hw]at this
      exact this
 refine wp_region_any hm ?_
 have h0:=phase1 ops.size (w_ ops.size false) a {w with drawn:=w.drawn+1} (by simp[hsz]) (λi hi hl=>by simp[hsz,hi]at hl) (λi l hl h2=>by
  have hi:i<ops.size:=by have:=(b_.1 hl).1;omega
  simp[hi]at h2) (by
   have:=List.length_filter_le (λi=> !(w_ ops.size false).getD i false) (R_ ss.length)
   simpa[hsz]using this) ?_
 ·exact h0
 ·have:∀j,GG d X st (λj=>(w_ ops.size false).getD j false) j=st:=by
   intro j
   induction j with
   |zero=>rfl
   |succ j ih=>
    rw[GG,ih]
    have:(w_ ops.size false).getD j false=false:=by
     by_cases hj:j<ops.size<;>simp[hj]
    rw[this];rfl
  rw[this]
  obtain⟨θ,D,hI⟩:=hr
  exact⟨θ,D,hI.drew⟩
end
theorem FE(v:Value):(bI v).ids=[]:=by
 unfold bI;split<;>rfl
theorem Iz(v:Value):(fU v).ids=[]:=by
 unfold fU
 split
 ·simp only[AV.ids,List.flatMap_map,List.flatMap_eq_nil_iff]
  intro x _;exact FE x
 ·exact FE _
structure Foot(rd:List Nat)(a b:St):Prop where
 fr:∀k∈rd,∀y,look b.fr k=some y->look a.fr k=some y
 hp:∀k∈rd,∀y,look b.fr k=some y->∀i∈y.ids,∀ob,b.hp[i]? =some ob->a.hp[i]? =some ob
def KV(y:AV)(h h':List AObj):Prop:=∀i∈y.ids,∀ob,h[i]? =some ob->h'[i]? =some ob
section
variable {P:Program} {rd:List Nat} {a b:St}
theorem Foot.get(h:Foot rd a b){x:SX}(hx:∀t∈x.rd,t∈rd){y:AV}(hy:b.get x=some y):a.get x=some y/\KV y b.hp a.hp:=by
 cases x with
 |tm k=>exact⟨h.fr k (hx k (by simp[SX.rd])) y hy,h.hp k (hx k (by simp[SX.rd])) y hy⟩
 |c v=>
  simp only[St.get,h_]at hy⊢
  subst hy
  exact⟨rfl,λi hi=>by rw[Iz]at hi;cases hi⟩
 |g n=>
  simp only[St.get,h_]at hy⊢
  subst hy
  exact⟨rfl,λi hi=>by cases hi⟩
 |f n=>
  simp only[St.get,h_]at hy⊢
  subst hy
  exact⟨rfl,λi hi=>by cases hi⟩
theorem Foot.bind(h:Foot rd a b){x:SX}(hx:∀t∈x.rd,t∈rd){K K':AV->Prop}(hs:aI (b.get x) K)(hk:∀y,KV y b.hp a.hp->K y->K' y):aI (a.get x) K':=by
 obtain⟨y,h1,h2⟩:=hs
 obtain⟨h3,h4⟩:=h.get hx h1
 exact⟨y,h3,hk y h4 h2⟩
theorem Foot.bnd(h:Foot rd a b){x:Option SX}(hx:∀t∈(x.map SX.rd).getD [],t∈rd){d:Nat}{K K':Nat->Prop}(hs:bnd b x d K)(hk:∀n,K n->K' n):bnd a x d K':=by
 cases x with
 |none=>exact hk _ hs
 |some x=>exact h.bind (by simpa using hx) hs λy _ hy=>bA hy λv hv=>bW hv λ_ n hn=>⟨hn.1,hk _ hn.2⟩
theorem qv{α β:Type}{f g:α->Option β}:∀{l:List α} {m:List β},(∀x∈l,∀y,f x=some y->g x=some y)->l.mapM f=some m->l.mapM g=some m
 |[],m,_,hm=>hm
 |x::l,m,h,hm=>by
  simp only[C_,I_,T_,c_,h_]at hm⊢
  obtain⟨z,h1,m',h2,rfl⟩:=hm
  exact⟨z,h x (by simp) _ h1,m',qv (λy hy=>h y (by simp[hy])) h2,rfl⟩
theorem Foot.bindM(h:Foot rd a b){β:Type}{l:List SX}(hl:∀x∈l,∀t∈x.rd,t∈rd){g g':AV->Option β}(hg:∀y z,KV y b.hp a.hp->g y=some z->g' y=some z){K:List β->Prop}(hs:aI (l.mapM λx=>(b.get x).bind g) K):aI (l.mapM λx=>(a.get x).bind g') K:=by
 obtain⟨ys,h1,h2⟩:=hs
 refine⟨ys,qv (λx hx y hy=>?_) h1,h2⟩
 obtain⟨u,e1,e2⟩:=c_.1 hy
 obtain⟨e3,e4⟩:=h.get (hl x hx) e1
 rw[e3]
 exact hg u y e4 e2
theorem B6{h h':List AObj}{sz:Nat}{y:AV}{K K':List PV->Prop}(hh:KV y h h')(hs:oC h sz y K)(hk:∀L,K L->K' L):oC h' sz y K':=by
 rcases hs with⟨rfl,hs⟩|⟨L,rfl,hs⟩|⟨id,e,L,rfl,ho,hs⟩|⟨L,rfl,hs⟩
 ·exact .inl ⟨rfl,hk _ hs⟩
 ·exact .inr (.inl ⟨L,rfl,hk _ hs⟩)
 ·exact .inr (.inr (.inl ⟨id,e,L,rfl,hh id (by simp[AV.ids,BV.ids]) _ ho,hk _ hs⟩))
 ·exact .inr (.inr (.inr ⟨L,rfl,hk _ hs⟩))
theorem Tk{h h':List AObj}{y:AV}{K K':Nat->Prop}(hh:KV y h h')(hs:isLen h y K)(hk:∀L,K L->K' L):isLen h' y K':=by
 rcases hs with⟨rfl,hs⟩|⟨sz,L,rfl,hs⟩|⟨id,e,sz,L,rfl,ho,hs⟩|⟨sz,L,rfl,hs⟩|⟨id,e,sz,k,L,hole,rfl,ho,hs⟩
 ·exact .inl ⟨rfl,hk _ hs⟩
 ·exact .inr (.inl ⟨sz,L,rfl,hk _ hs⟩)
 ·exact .inr (.inr (.inl ⟨id,e,sz,L,rfl,hh id (by simp[AV.ids,BV.ids]) _ ho,hk _ hs⟩))
 ·exact .inr (.inr (.inr (.inl ⟨sz,L,rfl,hk _ hs⟩)))
 ·exact .inr (.inr (.inr (.inr ⟨id,e,sz,k,L,hole,rfl,hh id (by simp[AV.ids,BV.ids]) _ ho,hk _ hs⟩)))
theorem LX{h h':List AObj}{k e:TypeId}{y:AV}{K K':Nat->List (PV×PV)->Prop}(hh:KV y h h')(hs:isMap h k e y K)(hk:∀i L,K i L->K' i L):isMap h' k e y K':=by
 obtain⟨id,kvs,rfl,ho,hs⟩:=hs
 exact⟨id,kvs,rfl,hh id (by simp[AV.ids,BV.ids]) _ ho,hk _ _ hs⟩
theorem Ts{h h':List AObj}{sz:Nat}{ag:Bool}{y:AV}{K K':AV->Prop}(hh:KV y h h')(hs:C2 h sz ag y K)(hk:∀L,K L->K' L):C2 h' sz ag y K':=by
 have h2:=FM hs hk
 revert h2
 unfold C2
 split
 ·exact λh=>h
 ·rename_i id off
  rintro⟨o,h1,h2⟩
  exact⟨o,hh id (by simp[AV.ids,BV.ids]) _ h1,h2⟩
 ·rename_i id i off
  rintro⟨o,h1,h2⟩
  exact⟨o,hh id (by simp[AV.ids,BV.ids]) _ h1,h2⟩
 ·exact λh=>h
theorem Pf{h h':List AObj}{bor:Bool}{y:BV}{p:PV}(hh:∀i∈y.ids,∀ob,h[i]? =some ob->h'[i]? =some ob)(hs:Dr h bor y=some p):Dr h' bor y=some p:=by
 cases y with
 |sl id=>
  simp only[Dr]at hs⊢
  cases bor
  ·exact hs
  ·simp only[if_true,Nq]at hs⊢
   cases ho:h[id]? with
   |none=>rw[ho]at hs;cases hs
   |some ob=>rw[ho]at hs;rw[hh id (by simp[BV.ids]) _ ho];exact hs
 |_=>exact hs
theorem Lc{h h':List AObj}{bor:Bool}{y:AV}{p:PV}(hh:KV y h h')(hs:nv h bor y=some p):nv h' bor y=some p:=by
 cases y with
 |b x=>exact Pf (λi hi ob ho=>hh i hi ob ho) hs
 |agg xs=>
  simp only[nv,d_]at hs⊢
  obtain⟨ps,h1,rfl⟩:=hs
  refine⟨ps,qv (λx hx y hy=>Pf (λi hi ob ho=>hh i (f_.2 ⟨x,hx,hi⟩) ob ho) hy) h1,rfl⟩
 |tup xs=>exact hs
theorem A9{s:SOp}{K:AV->Prop}(h:Foot s.rd a b)(hs:jp P b s K):jp P a s K:=by
 cases s<;>simp only[SOp.rd]at h<;>simp only[jp]at hs⊢
 case mv=>exact h.bind (λ_ h=>h) hs λ_ _ h=>h
 case pick x y z=>exact h.bind (λt ht=>by simp[ht]) hs λ_ _ hs=>bA hs λ_ hs=>nK hs λ_ hs=>⟨λe=>h.bind (λt ht=>by simp[ht]) (hs.1 e) λ_ _ h=>h,λe=>h.bind (λt ht=>by simp[ht]) (hs.2 e) λ_ _ h=>h⟩
 case bin=>exact h.bind (λt ht=>by simp[ht]) hs λ_ _ hs=>h.bind (λt ht=>by simp[ht]) hs λ_ _ h=>h
 case eqB=>exact h.bind (λt ht=>by simp[ht]) hs λ_ _ hs=>h.bind (λt ht=>by simp[ht]) hs λ_ _ h=>h
 case un=>exact h.bind (λ_ h=>h) hs λ_ _ h=>h
 case len str x=>
  refine h.bind (λ_ h=>h) hs λ_ hh hs=>?_
  cases str
  ·exact Tk hh hs λ_ h=>h
  ·exact hs
 case lenM=>exact h.bind (λ_ h=>h) hs λ_ hh hs=>LX hh hs λ_ _ h=>h
 case idxS=>exact h.bind (λt ht=>by simp[ht]) hs λ_ _ hs=>h.bind (λt ht=>by simp[ht]) hs λ_ _ h=>h
 case idxV=>exact h.bind (λt ht=>by simp[ht]) hs λ_ _ hs=>h.bind (λt ht=>by simp[ht]) hs λ_ _ h=>h
 case idxA=>
  exact h.bind (λt ht=>by simp[ht]) hs λx hh hs=>h.bind (λt ht=>by simp[ht]) hs λ_ _ hs=>bA hs λ_ hs=>bW hs λ_ _ hs=>by
   rcases hs with hs|⟨id,rfl,ob,ho,hs⟩
   ·exact .inl hs
   ·exact .inr ⟨id,rfl,ob,hh id (by simp[AV.ids,BV.ids]) _ ho,hs⟩
 case idxP=>exact h.bind (λt ht=>by simp[ht]) hs λ_ _ hs=>h.bind (λt ht=>by simp[ht]) hs λ_ _ h=>h
 case fldA=>exact h.bind (λ_ h=>h) hs λ_ _ h=>h
 case fld=>exact h.bind (λ_ h=>h) hs λ_ _ h=>h
 case load=>exact h.bind (λ_ h=>h) hs λ_ hh hs=>Ts hh hs λ_ h=>h
 case cvtI=>exact h.bind (λ_ h=>h) hs λ_ _ h=>h
 case slc sz x lo hi mx=>
  refine h.bind (λt ht=>by simp[ht]) hs λ_ _ hs=>aj hs λq ⟨L,h2,h3⟩=>⟨L,h2,h.bnd (λt ht=>by simp[ht]) h3 λ_ h4=>h.bnd (λt ht=>by simp[ht]) h4 λ_ h5=>h.bnd (λt ht=>by simp[ht]) h5 λ_ h=>h⟩
 case slcS x lo hi=>exact h.bind (λt ht=>by simp[ht]) hs λ_ _ hs=>bA hs λ_ hs=>qq hs λ_ hs=>h.bnd (λt ht=>by simp[ht]) hs λ_ hs=>h.bnd (λt ht=>by simp[ht]) hs λ_ h=>h
 case ext=>exact h.bind (λ_ h=>h) hs λ_ _ h=>h
 case nilc=>exact h.bind (λ_ h=>h) hs λ_ _ h=>h
 case build z ps=>
  obtain⟨ys,h1,h2⟩:=hs
  refine⟨ys,qv (λq hq y hy=>?_) h1,h2⟩
  obtain⟨u,e1,e2⟩:=d_.1 hy
  rw[(h.get (λt ht=>f_.2 ⟨q,hq,ht⟩) e1).1,<-e2];rfl
 case call=>exact h.bindM (λq hq t ht=>f_.2 ⟨q,hq,ht⟩) (λy z hh hz=>Lc hh hz) hs
 case callp=>exact h.bind (λt ht=>by simp[ht]) hs λ_ _ ⟨f,cs,h1,h2,hs⟩=>⟨f,cs,h1,h2,h.bindM (λq hq t ht=>l_.2 (.inr (f_.2 ⟨q,hq,ht⟩))) (λy z hh hz=>Lc hh hz) hs⟩
 case boxD=>exact h.bind (λ_ h=>h) hs λ_ _ h=>h
 case b2s=>exact h.bind (λ_ h=>h) hs λ_ hh hs=>B6 hh hs λ_ h=>h
 case bslice own e sz len ps=>
  cases own
  ·exact h.bindM (λq hq t ht=>f_.2 ⟨q,hq,ht⟩) (λy z _ hz=>hz) hs
  ·exact hs
 case bsliceN e sz len ps=>exact h.bindM (λq hq t ht=>f_.2 ⟨q,hq,ht⟩) (λy z _ hz=>hz) hs
 case mkfn f ps=>
  obtain⟨ys,h1,h2⟩:=hs
  exact⟨ys,qv (λq hq y hy=>(h.get (λt ht=>f_.2 ⟨q,hq,ht⟩) hy).1) h1,h2⟩
 case lookup=>exact h.bind (λt ht=>by simp[ht]) hs λ_ hh hs=>h.bind (λt ht=>by simp[ht]) hs λ_ _ hs=>LX hh hs λ_ _ h=>h
 case eqT=>exact h.bind (λt ht=>by simp[ht]) hs λ_ _ hs=>h.bind (λt ht=>by simp[ht]) hs λ_ _ h=>h
 case mnmx mx k x ps=>
  refine h.bind (λt ht=>by simp[ht]) hs λ_ _ hs=>bA hs λ_ hs=>bW hs λ_ _ hs=>?_
  obtain⟨ys,h1,h2⟩:=hs
  exact⟨ys,qv (λq hq y hy=>(h.get (λt ht=>l_.2 (.inr (f_.2 ⟨q,hq,ht⟩))) hy).1) h1,h2⟩
 case iface=>exact h.bind (λ_ h=>h) hs λ_ _ h=>h
 case appD=>exact h.bind (λt ht=>by simp[ht]) hs λ_ _ hs=>h.bind (λt ht=>by simp[ht]) hs λ_ hh hs=>B6 hh hs λ_ h=>h
theorem tk{st:St}{s:SOp}{R R':AObj->(Nat->BV)->Prop}(hs:Hy st s R)(hk:∀o m,R o m->R' o m):Hy st s R':=by
 cases s<;>simp only[Hy]at hs⊢
 case alloc=>exact hk _ _ hs
 case box=>exact aj hs λ_ h=>⟨h.1,hk _ _ h.2⟩
 case bslice own e sz len ps=>
  cases own
  ·exact hs
  ·exact aj hs λ_ ⟨h1,h2,h3,h4,h5⟩=>⟨h1,h2,h3,h4,hk _ _ h5⟩
 case mslice=>exact aj hs λ_ hs=>aj hs λ_ hs=>bA hs λ_ hs=>bA hs λ_ hs=>bW hs λ_ _ hs=>bW hs λ_ _ ⟨h1,h2,h3,h4,h5,h6,h7⟩=>⟨h1,h2,h3,h4,h5,h6,aj h7 λ_ h=>⟨h.1,hk _ _ h.2⟩⟩
 case append=>exact aj hs λ_ hs=>aj hs λ_ hs=>fE hs λ_ ⟨h1,h2,h3,h4⟩=>⟨h1,h2,h3,hk _ _ h4⟩
 case mkmap=>exact hk _ _ hs
theorem MK{s:SOp}{R:AObj->(Nat->BV)->Prop}(h:Foot s.rd a b)(hs:Hy b s R):Hy a s R:=by
 cases s<;>simp only[SOp.rd]at h<;>simp only[Hy]at hs⊢
 case alloc=>exact hs
 case box=>exact h.bind (λ_ h=>h) hs λ_ _ h=>h
 case bslice own e sz len ps=>
  cases own
  ·exact hs
  ·exact h.bindM (λq hq t ht=>f_.2 ⟨q,hq,ht⟩) (λy z _ hz=>hz) hs
 case mslice=>exact h.bind (λt ht=>by simp[ht]) hs λ_ _ hs=>h.bind (λt ht=>by simp[ht]) hs λ_ _ h=>h
 case append=>exact h.bind (λt ht=>by simp[ht]) hs λ_ _ hs=>h.bind (λt ht=>by simp[ht]) hs λ_ hh hs=>B6 hh hs λ_ h=>h
 case mkmap=>exact hs
theorem M0{o:SOper}{x:AV}(h:Foot o.rd a b)(hs:fO P o b x):fO P o a x:=by
 have hr:Foot o.op.rd a b:=⟨λk hk=>h.fr k (by simp[SOper.rd,hk]),λk hk=>h.hp k (by simp[SOper.rd,hk])⟩
 unfold fO at hs⊢
 split at hs
 ·rename_i hg
  exact A9 hr hs
 ·rename_i t want hg
  obtain⟨g,h1,v,rfl,h2,h3⟩:=hs
  exact⟨_,h.fr t (by simp[SOper.rd,hg]) _ h1,v,rfl,λe=>A9 hr (h2 e),h3⟩
theorem MZ{hp:List AObj}{sz:Nat}{a v:AV}{K K':List AObj->Prop}(h:Cn hp sz a v K)(hk:∀x,K x->K' x):Cn hp sz a v K':=by
 unfold Cn at h⊢
 split at h
 ·exact aj h λ_ ⟨t,cs,h1,h2,h3,h4,h5⟩=>⟨t,cs,h1,h2,h3,h4,hk _ h5⟩
 ·refine aj h λ_ h=>h.imp (fun⟨e,s,xs,h1,h2,h3⟩=>⟨e,s,xs,h1,h2,aj h3 λ_ ⟨h4,h5,h6⟩=>⟨h4,h5,?_⟩⟩) fun⟨e,s,k,xs,ho,h1,h2,h3,h4⟩=>⟨e,s,k,xs,ho,h1,h2,h3,h4.imp (fun⟨h5,h6,h7⟩=>⟨h5,h6,aj h7 λ_ ⟨h8,h9,h10⟩=>⟨h8,h9,hk _ h10⟩⟩) fun⟨b,b',h5,h6,h7,h8,h9⟩=>⟨b,b',h5,h6,h7,h8,hk _ h9⟩⟩
  rcases h6 with⟨h7,h8,h9⟩|⟨h7,h8,h9⟩
  ·exact .inl ⟨h7,h8,hk _ h9⟩
  ·exact .inr ⟨h7,h8,hk _ h9⟩
 ·exact h
theorem EX{st:St}{d:Option Nat}{bor:Bool}{B:List Nat}{f:FuncId}{ars:List AV}{os:List AObj}{K K' KP KP':St->Prop}(h:sexec.callK P st d bor B f ars os K KP)(hk:∀x,K x->K' x)(hkp:∀x,KP x->KP' x):sexec.callK P st d bor B f ars os K' KP':=by
 obtain⟨h1,h2,h3,h4⟩:=h
 refine⟨h1,h2,h3,h4.mono λo ho=>?_⟩
 match o,ho with
 |some (_,_),ho=>exact⟨ho.1,hk _ ho.2⟩
 |none,ho=>exact hkp _ ho
theorem mK{d:Option Nat}{op:SOp}{st:St}{K K' KP KP':St->Prop}(h:sexec P d op st K KP)(hk:∀x,K x->K' x)(hkp:∀x,KP x->KP' x):sexec P d op st K' KP':=by
 have dflt:(jp P st op λa=>K (st.putO d a))->jp P st op λa=>K' (st.putO d a):=λh=>Ba h λ_ h=>hk _ h
 cases op<;>simp only[sexec]at h⊢<;>try exact dflt h
 case store=>exact aj h λ_ h=>aj h λ_ h=>⟨h.1,MZ h.2 λ_ h=>hk _ h⟩
 case alloc=>exact hk _ h
 case box=>exact aj h λ_ h=>⟨h.1,hk _ h.2⟩
 case bslice own e sz len ps=>
  cases own
  ·exact dflt h
  ·exact aj h λ_ ⟨h1,h2,h3,h4,h5⟩=>⟨h1,h2,h3,h4,hk _ h5⟩
 case mslice=>exact aj h λ_ h=>aj h λ_ h=>bA h λ_ h=>bA h λ_ h=>bW h λ_ _ h=>bW h λ_ _ ⟨h1,h2,h3,h4,h5,h6,h7⟩=>⟨h1,h2,h3,h4,h5,h6,aj h7 λ_ h=>⟨h.1,hk _ h.2⟩⟩
 case append=>
  refine aj h λ_ h=>aj h λ_ h=>fE h λ_ ⟨h1,h2⟩=>⟨h1,?_⟩
  rcases h2 with⟨id,h3,h4⟩|⟨h3,h4,h5⟩
  ·exact .inl ⟨id,h3,aj h4 λ_ ⟨xs,h5,h6,h7⟩=>⟨xs,h5,h6,hk _ h7⟩⟩
  ·exact .inr ⟨h3,h4,hk _ h5⟩
 case msliceT=>exact aj h λ_ h=>aj h λ_ h=>bA h λ_ h=>bA h λ_ h=>bW h λ_ _ h=>bW h λ_ _ ⟨h1,h2,h3,h4,h5,h6,h7⟩=>⟨h1,h2,h3,h4,h5,h6,aj h7 λ_ h=>⟨h.1,h.2.1,hk _ h.2.2⟩⟩
 case appT=>
  refine aj h λ_ h=>aj h λ_ h=>fE h λ_ ⟨h1,h2⟩=>⟨h1,?_⟩
  rcases h2 with⟨id,h3,h4⟩|⟨h3,h4,h5⟩
  ·exact .inl ⟨id,h3,aj h4 λ_ ⟨xs,h5,h6,h7⟩=>⟨xs,h5,h6,hk _ h7⟩⟩
  ·exact .inr ⟨h3,h4,hk _ h5⟩
 case callA=>exact aj h λ_ h=>aj h λ_ h=>EX h hk hkp
 case callv=>exact aj h λ_ ⟨f,caps,h1,h2,h3⟩=>⟨f,caps,h1,h2,aj h3 λ_ h=>aj h λ_ h=>EX h hk hkp⟩
 case mkmap=>exact hk _ h
 case mapset=>exact aj h λ_ h=>aj h λ_ h=>aj h λ_ h=>ze h λ_ _ h=>aj h λ_ h=>aj h λ_ ⟨h1,h2,h3,h4,h5,h6⟩=>⟨h1,h2,h3,h4,h5,aj h6 λ_ ⟨h7,h8⟩=>⟨h7,hk _ h8⟩⟩
 case copy=>exact aj h λ_ h=>aj h λ_ h=>fE h λ_ ⟨h1,id,h2,h3,h4⟩=>⟨h1,id,h2,h3,aj h4 λ_ ⟨xs,h5,h6⟩=>⟨xs,h5,hk _ h6⟩⟩
 case panic=>exact aj h λ_ h=>⟨h.1,hkp _ h.2⟩
 case atq =>exact tk h λ_ _ h=>⟨h.1,hk _ h.2⟩
theorem uo{o:SOper}{st:St}{K K' KP KP':St->Prop}(h:iV P o st K KP)(hk:∀x,K x->K' x)(hkp:∀x,KP x->KP' x):iV P o st K' KP':=by
 unfold iV at h⊢
 split at h
 ·exact mK h hk hkp
 ·exact aj h λ_ h=>bA h λ_ h=>⟨λe=>mK (h.1 e) hk hkp,λe=>hk _ (h.2 e)⟩
end
theorem uf{α:Type}{f:α->α}:∀{l:List α},(∀x∈l,f x=x)->l.map f=l
 |[],_=>rfl
 |x::l,h=>by rw[B_,h x (by simp),uf λy hy=>h y (by simp[hy])]
def BV.kids:BV->List Nat
 | .sl id=>[id]
 | .elt id _ _=>[id]
 |_=>[]
def AV.kids:AV->List Nat
 | .b x=>x.kids
 | .agg xs=>xs.flatMap BV.kids
 | .tup xs=>xs.flatMap BV.kids
def AObj.kids:AObj->List Nat
 | .box _ cs=>cs.flatMap BV.kids
 | .tree _ _ _ _ (some (_,_,b))=>b.kids
 |_=>[]
theorem BV.kids_ids{x:BV}{i:Nat}(h:i∈x.kids):i∈x.ids:=by
 cases x<;>first|exact h|cases h
theorem AV.kids_ids{x:AV}{i:Nat}(h:i∈x.kids):i∈x.ids:=by
 have hm:∀xs:List BV,i∈xs.flatMap BV.kids->i∈xs.flatMap BV.ids:=λxs h=>by
  obtain⟨y,hy,hi⟩:=f_.1 h
  exact f_.2 ⟨y,hy,BV.kids_ids hi⟩
 cases x with
 |b x=>exact BV.kids_ids h
 |agg xs=>exact hm xs h
 |tup xs=>exact hm xs h
theorem BV.kill_off{id:Nat}{x:BV}(h:id∉x.kids):x.kill id=x:=by
 cases x<;>simp only[BV.kill]<;>simp only[BV.kids,List.mem_singleton]at h
 ·rw[if_neg (λe=>h e.symm)]
 ·rw[if_neg (λe=>h e.symm)]
theorem AV.kill_off{id:Nat}{x:AV}(h:id∉x.kids):x.kill id=x:=by
 cases x with
 |b x=>simp only[AV.kill,BV.kill_off h]
 |agg xs=>
  simp only[AV.kill,AV.agg.injEq]
  exact uf (λy hy=>BV.kill_off λhi=>h (f_.2 ⟨y,hy,hi⟩))
 |tup xs=>
  simp only[AV.kill,AV.tup.injEq]
  exact uf (λy hy=>BV.kill_off λhi=>h (f_.2 ⟨y,hy,hi⟩))
theorem AObj.kill_off{id:Nat}{o:AObj}(h:id∉o.kids):o.kill id=o:=by
 cases o<;>simp only[AObj.kill]
 case tree e sz k xs hole=>
  cases hole with
  |none=>rfl
  |some q=>obtain⟨i,j,b⟩:=q;simp only[J8,BV.kill_off (show id∉b.kids from h)]
 simp only[AObj.box.injEq,true_and]
 exact uf (λy hy=>BV.kill_off λhi=>h (f_.2 ⟨y,hy,hi⟩))
theorem BV.killB_off{B:List Nat}{x:BV}(h:∀i∈x.kids,i∉B):x.killB B=x:=by
 cases x<;>simp only[BV.killB]
 ·rename_i k
  have:=h k (by simp[BV.kids])
  simp[this]
 ·rename_i k i o
  have:=h k (by simp[BV.kids])
  simp[this]
theorem AV.killB_off{B:List Nat}{x:AV}(h:∀i∈x.kids,i∉B):x.killB B=x:=by
 cases x with
 |b x=>simp only[AV.killB,BV.killB_off h]
 |agg xs=>
  simp only[AV.killB,AV.agg.injEq]
  exact uf (λy hy=>BV.killB_off λi hi=>h i (f_.2 ⟨y,hy,hi⟩))
 |tup xs=>
  simp only[AV.killB,AV.tup.injEq]
  exact uf (λy hy=>BV.killB_off λi hi=>h i (f_.2 ⟨y,hy,hi⟩))
theorem AObj.killB_off{B:List Nat}{o:AObj}(h:∀i∈o.kids,i∉B):o.killB B=o:=by
 cases o<;>simp only[AObj.killB]
 case tree e sz k xs hole=>
  cases hole with
  |none=>rfl
  |some q=>obtain⟨i,j,b⟩:=q;simp only[J8,BV.killB_off (show ∀i∈b.kids,i∉B from h)]
 simp only[AObj.box.injEq,true_and]
 exact uf (λy hy=>BV.killB_off λi hi=>h i (f_.2 ⟨y,hy,hi⟩))
def SOp.lent:SOp->List Nat
 | .callA _ B _ _=>B
 | .callv _ B _ _=>B
 | .atq s op=>s::op.lent
 |_=>[]
def touch(st:St)(o:SOper):List Nat:=(o.rd.flatMap λk=>match look st.fr k with|some a=>a.ids|none=>[])++o.op.lent
def Over(d:Option Nat)(x:AV)(st st1:St):Prop:=st1.hp=st.hp/\∀t,look st1.fr t=if d=some t then some x else look st.fr t
structure Conf(T:List Nat)(d:Option Nat)(st st':St):Prop where
 fr:∀t,d≠some t->(∀y,look st.fr t=some y->∀i∈y.kids,i∉T)->look st'.fr t=look st.fr t
 hp:∀i ob,st.hp[i]? =some ob->i∉T->(∀j∈ob.kids,j∉T)->st'.hp[i]? =some ob
def KO(T:List Nat)(e:Option Nat)(d:Option Nat)(x:AV)(st:St)(K:St->Prop):St->Prop:=λst'=>Conf T e st st'/\∃st1',Over d x st' st1'/\K st1'
section
variable {P:Program} {T:List Nat} {e d:Option Nat} {x:AV} {st st1:St} {K:St->Prop} {KP:Prop}
theorem ph(hO:Over d x st st1)(hd:∀t,d=some t->e≠some t)(y:AV):Over d x (st.putO e y) (st1.putO e y):=by
 refine⟨by cases e<;>exact hO.1,λt=>?_⟩
 rw[fq,fq,hO.2]
 by_cases h1:e=some t
 ·rw[if_pos h1,if_pos h1,if_neg (λh2=>hd t h2 h1)]
 ·rw[if_neg h1,if_neg h1]
theorem O6(hO:Over d x st st1)(hd:∀t,d=some t->e≠some t){h':List AObj}{y:AV}(hc:∀i ob,st.hp[i]? =some ob->i∉T->(∀j∈ob.kids,j∉T)->h'[i]? =some ob)
 (hk:K (St.putO {st1 with hp:=h'} e y)):KO T e d x st K (St.putO {st with hp:=h'} e y):=by
 refine⟨⟨λt ht _=>?_,λi ob hi h1 h2=>?_⟩,_,ph (st:={st with hp:=h'}) (st1:={st1 with hp:=h'}) ⟨rfl,hO.2⟩ hd y,hk⟩
 ·rw[fq,if_neg ht]
 ·have:(St.putO {st with hp:=h'} e y).hp=h':=by cases e<;>rfl
  rw[this];exact hc i ob hi h1 h2
theorem KW(hO:Over d x st st1)(hd:∀t,d=some t->e≠some t){id:Nat}{o:AObj}{y:AV}(hT:id∈T)(hx:∀i∈x.kids,i∉T)(hk:K ((st1.moved id o).putO e y)):KO T e d x st K ((st.moved id o).putO e y):=by
 have hh:∀s:St,((s.moved id o).putO e y).hp=(s.hp.map (AObj.kill id)).set id o:=λs=>by cases e<;>rfl
 refine⟨⟨λt ht hy=>?_,λi ob hi h1 h2=>?_⟩,_,ph (st:=st.moved id o) (st1:=st1.moved id o) ⟨by simp only[St.moved,hO.1],λt=>?_⟩ hd y,hk⟩
 ·rw[fq,if_neg ht]
  simp only[St.moved,nO]
  cases hl:look st.fr t with
  |none=>rfl
  |some z=>simp only[x_,AV.kill_off λh=>hy z hl id h hT]
 ·rw[hh,i_ (λe'=>h1 (by rw[<-e'];exact hT)),H_,hi]
  simp only[x_,AObj.kill_off λh=>h2 id h hT]
 ·simp only[St.moved,nO,hO.2]
  by_cases h:d=some t
  ·rw[if_pos h,if_pos h]
   simp only[x_,AV.kill_off λh=>hx id h hT]
  ·rw[if_neg h,if_neg h]
theorem NA{B:List Nat}{hp os:List AObj}{i:Nat}{ob:AObj}(hi:hp[i]? =some ob)(hB:i∉B):(vM B hp os)[i]? =some (ob.killB B):=by
 unfold vM
 have hlt:i<hp.length:=(b_.1 hi).1
 rw[k_ (by simpa using hlt),List.getElem?_mapIdx,hi]
 simp[hB]
theorem UP(hO:Over d x st st1)(hd:∀t,d=some t->e≠some t){B:List Nat}{os:List AObj}{y:AV}(hT:∀i∈B,i∈T)(hx:∀i∈x.kids,i∉T)(hk:K ((st1.back B os).putO e y)):KO T e d x st K ((st.back B os).putO e y):=by
 have hh:∀s:St,((s.back B os).putO e y).hp=vM B s.hp os:=λs=>by cases e<;>rfl
 refine⟨⟨λt ht hy=>?_,λi ob hi h1 h2=>?_⟩,_,ph (st:=st.back B os) (st1:=st1.back B os) ⟨by simp only[St.back,hO.1],λt=>?_⟩ hd y,hk⟩
 ·rw[fq,if_neg ht]
  simp only[St.back,nO]
  cases hl:look st.fr t with
  |none=>rfl
  |some z=>simp only[x_,AV.killB_off λi hi hb=>hy z hl i hi (hT i hb)]
 ·rw[hh,NA hi (λhb=>h1 (hT i hb)),AObj.killB_off λj hj hb=>h2 j hj (hT j hb)]
 ·simp only[St.back,nO,hO.2]
  by_cases h:d=some t
  ·rw[if_pos h,if_pos h]
   simp only[x_,AV.killB_off λi hi hb=>hx i hi (hT i hb)]
  ·rw[if_neg h,if_neg h]
theorem pL{op:SOp}{st:St}{KQ:St->Prop}(hs:jp P st op λa=>K (st.putO e a)):sexec P e op st K KQ:=by
 unfold sexec
 split<;>first|exact hs|exact hs.elim
theorem OC{op:SOp}(hO:Over d x st st1)(hrd:∀t,d=some t->t∉op.rd)(hd:∀t,d=some t->e≠some t)(hT:∀t∈op.rd,∀y,look st.fr t=some y->∀i∈y.ids,i∈T)(hTl:∀i∈op.lent,i∈T)
 (hx:∀i∈x.kids,i∉T) (h:sexec P e op st1 K λ_=>KP):sexec P e op st (KO T e d x st K) (λ_=>KP):=by
 have hl:∀t∈op.rd,look st1.fr t=look st.fr t:=λt ht=>by rw[hO.2,if_neg λh=>hrd t h ht]
 have hF:Foot op.rd st st1:=⟨λk hk y hy=>by rw[<-hl k hk];exact hy,λk hk y hy i hi ob ho=>by rw[<-hO.1];exact ho⟩
 have hg:∀q:SX,(∀t∈q.rd,t∈op.rd)->st1.get q=st.get q:=λq hq=>aQ λt ht=>hl t (hq t ht)
 have hid:∀(q:SX) (y:AV),(∀t∈q.rd,t∈op.rd)->st.get q=some y->∀i∈y.ids,i∈T:=λq y hq hy=>by
  cases q with
  |tm k=>exact hT k (hq k (by simp[SX.rd])) y hy
  |c v=>simp only[St.get,h_]at hy;subst hy;intro i hi;rw[Iz]at hi;cases hi
  |g n=>simp only[St.get,h_]at hy;subst hy;intro i hi;cases hi
  |f n=>simp only[St.get,h_]at hy;subst hy;intro i hi;cases hi
 have pure_:jp P st1 op (λa=>K (st1.putO e a))->sexec P e op st (KO T e d x st K) (λ_=>KP):=λhs=>
  pL (Ba (A9 hF hs) λa ha=>O6 (h':=st.hp) hO hd (λi ob hi _ _=>hi) (by rw[<-hO.1];exact ha))
 have fin:∀(o:AObj) (y:AV),K (St.putO {st1 with hp:=st1.hp++[o]} e y)->KO T e d x st K (St.putO {st with hp:=st.hp++[o]} e y):=λo y hk=>
  O6 hO hd (λi ob hi _ _=>get_append hi) (by rw[<-hO.1];exact hk)
 have fins:∀(id:Nat) (o:AObj) (y:AV),id∈T->K (St.putO {st1 with hp:=st1.hp.set id o} e y)->KO T e d x st K (St.putO {st with hp:=st.hp.set id o} e y):=λid o y hid hk=>
  O6 hO hd (λi ob hi h1 _=>by rw[i_ λe'=>h1 (by rw[<-e'];exact hid)];exact hi) (by rw[<-hO.1];exact hk)
 have args_:∀(bor:Bool) (B:List Nat) (l:List SX),(∀q∈l,∀t∈q.rd,t∈op.rd)->(l.mapM λx=>(st1.get x).bind (uL st1.hp bor B))=(l.mapM λx=>(st.get x).bind (uL st.hp bor B)):=λbor B l hl=>
  by rw[hO.1];exact eN λq hq=>by rw[hg q (hl q hq)]
 have call_:∀(bor:Bool) (B:List Nat) (f:FuncId) (ars:List AV) (os:List AObj),(∀i∈B,i∈T)->sexec.callK P st1 e bor B f ars os K (λ_=>KP)->sexec.callK P st e bor B f ars os (KO T e d x st K) (λ_=>KP):=λbor B f ars os hB ⟨h1,h2,h3,h4⟩=>by
  refine⟨h1,h2,h3,h4.mono λo ho=>?_⟩
  cases o with
  |none=>exact ho
  |some r=>
   refine⟨ho.1,UP hO hd hB hx ?_⟩
   have:=ho.2
   rw[hO.1]at this
   exact this
 cases op with
 |store sz q v=>
  obtain⟨aq,hq,av,hv,he,hs⟩:=h
  have hq':=hq
  rw[hg q (λt ht=>by simp[SOp.rd,ht])]at hq
  rw[hg v (λt ht=>by simp[SOp.rd,ht])]at hv
  have hqi:=hid q aq (λt ht=>by simp[SOp.rd,ht]) hq
  refine⟨aq,hq,av,hv,he,?_⟩
  subst he
  rw[hO.1]at hs
  revert hs
  unfold Cn
  split
  ·rename_i id off
   rintro⟨o,h1,t,cs,h2,h3,h4,h5,hk⟩
   have:=fins id (.box t (splice cs off av.cells)) av (hqi id (by simp[AV.ids,BV.ids])) (by rw[hO.1];exact hk)
   exact⟨o,h1,t,cs,h2,h3,h4,h5,this⟩
  ·rename_i id i off
   have hi:=hqi id (by simp[AV.ids,BV.ids])
   rintro⟨o,h1,⟨t,s,xs,h2,h3,p,h4,h5,h6,hk⟩|⟨t,s,k,xs,ho,h2,h3,h4,hk⟩⟩
   ·refine⟨o,h1,.inl ⟨t,s,xs,h2,h3,p,h4,h5,h6,?_⟩⟩
    rcases hk with⟨h7,h8,hk⟩|⟨h7,h8,hk⟩
    ·exact .inl ⟨h7,h8,fins id _ av hi (by rw[hO.1];exact hk)⟩
    ·exact .inr ⟨h7,h8,fins id _ av hi (by rw[hO.1];exact hk)⟩
   ·refine⟨o,h1,.inr ⟨t,s,k,xs,ho,h2,h3,h4,?_⟩⟩
    rcases hk with⟨h5,h6,p,h7,h8,h9,hk⟩|⟨b,b',h5,h6,h7,h8,hk⟩
    ·exact .inl ⟨h5,h6,p,h7,h8,h9,fins id _ av hi (by rw[hO.1];exact hk)⟩
    ·exact .inr ⟨b,b',h5,h6,h7,h8,fins id _ av hi (by rw[hO.1];exact hk)⟩
  ·exact λh=>h
 |alloc t zero=>exact fin _ _ (by have:=h;simp only[sexec,hO.1]at this⊢;exact this)
 |box t q=>
  obtain⟨aq,hq,h1,hk⟩:=h
  rw[hg q (λt ht=>by simp[SOp.rd,ht])]at hq
  exact⟨aq,hq,h1,fin _ _ (by rw[hO.1]at hk⊢;exact hk)⟩
 |bslice own t sz len ps=>
  cases own with
  |false=>exact pure_ h
  |true=>
   obtain⟨qs,hq,h1,h2,h3,h4,hk⟩:=h
   rw[eN (g:=λx=>(st.get x).bind AV.toPV) λq hq=>by rw[hg q (λt ht=>f_.2 ⟨q,hq,ht⟩)]]at hq
   exact⟨qs,hq,h1,h2,h3,h4,fin _ _ (by rw[hO.1]at hk⊢;exact hk)⟩
 |mslice t sz by_ zero l c=>
  obtain⟨al,hq,ac,hc,hk⟩:=h
  rw[hg l (λt ht=>by simp[SOp.rd,ht])]at hq
  rw[hg c (λt ht=>by simp[SOp.rd,ht])]at hc
  exact⟨al,hq,ac,hc,bA hk λ_ hk=>bA hk λ_ hk=>bW hk λ_ _ hk=>bW hk λ_ _ ⟨h1,h2,h3,h4,h5,h6,h7⟩=>⟨h1,h2,h3,h4,h5,h6,aj h7 λ_ h=>⟨h.1,fin _ _ (by have:=h.2;rw[hO.1]at this⊢;exact this)⟩⟩⟩
 |append t sz by_ q v=>
  obtain⟨aq,hq,av,hv,hs⟩:=h
  rw[hg q (λt ht=>by simp[SOp.rd,ht])]at hq
  rw[hg v (λt ht=>by simp[SOp.rd,ht])]at hv
  have hqi:=hid q aq (λt ht=>by simp[SOp.rd,ht]) hq
  refine⟨aq,hq,av,hv,?_⟩
  rw[hO.1]at hs
  refine fE hs λL hs=>⟨hs.1,?_⟩
  rcases hs.2 with⟨id,rfl,o,ho,xs,rfl,h1,hk⟩|⟨h1,h2,hk⟩
  ·exact .inl ⟨id,rfl,_,ho,xs,rfl,h1,KW hO hd (hqi id (by simp[AV.ids,BV.ids])) hx hk⟩
  ·exact .inr ⟨h1,h2,fin _ _ (by rw[hO.1];exact hk)⟩
 |msliceT kk t sz by_ zero l c=>
  obtain⟨al,hq,ac,hc,hk⟩:=h
  rw[hg l (λt ht=>by simp[SOp.rd,ht])]at hq
  rw[hg c (λt ht=>by simp[SOp.rd,ht])]at hc
  exact⟨al,hq,ac,hc,bA hk λ_ hk=>bA hk λ_ hk=>bW hk λ_ _ hk=>bW hk λ_ _ ⟨h1,h2,h3,h4,h5,h6,h7⟩=>⟨h1,h2,h3,h4,h5,h6,aj h7 λ_ h=>⟨h.1,h.2.1,fin _ _ (by have:=h.2.2;rw[hO.1]at this⊢;exact this)⟩⟩⟩
 |appT kk t sz by_ q v=>
  obtain⟨aq,hq,av,hv,hs⟩:=h
  rw[hg q (λt ht=>by simp[SOp.rd,ht])]at hq
  rw[hg v (λt ht=>by simp[SOp.rd,ht])]at hv
  have hqi:=hid q aq (λt ht=>by simp[SOp.rd,ht]) hq
  refine⟨aq,hq,av,hv,?_⟩
  rw[hO.1]at hs
  refine fE hs λL hs=>⟨hs.1,?_⟩
  rcases hs.2 with⟨id,rfl,o,ho,xs,rfl,h1,hk⟩|⟨h1,h2,hk⟩
  ·exact .inl ⟨id,rfl,_,ho,xs,rfl,h1,KW hO hd (hqi id (by simp[AV.ids,BV.ids])) hx hk⟩
  ·exact .inr ⟨h1,h2,fin _ _ (by rw[hO.1];exact hk)⟩
 |callA bor B f args=>
  obtain⟨ars,h1,os,h2,hk⟩:=h
  rw[args_ bor B args (λq hq t ht=>f_.2 ⟨q,hq,ht⟩)]at h1
  rw[hO.1]at h2
  exact⟨ars,h1,os,h2,call_ bor B f ars os hTl hk⟩
 |callv bor B q args=>
  obtain⟨aq,hq,f,caps,h0,h00,ars,h1,os,h2,hk⟩:=h
  rw[hg q (λt ht=>by simp[SOp.rd,ht])]at hq
  rw[args_ bor B args (λq hq t ht=>l_.2 (.inr (f_.2 ⟨q,hq,ht⟩)))]at h1
  rw[hO.1]at h2
  exact⟨aq,hq,f,caps,h0,h00,ars,h1,os,h2,call_ bor B f _ os hTl hk⟩
 |mkmap k t=>exact fin _ _ (by have:=h;simp only[sexec,hO.1]at this⊢;exact this)
 |mapset k t m q v=>
  obtain⟨am,hm,aq,hq,av,hv,hs⟩:=h
  rw[hg m (λt ht=>by simp[SOp.rd,ht])]at hm
  rw[hg q (λt ht=>by simp[SOp.rd,ht])]at hq
  rw[hg v (λt ht=>by simp[SOp.rd,ht])]at hv
  have hmi:=hid m am (λt ht=>by simp[SOp.rd,ht]) hm
  refine⟨am,hm,aq,hq,av,hv,?_⟩
  rw[hO.1]at hs
  obtain⟨id,kvs,rfl,ho,p,h1,r,h2,he,h3,h4,h5,h6,u,h7,h8,hk⟩:=hs
  refine⟨id,kvs,rfl,ho,p,h1,r,h2,he,h3,h4,h5,h6,u,h7,h8,?_⟩
  subst he
  exact fins id _ av (hmi id (by simp[AV.ids,BV.ids])) (by rw[hO.1];exact hk)
 |copy t sz q v=>
  obtain⟨aq,hq,av,hv,hs⟩:=h
  rw[hg q (λt ht=>by simp[SOp.rd,ht])]at hq
  rw[hg v (λt ht=>by simp[SOp.rd,ht])]at hv
  have hqi:=hid q aq (λt ht=>by simp[SOp.rd,ht]) hq
  refine⟨aq,hq,av,hv,?_⟩
  rw[hO.1]at hs
  refine fE hs λL ⟨h1,id,h2,h3,o,ho,xs,h4,hk⟩=>?_
  subst h2
  exact⟨h1,id,rfl,h3,o,ho,xs,h4,fins id _ _ (hqi id (by simp[AV.ids,BV.ids])) (by rw[hO.1];exact hk)⟩
 |panic q=>
  obtain⟨aq,hq,h1,hk⟩:=h
  rw[hg q (λt ht=>by simp[SOp.rd,ht])]at hq
  exact⟨aq,hq,h1,hk⟩
 | atq s q=>
  have hF':Foot q.rd st st1:=hF
  have h':Hy st1 q λo m=>AU st1 (some s)/\K ((st1.new (some s) o).putO e (.b (m s))):=h
  show Hy st q λo m=>AU st (some s)/\KO T e d x st K ((st.new (some s) o).putO e (.b (m s)))
  refine tk (MK hF' h') λo m ⟨h1,hk⟩=>⟨?_,?_⟩
  ·simp only[AU]at h1⊢;rw[<-hO.1];exact h1
  ·exact fins s o _ (hTl s (by simp[SOp.lent])) hk
 |_=>exact pure_ h
end
structure Eff where
 x:AV
 slot:Option (Nat×AObj)
def St.app(st:St)(d:Option Nat)(E:Eff):St:=St.putO ⟨st.fr,match E.slot with|none=>st.hp|some (s,ob)=>st.hp.set s ob⟩ d E.x
def vl(P:Program)(o:SOper)(st:St)(E:Eff):Prop:=match E.slot with
 |none=>fO P o st E.x
 |some (s,ob)=>o.gd=none/\∃q,o.op= .atq s q/\Hy st q λob' mk=>ob'=ob/\E.x= .b (mk s)/\st.hp[s]? =some .free
def Eqs(a b:St):Prop:=a.hp=b.hp/\∀t,look a.fr t=look b.fr t
theorem Eqs.refl(a:St):Eqs a a:=⟨rfl,λ_=>rfl⟩
theorem Eqs.symm{a b:St}(h:Eqs a b):Eqs b a:=⟨h.1.symm,λt=>(h.2 t).symm⟩
theorem Eqs.trans{a b c:St}(h:Eqs a b)(k:Eqs b c):Eqs a c:=⟨h.1.trans k.1,λt=>(h.2 t).trans (k.2 t)⟩
def comm(r:Rec)(T:List Nat)(o:SOper)(b:Bool):Prop:=
 (∀t,r.d=some t->t∉o.rd/\o.dst≠some t)/\(∀t,o.dst=some t->t∉r.rd)/\(∀s,r.s=some s->s∉T)/\(b=true->∀s∈o.op.lent,s∉r.F)/\(b=false->r.s=none/\∀i∈T,i∉r.G)
def SOp.hf:SOp->Bool
 | .mv _=>true
 |_=>false
def dY(st:St)(o:SOper):List Nat:=if o.op.hf=true/\o.gd=none then []else touch st o
def We(F:List Nat)(st:St)(o:SOper)(E:Eff):Prop:=
 (∀i∈dY st o,i∈F/\∃ob,st.hp[i]? =some ob/\∀j∈ob.kids,j∈F)/\∀i∈E.x.kids,i∈F
def Cz(G:List Nat)(st:St)(o:SOper)(E:Eff):Prop:=(∀i∈E.x.kids,i∈G)/\∀t∈o.rd,∀y,look st.fr t=some y->∀i∈y.kids,i∈G
def XM(P:Program)(S:List AObj->Prop)(F:List Nat)(st:St)(o:SOper)(E:Eff):Prop:=∀st2:St,S st2.hp->(∀t∈o.rd,look st2.fr t=look st.fr t)->vl P o st2 E/\We F st2 o E
def Sr(un:Nat->Nat->Bool)(R:List (Rec×(List AObj->Prop)))(j:Nat)(T:List Nat)(hp:List AObj):Prop:=∀r∈R,un r.1.i j=true->(∀i∈T,i∉r.1.F)\/r.2 hp
def um(P:Program)(un:Nat->Nat->Bool)(K:St->Prop)(KP:Prop):List (Rec×(List AObj->Prop))->List (Nat×Bool×SOper)->St->Prop
 |_,[],st=>∃st2,Eqs st2 st/\K st2
 |R,(j,true,o)::l,st=>(∀r∈R,un r.1.i j=true->comm r.1 (dY st o) o true)/\∃E F G S,vl P o st E/\We F st o E/\Cz G st o E/\XM P S F st o E/\um P un K KP (R++[(⟨j,o.dst,o.rd,E.slot.map (·.1),F,G⟩,S)]) l (st.app o.dst E)
 |R,(j,false,o)::l,st=>(∀r∈R,un r.1.i j=true->comm r.1 (touch st o) o false)/\iV P o st (λst'=>Sr un R j (touch st o) st'.hp/\um P un K KP R l st') λ_=>KP
section
variable {P:Program} {un:Nat->Nat->Bool} {K:St->Prop} {KP:Prop}
theorem wv{α β:Type}{f g:α->List β}:∀{l:List α},(∀x∈l,f x=g x)->l.flatMap f=l.flatMap g
 |[],_=>rfl
 |x::l,h=>by rw[aE_,aE_,h x (by simp),wv λy hy=>h y (by simp[hy])]
theorem Gy{a b:St}{o:SOper}(h:∀t∈o.rd,look a.fr t=look b.fr t):touch a o=touch b o:=by
 unfold touch
 congr 1
 exact wv λk hk=>by rw[h k hk]
theorem tv{a b:St}{o:SOper}(h:∀t∈o.rd,look a.fr t=look b.fr t):dY a o=dY b o:=by
 unfold dY
 rw[Gy h]
theorem M9{st:St}{o:SOper}{t:Nat}{y:AV}{i:Nat}(ht:t∈o.rd)(hy:look st.fr t=some y)(hi:i∈y.ids):i∈touch st o:=
 l_.2 (.inl (f_.2 ⟨t,ht,by rw[hy];exact hi⟩))
theorem zw{st:St}{o:SOper}{i:Nat}(hi:i∈o.op.lent):i∈touch st o:=l_.2 (.inr hi)
theorem jG(st:St)(d:Option Nat)(E:Eff)(t:Nat):look (st.app d E).fr t=if d=some t then some E.x else look st.fr t:=fq _ _ _ _
theorem ub(st:St)(d:Option Nat)(E:Eff):(st.app d E).hp=match E.slot with|none=>st.hp|some (s,ob)=>st.hp.set s ob:=by
 unfold St.app;cases d<;>rfl
theorem xm{st:St}{d:Option Nat}{E:Eff}{i:Nat}(h:∀s,E.slot.map (·.1)=some s->i≠s):(st.app d E).hp[i]? =st.hp[i]? :=by
 rw[ub]
 cases hs:E.slot with
 |none=>rfl
 |some q=>
  simp only
  rw[i_ (λe=>h q.1 (by rw[hs];rfl) e.symm)]
theorem Gn{o:SOper}{T:List Nat}{d:Option Nat}{x:AV}{st st1:St}(hO:Over d x st st1)(hrd:∀t,d=some t->t∉o.rd/\o.dst≠some t)(hT:∀i∈touch st o,i∈T)(hx:∀i∈x.kids,i∉T)
 (h:iV P o st1 K λ_=>KP):iV P o st (KO T o.dst d x st K) (λ_=>KP):=by
 have ex:sexec P o.dst o.op st1 K (λ_=>KP)->sexec P o.dst o.op st (KO T o.dst d x st K) (λ_=>KP):=λh=>
  OC hO (λt ht hr=>(hrd t ht).1 (by simp[SOper.rd,hr])) (λt ht=>(hrd t ht).2) (λt ht y hy i hi=>hT i (M9 (by simp[SOper.rd,ht]) hy hi)) (λi hi=>hT i (zw hi)) hx h
 unfold iV at h⊢
 split at h
 ·exact ex h
 ·rename_i t want hg
  obtain⟨g,h1,v,rfl,h2,h3⟩:=h
  have ht:look st1.fr t=look st.fr t:=by rw[hO.2,if_neg λe=>(hrd t e).1 (by simp[SOper.rd,hg])]
  refine⟨_,by rw[<-ht];exact h1,v,rfl,λe=>ex (h2 e),λe=>O6 (h':=st.hp) hO (λt ht=>(hrd t ht).2) (λi ob hi _ _=>hi) (by rw[<-hO.1];exact h3 e)⟩
theorem IF{o:SOper}{a b:St}{E:Eff}(h:Foot o.rd a b)(hf:∀s,E.slot.map (·.1)=some s->b.hp[s]? =some .free->a.hp[s]? =some .free)(he:vl P o b E):vl P o a E:=by
 unfold vl at he⊢
 cases hs:E.slot with
 |none=>rw[hs]at he;exact M0 h he
 |some q=>
  rw[hs]at he
  obtain⟨h1,p,h2,h3⟩:=he
  refine⟨h1,p,h2,tk (MK ⟨λk hk=>h.fr k ?_,λk hk=>h.hp k ?_⟩ h3) λo m ⟨e1,e2,e3⟩=>⟨e1,e2,hf _ (by rw[hs];rfl) e3⟩⟩
  ·simp only[SOper.rd,h2,SOp.rd,l_];exact .inl hk
  ·simp only[SOper.rd,h2,SOp.rd,l_];exact .inl hk
theorem zg{o:SOper}{a b:St}{E:Eff}(hfr:∀k∈o.rd,∀y,look b.fr k=some y->look a.fr k=some y)(hhp:∀i∈dY b o,∀ob,b.hp[i]? =some ob->a.hp[i]? =some ob)
 (hf:∀s,E.slot.map (·.1)=some s->b.hp[s]? =some .free->a.hp[s]? =some .free) (he:vl P o b E):vl P o a E:=by
 by_cases hh:o.op.hf=true/\o.gd=none
 ·obtain⟨h1,h2⟩:=hh
  unfold vl at he⊢
  cases hs:E.slot with
  |none=>
   rw[hs]at he
   cases ho:o.op<;>rw[ho]at h1<;>try (cases h1;done)
   rename_i x
   simp only[fO,h2,ho,jp]at he⊢
   obtain⟨y,e1,e2⟩:=he
   refine⟨y,?_,e2⟩
   cases x with
   |tm k=>exact hfr k (by simp[SOper.rd,ho,SOp.rd,SX.rd]) y e1
   |_=>exact e1
  |some q=>
   rw[hs]at he
   obtain⟨_,p,h3,_⟩:=he
   rw[h3]at h1;cases h1
 ·have ht:dY b o=touch b o:=if_neg hh
  exact IF ⟨hfr,λk hk y hy i hi ob ho=>hhp i (by rw[ht];exact M9 hk hy hi) ob ho⟩ hf he
theorem IG{o:SOper}{a:St}{E:Eff}(he:vl P o a E):∀s,E.slot.map (·.1)=some s->a.hp[s]? =some .free/\s∈o.op.lent:=by
 intro s hs
 unfold vl at he
 cases hq:E.slot with
 |none=>rw[hq]at hs;cases hs
 |some q=>
  rw[hq]at he hs
  simp only[x_,h_]at hs
  obtain⟨h1,p,h2,h3⟩:=he
  rw[h2,<-hs]
  refine⟨?_,by simp[SOp.lent]⟩
  clear h2
  cases p<;>simp only[Hy]at h3
  case alloc=>exact h3.2.2
  case box=>obtain⟨_,_,_,h⟩:=h3;exact h.2.2
  case bslice own _ _ _ _=>
   cases own
   ·exact h3.elim
   ·obtain⟨_,_,_,_,_,_,h⟩:=h3;exact h.2.2
  case mslice=>obtain⟨_,_,_,_,_,_,_,_,_,_,_,_,_,_,_,_,_,_,_,_,_,_,_,h⟩:=h3;exact h.2.2
  case append=>
   obtain⟨_,_,_,_,h⟩:=h3
   rcases h with⟨_,_,_,_,h⟩|⟨_,_,_,_,_,h⟩|⟨_,_,_,_,_,_,_,_,h⟩|⟨_,_,_,_,_,h⟩<;>exact h.2.2
  case mkmap=>exact h3.2.2
theorem HC{o:SOper}{st:St}{E:Eff}{K KQ:St->Prop}(h:vl P o st E)(hk:K (st.app o.dst E)):iV P o st K KQ:=by
 unfold vl at h
 cases hs:E.slot with
 |none=>
  rw[hs]at h
  refine oD h ?_
  have:st.app o.dst E=st.putO o.dst E.x:=by unfold St.app;rw[hs]
  rw[<-this];exact hk
 |some q=>
  rw[hs]at h
  obtain⟨h1,p,h2,h3⟩:=h
  unfold iV
  rw[h1,h2]
  show Hy st p λo' mk=>AU st (some q.1)/\K ((st.new (some q.1) o').putO o.dst (.b (mk q.1)))
  refine tk h3 λob m ⟨e1,e2,e3⟩=>⟨e3,?_⟩
  have:st.app o.dst E=(st.new (some q.1) ob).putO o.dst (.b (m q.1)):=by
   unfold St.app;rw[hs,e1,e2];rfl
  rw[<-this];exact hk
theorem S5{a b:St}(h:Eqs a b):Over none (.v undef) b a:=⟨h.1,λt=>by rw[h.2 t];simp⟩
theorem S4{a b:St}(h:Eqs a b)(rd:List Nat):Foot rd b a:=⟨λk _ y hy=>by rw[<-h.2];exact hy,λk _ y _ i _ ob ho=>by rw[<-h.1];exact ho⟩
theorem U8{a b:St}(h:Eqs a b)(d:Option Nat)(E:Eff):Eqs (a.app d E) (b.app d E):=⟨by rw[ub,ub,h.1],λt=>by rw[jG,jG,h.2 t]⟩
theorem Kp{S:List AObj->Prop}{F:List Nat}{a b:St}{o:SOper}{E:Eff}(h:∀t∈o.rd,look b.fr t=look a.fr t)(hs:XM P S F a o E):XM P S F b o E:=λst2 h1 h2=>hs st2 h1 λt ht=>(h2 t ht).trans (h t ht)
theorem J0{G:List Nat}{a b:St}{o:SOper}{E:Eff}(h:∀t∈o.rd,look b.fr t=look a.fr t)(hs:Cz G a o E):Cz G b o E:=⟨hs.1,λt ht y hy=>hs.2 t ht y (by rw[<-h t ht];exact hy)⟩
theorem tn:∀(l:List (Nat×Bool×SOper)) (R:List (Rec×(List AObj->Prop))) (a b:St),Eqs a b->um P un K KP R l a->um P un K KP R l b
 |[],R,a,b,h,hs=>by
  obtain⟨st2,h1,h2⟩:=hs
  exact⟨st2,h1.trans h,h2⟩
 |(j,true,o)::l,R,a,b,h,hs=>by
  obtain⟨h1,E,F,G,S,h2,h3,hg,hS,h4⟩:=hs
  have ht:dY b o=dY a o:=tv λt _=>(h.2 t).symm
  refine⟨λr hr hu=>by rw[ht];exact h1 r hr hu,E,F,G,S,IF (S4 h _) (λs _ hf=>by rw[<-h.1];exact hf) h2,⟨λi hi=>?_,h3.2⟩,J0 (λt _=>(h.2 t).symm) hg,Kp (λt _=>(h.2 t).symm) hS,tn l _ _ _ (U8 h _ _) h4⟩
  rw[ht]at hi
  exact⟨(h3.1 i hi).1,by rw[<-h.1];exact(h3.1 i hi).2⟩
 |(j,false,o)::l,R,a,b,h,hs=>by
  obtain⟨h1,h2⟩:=hs
  have ht:touch b o=touch a o:=Gy λt _=>(h.2 t).symm
  refine⟨λr hr hu=>by rw[ht];exact h1 r hr hu,?_⟩
  refine uo (Gn (T:=touch b o) (S5 h) (λt e=>by cases e) (λi hi=>hi) (λi hi=>by cases hi) h2) (λst' ⟨_,st1,hO,hk⟩=>?_) λ_ h=>h
  exact⟨by rw[ht,<-hO.1];exact hk.1,tn l _ _ _ ⟨hO.1,λt=>by rw[hO.2];simp⟩ hk.2⟩
theorem Cm:∀(l:List (Nat×Bool×SOper)) (R R':List (Rec×(List AObj->Prop))) (a:St),(∀r∈R',r∈R)->um P un K KP R l a->um P un K KP R' l a
 |[],R,R',a,_,hs=>hs
 |(j,true,o)::l,R,R',a,h,hs=>by
  obtain⟨h1,E,F,G,S,h2,h3,hg,hS,h4⟩:=hs
  refine⟨λr hr=>h1 r (h r hr),E,F,G,S,h2,h3,hg,hS,Cm l _ _ _ (λr hr=>?_) h4⟩
  simp only[l_]at hr⊢
  exact hr.imp (h r) id
 |(j,false,o)::l,R,R',a,h,hs=>⟨λr hr=>hs.1 r (h r hr),uo hs.2 (λst' hk=>⟨λr hr=>hk.1 r (h r hr),Cm l _ _ _ h hk.2⟩) λ_ h=>h⟩
def Hd(P:Program)(un:Nat->Nat->Bool)(K:St->Prop)(KP:Prop)(R:List (Rec×(List AObj->Prop)))(l:List (Nat×Bool×SOper))(st:St)(j:Nat)(o:SOper):Bool->Prop
 |true=>∃G,vl P o st G/\um P un K KP R l (st.app o.dst G)
 |false=>iV P o st (λst'=>Sr un R j (touch st o) st'.hp/\um P un K KP R l st') λ_=>KP
theorem Xh{l2:List (Nat×Bool×SOper)}{j:Nat}{b:Bool}{o:SOper}:∀(l1:List (Nat×Bool×SOper)) (R:List (Rec×(List AObj->Prop))) (st:St),um P un K KP R (l1++(j,b,o)::l2) st->(∀u∈l1,u.2.1=true/\un u.1 j=true)->
 (∀r∈R,un r.1.i j=true->comm r.1 (match b with|true=>dY st o|false=>touch st o) o b)/\Hd P un K KP R (l1++l2) st j o b:=by
 intro l1
 induction l1 with
 |nil=>
  intro R st h _
  cases b with
  |true=>
   obtain⟨h1,E,F,G,S,h2,_,_,_,h4⟩:=h
   exact⟨h1,E,h2,Cm l2 _ _ _ (λr hr=>l_.2 (.inl hr)) h4⟩
  |false=>exact h
 |cons q l1 ih=>
  intro R st h hu
  obtain⟨i,bu,u⟩:=q
  obtain⟨hb,hun⟩:=hu _ (List.mem_cons_self ..)
  simp only at hb hun
  subst hb
  obtain⟨h1,E,F,G0,S,h2,h3,hg,hS,h4⟩:=h
  obtain⟨hA,hB⟩:=ih _ _ h4 λv hv=>hu v (List.mem_cons_of_mem _ hv)
  obtain⟨c1,c2,c3,c4,c5⟩:=hA (⟨i,u.dst,u.rd,E.slot.map (·.1),F,G0⟩,S) (by simp) hun
  simp only at c1 c2 c3 c4 c5
  have hlo:∀t∈o.rd,look (st.app u.dst E).fr t=look st.fr t:=λt ht=>by rw[jG,if_neg λe=>(c1 t e).1 ht]
  have hto:touch (st.app u.dst E) o=touch st o:=Gy hlo
  have htoL:dY (st.app u.dst E) o=dY st o:=tv hlo
  have hfu:=IG h2
  cases b with
  |true=>
   refine⟨λr hr hur=>by have:=hA r (l_.2 (.inl hr)) hur;simp only at this;rw[htoL]at this;exact this,?_⟩
   simp only at c3 c5
   rw[htoL]at c3
   obtain⟨G,g1,g2⟩:=hB
   have hfo:=IG g1
   have g1':vl P o st G:=by
    refine zg (λk hk y hy=>by rw[<-hlo k hk];exact hy) (λi hi ob ho=>?_) (λs hs hf=>?_) g1
    ·rw[htoL]at hi
     rw[<-xm (d:=u.dst) (E:=E) λs hs e=>c3 s hs (e▸hi)]
     exact ho
    ·rw[<-xm (d:=u.dst) (E:=E) λs' hs' e=>?_]
     ·exact hf
     ·have h9:=(hfo s hs).2
      by_cases hh:o.op.hf=true/\o.gd=none
      ·cases ho:o.op<;>rw[ho]at hh<;>try (cases hh.1;done)
       rw[ho]at h9;cases h9
      ·refine c3 s' hs' (e▸?_)
       rw[show dY st o=touch st o from if_neg hh]
       exact zw h9
   have hlu:∀t∈u.rd,look (st.app o.dst G).fr t=look st.fr t:=λt ht=>by rw[jG,if_neg λe=>c2 t e ht]
   have htu:dY (st.app o.dst G) u=dY st u:=tv hlu
   have hne:∀i∈dY st u,(st.app o.dst G).hp[i]? =st.hp[i]? :=λi hi=>xm λs hs e=>c4 rfl s (hfo s hs).2 (e▸(h3.1 i hi).1)
   have hlentF:∀s,E.slot.map (·.1)=some s->s∈F:=λs hs=>by
    have h9:=(hfu s hs).2
    by_cases hh:u.op.hf=true/\u.gd=none
    ·cases ho:u.op<;>rw[ho]at hh<;>try (cases hh.1;done)
     rw[ho]at h9;cases h9
    ·exact(h3.1 s (by rw[show dY st u=touch st u from if_neg hh];exact zw h9)).1
   refine⟨G,g1',λr hr hur=>by rw[htu];exact h1 r hr hur,E,F,G0,S,?_,⟨λi hi=>?_,h3.2⟩,J0 hlu hg,Kp hlu hS,tn _ _ _ _ ⟨?_,λt=>?_⟩ g2⟩
   ·refine zg (λk hk y hy=>by rw[hlu k hk];exact hy) (λi hi ob ho=>by rw[hne i hi];exact ho) (λs hs hf=>?_) h2
    rw[xm λs' hs' e=>c4 rfl s' (hfo s' hs').2 (e▸hlentF s hs)]
    exact hf
   ·rw[htu]at hi
    exact⟨(h3.1 i hi).1,by rw[hne i hi];exact(h3.1 i hi).2⟩
   ·rw[ub,ub,ub,ub]
    cases hs:E.slot with
    |none=>rfl
    |some p=>
     cases hs':G.slot with
     |none=>rfl
     |some p'=>
      simp only
      exact List.set_comm _ _ λe=>c4 rfl p'.1 (hfo p'.1 (by rw[hs'];rfl)).2 (e▸hlentF p.1 (by rw[hs];rfl))
   ·rw[jG,jG,jG,jG]
    by_cases e1:o.dst=some t
    ·rw[if_pos e1,if_pos e1,if_neg λe2=>(c1 t e2).2 e1]
    ·rw[if_neg e1,if_neg e1]
  |false=>
   refine⟨λr hr hur=>by have:=hA r (l_.2 (.inl hr)) hur;simp only at this;rw[hto]at this;exact this,?_⟩
   have c5':=c5 rfl
   rw[hto]at c5'
   obtain⟨c6,c7⟩:=c5'
   have hsl:E.slot=none:=by
    cases hs:E.slot with
    |none=>rfl
    |some p=>rw[hs]at c6;cases c6
   have hO:Over u.dst E.x st (st.app u.dst E):=⟨by rw[ub,hsl],λt=>jG _ _ _ t⟩
   refine uo (Gn (T:=touch st o) hO c1 (λi hi=>hi) (λi hi hT=>c7 i hT (hg.1 i hi)) hB) (λst' ⟨hC,st1,hO1,hst,hk⟩=>?_) λ_ h=>h
   rw[hto,hO1.1]at hst
   have hlu:∀t∈u.rd,look st'.fr t=look st.fr t:=λt ht=>hC.fr t (λe=>c2 t e ht) λy hy i hi hT=>c7 i hT (hg.2 t ht y hy i hi)
   have htu:dY st' u=dY st u:=tv hlu
   have key:vl P u st' E/\We F st' u E:=by
    rcases hst (⟨i,u.dst,u.rd,E.slot.map (·.1),F,G0⟩,S) (by simp) hun with hdj|hs
    ·have hne:∀i∈dY st u,st'.hp[i]? =st.hp[i]? :=λi hi=>by
      obtain⟨h5,ob,h6,h7⟩:=h3.1 i hi
      rw[h6];exact hC.hp i ob h6 (λhT=>hdj i hT h5) λj hj hT=>hdj j hT (h7 j hj)
     refine⟨zg (λk hk y hy=>by rw[hlu k hk];exact hy) (λi hi ob ho=>by rw[hne i hi];exact ho) (λs hs=>by rw[hsl]at hs;cases hs) h2,⟨λi hi=>?_,h3.2⟩⟩
     rw[htu]at hi
     exact⟨(h3.1 i hi).1,by rw[hne i hi];exact(h3.1 i hi).2⟩
    ·exact hS st' hs hlu
   refine⟨λr hr=>hst r (l_.2 (.inl hr)),λr hr hur=>by rw[htu];exact h1 r hr hur,E,F,G0,S,key.1,key.2,J0 hlu hg,Kp hlu hS,?_⟩
   refine tn _ _ _ _ ⟨?_,λt=>?_⟩ hk
   ·rw[ub,hsl];exact hO1.1
   ·rw[jG,hO1.2]
end
def OY(n:Nat)(anc:List (List Nat))(k:Nat):Bool:=(R_ n).all λj=>decide (j<k)||(R_ j).all λi=>(anc.getD j []).contains i
def wB(anc:List (List Nat)):List (Nat×Bool)->Bool
 |[]=>true
 |u::l=>l.all (λo=> !(anc.getD u.1 []).contains o.1&&((anc.getD o.1 []).contains u.1||u.2))&&wB anc l
theorem wA:∀(k:Nat) (L:List Nat),L.Nodup->(∀x∈L,x<k)->L.length<=k
 |0,L,_,h=>by
  cases L with
  |nil=>exact u_ _
  |cons x L=>exact absurd (h x (by simp)) (Nat.not_lt_zero _)
 |k+1,L,hn,h=>by
  by_cases hk:k∈L
  ·have:=wA k (L.erase k) (hn.erase k) λx hx=>by
    have h1:=(hn.mem_erase_iff).1 hx
    have:=h x h1.2
    have:=h1.1
    omega
   rw[List.length_erase_of_mem hk]at this
   omega
  ·have:=wA k L hn λx hx=>by
    have h1:=h x hx
    have:x≠k:=λe=>hk (e▸hx)
    omega
   omega
section
variable {P:Program} {c:Ctx} {w:World} {a:Act}
theorem Yd{anc:List (List Nat)}:∀{l1 l2:List (Nat×Bool)} {o:Nat×Bool},wB anc (l1++o::l2)=true->∀u∈l1,((anc.getD o.1 []).contains u.1=true\/u.2=true)
 |[],_,_,_,u,hu=>by cases hu
 |v::l1,l2,o,h,u,hu=>by
  simp only[an_,wB,n_,j_,ae_]at h
  rcases J_.1 hu with rfl|hu
  ·exact(h.1 o (by simp)).2
  ·exact Yd h.2 u hu
theorem FR{anc:List (List Nat)}:∀{l1 l2:List (Nat×Bool)} {o:Nat×Bool},wB anc (l1++o::l2)=true->wB anc (l1++l2)=true
 |[],l2,o,h=>by
  simp only[ar_,wB,n_]at h⊢
  exact h.2
 |v::l1,l2,o,h=>by
  simp only[an_,wB,n_,j_]at h⊢
  exact⟨λx hx=>h.1 x (by simp only[l_,J_]at hx⊢;rcases hx with h|h;exact .inl h;exact .inr (.inr h)),FR h.2⟩
theorem Lw{id n k ml:Nat}{ops:Array Oper}{ss:List SOper}{after:List (List Nat)}{l:List (Nat×Bool×SOper)}(hm:P.follows .mixedOrders=true)(hn:c.n=n)(hmm:c.th.length<=ml)(hc:tO P n ops ops.toList ss)(haf:after=tK ops)(hlow:B9 after=true)
 (hok:OY ss.length (fR [] after) k=true) (hkl:k<=ss.length) (hord:wB (fR [] after) (l.map λu=>(u.1,u.2.1))=true) (hmem:∀u∈l,u.1<k/\ss[u.1]? =some u.2.2) (hnd:(l.map (·.1)).Nodup) (hlen:l.length=k)
 {st:St} {K KP:St->Prop} {KC:Prop} {Q:Exit->Act->World->Prop} (h:um P (λi j=> !((fR [] after).getD j []).contains i) (λst=>sops P ml (ss.drop k) st K KP) KC [] l st) (hr:Rel c st a w) (hQ:∀a w,(∃st',K st'/\Rel c st' a w)->Q .normal a w) (hP:∀ch a w,(tH ch/\∃st',KP st'/\Rel c st' a w)->Q (.panic ch) a w) (hPC:KC->∀ch a w,(tH ch/\∃st',Rel c st' a w)->Q (.panic ch) a w):(Code.region id ops true).wp P Q a w:=by
 obtain⟨hlen',hget⟩:=vT hc
 have hsz:ops.size=ss.length:=by simpa using hlen'
 have hal:after.length=ss.length:=by rw[haf];simp[tK,hsz]
 have hafo:∀(i:Nat) (o:Oper),ops[i]? =some o->after[i]? =some ((o.after.toList.filter (Region.binds .any)).map (·.on)):=λi o ho=>by
  rw[haf];simp[tK,ho]
 have ready_iff:∀(listed:Array Bool) (i:Nat),listed.size=ss.length->(i∈Region.ready .any ops listed↔i<ss.length/\listed.getD i true=false/\∀l:List Nat,after[i]? =some l->∀e∈l,listed.getD e false=true):=by
  intro listed i hls
  unfold Region.ready
  simp only[S_,y_,n_,ak_,hsz]
  constructor
  ·rintro⟨h1,h2,h3⟩
   refine⟨h1,h2,λl hl e he=>?_⟩
   have ho:ops[i]? =some ops[i]:=m_ (by omega)
   rw[hafo i _ ho]at hl
   cases hl
   rw[ho]at h3
   simp only[x_,ac_,Y_]at h3
   simp only[D_,S_]at he
   obtain⟨ed,⟨h4,h5⟩,rfl⟩:=he
   have:=h3 ed (by simpa using h4)
   simpa[h5]using this
  ·rintro⟨h1,h2,h3⟩
   refine⟨h1,h2,?_⟩
   have ho:ops[i]? =some ops[i]:=m_ (by omega)
   rw[ho]
   simp only[x_,ac_,Y_]
   intro ed hed
   by_cases hb:Region.binds .any ed=true
   ·have:=h3 _ (hafo i _ ho) ed.on (D_.2 ⟨ed,S_.2 ⟨by simpa using hed,hb⟩,rfl⟩)
    simp only[hb,ad_,aP_]
    exact this
   ·simp[hb]
 have okij:∀i j,i<j->j<ss.length->k<=j->((fR [] after).getD j []).contains i=true:=by
  intro i j hij hj hkj
  simp only[OY,j_,y_,ae_,decide_eq_true_eq]at hok
  rcases hok j hj with h|h
  ·omega
  ·exact h i hij
 have phase2:∀(m j:Nat) (listed:Array Bool) (st':St) (a:Act) (w:World),j<=ss.length->ss.length<=j+m->k<=j->listed.size=ss.length->(∀i,i<ss.length->listed.getD i false=decide (i<j))->sops P ml (ss.drop j) st' K KP->Rel c st' a w->
  wpAny P .any ops Q m listed a w:=by
  have fin:∀(listed:Array Bool) (st':St) (a:Act) (w:World),listed.size=ss.length->(∀i,i<ss.length->listed.getD i false=decide (i<ss.length))->sops P ml (ss.drop ss.length) st' K KP->Rel c st' a w->Region.ready .any ops listed=[]/\Q .normal a w:=by
   intro listed st' a w hls hli hs hr
   rw[aI_]at hs
   simp only[sops]at hs
   obtain⟨st1,hw1,hs⟩:=hs
   refine⟨?_,hQ a w ⟨st1,hs,hw1 _ _ _ hmm hr⟩⟩
   apply ab_.2
   intro i hi
   obtain⟨h1,h2,_⟩:=(ready_iff listed i hls).1 hi
   have h3:=hli i h1
   have h4:i<listed.size:=by omega
   simp[h4,h1]at h2 h3
   rw[h3]at h2;cases h2
  intro m
  induction m with
  |zero=>
   intro j listed st' a w hj hm _ hls hli hs hr
   have hj':j=ss.length:=by omega
   subst hj'
   exact fin listed st' a w hls hli hs hr
  |succ m ih=>
   intro j listed st' a w hj hm hkj hls hli hs hr
   rcases z_ j ss.length with hjl|hjl
   case inr=>
    have hj':j=ss.length:=by omega
    subst hj'
    obtain⟨f1,f2⟩:=fin listed st' a w hls hli hs hr
    exact⟨λ_=>f2,λi hi=>by rw[f1]at hi;cases hi⟩
   have hgd:∀i,i<ss.length->listed.getD i true=decide (i<j):=λi hi=>by
    have h4:i<listed.size:=by omega
    have:=hli i hi
    simp[h4]at this⊢
    exact this
   have hrd:∀i,i∈Region.ready .any ops listed↔i=j:=by
    intro i
    rw[ready_iff listed i hls]
    constructor
    ·rintro⟨h1,h2,h3⟩
     rw[hgd i h1]at h2
     simp only[decide_eq_false_iff_not,aC_]at h2
     rcases z_ j i with h4|h4
     ·rcases(Or.inl (okij j i h4 h1 (by omega)):_\/False)with h5|h5
      ·have hcl:=qb hlow (S:=λx=>x<j\/x=i) (λx l hl hx e he=>by
        have hlow':=hlow
        simp only[B9,j_,y_,decide_eq_true_eq]at hlow'
        have hxl:=(b_.1 hl).1
        have hex:=hlow' x hxl e (by simpa[W_,hl]using he)
        rcases hx with hx|rfl
        ·exact .inl (by omega)
        ·have:=h3 l hl e he
         rw[hli e (by omega)]at this
         exact .inl (by simpa using this)) i i j (u_ _) (.inr rfl) h5 (by omega)
       omega
      ·exact h5.elim
     ·omega
    ·rintro rfl
     refine⟨hjl,by rw[hgd _ hjl];simp,λl hl e he=>?_⟩
     have hlow':=hlow
     simp only[B9,j_,y_,decide_eq_true_eq]at hlow'
     have hxl:=(b_.1 hl).1
     have hex:=hlow' i hxl e (by simpa[W_,hl]using he)
     rw[hli e (by omega)]
     simpa using hex
   refine⟨λh0=>?_,λi hi=>?_⟩
   ·have:=(hrd j).2 rfl
    rw[h0]at this;cases this
   ·have:=(hrd i).1 hi
    subst this
    have ho:ops[i]? =some ops[i]:=m_ (by omega)
    have hsi:=a_ hjl
    have hco:=hget i _ _ (by rw[q_];exact ho) hsi
    rw[aj_ hjl]at hs
    simp only[sops]at hs
    obtain⟨st1,hw1,hs⟩:=hs
    obtain⟨θ,D,hI⟩:=hw1 _ _ _ hmm hr
    have:=qM hI hn hco hs (λa' w'=>wpAny P .any ops Q m (listed.setIfInBounds i true) a' w') Q (λa' w' ⟨st'',h1,h2⟩=>
     ih (i+1) _ st'' a' w' (by omega) (by omega) (by omega) (by simpa using hls) (λx hx=>by
      rw[dV hls (by omega),hli x hx]
      by_cases hxi:x=i
      ·subst hxi;simp
      ·rw[if_neg hxi];apply decide_eq_decide.2;omega) h1 h2) (λch w' hp=>hP ch a w' hp)
    unfold wpOp
    rw[ho]
    simp only
    split
    ·rename_i hw
     rw[if_pos hw]at this
     exact .inl this
    ·rename_i hw
     rw[if_neg hw]at this
     exact this
 have hall:∀i,i<k->i∈l.map (·.1):=by
  intro i hi
  refine v_ λhn=>?_
  have:=wA k (i::l.map (·.1)) (aM_.2 ⟨hn,hnd⟩) λx hx=>by
   rcases J_.1 hx with rfl|hx
   ·exact hi
   ·obtain⟨u,hu,rfl⟩:=D_.1 hx
    exact(hmem u hu).1
  simp only[A_,List.length_map,hlen]at this
  omega
 have hlow':=hlow
 simp only[B9,j_,y_,decide_eq_true_eq]at hlow'
 have phaseA:∀(m:Nat) (l':List (Nat×Bool×SOper)) (listed:Array Bool) (st':St) (a:Act) (w:World),listed.size=ss.length->(∀i,i<ss.length->(listed.getD i false=true↔i<k/\i∉l'.map (·.1)))->l'.Sublist l->
  wB (fR [] after) (l'.map λu=>(u.1,u.2.1))=true->(∀(i:Nat) (l:List Nat),after[i]? =some l->listed.getD i false=true->∀e∈l,listed.getD e false=true)->
  ss.length+l'.length<=k+m->um P (λi j=> !((fR [] after).getD j []).contains i) (λst=>sops P ml (ss.drop k) st K KP) KC [] l' st'->Rel c st' a w->wpAny P .any ops Q m listed a w:=by
  intro m
  induction m with
  |zero=>
   intro l' listed st' a w hls hli hsub hord hcl hcnt hs hr
   cases l' with
   |cons u l'=>simp only[A_]at hcnt;omega
   |nil=>
    obtain⟨st2,he,hk⟩:=hs
    refine phase2 0 k listed st2 a w hkl (by simpa using hcnt) (u_ _) hls (λi hi=>?_) hk (Rel.congr he.1 he.2 hr)
    have:=hli i hi
    simp only[aS_,aJ_,not_false_eq_true,and_true]at this
    cases hb:listed.getD i false with
    |true=>simp[this.1 hb]
    |false=>
     have:¬i<k:=λh=>by have:=this.2 h;rw[hb]at this;cases this
     simp[this]
  |succ m ih=>
   intro l' listed st' a w hls hli hsub hord hcl hcnt hs hr
   cases hl':l' with
   |nil=>
    subst hl'
    obtain⟨st2,he,hk⟩:=hs
    refine phase2 (m+1) k listed st2 a w hkl (by simpa using hcnt) (u_ _) hls (λi hi=>?_) hk (Rel.congr he.1 he.2 hr)
    have:=hli i hi
    simp only[aS_,aJ_,not_false_eq_true,and_true]at this
    cases hb:listed.getD i false with
    |true=>simp[this.1 hb]
    |false=>
     have:¬i<k:=λh=>by have:=this.2 h;rw[hb]at this;cases this
     simp[this]
   |cons q l0=>
    have htf:∀i,i<ss.length->listed.getD i true=listed.getD i false:=λi hi=>by
     have h4:i<listed.size:=by omega
     simp[h4]
    have hmem':∀u∈l',u.1<k/\ss[u.1]? =some u.2.2:=λu hu=>hmem u (hsub.subset hu)
    have hun:∀u∈l',listed.getD u.1 false=false:=λu hu=>by
     cases hb:listed.getD u.1 false with
     |false=>rfl
     |true=>exact absurd (D_.2 ⟨u,hu,rfl⟩) ((hli u.1 (by have:=(hmem' u hu).1;omega)).1 hb).2
    have hq:q∈l':=by rw[hl'];simp
    have hanc:∀i,i<ss.length->(∀l:List Nat,after[i]? =some l->∀e∈l,listed.getD e false=true)->∀j,((fR [] after).getD i []).contains j=true->j=i\/listed.getD j false=true:=λi hi h3 j hj=>
     qb hlow (S:=λx=>x=i\/listed.getD x false=true) (λx l hl hx e he=>by
      rcases hx with rfl|hx
      ·exact .inr (h3 l hl e he)
      ·exact .inr (hcl x l hl hx e he)) i i j (u_ _) (.inl rfl) hj (by omega)
    refine⟨λh0=>?_,λi hi=>?_⟩
    ·have hqk:=(hmem' q hq).1
     have:q.1∈Region.ready .any ops listed:=(ready_iff listed q.1 hls).2 ⟨by omega,by rw[htf _ (by omega)];exact hun q hq,λlq hlq e he=>by
      have hel:=hlow' q.1 (by omega) e (by simpa[W_,hlq]using he)
      cases hb:listed.getD e false with
      |true=>rfl
      |false=>
       exfalso
       have hem:e∈l'.map (·.1):=v_ λhn=>by
        have:=(hli e (by omega)).2 ⟨by omega,hn⟩
        rw[hb]at this;cases this
       rw[hl',B_]at hem
       rcases J_.1 hem with h1|h1
       ·omega
       ·obtain⟨u,hu,rfl⟩:=D_.1 h1
        rw[hl',B_,wB,n_,j_]at hord
        have:=hord.1 (u.1,u.2.1) (D_.2 ⟨u,hu,rfl⟩)
        simp only[n_,ak_]at this
        have hg:=zW after [] q.1 lq hlq
        simp only[M_,O_]at hg
        have h2:((fR [] after).getD q.1 []).contains u.1=true:=by
         rw[hg]
         simp only[aa_,f_]
         exact⟨u.1,he,by simp⟩
        rw[h2]at this
        exact absurd this.1 (by simp)⟩
     rw[h0]at this;cases this
    ·obtain⟨r1,r2,r3⟩:=(ready_iff listed i hls).1 hi
     rw[htf i r1]at r2
     have hik:i<k:=by
      apply v_
      intro hnk
      have hqk:=(hmem' q hq).1
      rcases hanc i r1 r3 q.1 (okij q.1 i (by omega) r1 (by omega))with h1|h1
      ·omega
      ·rw[hun q hq]at h1;cases h1
     have him:i∈l'.map (·.1):=v_ λhn=>by
      have:=(hli i r1).2 ⟨hik,hn⟩
      rw[r2]at this;cases this
     obtain⟨u,hu,hui⟩:=D_.1 him
     obtain⟨l1,l2,hl12⟩:=List.append_of_mem hu
     obtain⟨i',b,o⟩:=u
     simp only at hui
     subst hui
     have hnd':(l'.map (·.1)).Nodup:=(hsub.map _).nodup hnd
     have hpre:∀v∈l1,v.2.1=true/\(!((fR [] after).getD i' []).contains v.1)=true:=λv hv=>by
      have hvl:v∈l':=by rw[hl12];exact l_.2 (.inl hv)
      have hnc:((fR [] after).getD i' []).contains v.1=false:=by
       cases hb:((fR [] after).getD i' []).contains v.1 with
       |false=>rfl
       |true=>
        rcases hanc i' r1 r3 v.1 hb with h1|h1
        ·rw[hl12,N_,B_]at hnd'
         have:=(aF_.1 hnd').2.2 v.1 (D_.2 ⟨v,hv,rfl⟩) i' (by simp)
         exact absurd h1 this
        ·rw[hun v hvl]at h1;cases h1
      refine⟨?_,by rw[hnc];rfl⟩
      rw[hl12,N_,B_]at hord
      rcases Yd hord (v.1,v.2.1) (D_.2 ⟨v,hv,rfl⟩)with h1|h1
      ·simp only at h1;rw[hnc]at h1;cases h1
      ·exact h1
     rw[hl12]at hs
     have hh:=(Xh l1 [] st' hs hpre).2
     have hst:iV P o st' (λst'=>um P (λi j=> !((fR [] after).getD j []).contains i) (λst=>sops P ml (ss.drop k) st K KP) KC [] (l1++l2) st') λ_=>KC:=by
      cases b with
      |true=>
       obtain⟨G,g1,g2⟩:=hh
       exact HC g1 g2
      |false=>exact uo hh (λ_ h=>h.2) λ_ h=>h
     have hso:=(hmem' _ hu).2
     simp only at hso
     have ho:ops[i']? =some ops[i']:=m_ (by omega)
     have hco:=hget i' _ _ (by rw[q_];exact ho) hso
     obtain⟨θ,D,hI⟩:=hr
     have:=qM (hp:=λch w' ⟨hch,st'',hk,hrel⟩=>hPC hk ch _ _ ⟨hch,st'',hrel⟩) hI hn hco hst (λa' w'=>wpAny P .any ops Q m (listed.setIfInBounds i' true) a' w') Q (λa' w' ⟨st'',h1,h2⟩=>by
      have hsub':(l1++l2).Sublist l':=by rw[hl12];exact List.Sublist.append_left (List.sublist_cons_self _ _) _
      refine ih (l1++l2) _ st'' a' w' (by simpa using hls) (λj hj=>?_) (hsub'.trans hsub) ?_ (λj lj hlj hjl e he=>?_) ?_ h1 h2
      ·rw[dV hls r1]
       have hlj:=hli j hj
       by_cases hji:j=i'
       ·subst hji
        simp only[if_true,true_iff]
        refine⟨hik,λhm=>?_⟩
        rw[hl12,N_,B_]at hnd'
        obtain⟨n1,n2,n3⟩:=aF_.1 hnd'
        rw[N_]at hm
        rcases l_.1 hm with h5|h5
        ·exact n3 _ h5 j (by simp) rfl
        ·exact(aM_.1 n2).1 h5
       ·rw[if_neg hji,hlj,hl12]
        simp only[N_,B_,l_,J_,hji,false_or]
      ·rw[hl12,N_,B_]at hord
       rw[N_]
       exact FR hord
      ·rw[dV hls r1]at hjl⊢
       split at hjl
       ·rename_i hji
        subst hji
        split
        ·rfl
        ·exact r3 lj hlj e he
       ·split
        ·rfl
        ·exact hcl j lj hlj hjl e he
      ·rw[hl12]at hcnt
       simp only[Q_,A_]at hcnt⊢
       omega)
     unfold wpOp
     rw[ho]
     simp only
     split
     ·rename_i hw
      rw[if_pos hw]at this
      exact .inl this
     ·rename_i hw
      rw[if_neg hw]at this
      exact this
 refine wp_region_any hm ?_
 obtain⟨θ,D,hI⟩:=hr
 refine phaseA ops.size l (w_ ops.size false) st a {w with drawn:=w.drawn+1} (by simp[hsz]) (λi hi=>?_) (List.Sublist.refl _) hord (λi l hl h2=>by
  have hi:i<ops.size:=by have:=(b_.1 hl).1;omega
  simp[hi]at h2) (by omega) h ⟨θ,D,hI.drew⟩
 have:(w_ ops.size false).getD i false=false:=by simp[hsz,hi]
 rw[this]
 constructor
 ·intro h;cases h
 ·rintro⟨h1,h2⟩;exact absurd (hall i h1) h2
end
inductive AC where
 |skip
 |region (ops:List SOper)
 |draw (k:Nat) (ops:List SOper) (after:List (List Nat))
 |draw2 (ord:List (Nat×Bool)) (ops:List SOper) (after:List (List Nat))
 |seq (a b:AC)
 |cond (c:SX) (thn els:AC)
 |block (id:Nat) (body:AC)
 |loop (body:AC)
 |exit (id:Nat)
 |ret
 deriving Inhabited
def VW(n:Nat)(d:Option Nat):Bool:=match d with
 |some k=>decide (k<n)
 |none=>true
def xe(P:Program)(n:Nat)(ops:Array Oper)(o:Oper):Option SOper:=
 (ig P o).bind λs=>
  if(VW n o.dst&&W5 P o)=true then
   match o.guard with
   |none=>some ⟨o.dst,s,none⟩
   |some (j,want)=>((ops[j]?).bind (·.dst)).map λt=>⟨o.dst,s,some (t,want)⟩
  else none
def cm(P:Program)(n:Nat):Code->Option AC
 | .skip=>some .skip
 | .region _ ops dr=>(ops.toList.mapM (xe P n ops)).map λss=>if dr then .draw 0 ss (tK ops)else .region ss
 | .seq a b=>(cm P n a).bind λx=>(cm P n b).map λy=>.seq x y
 | .cond c a b=>(cm P n a).bind λx=>(cm P n b).map λy=>.cond (.of c) x y
 | .block id a=>(cm P n a).map (.block id)
 | .loop a=>(cm P n a).map .loop
 | .exit id=>some (.exit id)
 | .ret=>some .ret
 |_=>none
def SOper.canon(o:SOper):SOper:={o with op:=o.op.canon}
def AC.canon:AC->AC
 | .region ops=>.region (ops.map SOper.canon)
 | .draw _ ops af=>.draw 0 (ops.map SOper.canon) af
 | .draw2 _ ops af=>.draw 0 (ops.map SOper.canon) af
 | .seq a b=>.seq a.canon b.canon
 | .cond c a b=>.cond c a.canon b.canon
 | .block id a=>.block id a.canon
 | .loop a=>.loop a.canon
 |x=>x
def AC.okB:AC->Bool
 | .draw k ops af=>B9 af&&NS ops (fR [] af) k&&decide (k<=ops.length)
 | .draw2 ord ops af=>B9 af&&OY ops.length (fR [] af) ord.length&&decide (ord.length<=ops.length)&&wB (fR [] af) ord&&ord.all (λu=>decide (u.1<ord.length))&&decide (ord.map (·.1)).Nodup
 | .seq a b=>a.okB&&b.okB
 | .cond _ a b=>a.okB&&b.okB
 | .block _ a=>a.okB
 | .loop a=>a.okB
 |_=>true
inductive AE where
 |normal
 |exit (id:Nat)
 |ret
 |pan
def AE.then(m:Nat)(f:St->Prop)(Q:AE->St->Prop):AE->St->Prop
 | .normal,s=>W m f s
 |e,s=>Q e s
def AE.inBlock(id:Nat)(Q:AE->St->Prop):AE->St->Prop
 | .exit i,s=>if i=id then Q .normal s else Q (.exit i) s
 |e,s=>Q e s
def K5(m:Nat)(body:(AE->St->Prop)->St->Prop)(Q:AE->St->Prop):Nat->St->Prop
 |0,_=>False
 |n+1,st=>body (AE.then m (K5 m body Q n) Q) st
def KN(P:Program)(m:Nat):AC->(AE->St->Prop)->St->Prop
 | .skip,Q,st=>W m (Q .normal) st
 | .region ss,Q,st=>sops P m ss st (Q .normal) (Q .pan)
 | .draw k ss _,Q,st=>W m (λst=>sdraw P m k ss st (Q .normal) (Q .pan)) st
 | .draw2 ord ss af,Q,st=>W m (λst=>um P (λi j=> !((fR [] af).getD j []).contains i) (λst=>sops P m (ss.drop ord.length) st (Q .normal) (Q .pan)) (∀s,Q .pan s) [] (ord.map λu=>(u.1,u.2,ss.getD u.1 default)) st) st
 | .seq a b,Q,st=>KN P m a (AE.then m (KN P m b Q) Q) st
 | .cond c a b,Q,st=>W m (λst=>aI (st.get c) λv=>Bq v λv=>isBool v λt=>(t=true->KN P m a Q st)/\(t=false->KN P m b Q st)) st
 | .block id a,Q,st=>KN P m a (AE.inBlock id Q) st
 | .loop a,Q,st=>W m (λs=>∃n,K5 m (KN P m a) Q n s) st
 | .exit id,Q,st=>W m (Q (.exit id)) st
 | .ret,Q,st=>W m (Q .ret) st
def AE.is:AE->Exit->Prop
 | .normal,e=>e= .normal
 | .exit i,e=>e= .exit i
 | .ret,e=>e= .ret
 | .pan,e=>∃ch,tH ch/\e= .panic ch
theorem UU{x:AC}(h:AC.skip=x.canon):x= .skip:=by cases x<;>simp_all[AC.canon]
theorem QC{x:AC}{s:List SOper}(h:AC.region s=x.canon):∃ss,x= .region ss/\s=ss.map SOper.canon:=by cases x<;>simp_all[AC.canon]
theorem UR{x:AC}{s:List SOper}{af:List (List Nat)}(h:AC.draw 0 s af=x.canon):(∃k ss,x= .draw k ss af/\s=ss.map SOper.canon)\/∃ord ss,x= .draw2 ord ss af/\s=ss.map SOper.canon:=by
 cases x<;>simp_all[AC.canon]
 ·exact⟨_,_,⟨rfl,rfl⟩,rfl⟩
 ·exact⟨_,_,⟨rfl,rfl⟩,rfl⟩
theorem Wl{x p q:AC}(h:AC.seq p q=x.canon):∃a b,x= .seq a b/\p=a.canon/\q=b.canon:=by
 cases x<;>simp_all[AC.canon]
 exact⟨_,_,⟨rfl,rfl⟩,rfl,rfl⟩
theorem UQ{x p q:AC}{s:SX}(h:AC.cond s p q=x.canon):∃a b,x= .cond s a b/\p=a.canon/\q=b.canon:=by
 cases x<;>simp_all[AC.canon]
 exact⟨_,_,⟨rfl,rfl⟩,rfl,rfl⟩
theorem Sx{x p:AC}{i:Nat}(h:AC.block i p=x.canon):∃a,x= .block i a/\p=a.canon:=by cases x<;>simp_all[AC.canon]
theorem UT{x p:AC}(h:AC.loop p=x.canon):∃a,x= .loop a/\p=a.canon:=by cases x<;>simp_all[AC.canon]
theorem US{x:AC}{i:Nat}(h:AC.exit i=x.canon):x= .exit i:=by cases x<;>simp_all[AC.canon]
theorem Wk{x:AC}(h:AC.ret=x.canon):x= .ret:=by cases x<;>simp_all[AC.canon]
section
variable {P:Program} {c:Ctx}
def QQ(c:Ctx)(Q:AE->St->Prop):Exit->Act->World->Prop:=λe a w=>∃e' st,AE.is e' e/\Q e' st/\Rel c st a w
theorem Im{m:Nat}(hm:c.th.length<=m){f:St->Prop}{Q:AE->St->Prop}{e:Exit}{a:Act}{w:World}(h:QQ c (AE.then m f Q) e a w):Exit.then (λa w=>∃st,f st/\Rel c st a w) (QQ c Q) e a w:=by
 obtain⟨e',st,he,hq,hr⟩:=h
 cases e' with
 |normal=>cases he;obtain⟨s',h1,h2⟩:=hq;exact⟨s',h2,h1 _ _ _ hm hr⟩
 |exit i=>cases he;exact⟨.exit i,st,rfl,hq,hr⟩
 |ret=>cases he;exact⟨.ret,st,rfl,hq,hr⟩
 |pan=>obtain⟨ch,hch,rfl⟩:=he;exact⟨.pan,st,⟨ch,hch,rfl⟩,hq,hr⟩
theorem NN{id:Nat}{Q:AE->St->Prop}{e:Exit}{a:Act}{w:World}(h:QQ c (AE.inBlock id Q) e a w):Exit.inBlock id (QQ c Q) e a w:=by
 obtain⟨e',st,he,hq,hr⟩:=h
 cases e' with
 |normal=>cases he;exact⟨.normal,st,rfl,hq,hr⟩
 |exit i=>
  cases he
  simp only[Exit.inBlock]
  simp only[AE.inBlock]at hq
  split
  ·rename_i h;rw[if_pos h]at hq;exact⟨.normal,st,rfl,hq,hr⟩
  ·rename_i h;rw[if_neg h]at hq;exact⟨.exit i,st,rfl,hq,hr⟩
 |ret=>cases he;exact⟨.ret,st,rfl,hq,hr⟩
 |pan=>obtain⟨ch,hch,rfl⟩:=he;exact⟨.pan,st,⟨ch,hch,rfl⟩,hq,hr⟩
theorem JE{n:Nat}{ops:Array Oper}{o:Oper}{s:SOper}(h:xe P n ops o=some s.canon):vS P n ops o s:=by
 unfold xe at h
 simp only[c_]at h
 obtain⟨sop,h1,h2⟩:=h
 split at h2
 ·rename_i hd
  rw[n_]at hd
  obtain⟨hd,hso⟩:=hd
  have hdst:∀k,o.dst=some k->k<n:=λk hk=>by rw[hk]at hd;simpa[VW]using hd
  unfold vS
  cases hg:o.guard with
  |none=>
   rw[hg]at h2
   simp only[h_,SOper.canon]at h2
   cases s
   simp only[SOper.mk.injEq]at h2
   obtain⟨e1,e2,e3⟩:=h2
   exact⟨⟨by rw[h1,e2],hso⟩,e1.symm,hdst,e3.symm⟩
  |some jw=>
   obtain⟨j,want⟩:=jw
   rw[hg]at h2
   simp only[d_]at h2
   obtain⟨t,ht,h2⟩:=h2
   cases s
   simp only[SOper.canon,SOper.mk.injEq]at h2
   obtain⟨e1,e2,e3⟩:=h2
   exact⟨⟨by rw[h1,e2],hso⟩,e1.symm,hdst,t,ht,e3.symm⟩
 ·cases h2
theorem rh{n:Nat}{ops:Array Oper}:∀{l:List Oper} {ss:List SOper},l.mapM (xe P n ops)=some (ss.map SOper.canon)->tO P n ops l ss
 |[],ss,h=>by
  simp at h
  cases ss with
  |nil=>trivial
  |cons s ss=>simp at h
 |o::l,ss,h=>by
  simp only[C_,I_,T_,c_,h_]at h
  obtain⟨s',h1,m,h2,h3⟩:=h
  cases ss with
  |nil=>simp at h3
  |cons s ss=>
   simp only[B_,List.cons.injEq]at h3
   obtain⟨rfl,rfl⟩:=h3
   exact⟨JE h1,rh h2⟩
theorem w8(hm:P.follows .mixedOrders=true){n m:Nat}(hn:c.n=n)(hmm:c.th.length<=m):∀(code:Code) (x:AC) (Q:AE->St->Prop) (st:St) (a:Act) (w:World),cm P n code=some x.canon->x.okB=true->KN P m x Q st->Rel c st a w->code.wp P (QQ c Q) a w:=by
 intro code
 induction code with
 |skip=>
  intro x Q st a w hc hok h hr
  simp only[cm,h_]at hc
  cases UU hc
  obtain⟨s',h1,h2⟩:=h
  exact wp_skip ⟨.normal,s',rfl,h2,h1 _ _ _ hmm hr⟩
 |region id ops dr=>
  intro x Q st a w hc hok h hr
  simp only[cm,d_]at hc
  obtain⟨ss',hss,hc⟩:=hc
  cases dr
  ·simp only[p_,if_false]at hc
   obtain⟨ss,rfl,rfl⟩:=QC hc
   exact Kj hn hmm (rh hss) h hr (λa w ⟨st',h1,h2⟩=>⟨.normal,st',rfl,h1,h2⟩) (λch a w ⟨hch,st',h1,h2⟩=>⟨.pan,st',⟨ch,hch,rfl⟩,h1,h2⟩)
  ·simp only[if_true]at hc
   rcases UR hc with⟨k,ss,rfl,rfl⟩|⟨ord,ss,rfl,rfl⟩
   rotate_left
   ·simp only[AC.okB,n_,decide_eq_true_eq,j_]at hok
    obtain⟨⟨⟨⟨⟨o1,o2⟩,o3⟩,o4⟩,o5⟩,o6⟩:=hok
    obtain⟨s1,hw1,h⟩:=h
    refine Lw (l:=ord.map λu=>(u.1,u.2,ss.getD u.1 default)) hm hn hmm (rh hss) rfl o1 o2 o3 ?_ (λu hu=>?_) ?_ (by simp) h (hw1 _ _ _ hmm hr) (λa w ⟨st',h1,h2⟩=>⟨.normal,st',rfl,h1,h2⟩) (λch a w ⟨hch,st',h1,h2⟩=>⟨.pan,st',⟨ch,hch,rfl⟩,h1,h2⟩) λhk ch a w ⟨hch,st',h2⟩=>⟨.pan,st',⟨ch,hch,rfl⟩,hk st',h2⟩
    ·rw[aR_]
     have:((λu:Nat×Bool×SOper=>(u.1,u.2.1))∘λu:Nat×Bool=>(u.1,u.2,ss.getD u.1 default))=λu=>u:=rfl
     rw[this,List.map_id'];exact o4
    ·obtain⟨v,hv,rfl⟩:=D_.1 hu
     have:=o5 v hv
     refine⟨this,?_⟩
     simp only[W_]
     rw[a_ (show v.1<ss.length by omega)];rfl
    ·rw[aR_]
     have:((·.1)∘λu:Nat×Bool=>(u.1,u.2,ss.getD u.1 default))=(·.1):=rfl
     rw[this];exact o6
   simp only[AC.okB,n_,decide_eq_true_eq]at hok
   obtain⟨s1,hw1,h⟩:=h
   exact NT hm hn hmm (rh hss) rfl hok.1.1 hok.1.2 hok.2 h (hw1 _ _ _ hmm hr) (λa w ⟨st',h1,h2⟩=>⟨.normal,st',rfl,h1,h2⟩) (λch a w ⟨hch,st',h1,h2⟩=>⟨.pan,st',⟨ch,hch,rfl⟩,h1,h2⟩)
 |seq p q ihp ihq=>
  intro x Q st a w hc hok h hr
  simp only[cm,c_,d_]at hc
  obtain⟨x1,h1,x2,h2,hc⟩:=hc
  obtain⟨y1,y2,rfl,rfl,rfl⟩:=Wl hc
  simp only[AC.okB,n_]at hok
  refine wp_seq (wp_mono (ihp _ _ st a w h1 hok.1 h hr) λe a w he=>?_)
  have:=Im hmm he
  cases e<;>first|(obtain⟨st',h3,h4⟩:=this;exact ihq _ _ st' a w h2 hok.2 h3 h4)|exact this
 |cond cc p q ihp ihq=>
  intro x Q st a w hc hok h hr
  simp only[cm,c_,d_]at hc
  obtain⟨x1,h1,x2,h2,hc⟩:=hc
  obtain⟨y1,y2,rfl,rfl,rfl⟩:=UQ hc
  simp only[AC.okB,n_]at hok
  obtain⟨s1,hw1,av,hav,hv⟩:=h
  have hr0:=hw1 _ _ _ hmm hr
  obtain⟨θ,D,hI⟩:=hr0
  obtain⟨t,ht,h3,h4⟩:=cN (hI.get hav) hv
  exact wp_cond_split ht (λe=>ihp _ _ s1 a w h1 hok.1 (h3 e) ⟨θ,D,hI⟩) (λe=>ihq _ _ s1 a w h2 hok.2 (h4 e) ⟨θ,D,hI⟩)
 |block id p ihp=>
  intro x Q st a w hc hok h hr
  simp only[cm,d_]at hc
  obtain⟨x1,h1,hc⟩:=hc
  obtain⟨y1,rfl,rfl⟩:=Sx hc
  exact wp_block (wp_mono (ihp _ _ st a w h1 hok h hr) λe a w he=>NN he)
 |loop p ihp=>
  intro x Q st a w hc hok h hr
  simp only[cm,d_]at hc
  obtain⟨x1,h1,hc⟩:=hc
  obtain⟨y,rfl,rfl⟩:=UT hc
  obtain⟨s0,hw,m0,h⟩:=h
  have key:∀(m1:Nat) (s:St) (a:Act) (w:World),K5 m (KN P m y) Q m1 s->Rel c s a w->Code.rounds P p (QQ c Q) m1 a w:=by
   intro m1
   induction m1 with
   |zero=>intro s a w h _;exact h.elim
   |succ m1 ih=>
    intro s a w h hr
    rw[rounds_succ]
    refine wp_mono (ihp _ _ s a w h1 hok h hr) λe a w he=>?_
    have:=Im hmm he
    cases e<;>first|(obtain⟨st',h3,h4⟩:=this;exact ih st' a w h3 h4)|exact this
  exact wp_loop_rounds m0 (key m0 s0 a w h (hw _ _ _ hmm hr))
 |exit id=>
  intro x Q st a w hc hok h hr
  simp only[cm,h_]at hc
  cases US hc
  obtain⟨s',h1,h2⟩:=h
  exact wp_exit ⟨.exit id,s',rfl,h2,h1 _ _ _ hmm hr⟩
 |ret=>
  intro x Q st a w hc hok h hr
  simp only[cm,h_]at hc
  cases Wk hc
  obtain⟨s',h1,h2⟩:=h
  exact wp_ret ⟨.ret,s',rfl,h2,h1 _ _ _ hmm hr⟩
 |rangeFunc=>intro x Q st a w hc;cases hc
 |scope=>intro x Q st a w hc;cases hc
 |label=>intro x Q st a w hc;cases hc
 |goto=>intro x Q st a w hc;cases hc
 |refuse=>intro x Q st a w hc;cases hc
end
inductive RV where
 |tm (k:Nat)
 |cell (k sz:Nat) (ag:Bool)
def lC(P:Program):ResultVar->Option RV
 | .tmp t=>some (.tm t)
 | .cell a t=>(b9 P t).bind λs=>if(P.underlying t).isSome then some (.cell a s (gJ P t))else none
def Hv(st:St):RV->Option AV
 | .tm k=>look st.fr k
 | .cell k sz ag=>(look st.fr k).bind fun
  | .b (.ptr id off)=>match st.hp[id]? with
   |some (.box _ cs)=>if off+sz<=cs.length/\(ag=false->sz=1)then some (ni ag ((cs.drop off).take sz))else none
   |_=>none
  |_=>none
def IA:List AV->AV->Prop
 |[x],r=>r=x
 |xs,r=>∃bs:List BV,r= .tup bs/\bs.length=xs.length/\∀(i:Nat) (x:AV) (b:BV),xs[i]? =some x->bs[i]? =some b->x= .b b\/∃p,x.toPV=some p/\b= .pv p
def vL:Nat->List AV->List (Nat×AV)
 |_,[]=>[]
 |k,p::ps=>(k,p)::vL (k+1) ps
theorem zi:∀(ps:List AV) (k t:Nat) (x:AV),look (vL k ps) t=some x->∃i,t=k+i/\ps[i]? =some x
 |[],k,t,x,h=>by cases h
 |p::ps,k,t,x,h=>by
  simp only[vL,look]at h
  split at h
  ·rename_i h1
   cases h
   exact⟨0,by omega,rfl⟩
  ·obtain⟨i,h1,h2⟩:=zi ps (k+1) t x h
   exact⟨i+1,by omega,by simpa using h2⟩
def CY(m:Nat)(rs:List RV)(K:EH->Prop):AE->St->Prop
 | .exit _,_=>False
 | .pan,_=>K none
 |_,st=>W m (λst=>∃xs r,rs.mapM (Hv st)=some xs/\IA xs r/\∃r' os',(∀T,Weak m ⟨[(T,r)],st.hp⟩ ⟨[(T,r')],os'⟩)/\K (some (r',os'))/\m<=os'.length) st
def Um(tmps:Array Value)(r:ResultVar):Sem Value:=match r with
 | .tmp t=>pure (tmps.getD t undef)
 | .cell b t=>do loadVar t (<-asAddr (tmps.getD b undef))
theorem Gb(fn:Func)(tmps:Array Value):results fn tmps=(do let vs<-fn.results.mapM (Um tmps);pure (if h:vs.size=1 then vs[0]else .tuple vs)):=rfl
theorem MI{P:Program}{c:Ctx}{θ:List Loc}{D:Nat->Prop}{st:St}{a:Act}{w:World}(hI:Inv c θ D st a w){r:ResultVar}{rv:RV}{x:AV}(hc:lC P r=some rv)(hr:Hv st rv=some x):
 ∃u,(Um a.tmps r).run P w= .ok u w/\RelA θ D w u x:=by
 cases r with
 |tmp t=>
  simp only[lC,h_]at hc
  subst hc
  exact⟨_,rfl,hI.fr t x hr⟩
 |cell b t=>
  simp only[lC,c_]at hc
  obtain⟨s,hs,hc⟩:=hc
  split at hc
  ·rename_i hd
   obtain⟨d,hd⟩:=s_.1 hd
   cases hc
   simp only[Hv,c_]at hr
   obtain⟨y,hy,hr⟩:=hr
   split at hr
   ·rename_i id off
    split at hr
    ·rename_i t' cs ho
     split at hr
     ·rename_i hcond
      cases hr
      obtain⟨hle,hag⟩:=hcond
      obtain⟨g,hg,he⟩:=hI.fr b _ hy
      obtain⟨cv,h1,h2,h3⟩:=hI.ok.objs id _ _ hg ho
      have hle':off+s<=cv.size:=by omega
      have hr':=C9 (P:=P) (w:=w) (b:=g) (o:=off) hd hs (cv.extract off (off+s)).toList (by simp;omega) hag (λj v hj=>by
       rw[cell_of_row w g _ cv t' (0,0) h1]
       simp only[q_,Array.getElem?_extract]at hj
       split at hj
       ·exact hj
       ·cases hj)
      rw[rP _ _ _ _ hag hle']at hr'
      refine⟨_,?_,pK h2 h3 hle hag⟩
      simp only[Um,he,asAddr,Sem.run_bind,Sem.run_pure,Result.andThen_ok,hr']
     ·cases hr
    ·cases hr
   ·cases hr
  ·cases hc
theorem Mz{θ:List Loc}{D:Nat->Prop}{w:World}{ul:List Value}{xs:List AV}{r:AV}(hl:ul.length=xs.length)(h:∀(i:Nat) (u:Value) (x:AV),ul[i]? =some u->xs[i]? =some x->RelA θ D w u x)(hr:IA xs r):
 RelA θ D w (if h:ul.toArray.size=1 then ul.toArray[0]else .tuple ul.toArray) r:=by
 have many:xs.length≠1->(∃bs:List BV,r= .tup bs/\bs.length=xs.length/\∀(i:Nat) (x:AV) (b:BV),xs[i]? =some x->bs[i]? =some b->x= .b b\/∃p,x.toPV=some p/\b= .pv p)->RelA θ D w (if h:ul.toArray.size=1 then ul.toArray[0]else .tuple ul.toArray) r:=by
  rintro h1 ⟨bs,rfl,hbl,hbs⟩
  rw[dif_neg (by simp;omega)]
  refine⟨_,rfl,by simp;omega,λi u b hu hb=>?_⟩
  obtain⟨x,hx⟩:=bw (l:=xs) hbl.symm hb
  have hux:=h i u x (by simpa using hu) hx
  rcases hbs i x b hx hb with rfl|⟨p,hp,rfl⟩
  ·exact hux
  ·exact cF hux hp
 match xs,hl,h,hr with
 |[x],hl,h,hr=>
  simp only[IA]at hr
  subst hr
  match ul,hl,h with
  |[u],_,h=>exact h 0 u r rfl rfl
 |[],_,_,hr=>exact many (by simp) hr
 |x::y::l,_,_,hr=>exact many (by simp) hr
theorem QE{P:Program}{f:FuncId}{fn:Func}{code:Code}{x:AC}{rs:List RV}{xs:List AV}{os:List AObj}{K:EH->Prop}(hm:P.follows .mixedOrders=true)(hf:P.funcs[f]? =some fn)(hb:fn.body=some code)(hc:cm P fn.ntmps code=some x.canon)(hok:x.okB=true)
 (hres:fn.results.toList.mapM (lC P)=some rs) (hlen:xs.length<=fn.ntmps) (h:KN P os.length x (CY os.length rs K) ⟨vL 0 xs,os⟩):ACalls P f xs os K:=by
 intro w θ D vs hG hokθ hvl hvs
 have hθl:θ.length=os.length:=hokθ.len
 have hO:∀b,D b->¬owns θ b:=λb hb ⟨i,l,hi,hl⟩=>(hokθ.olt i l b hi hl).2 hb
 refine calls_of_wp hf hb (wp_mono (w8 hm (m:=os.length) (c:=⟨fn.ntmps,w,D,owns θ,[],θ,λw' hk=>?_⟩) rfl (by simp[hθl]) code x _ ⟨vL 0 xs,os⟩ {tmps:=vs.toArray++w_ (fn.ntmps - vs.toArray.size) undef,defers:=[]} w hc hok h ?_) λe a w' he=>?_)
 ·exact hG.mono hk hO λ_ h=>h
 ·refine⟨θ,D,by simp;omega,rfl,hokθ,Keep.refl _ _,λ_ h=>h,λ_ h=>.inl h,λi l g hi hg=>.inl ⟨i,l,hi,hg⟩,λk y hk=>?_,λ_ _ h _=>h⟩
  obtain⟨i,rfl,hp⟩:=zi xs 0 k y hk
  have hi:i<vs.length:=by rw[hvl];exact(b_.1 hp).1
  have hv:=a_ hi
  have:(vs.toArray++w_ (fn.ntmps - vs.toArray.size) undef).getD (0+i) undef=vs[i]:=by
   simp[as_,hi]
  rw[this]
  exact hvs i _ y hv hp
 ·obtain⟨e',st,he,hq,hr⟩:=he
  have fin:(∀st,CY os.length rs K .normal st->True)->W os.length (λst=>∃xs r,rs.mapM (Hv st)=some xs/\IA xs r/\∃r' os',(∀T,Weak os.length ⟨[(T,r)],st.hp⟩ ⟨[(T,r')],os'⟩)/\K (some (r',os'))/\os.length<=os'.length) st->
   a.defers=[]/\∃v,(results fn a.tmps).run P w'= .ok v w'/\Back θ D w K (.returned v) w':=by
   rintro _ ⟨st',hw,ys,r,hys,hret,r',os',hwk,hK,hle⟩
   obtain⟨θ',D',hI⟩:=hw _ _ _ (by simp[hθl]) hr
   refine⟨hI.defers,?_⟩
   have each:∀(l:List ResultVar) (rl:List RV) (pl:List AV),l.mapM (lC P)=some rl->rl.mapM (Hv st')=some pl->∃ul:List Value,(l.mapM (Um a.tmps)).run P w'= .ok ul w'/\ul.length=pl.length/\∀(i:Nat) (u:Value) (q:AV),ul[i]? =some u->pl[i]? =some q->RelA θ' D' w' u q:=by
    intro l
    induction l with
    |nil=>
     intro rl pl h1 h2
     simp at h1;subst h1
     simp at h2;subst h2
     exact⟨[],rfl,rfl,λi u q hu=>by simp at hu⟩
    |cons r l ih=>
     intro rl pl h1 h2
     simp only[C_,I_,T_,c_,h_]at h1
     obtain⟨rv,hrv,rl',hrl,rfl⟩:=h1
     simp only[C_,I_,T_,c_,h_]at h2
     obtain⟨q0,hq0,pl',hpl,rfl⟩:=h2
     obtain⟨u0,e1,e2⟩:=MI hI hrv hq0
     obtain⟨ul,e3,e4,e5⟩:=ih rl' pl' hrl hpl
     refine⟨u0::ul,?_,by simp[e4],λi u q hu hq=>?_⟩
     ·rw[C_,Sem.run_bind,e1]
      simp only[Result.andThen_ok,Sem.run_bind,e3,Sem.run_pure]
     ·cases i with
      |zero=>simp at hu hq;subst hu;subst hq;exact e2
      |succ i=>exact e5 i u q (by simpa using hu) (by simpa using hq)
   obtain⟨ul,e1,e2,e3⟩:=each _ _ _ hres hys
   have hrun:(results fn a.tmps).run P w'= .ok (if h:ul.toArray.size=1 then ul.toArray[0]else .tuple ul.toArray) w':=by
    rw[Gb,ai_]
    simp only[Sem.run_bind,Sem.run_map]
    rw[e1]
    rfl
   have hrr:=Mz e2 e3 hret
   generalize hv:(if h:ul.toArray.size=1 then ul.toArray[0]else .tuple ul.toArray)=v at hrun hrr
   have hsz:a.tmps.size=fn.ntmps:=hI.size
   obtain⟨θ2,D2,hJ⟩:=hwk fn.ntmps ⟨fn.ntmps+1,w,D,owns θ,[],θ,λw' hk=>hG.mono hk hO λ_ h=>h⟩ {tmps:=a.tmps.push v,defers:=[]} w' (by simp[hθl])
    ⟨θ',D',by simp[hsz],rfl,hI.ok,hI.keep,hI.dsub,hI.dnew,hI.onew,(λk y hk=>by
     simp only[look]at hk
     split at hk
     ·rename_i hkT
      cases hk
      subst hkT
      have:(a.tmps.push v).getD fn.ntmps undef=v:=by rw[<-hsz];simp[ag_]
      rw[this];exact hrr
     ·cases hk),hI.fix⟩
   have hr':RelA θ2 D2 w' v r':=by
    have:=hJ.fr fn.ntmps r' (by simp[look])
    have e:(a.tmps.push v).getD fn.ntmps undef=v:=by rw[<-hsz];simp[ag_]
    rw[e]at this
    exact this
   exact⟨_,hrun,.inl ⟨_,r',os',θ2,D2,rfl,hK,hr',hJ.ok,hJ.keep,hJ.dsub,hJ.dnew,hJ.onew,hJ.fix,by rw[hJ.ok.len,hθl];exact hle⟩⟩
  cases e' with
  |normal=>cases he;exact fin (λ_ _=>trivial) hq
  |ret=>cases he;exact fin (λ_ _=>trivial) hq
  |exit i=>exact hq.elim
  |pan=>
   obtain⟨ch,hch,rfl⟩:=he
   obtain⟨θ',D',hI⟩:=hr
   exact⟨hI.defers,.inr ⟨ch,hch,rfl,hq,hI.keep⟩⟩
def Loc.like(l l':Loc):Prop:=l'=l\/∃g n cap sz O O',l= .hdr g n cap sz O/\l'= .hdr g n cap sz O'
section
variable {θ θ':List Loc} {D:Nat->Prop} {w:World}
theorem RelB.like(hθ:∀(k:Nat) (l:Loc),θ[k]? =some l->∃l',θ'[k]? =some l'/\l.like l'){v:Value}{x:BV}(h:RelB θ D w v x):RelB θ' D w v x:=by
 have same:∀(k:Nat) (l:Loc),θ[k]? =some l->l.fixed=true->θ'[k]? =some l:=λk l hl hf=>by
  obtain⟨l',h1,h2|⟨g,n,cap,sz,O,O',rfl,rfl⟩⟩:=hθ k l hl
  ·rw[h1,h2]
  ·cases hf
 cases x with
 |pv p=>exact h
 |nils=>exact h
 |sl k=>
  obtain⟨l,h1,h2⟩:=h
  obtain⟨l',h3,rfl|⟨g,n,cap,sz,O,O',rfl,rfl⟩⟩:=hθ k l h1
  ·exact⟨l',h3,h2⟩
  ·exact⟨_,h3,h2⟩
 |ptr k off=>obtain⟨g,h1,h2⟩:=h;exact⟨g,same _ _ h1 rfl,h2⟩
 |elt k i off=>
  obtain⟨g,n,cap,sz,O,h1,h2⟩:=h
  obtain⟨l',h3,rfl|⟨g',n',cap',sz',O1,O2,e1,rfl⟩⟩:=hθ k _ h1
  ·exact⟨g,n,cap,sz,O,h3,h2⟩
  ·cases e1;exact⟨g,n,cap,sz,O2,h3,h2⟩
 |clo f ids=>obtain⟨gs,h1,h2,h3⟩:=h;exact⟨gs,h1,λk id g e1 e2=>same _ _ (h2 k id g e1 e2) rfl,h3⟩
 |mp k=>obtain⟨g,h1,h2⟩:=h;exact⟨g,same _ _ h1 rfl,h2⟩
 |full p=>exact h
 |ifc=>exact h
theorem RelA.like(hθ:∀(k:Nat) (l:Loc),θ[k]? =some l->∃l',θ'[k]? =some l'/\l.like l'){v:Value}{x:AV}(h:RelA θ D w v x):RelA θ' D w v x:=by
 cases x with
 |b x=>exact RelB.like hθ h
 |agg xs=>obtain⟨vs,hv,h1,h2⟩:=h;exact⟨vs,hv,h1,λi u x hu hx=>(h2 i u x hu hx).like hθ⟩
 |tup xs=>obtain⟨vs,hv,h1,h2⟩:=h;exact⟨vs,hv,h1,λi u x hu hx=>(h2 i u x hu hx).like hθ⟩
theorem RelO.like(hθ:∀(k:Nat) (l:Loc),θ[k]? =some l->∃l',θ'[k]? =some l'/\l.like l'){l:Loc}{o:AObj}(h:RelO θ D w l o):RelO θ' D w l o:=by
 cases l<;>cases o<;>simp only[RelO]at h⊢<;>try exact h
 case blk.box=>obtain⟨c,h1,h2,h3⟩:=h;exact⟨c,h1,h2,λi u x hu hx=>(h3 i u x hu hx).like hθ⟩
 case hdr.tree hole=>
  obtain⟨h1,h2,h3,h4,h5,c,Os,h6,h7,h8,h9,h11,h10⟩:=h
  refine⟨h1,h2,h3,h4,h5,c,Os,h6,h7,h8,h9,h11,λi j x y hx hy=>?_⟩
  obtain⟨u,e1,e2⟩:=h10 i j x y hx hy
  refine⟨u,e1,?_⟩
  cases hq:dA hole i j with
  |none=>rw[hq]at e2;exact e2
  |some b=>rw[hq]at e2;exact e2.like hθ
end
theorem Jq:∀{k:K},k.allF=true->∀j,k.at j=none
 | .e,_,_=>rfl
 | .f _,_,0=>rfl
 | .f r,h,j+1=>Jq (k:=r) h j
 | .s _ _ _ _,h,_=>by cases h
def lO(q:TypeId×Nat×K)(L:List PV):AObj:=if q.2.2.allF then .vec q.1 q.2.1 L else .tree q.1 q.2.1 q.2.2 L none
theorem RelT.inner{D:Nat->Prop}{w:World}{q:TypeId×Nat×K}{O:Nat->Prop}{v:Value}{p:PV}{L:List PV}(h:RelT D w (some q) O v p)(hp:p=mF q.2.1 L):
 ∃l:Loc,l.head v/\(∀b,l.has b->O b)/\l.fixed=false/\∀θ,RelO θ D w l (lO q L):=by
 cases h with
 |nil q O a=>
  have:L=[]:=by cases L with|nil=>rfl|cons x L=>simp[mF]at hp
  subst this
  refine⟨.nil a,rfl,λ_ h=>h.elim,rfl,λθ=>?_⟩
  unfold lO
  split
  ·rfl
  ·exact⟨rfl,rfl⟩
 |hdr e sz k O g cap xs p cs val Os hp' hcap hmax hsz hg hcs hOg hOs hdj hc hr=>
  have:xs=L:=PS (hp'.symm.trans hp)
  subst this
  refine⟨.hdr g xs.length cap sz (λb=>O b/\b≠g),rfl,λb hb=>hb.elim (λe=>e▸hOg) λh=>h.1,rfl,λθ=>?_⟩
  unfold lO
  split
  ·rename_i hk
   refine⟨rfl,rfl,hcap,hmax,hsz,cs,hg,hcs,λi j x y hx hy=>⟨val i j,hc i j x y hx hy,?_⟩⟩
   have:=hr i j x y hx hy
   rw[Jq hk j]at this
   cases this with|flat _ _ _ h=>exact h
  ·exact⟨rfl,rfl,hcap,hmax,hsz,cs,Os,hg,hcs,λi j b hb=>⟨hOs i j b hb,(hOs i j b hb).2⟩,hdj,λ_ _ _ h=>(nomatch h),λi j x y hx hy=>⟨val i j,hc i j x y hx hy,hr i j x y hx hy⟩⟩
theorem Pp{α β:Type} [Inhabited α]{p:Nat->Nat->α->Prop}{q:Nat->Nat->β->Prop}(h:∀i j y,q i j y->∃u,p i j u):∃f:Nat->Nat->α,∀i j y,q i j y->p i j (f i j):=by
 refine⟨λi j=>aW_ (p i j),λi j y hy=>?_⟩
 exact aQ_ (h i j y hy)
theorem RelT.outer{θ:List Loc}{D:Nat->Prop}{w:World}{q:TypeId×Nat×K}{L:List PV}{l:Loc}{v:Value}(hl:l.head v)(h:RelO θ D w l (lO q L)):RelT D w (some q) l.has v (mF q.2.1 L):=by
 unfold lO at h
 split at h
 ·rename_i hk
  cases l<;>simp only[RelO,Loc.head]at h hl
  ·subst h;subst hl;exact .nil _ _ _
  ·rename_i g n cap s O
   obtain⟨rfl,rfl,h3,h4,h5,cs,h6,h7,h8⟩:=h
   subst hl
   obtain⟨val,hval⟩:=Pp (α:=Value) (β:=PV×PV) (p:=λi j u=>∀x y,L[i]? =some x->x.cells[j]? =some y->cs[i*q.2.1+j]? =some u/\RelP D w u y) (q:=λi j z=>L[i]? =some z.1/\z.1.cells[j]? =some z.2) (λi j z hz=>by
    obtain⟨u,e1,e2⟩:=h8 i j _ _ hz.1 hz.2
    exact⟨u,λx y hx hy=>by rw[hz.1]at hx;cases hx;rw[hz.2]at hy;cases hy;exact⟨e1,e2⟩⟩)
   exact .hdr q.1 q.2.1 q.2.2 _ g cap L _ cs val (λ_ _ _=>False) rfl h3 h4 h5 h6 h7 (.inl rfl) (λ_ _ _ h=>h.elim) (λ_ _ _ _ _ h _=>h.elim)
    (λi j x y hx hy=>(hval i j (x,y) ⟨hx,hy⟩ x y hx hy).1) λi j x y hx hy=>by rw[Jq hk j];exact .flat _ _ _ (hval i j (x,y) ⟨hx,hy⟩ x y hx hy).2
 ·cases l<;>simp only[RelO,Loc.head]at h hl
  ·obtain⟨rfl,-⟩:=h;subst hl;exact .nil _ _ _
  ·rename_i g n cap s O
   obtain⟨rfl,rfl,h3,h4,h5,cs,Os,h6,h7,h9,h10,-,h8⟩:=h
   subst hl
   obtain⟨val,hval⟩:=Pp (α:=Value) (β:=PV×PV) (p:=λi j u=>∀x y,L[i]? =some x->x.cells[j]? =some y->cs[i*q.2.1+j]? =some u/\RelT D w (q.2.2.at j) (Os i j) u y) (q:=λi j z=>L[i]? =some z.1/\z.1.cells[j]? =some z.2) (λi j z hz=>by
    obtain⟨u,e1,e2⟩:=h8 i j _ _ hz.1 hz.2
    exact⟨u,λx y hx hy=>by rw[hz.1]at hx;cases hx;rw[hz.2]at hy;cases hy;exact⟨e1,e2⟩⟩)
   exact .hdr q.1 q.2.1 q.2.2 _ g cap L _ cs val Os rfl h3 h4 h5 h6 h7 (.inl rfl) (λi j b h=>⟨.inr (h9 i j b h).1,(h9 i j b h).2⟩) h10
    (λi j x y hx hy=>(hval i j (x,y) ⟨hx,hy⟩ x y hx hy).1) λi j x y hx hy=>(hval i j (x,y) ⟨hx,hy⟩ x y hx hy).2
theorem O4{m:Nat}{st:St}{id i j e sz:Nat}{k:K}{xs:List PV}{x y:PV}{q:TypeId×Nat×K}{L:List PV}(ho:st.hp[id]? =some (.tree e sz k xs none))(hx:xs[i]? =some x)(hy:x.cells[j]? =some y)(hk:k.at j=some q)(hL:y=mF q.2.1 L):
 Weak m st ⟨st.fr,st.hp.set id (.tree e sz k xs (some (i,j,.sl st.hp.length)))++[lO q L]⟩:=by
 rintro c a w _ ⟨θ,D,hI⟩
 have hlt':id<st.hp.length:=(b_.1 ho).1
 have hlt:id<θ.length:=by rw[hI.ok.len];exact hlt'
 obtain⟨l,hl⟩:∃l,θ[id]? =some l:=⟨θ[id],a_ hlt⟩
 have hro:=hI.ok.objs id l _ hl ho
 cases l<;>simp only[RelO]at hro
 ·rw[hro.1]at hx;simp at hx
 rename_i g n cap s O
 obtain⟨rfl,rfl,h3,h4,h5,cv,Os,h6,h7,h8,h9,-,h10⟩:=hro
 obtain⟨u,hu1,hu2⟩:=h10 i j x y hx hy
 simp only[dA]at hu2
 rw[hk]at hu2
 obtain⟨li,hli1,hli2,hli3,hli4⟩:=hu2.inner hL
 let O1:Nat->Prop:=λb=>O b/\¬Os i j b
 let l1:Loc:=.hdr g xs.length cap s O1
 let θ':=θ.set id l1++[li]
 have hlen:(θ.set id l1).length=st.hp.length:=by simp[hI.ok.len]
 have hlike:∀(k:Nat) (l:Loc),θ[k]? =some l->∃l',θ'[k]? =some l'/\l.like l':=λk l hkl=>by
  have hkk:k<(θ.set id l1).length:=by simp;exact(b_.1 hkl).1
  by_cases hki:k=id
  ·subst hki
   rw[hl]at hkl;cases hkl
   exact⟨l1,by show(θ.set k l1++[li])[k]? =_;rw[k_ hkk,o_ hlt],.inr ⟨g,xs.length,cap,s,O,O1,rfl,rfl⟩⟩
  ·exact⟨l,by show(θ.set id l1++[li])[k]? =_;rw[k_ hkk,i_ (Ne.symm hki)];exact hkl,.inl rfl⟩
 have hcase:∀(p:Nat) (lp:Loc),θ'[p]? =some lp->(p≠id/\θ[p]? =some lp)\/(p=id/\lp=l1)\/(p=st.hp.length/\lp=li):=λp lp hp=>by
  rcases z_ p (θ.set id l1).length with h1|h1
  ·have hp':(θ.set id l1)[p]? =some lp:=by rw[<-hp];exact(k_ h1).symm
   by_cases hpi:p=id
   ·subst hpi;rw[o_ hlt]at hp';cases hp';exact .inr (.inl ⟨rfl,rfl⟩)
   ·rw[i_ (Ne.symm hpi)]at hp';exact .inl ⟨hpi,hp'⟩
  ·have hp':([li]:List Loc)[p - (θ.set id l1).length]? =some lp:=by rw[<-hp];exact(t_ h1).symm
   have h0:p - (θ.set id l1).length=0:=by
    rcases aA_ (p - (θ.set id l1).length)with h2|h2
    ·exact h2
    ·rw[E_ (show [li].length<=_ from h2)]at hp';cases hp'
   rw[h0]at hp';cases hp'
   exact .inr (.inr ⟨by omega,rfl⟩)
 have hown:∀(p:Nat) (lp:Loc) (b:Nat),θ'[p]? =some lp->lp.has b->∃p0 l0,θ[p0]? =some l0/\l0.has b/\((p≠id/\p<st.hp.length/\p0=p)\/(p0=id/\((p=id/\¬Os i j b)\/(p=st.hp.length/\Os i j b)))):=λp lp b hp hb=>by
  rcases hcase p lp hp with⟨h1,h2⟩|⟨rfl,rfl⟩|⟨rfl,rfl⟩
  ·exact⟨p,lp,h2,hb,.inl ⟨h1,by rw[<-hI.ok.len];exact(b_.1 h2).1,rfl⟩⟩
  ·refine⟨_,_,hl,hb.imp (λh=>h) λh=>h.1,.inr ⟨rfl,.inl ⟨rfl,λh=>?_⟩⟩⟩
   rcases hb with rfl|hb
   ·exact(h8 i j _ h).2 rfl
   ·exact hb.2 h
  ·exact⟨_,_,hl,.inr (h8 i j b (hli2 b hb)).1,.inr ⟨rfl,.inr ⟨rfl,hli2 b hb⟩⟩⟩
 refine⟨θ',D,hI.size,hI.defers,⟨?_,hI.ok.dlt,λp r lp lr b hp hr hbp hbr=>?_,λp lp b hp hb=>?_,λp lp o hp hop=>?_⟩,hI.keep,hI.dsub,hI.dnew,λp lp b hp hb=>?_,λt z hz=>(hI.fr t z hz).like hlike,λt lt ht hf=>?_⟩
 ·simp[θ',hI.ok.len]
 ·obtain⟨p0,l0,e1,e2,e3⟩:=hown p lp b hp hbp
  obtain⟨r0,m0,f1,f2,f3⟩:=hown r lr b hr hbr
  have:=hI.ok.inj p0 r0 l0 m0 b e1 f1 e2 f2
  subst this
  rcases e3 with⟨a1,a2,rfl⟩|⟨a0,⟨a1,a2⟩|⟨a1,a2⟩⟩<;>rcases f3 with⟨b1,b2,b3⟩|⟨b0,⟨b1,b2⟩|⟨b1,b2⟩⟩
  ·exact b3
  ·exact absurd b0 a1
  ·exact absurd b0 a1
  ·subst b3;exact absurd a0 b1
  ·rw[a1,b1]
  ·exact absurd b2 a2
  ·subst b3;exact absurd a0 b1
  ·exact absurd a2 b2
  ·rw[a1,b1]
 ·obtain⟨p0,l0,e1,e2,_⟩:=hown p lp b hp hb
  exact hI.ok.olt p0 l0 b e1 e2
 ·have hhl:(st.hp.set id (.tree e s k xs (some (i,j,.sl st.hp.length)))).length=st.hp.length:=by simp
  rcases hcase p lp hp with⟨h1,h2⟩|⟨rfl,rfl⟩|⟨rfl,rfl⟩
  ·have hpl:p<st.hp.length:=by rw[<-hI.ok.len];exact(b_.1 h2).1
   have hop':(st.hp.set id (.tree e s k xs (some (i,j,.sl st.hp.length))))[p]? =some o:=by rw[<-hop];exact(k_ (by rw[hhl];exact hpl)).symm
   rw[i_ (Ne.symm h1)]at hop'
   exact(hI.ok.objs p lp o h2 hop').like hlike
  ·have hop':(st.hp.set p (.tree e s k xs (some (i,j,.sl st.hp.length))))[p]? =some o:=by rw[<-hop];exact(k_ (by rw[hhl];exact hlt')).symm
   rw[o_ hlt']at hop'
   cases hop'
   refine⟨rfl,rfl,h3,h4,h5,cv,λi' j' b=>Os i' j' b/\¬(i'=i/\j'=j),h6,h7,λi' j' b hb=>⟨⟨(h8 i' j' b hb.1).1,λh=>hb.2 (h9 i' j' i j b hb.1 h)⟩,(h8 i' j' b hb.1).2⟩,λi1 j1 i2 j2 b hb1 hb2=>h9 i1 j1 i2 j2 b hb1.1 hb2.1,λi' j' b hb=>by
    cases hb;exact⟨(b_.1 hx).1,by rw[hk];rfl⟩,λi' j' x' y' hx' hy'=>?_⟩
   obtain⟨u',e1,e2⟩:=h10 i' j' x' y' hx' hy'
   refine⟨u',e1,?_⟩
   by_cases hij:i=i'/\j=j'
   ·obtain⟨rfl,rfl⟩:=hij
    simp only[dA,and_self,if_true]
    rw[hu1]at e1;cases e1
    exact⟨li,by show(θ.set p l1++[li])[st.hp.length]? =_;rw[t_ (by rw[hlen];omega),hlen];simp,hli1⟩
   ·simp only[dA,if_neg hij]
    simp only[dA]at e2
    refine e2.mono (λ_ h=>h) (λ_ _=>rfl) (λ_ _=>rfl) |>.wide λb hb=>⟨hb,λh=>hij ⟨h.1.symm,h.2.symm⟩⟩
  ·have hop':([lO q L]:List AObj)[st.hp.length - (st.hp.set id (.tree e s k xs (some (i,j,.sl st.hp.length)))).length]? =some o:=by rw[<-hop];exact(t_ (by rw[hhl];omega)).symm
   rw[hhl,aU_]at hop'
   cases hop'
   exact hli4 _
 ·obtain⟨p0,l0,e1,e2,_⟩:=hown p lp b hp hb
  exact hI.onew p0 l0 b e1 e2
 ·have h1:=hI.fix t lt ht hf
  by_cases hti:t=id
  ·subst hti;rw[hl]at h1;cases h1;cases hf
  ·show(θ.set id l1++[li])[t]? =_
   rw[k_ (by simp;exact(b_.1 h1).1),i_ (Ne.symm hti)];exact h1
def PV.setc(x:PV)(j:Nat)(y:PV):PV:=match x with
 | .agg cs=>.agg (cs.set j y)
 |_=>y
theorem zu{x y:PV}{j:Nat}(hj:j<x.cells.length)(hy:y.cells=[y]):(x.setc j y).cells=x.cells.set j y:=by
 cases x with
 |agg cs=>rfl
 |_=>
  simp only[PV.cells,A_,M_]at hj
  obtain rfl:j=0:=by omega
  exact hy
theorem Ca(sz:Nat)(L:List PV):(mF sz L).cells=[mF sz L]:=by cases L<;>rfl
theorem O3{m:Nat}{st:St}{id kid i j e sz:Nat}{k:K}{xs:List PV}{x:PV}{q:TypeId×Nat×K}{L:List PV}(ho:st.hp[id]? =some (.tree e sz k xs (some (i,j,.sl kid))))(hx:xs[i]? =some x)(hj:j<x.cells.length)(hk:k.at j=some q)(hkid:st.hp[kid]? =some (lO q L))(hne:kid≠id):
 Weak m st ⟨st.fr.map λx=>(x.1,x.2.kill kid),((st.hp.map (AObj.kill kid)).set kid .gone).set id (.tree e sz k (xs.set i (x.setc j (mF q.2.1 L))) none)⟩:=by
 rintro c a w _ ⟨θ,D,hI⟩
 have hlt':id<st.hp.length:=(b_.1 ho).1
 have hklt':kid<st.hp.length:=(b_.1 hkid).1
 have hlt:id<θ.length:=by rw[hI.ok.len];exact hlt'
 have hklt:kid<θ.length:=by rw[hI.ok.len];exact hklt'
 obtain⟨l,hl⟩:∃l,θ[id]? =some l:=⟨θ[id],a_ hlt⟩
 obtain⟨l2,hl2⟩:∃l,θ[kid]? =some l:=⟨θ[kid],a_ hklt⟩
 have hro:=hI.ok.objs id l _ hl ho
 have hro2:=hI.ok.objs kid l2 _ hl2 hkid
 cases l<;>simp only[RelO]at hro
 ·cases hro.2
 rename_i g n cap s O
 obtain⟨rfl,rfl,h3,h4,h5,cv,Os,h6,h7,h8,h9,h11,h10⟩:=hro
 have hi:i<xs.length:=(b_.1 hx).1
 obtain⟨u,hu1,hu2⟩:=h10 i j x _ hx (a_ hj)
 simp only[dA,and_self,if_true]at hu2
 obtain⟨l2',hl2',hhead⟩:=hu2
 rw[hl2]at hl2';cases hl2'
 have hout:=RelT.outer hhead hro2
 have hfx2:l2.fixed=false:=by
  unfold lO at hro2
  split at hro2<;>cases l2<;>simp only[RelO]at hro2<;>rfl
 have hnb:∀g,l2≠.blk g:=λg e=>by subst e;cases hfx2
 have hnm:∀g,l2≠.mp g:=λg e=>by subst e;cases hfx2
 let O1:Nat->Prop:=λb=>O b\/l2.has b
 let l1:Loc:=.hdr g xs.length cap s O1
 let θ1:=θ.set kid .no
 let θ':=θ1.set id l1
 have hl1:θ1[id]? =some (.hdr g xs.length cap s O):=by show(θ.set kid .no)[id]? =_;rw[i_ hne];exact hl
 have hlt1:id<θ1.length:=(b_.1 hl1).1
 have hlike:∀(k:Nat) (l:Loc),θ1[k]? =some l->∃l',θ'[k]? =some l'/\l.like l':=λk l hkl=>by
  by_cases hki:k=id
  ·subst hki
   rw[hl1]at hkl;cases hkl
   exact⟨l1,o_ hlt1,.inr ⟨g,xs.length,cap,s,O,O1,rfl,rfl⟩⟩
  ·exact⟨l,by show(θ1.set id l1)[k]? =_;rw[i_ (Ne.symm hki)];exact hkl,.inl rfl⟩
 have hcase:∀(p:Nat) (lp:Loc),θ'[p]? =some lp->(p≠id/\p≠kid/\θ[p]? =some lp)\/(p=id/\lp=l1)\/(p=kid/\lp= .no):=λp lp hp=>by
  by_cases hpi:p=id
  ·subst hpi;rw[o_ hlt1]at hp;cases hp;exact .inr (.inl ⟨rfl,rfl⟩)
  ·have hp1:θ1[p]? =some lp:=by rw[<-hp];exact(i_ (Ne.symm hpi)).symm
   by_cases hpk:p=kid
   ·subst hpk
    have:θ1[p]? =some .no:=o_ hklt
    rw[this]at hp1;cases hp1;exact .inr (.inr ⟨rfl,rfl⟩)
   ·refine .inl ⟨hpi,hpk,?_⟩
    rw[<-hp1];exact(i_ (Ne.symm hpk)).symm
 have hown:∀(p:Nat) (lp:Loc) (b:Nat),θ'[p]? =some lp->lp.has b->∃p0 l0,θ[p0]? =some l0/\l0.has b/\((p≠id/\p≠kid/\p0=p)\/(p=id/\(p0=id\/p0=kid))):=λp lp b hp hb=>by
  rcases hcase p lp hp with⟨h1,h1',h2⟩|⟨rfl,rfl⟩|⟨rfl,rfl⟩
  ·exact⟨p,lp,h2,hb,.inl ⟨h1,h1',rfl⟩⟩
  ·rcases hb with hb|hb|hb
   ·exact⟨_,_,hl,.inl hb,.inr ⟨rfl,.inl rfl⟩⟩
   ·exact⟨_,_,hl,.inr hb,.inr ⟨rfl,.inl rfl⟩⟩
   ·exact⟨_,_,hl2,hb,.inr ⟨rfl,.inr rfl⟩⟩
  ·exact hb.elim
 refine⟨θ',D,hI.size,hI.defers,⟨?_,hI.ok.dlt,λp r lp lr b hp hr hbp hbr=>?_,λp lp b hp hb=>?_,λp lp o hp hop=>?_⟩,hI.keep,hI.dsub,hI.dnew,λp lp b hp hb=>?_,λt z hz=>?_,λt lt ht hf=>?_⟩
 ·simp[θ',θ1,hI.ok.len]
 ·obtain⟨p0,l0,e1,e2,e3⟩:=hown p lp b hp hbp
  obtain⟨r0,m0,f1,f2,f3⟩:=hown r lr b hr hbr
  have:=hI.ok.inj p0 r0 l0 m0 b e1 f1 e2 f2
  subst this
  rcases e3 with⟨a1,a2,rfl⟩|⟨a0,a1⟩<;>rcases f3 with⟨b1,b2,b3⟩|⟨b0,b1⟩
  ·exact b3
  ·rcases b1 with b1|b1
   ·exact absurd b1 a1
   ·exact absurd b1 a2
  ·subst b3
   rcases a1 with a1|a1
   ·exact absurd a1 b1
   ·exact absurd a1 b2
  ·rw[a0,b0]
 ·obtain⟨p0,l0,e1,e2,_⟩:=hown p lp b hp hb
  exact hI.ok.olt p0 l0 b e1 e2
 ·have hop':(((st.hp.map (AObj.kill kid)).set kid .gone).set id (.tree e s k (xs.set i (x.setc j (mF q.2.1 L))) none))[p]? =some o:=hop
  rcases hcase p lp hp with⟨h1,h1',h2⟩|⟨rfl,rfl⟩|⟨rfl,rfl⟩
  ·rw[i_ (Ne.symm h1),i_ (Ne.symm h1'),H_]at hop'
   obtain⟨o0,h12,rfl⟩:=d_.1 hop'
   exact((hI.ok.objs p lp o0 h2 h12).kill hl2 hnb hnm).like hlike
  ·rw[o_ (by simp;exact hlt')]at hop'
   cases hop'
   have hdis:∀b,l2.has b->¬(b=g\/O b):=λb hb hb2=>hne (hI.ok.inj kid p l2 _ b hl2 hl hb hb2)
   refine⟨rfl,by simp,h3,h4,λy hy=>?_,cv,λi' j' b=>(i'=i/\j'=j/\l2.has b)\/(¬(i'=i/\j'=j)/\Os i' j' b),h6,h7,λi' j' b hb=>?_,λi1 j1 i2 j2 b hb1 hb2=>?_,λ_ _ _ h=>(nomatch h),λi' j' x' y' hx' hy'=>?_⟩
   ·rcases List.mem_or_eq_of_mem_set hy with h|h
    ·exact h5 y h
    ·subst h;rw[zu hj (Ca _ _),List.length_set];exact h5 x (g_ hx)
   ·rcases hb with⟨_,_,hb⟩|⟨_,hb⟩
    ·exact⟨.inr hb,λe=>hdis b hb (.inl e)⟩
    ·exact⟨.inl (h8 i' j' b hb).1,(h8 i' j' b hb).2⟩
   ·rcases hb1 with⟨a1,a2,a3⟩|⟨a1,a2⟩<;>rcases hb2 with⟨b1,b2,b3⟩|⟨b1,b2⟩
    ·exact⟨a1.trans b1.symm,a2.trans b2.symm⟩
    ·exact(hdis b a3 (.inr (h8 _ _ b b2).1)).elim
    ·exact(hdis b b3 (.inr (h8 _ _ b a2).1)).elim
    ·exact h9 _ _ _ _ b a2 b2
   ·simp only[dA]
    by_cases hii:i'=i
    ·subst hii
     rw[o_ hi]at hx'
     cases hx'
     rw[zu hj (Ca _ _)]at hy'
     by_cases hjj:j'=j
     ·subst hjj
      rw[o_ hj]at hy'
      cases hy'
      exact⟨u,hu1,by rw[hk];exact hout.wide λb hb=>.inl ⟨rfl,rfl,hb⟩⟩
     ·rw[i_ (Ne.symm hjj)]at hy'
      obtain⟨u',e1,e2⟩:=h10 i' j' x y' hx hy'
      simp only[dA,true_and,if_neg (show ¬(j=j')from λh=>hjj h.symm)]at e2
      exact⟨u',e1,e2.wide λb hb=>.inr ⟨λh=>hjj h.2,hb⟩⟩
    ·rw[i_ (Ne.symm hii)]at hx'
     obtain⟨u',e1,e2⟩:=h10 i' j' x' y' hx' hy'
     simp only[dA,if_neg (show ¬(i=i'/\j=j')from λh=>hii h.1.symm)]at e2
     exact⟨u',e1,e2.wide λb hb=>.inr ⟨λh=>hii h.1,hb⟩⟩
  ·rw[i_ (Ne.symm hne),o_ (by simp;exact hklt')]at hop'
   cases hop';trivial
 ·obtain⟨p0,l0,e1,e2,_⟩:=hown p lp b hp hb
  exact hI.onew p0 l0 b e1 e2
 ·have hz':look (st.fr.map λx=>(x.1,x.2.kill kid)) t=some z:=hz
  rw[nO]at hz'
  obtain⟨z0,h12,rfl⟩:=d_.1 hz'
  exact((hI.fr t z0 h12).kill hl2 hnb hnm).like hlike
 ·have h1:=hI.fix t lt ht hf
  by_cases hti:t=id
  ·subst hti;rw[hl]at h1;cases h1;cases hf
  ·by_cases htk:t=kid
   ·subst htk;rw[hl2]at h1;cases h1;rw[hfx2]at hf;cases hf
   ·show((θ.set kid .no).set id l1)[t]? =_
    rw[i_ (Ne.symm hti),i_ (Ne.symm htk)];exact h1
section
variable {P:Program}
theorem MB{fn:Func}{rs:List RV}{K:EH->Prop}{w w':World}{D:Nat->Prop}{c:Ctx}{st:St}{a:Act}(hn:c.n=fn.ntmps)(hw:c.w0=w)(hD:c.D0=D)(hO:c.O0=owns [])
 (hres:fn.results.toList.mapM (lC P)=some rs) (hr:Rel c st a w') {ys:List AV} {r r':AV} {os':List AObj} (hys:rs.mapM (Hv st)=some ys) (hret:IA ys r) (hwk:∀T,Weak 0 ⟨[(T,r)],st.hp⟩ ⟨[(T,r')],os'⟩) (hK:K (some (r',os'))):
 ∃v,(results fn a.tmps).run P w'= .ok v w'/\Back [] D w K (.returned v) w':=by
 obtain⟨θ',D',hI⟩:=hr
 have each:∀(l:List ResultVar) (rl:List RV) (pl:List AV),l.mapM (lC P)=some rl->rl.mapM (Hv st)=some pl->∃ul:List Value,(l.mapM (Um a.tmps)).run P w'= .ok ul w'/\ul.length=pl.length/\∀(i:Nat) (u:Value) (q:AV),ul[i]? =some u->pl[i]? =some q->RelA θ' D' w' u q:=by
  intro l
  induction l with
  |nil=>
   intro rl pl h1 h2
   simp at h1;subst h1
   simp at h2;subst h2
   exact⟨[],rfl,rfl,λi u q hu=>by simp at hu⟩
  |cons r l ih=>
   intro rl pl h1 h2
   simp only[C_,I_,T_,c_,h_]at h1
   obtain⟨rv,hrv,rl',hrl,rfl⟩:=h1
   simp only[C_,I_,T_,c_,h_]at h2
   obtain⟨q0,hq0,pl',hpl,rfl⟩:=h2
   obtain⟨u0,e1,e2⟩:=MI hI hrv hq0
   obtain⟨ul,e3,e4,e5⟩:=ih rl' pl' hrl hpl
   refine⟨u0::ul,?_,by simp[e4],λi u q hu hq=>?_⟩
   ·rw[C_,Sem.run_bind,e1]
    simp only[Result.andThen_ok,Sem.run_bind,e3,Sem.run_pure]
   ·cases i with
    |zero=>simp at hu hq;subst hu;subst hq;exact e2
    |succ i=>exact e5 i u q (by simpa using hu) (by simpa using hq)
 obtain⟨ul,e1,e2,e3⟩:=each _ _ _ hres hys
 have hrun:(results fn a.tmps).run P w'= .ok (if h:ul.toArray.size=1 then ul.toArray[0]else .tuple ul.toArray) w':=by
  rw[Gb,ai_]
  simp only[Sem.run_bind,Sem.run_map]
  rw[e1]
  rfl
 have hrr:=Mz e2 e3 hret
 generalize hv:(if h:ul.toArray.size=1 then ul.toArray[0]else .tuple ul.toArray)=v at hrun hrr
 have hsz:a.tmps.size=fn.ntmps:=by rw[<-hn];exact hI.size
 have hgk:=c.gk
 have hkeep:=hI.keep
 have hds:=hI.dsub
 have hdn:=hI.dnew
 have hon:=hI.onew
 rw[hw,hO]at hgk hkeep
 rw[hD]at hds hdn hgk
 rw[hw,hO]at hdn hon
 obtain⟨θ2,D2,hJ⟩:=hwk fn.ntmps ⟨fn.ntmps+1,w,D,owns [],[],[],hgk⟩ {tmps:=a.tmps.push v,defers:=[]} w' (by simp)
  ⟨θ',D',by simp[hsz],rfl,hI.ok,hkeep,hds,hdn,hon,(λk y hk=>by
   simp only[look]at hk
   split at hk
   ·rename_i hkT
    cases hk
    subst hkT
    have:(a.tmps.push v).getD fn.ntmps undef=v:=by rw[<-hsz];simp[ag_]
    rw[this];exact hrr
   ·cases hk),λk l hk=>by simp at hk⟩
 have hr':RelA θ2 D2 w' v r':=by
  have:=hJ.fr fn.ntmps r' (by simp[look])
  have e:(a.tmps.push v).getD fn.ntmps undef=v:=by rw[<-hsz];simp[ag_]
  rw[e]at this
  exact this
 exact⟨_,hrun,.inl ⟨_,r',os',θ2,D2,rfl,hK,hr',hJ.ok,hJ.keep,hJ.dsub,hJ.dnew,hJ.onew,λk l hk=>by simp at hk,Nat.zero_le _⟩⟩
structure Catch(P:Program)(h:FuncId)(CH:Code):Prop where
 ex:∃hn j t1 t2 p1 p2 a1 a2,P.funcs[h]? =some hn/\hn.ntmps=5/\hn.results= #[]/\
  hn.body=some (.seq (.region j #[⟨some 2,.call {callee:=.builtin .recover,args:= #[],argTypes:= #[]},t1,p1,a1,none⟩,⟨some 3,.binOp .neq t1 (.tmp 2) (.const .nilIface) t1,t2,p2,a2,none⟩] false) (.cond (.tmp 3) CH .skip))/\
  (∃ms,P.underlying t1=some (.interface ms))/\(hn.name== "runtime.NumGoroutine")=false
theorem Catch.idle{h:FuncId}{CH:Code}(hc:Catch P h CH)(pa pb:Value)(w:World):CallsD P h #[pa,pb] .returning w λe u' w'=>e= .returned (.tuple #[])/\u'= .returning/\w'=w:=by
 obtain⟨hn,j,t1,t2,p1,p2,a1,a2,hf,hnt,hres,hb,⟨ms,hu1⟩,_⟩:=hc.ex
 refine callsD_of_wpS hf hb λc₀ cs hu=>?_
 apply wpS_seq
 apply wpS_region
 simp[wpOpsS,go_sem,recoverD,hu,hnt,Exit.thenS,hu1]
 refine wpS_cond (t:=false) (by simp[Act.eval,w_]) ?_
 simp only[p_,if_false]
 refine wpS_of_wp (wp_skip ?_)
 cases c₀
 simp_all[bodyPostS,results]
theorem Catch.panicking{h:FuncId}{CH:Code}(hc:Catch P h CH)(pa pb:Value)(w:World)(t:TypeId)(v:Value){Post:World->Prop}
 (hcode:∀x y,CH.wp P (λe a' w'=>(e= .normal\/e= .ret)/\a'.defers=[]/\Post w') {tmps:= #[pa,pb,x,y,undef],defers:=[]} w):
 CallsD P h #[pa,pb] (.panicking [{v:=.iface t v,recovered:=false}]) w λe u' w'=>e= .returned (.tuple #[])/\u'= .panicking [{v:=.iface t v,recovered:=true}]/\Post w':=by
 obtain⟨hn,j,t1,t2,p1,p2,a1,a2,hf,hnt,hres,hb,⟨ms,hu1⟩,_⟩:=hc.ex
 refine callsD_of_wpS hf hb λc₀ cs hu=>?_
 apply wpS_seq
 apply wpS_region
 simp[wpOpsS,go_sem,recoverD,hu,hnt,Exit.thenS,hu1]
 refine wpS_cond (t:=true) (by simp[Act.eval,w_]) ?_
 simp only[if_true]
 refine wpS_of_wp (wp_mono (hcode _ _) λe a' w' he=>?_)
 obtain⟨hee,hdf,hpost⟩:=he
 rcases hee with rfl|rfl<;>simp_all[bodyPostS,results]
theorem Inv.loose{c:Ctx}{θ:List Loc}{D:Nat->Prop}{st:St}{a:Act}{w:World}{ds:List Deferred}{th:List Loc}(h:Inv c θ D st a w)(hth:∀(k:Nat) (l:Loc),th[k]? =some l->l.fixed=true->θ[k]? =some l):Inv ⟨c.n,c.w0,c.D0,c.O0,ds,th,c.gk⟩ θ D st {tmps:=a.tmps,defers:=ds} w:=
 ⟨h.size,rfl,h.ok,h.keep,h.dsub,h.dnew,h.onew,h.fr,hth⟩
def Xd(P:Program)(xh:AC)(rs:List RV)(ta tb:Nat)(K:EH->Prop):AE->St->Prop
 | .normal,st| .ret,st=>CY 0 rs K .normal st
 | .exit _,_=>False
 | .pan,st=>W 2 (λst=>look st.fr ta=some (.b (.ptr 0 0))/\look st.fr tb=some (.b (.ptr 1 0))/\
  KN P 2 xh (λe s=>(e= .normal\/e= .ret)/\CY 0 rs K .normal ⟨[(ta,.b (.ptr 0 0)),(tb,.b (.ptr 1 0))],s.hp⟩) ⟨[(0,.b (.ptr 0 0)),(1,.b (.ptr 1 0))],st.hp⟩) st
theorem Nu{f h:FuncId}{fn:Func}{CA CB CH:Code}{xa xb xh:AC}{rs:List RV}{xs:List AV}{K:EH->Prop}{ta tb t8 j:Nat}{y3 y4:TypeId}{p3 p4:String}{a3 a4:Array Edge}(hm:P.follows .mixedOrders=true)(hf:P.funcs[f]? =some fn)
 (hb:fn.body=some (.seq CA (.seq (.region j #[⟨some t8,.makeFunc (.func h) #[] #[.tmp ta,.tmp tb],y3,p3,a3,none⟩,⟨none,.defer {callee:=.value (.tmp t8),args:= #[],argTypes:= #[]},y4,p4,a4,none⟩] false) CB)))
 (hcA:cm P fn.ntmps CA=some xa.canon) (hokA:xa.okB=true) (hcB:cm P fn.ntmps CB=some xb.canon) (hokB:xb.okB=true) (hcH:cm P 5 CH=some xh.canon) (hokH:xh.okB=true) (hcatch:Catch P h CH)
 (hres:fn.results.toList.mapM (lC P)=some rs) (hlen:xs.length<=fn.ntmps) (ht8:t8<fn.ntmps)
 (h0:KN P 0 xa (λe st=>e= .normal/\(look st.fr t8=none/\look st.fr ta=some (.b (.ptr 0 0))/\look st.fr tb=some (.b (.ptr 1 0))/\st.hp.length=2)/\KN P 2 xb (Xd P xh rs ta tb K) st) ⟨vL 0 xs,[]⟩):ACalls P f xs [] K:=by
 intro w θ D vs hG hokθ hvl hvs
 have hθl:θ.length=0:=hokθ.len
 obtain rfl:θ=[]:=r_ hθl
 have hO:∀b,D b->¬owns [] b:=λb hb ⟨i,l,hi,hl⟩=>by simp at hi
 refine calls_of_wp_defers hf hb ?_
 apply wp_seq
 have hgk:∀w',Keep (owns []) w w'->GW D w':=λw' hk=>hG.mono hk hO λ_ h=>h
 refine wp_mono (w8 hm (m:=0) (c:=⟨fn.ntmps,w,D,owns [],[],[],hgk⟩) rfl (by simp) CA xa _ ⟨vL 0 xs,[]⟩ {tmps:=vs.toArray++w_ (fn.ntmps - vs.toArray.size) undef,defers:=[]} w hcA hokA h0 ?_) λe a1 w1 he=>?_
 ·refine⟨[],D,by simp;omega,rfl,hokθ,Keep.refl _ _,λ_ h=>h,λ_ h=>.inl h,λi l g hi hg=>by simp at hi,λk y hk=>?_,λ_ _ h _=>h⟩
  obtain⟨i,rfl,hp⟩:=zi xs 0 k y hk
  have hi:i<vs.length:=by rw[hvl];exact(b_.1 hp).1
  have hv:=a_ hi
  have:(vs.toArray++w_ (fn.ntmps - vs.toArray.size) undef).getD (0+i) undef=vs[i]:=by
   simp[as_,hi]
  rw[this]
  exact hvs i _ y hv hp
 obtain⟨e',st,hee,⟨rfl,⟨h8,hla,hlb,hhp⟩,h1⟩,θ1,D1,hI⟩:=he
 cases hee
 obtain⟨ga,hga,hva⟩:∃g,θ1[0]? =some (Av.Loc.blk g)/\a1.tmps.getD ta undef= .pointer (some ⟨g,0,none⟩):=hI.fr ta _ hla
 obtain⟨gb,hgb,hvb⟩:∃g,θ1[1]? =some (Av.Loc.blk g)/\a1.tmps.getD tb undef= .pointer (some ⟨g,0,none⟩):=hI.fr tb _ hlb
 have hθ1:θ1=[Av.Loc.blk ga,Av.Loc.blk gb]:=by
  have hl:=hI.ok.len
  rw[hhp]at hl
  match θ1,hl,hga,hgb with
  |[x,y],_,hga,hgb=>simp at hga hgb;rw[hga,hgb]
 show Code.wp P _ _ a1 w1
 apply wp_seq
 apply wp_region
 have hga':a1.tmps[ta]?.getD undef= .pointer (some ⟨ga,0,none⟩):=by simpa using hva
 have hgb':a1.tmps[tb]?.getD undef= .pointer (some ⟨gb,0,none⟩):=by simpa using hvb
 have hsz:a1.tmps.size=fn.ntmps:=hI.size
 simp[wpOps,go_sem,Instr.makeFunc,hga',hgb',hsz,ht8]
 refine .inl (.inl ?_)
 have hdf:a1.defers=[]:=hI.defers
 rw[hdf]
 generalize hv8:(Value.func (Fn.func h) #[] #[Value.pointer (some {block:=ga,off:=0}),Value.pointer (some {block:=gb,off:=0})])=v8
 generalize hd8:({target:=Target.fn (Fn.func h) #[Value.pointer (some {block:=ga,off:=0}),Value.pointer (some {block:=gb,off:=0})],args:= #[]}:Deferred)=d8
 have hI2:Inv ⟨fn.ntmps,w,D,owns [],[d8],θ1,hgk⟩ θ1 D1 st {tmps:=a1.tmps.setIfInBounds t8 v8,defers:=[d8]} w1:=by
  refine⟨by simp[hsz],rfl,hI.ok,hI.keep,hI.dsub,hI.dnew,hI.onew,λk x hk=>?_,λ_ _ h _=>h⟩
  have hne:k≠t8:=λe=>by rw[e,h8]at hk;cases hk
  have:=hI.fr k x hk
  simpa[Array.getD_eq_getD_getElem?,Array.getElem?_setIfInBounds,Ne.symm hne]using this
 have inv8:∀w,(invoke d8.target d8.args).run P w= .ok (.enter h #[Value.pointer (some {block:=ga,off:=0}),Value.pointer (some {block:=gb,off:=0})]) w:=by
  intro w
  subst hd8
  obtain⟨hn,_,_,_,_,_,_,_,hfh,_,_,hbh,_,hnm⟩:=hcatch.ex
  have hnm':¬hn.name= "runtime.NumGoroutine" :=by simpa using hnm
  simp[invoke,callFunc,hfh,hbh,hnm',go_sem]
 refine wp_mono (w8 hm (m:=2) (c:=⟨fn.ntmps,w,D,owns [],[d8],θ1,hgk⟩) rfl (by simp[hθ1]) CB xb _ st _ w1 hcB hokB h1 ⟨θ1,D1,hI2⟩) λe a w' he=>?_
 obtain⟨e',st2,hee,hq,θ2,D2,hJ⟩:=he
 have hdf2:a.defers=[d8]:=hJ.defers
 have fin:CY 0 rs K .normal st2->Go.Leaves P fn a.tmps (Back [] D w K) a.defers .returning w':=by
  rintro⟨st3,hw,ys,r,hys,hret,r',os',hwk,hK,_⟩
  have hr:=hw _ _ _ (by simp) ⟨θ2,D2,hJ.loose (ds:=[]) (th:=[]) λ_ _ h _=>by simp at h⟩
  obtain⟨v,e1,e2⟩:=MB rfl rfl rfl rfl hres hr hys hret hwk hK
  rw[hdf2,<-hd8]
  refine leaves_cons (by simp) (by subst hd8;exact inv8 w') ((hcatch.idle _ _ w').mono ?_)
  rintro e u' w'' ⟨rfl,rfl,rfl⟩
  exact⟨v,e1,e2⟩
 cases e' with
 |normal=>cases hee;exact fin hq
 |ret=>cases hee;exact fin hq
 |exit i=>exact hq.elim
 |pan=>
  obtain⟨ch,⟨t,v,rfl⟩,rfl⟩:=hee
  obtain⟨st4,hw4,ha,hb2,hq⟩:=hq
  obtain⟨θ2,D2,hJ⟩:=hw4 _ _ _ (by simp[hθ1]) ⟨θ2,D2,hJ⟩
  have f1:θ2[0]? =some (Av.Loc.blk ga):=hJ.fix 0 _ (by simp[hθ1]) rfl
  have f2:θ2[1]? =some (Av.Loc.blk gb):=hJ.fix 1 _ (by simp[hθ1]) rfl
  obtain⟨g,hg,va⟩:∃g,θ2[0]? =some (Av.Loc.blk g)/\a.tmps.getD ta undef= .pointer (some ⟨g,0,none⟩):=hJ.fr ta _ ha
  obtain rfl:ga=g:=by rw[f1]at hg;cases hg;rfl
  obtain⟨g,hg,vb⟩:∃g,θ2[1]? =some (Av.Loc.blk g)/\a.tmps.getD tb undef= .pointer (some ⟨g,0,none⟩):=hJ.fr tb _ hb2
  obtain rfl:gb=g:=by rw[f2]at hg;cases hg;rfl
  show Go.Leaves P fn a.tmps (Back [] D w K) a.defers (.panicking _) w'
  rw[hdf2,<-hd8]
  refine leaves_cons (by simp) (by subst hd8;exact inv8 w') ((hcatch.panicking (Post:=λw3=>∃v,(results fn a.tmps).run P w3= .ok v w3/\Back [] D w K (.returned v) w3) _ _ w' t v λx y=>?_).mono ?_)
  ·refine wp_mono (w8 hm (m:=2) (c:=⟨5,w,D,owns [],[],θ1,hgk⟩) rfl (by simp[hθ1]) CH xh _ _ _ w' hcH hokH hq ⟨θ2,D2,by simp,rfl,hJ.ok,hJ.keep,hJ.dsub,hJ.dnew,hJ.onew,λk z hk=>?_,hJ.fix⟩) λe3 a3 w3 he3=>?_
   ·simp only[look]at hk
    split at hk
    ·rename_i hk0;cases hk;subst hk0;exact⟨ga,f1,rfl⟩
    ·split at hk
     ·rename_i hk1;cases hk;subst hk1;exact⟨gb,f2,rfl⟩
     ·cases hk
   ·obtain⟨e4,st4,he4,⟨hq1,hq2⟩,θ4,D4,hL⟩:=he3
    refine⟨by rcases hq1 with rfl|rfl<;>cases he4<;>simp,hL.defers,?_⟩
    obtain⟨st5,hw,ys,r,hys,hret,r',os',hwk,hK,_⟩:=hq2
    have f3:θ4[0]? =some (Av.Loc.blk ga):=hL.fix 0 _ (by simp[hθ1]) rfl
    have f4:θ4[1]? =some (Av.Loc.blk gb):=hL.fix 1 _ (by simp[hθ1]) rfl
    have hr:=hw ⟨fn.ntmps,w,D,owns [],[],[],hgk⟩ {tmps:=a.tmps,defers:=[]} w3 (by simp) ⟨θ4,D4,hJ.size,rfl,hL.ok,hL.keep,hL.dsub,hL.dnew,hL.onew,λk z hk=>(by
     simp only[look]at hk
     split at hk
     ·rename_i hk0;cases hk;subst hk0;exact⟨ga,f3,va⟩
     ·split at hk
      ·rename_i hk1;cases hk;subst hk1;exact⟨gb,f4,vb⟩
      ·cases hk),λ_ _ h _=>by simp at h⟩
    exact MB (a:={tmps:=a.tmps,defers:=[]}) rfl rfl rfl rfl hres hr hys hret hwk hK
  ·rintro e u' w'' ⟨rfl,rfl,v,e1,e2⟩
   exact⟨v,e1,e2⟩
end
end Go.Av
