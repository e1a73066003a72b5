import Derived.Test.YteemihfpamlccaaGreatDoorML5
import Derived.Lib.ItoaNum
set_option linter.unusedVariables false
set_option linter.unusedSimpArgs false
open Bool renaming false_or->H_,and_eq_false_iff->O_,or_eq_false_iff->Q_,and_eq_true->ad_,and_assoc->ak_,or_assoc->an_
open Classical renaming byContradiction->h_,choose_spec->P_,choose->ae_,not_not->ao_
open Int renaming toNat_of_nonneg->E_
open List renaming mem_cons_self->a_,mem_cons_of_mem->b_,length_append->c_,getElem?_append_left->d_,getElem?_eq_some_iff->e_,getElem?_eq_getElem->f_,mem_append->g_,getElem?_eq_none->i_,mem_range->j_,range->k_,mem_cons->l_,prefix_refl->m_,foldl_cons->n_,length_singleton->o_,map_cons->p_,foldl_append->q_,cons_append->r_,length_cons->s_,mem_flatMap->t_,mem_singleton->u_,length_nil->v_,take_append_of_le_length->w_,mem_map->x_,take_of_length_le->y_,take_add_one->z_,map_append->C_,mem_filter->D_,nodup_iff_pairwise_ne->F_,getElem?_eq_none_iff->G_,length_erase_of_mem->I_,drop_eq_nil_of_le->J_,length_pos_of_mem->K_,nil_append->L_,mem_erase_of_ne->R_,mem_of_getElem?->S_,getD->U_,map_congr_left->V_,sum_cons->W_,pairwise_cons->X_,prefix_append->Y_,any_eq_false->Z_,idxOf_append->aa_,map_nil->ab_,any_eq_true->af_,ext_getElem->ag_,headD_cons->ai_,idxOf_cons->aj_,foldl->al_
open Nat renaming zero_add->A_,eq_of_testBit_eq->B_,strongRecOn->M_,testBit_and->N_,le_refl->T_,le_of_lt->ac_,zero_testBit->ah_,testBit_or->am_
namespace Go.Pl
def Asc(l:List Int):Prop:=l.Pairwise (·<·)
theorem yS:∀(l l':List Int),Asc l->Asc l'->(∀x,x∈l↔x∈l')->l=l'
 |[],[],_,_,_=>rfl
 |[],y::l',_,_,h=>by have:=(h y).2 (a_ ..);cases this
 |x::l,[],_,_,h=>by have:=(h x).1 (a_ ..);cases this
 |x::l,y::l',h1,h2,h=>by
  have a1:=X_.1 h1
  have a2:=X_.1 h2
  have hxy:x=y:=by
   have b1:=(h x).1 (a_ ..)
   have b2:=(h y).2 (a_ ..)
   rcases l_.1 b1 with e|m1
   ·exact e
   rcases l_.1 b2 with e|m2
   ·exact e.symm
   have:=a1.1 y m2
   have:=a2.1 x m1
   omega
  subst hxy
  rw[yS l l' a1.2 a2.2 λz=>?_]
  constructor
  ·intro hz
   rcases l_.1 ((h z).1 (b_ _ hz))with rfl|hz'
   ·have:=a1.1 z hz;omega
   ·exact hz'
  ·intro hz
   rcases l_.1 ((h z).2 (b_ _ hz))with rfl|hz'
   ·have:=a2.1 z hz;omega
   ·exact hz'
theorem p6{l l':List Int}(h:Asc l)(h':Asc l')(hlt:∀x∈l,∀y∈l',x<y):Asc (l++l'):=List.pairwise_append.2 ⟨h,h',hlt⟩
theorem Jr{l:List Int}(h:Asc l){i j:Nat}(hij:i<j)(hj:j<l.length):l[i]<l[j]:=List.pairwise_iff_getElem.1 h i j (by omega) hj hij
open Classical in
noncomputable def xF(l:List Int):List Int:=if h:∃c,Asc c/\∀x,x∈c↔x∈l then ae_ h else []
theorem wX{l c:List Int}(hc:Asc c)(hm:∀x,x∈c↔x∈l):xF l=c:=by
 have hx:∃c,Asc c/\∀x,x∈c↔x∈l:=⟨c,hc,hm⟩
 unfold xF
 rw[dif_pos hx]
 have hs:=P_ hx
 exact yS _ _ hs.1 hc λx=>(hs.2 x).trans (hm x).symm
section
variable {α β σ τ:Type}
def jF(f:σ->β->σ⊕τ):σ->List β->σ⊕τ
 |s,[]=>.inl s
 |s,x::xs=>match f s x with
  | .inl s'=>jF f s' xs
  | .inr b=>.inr b
theorem kG [DecidableEq α]:∀(l u:List α),l.Nodup->(∀x∈l,x∈u)->l.length<=u.length
 |[],_,_,_=>Nat.zero_le _
 |x::l,u,hn,hs=>by
  have hx:=hs x (a_ ..)
  have hn':=List.nodup_cons.1 hn
  have h:=kG l (u.erase x) hn'.2 λy hy=>by
   refine(R_ ?_).2 (hs y (b_ _ hy))
   rintro rfl
   exact hn'.1 hy
  have:=I_ hx
  have:=K_ hx
  simp only[s_]
  omega
theorem Mq{L L':List τ}(h:L<+:L'){i:Nat}{x:τ}(hx:L[i]? =some x):L'[i]? =some x:=by
 obtain⟨t,rfl⟩:=h
 rw[d_ (e_.1 hx).1];exact hx
section
variable {f:α->β->α} {s0:α} {ls:List β}
theorem AW{L L':List α}(h:L<+:L'){i:Nat}{x:α}(hx:L[i]? =some x):L'[i]? =some x:=by
 obtain⟨t,rfl⟩:=h
 rw[d_ (e_.1 hx).1];exact hx
structure Ok(f:α->β->α)(s0:α)(ls:List β)(L:List α)(T:List (Nat×β)):Prop where
 nodup:L.Nodup
 len:L.length=T.length+1
 head:L[0]? =some s0
 link:∀k j c,T[k]? =some (j,c)->j<k+1/\c∈ls/\∃x,L[j]? =some x/\L[k+1]? =some (f x c)
theorem Ok.add{L:List α}{T:List (Nat×β)}(h:Ok f s0 ls L T){x:α}{i:Nat}{c:β}(hx:L[i]? =some x)(hc:c∈ls)(hn:f x c∉L):Ok f s0 ls (L++[f x c]) (T++[(i,c)]):=by
 have hi:i<L.length:=(e_.1 hx).1
 have hl:=h.len
 refine⟨?_,by simp[hl],?_,λk j c' hk=>?_⟩
 ·rw[List.nodup_append]
  exact⟨h.nodup,by simp,λa ha b hb=>by simp at hb;subst hb;rintro rfl;exact hn ha⟩
 ·rw[d_ (by omega)];exact h.head
 ·by_cases hk2:k<T.length
  ·rw[d_ hk2]at hk
   obtain⟨h1,h2,y,h3,h4⟩:=h.link k j c' hk
   exact⟨h1,h2,y,by rw[d_ (by omega)];exact h3,by rw[d_ (by omega)];exact h4⟩
  ·rw[List.getElem?_append_right (by omega)]at hk
   have hk3:k=T.length:=by
    have:=(e_.1 hk).1
    simp at this;omega
   subst hk3
   simp at hk
   obtain⟨rfl,rfl⟩:=hk
   refine⟨by omega,hc,x,by rw[d_ hi];exact hx,?_⟩
   rw[show T.length+1=L.length by omega]
   simp
theorem Ok.inv{P:α->Prop}{L:List α}{T:List (Nat×β)}(h:Ok f s0 ls L T)(h0:P s0)(hP:∀x c,c∈ls->P x->P (f x c)):∀(k:Nat) (x:α),L[k]? =some x->P x:=by
 intro k
 induction k using M_ with
 |ind k ih=>
  intro x hx
  match k with
  |0=>rw[h.head]at hx;cases hx;exact h0
  |k+1=>
   have hk:=(e_.1 hx).1
   have hT:=f_ (l:=T) (i:=k) (by have:=h.len;omega)
   obtain⟨h1,h2,y,h3,h4⟩:=h.link k _ _ hT
   rw[h4]at hx
   cases hx
   exact hP _ _ h2 (ih _ h1 y h3)
def Quiet(sp:List α->α->Bool)(L:List α):Prop:=∀k x,L[k+1]? =some x->sp (L.take (k+1)) x=false
theorem Quiet.add{sp:List α->α->Bool}{L:List α}{y:α}(h:Quiet sp L)(hs:sp L y=false):Quiet sp (L++[y]):=by
 intro k x hx
 by_cases hk:k+1<L.length
 ·rw[d_ hk]at hx
  rw[w_ (by omega)]
  exact h k x hx
 ·have hk2:=(e_.1 hx).1
  simp at hk2
  have:k+1=L.length:=by omega
  rw[this]at hx⊢
  simp at hx
  subst hx
  simpa using hs
theorem Ok.pre{L L':List α}{T T':List (Nat×β)}(h:Ok f s0 ls L T)(hL:L'<+:L)(hT:T'<+:T)(hl:L'.length=T'.length+1):Ok f s0 ls L' T':=by
 have hget:∀k,k<L'.length->L'[k]? =L[k]? :=λk hk=>by
  obtain⟨t,rfl⟩:=hL
  rw[d_ hk]
 refine⟨h.nodup.sublist hL.sublist,hl,by rw[hget 0 (by omega)];exact h.head,λk j c hk=>?_⟩
 have hk':=(e_.1 hk).1
 obtain⟨h1,h2,x,h3,h4⟩:=h.link k j c (Mq hT hk)
 exact⟨h1,h2,x,by rw[hget j (by omega)];exact h3,by rw[hget (k+1) (by omega)];exact h4⟩
inductive Tr(T:List (Nat×β)):Nat->List β->Prop
 |zero:Tr T 0 []
 |step {k j:Nat} {c:β} {p:List β}:T[k]? =some (j,c)->Tr T j p->Tr T (k+1) (p++[c])
theorem Tr.mono{T T':List (Nat×β)}(hp:T<+:T'){k:Nat}{p:List β}(h:Tr T k p):Tr T' k p:=by
 induction h with
 |zero=>exact .zero
 |step h1 _ ih=>exact .step (Mq hp h1) ih
theorem Tr.reaches{L:List α}{T:List (Nat×β)}(h:Ok f s0 ls L T){k:Nat}{p:List β}(ht:Tr T k p):L[k]? =some (p.foldl f s0)/\∀c∈p,c∈ls:=by
 induction ht with
 |zero=>exact⟨h.head,by simp⟩
 |step h1 _ ih=>
  obtain⟨_,h2,x,h3,h4⟩:=h.link _ _ _ h1
  rw[ih.1]at h3
  cases h3
  refine⟨by rw[h4,q_];rfl,λc hc=>?_⟩
  rcases g_.1 hc with hc|hc
  ·exact ih.2 c hc
  ·simp at hc;subst hc;exact h2
theorem Ok.tr{L:List α}{T:List (Nat×β)}(h:Ok f s0 ls L T):∀k,k<L.length->∃p,Tr T k p:=by
 intro k
 induction k using M_ with
 |ind k ih=>
  intro hk
  match k with
  |0=>exact⟨[],.zero⟩
  |k+1=>
   have hT:=f_ (l:=T) (i:=k) (by have:=h.len;omega)
   obtain⟨h1,_⟩:=h.link k _ _ hT
   obtain⟨p,hp⟩:=ih _ h1 (by omega)
   exact⟨_,.step hT hp⟩
theorem Tr.len{L:List α}{T:List (Nat×β)}(h:Ok f s0 ls L T){k:Nat}{p:List β}(ht:Tr T k p):p.length<=k:=by
 induction ht with
 |zero=>exact T_ _
 |step h1 _ ih=>
  have:=(h.link _ _ _ h1).1
  simp only[c_,o_]
  omega
end
variable [DecidableEq α]
abbrev pos(L:List α)(x:α):Nat:=L.idxOf x
theorem FX{x y:α}{L:List α}(h:x≠y):pos (x::L) y=pos L y+1:=by
 unfold pos
 rw[aj_,show(x==y)=false from by simpa using h];rfl
theorem pos_eq{x:α}{L:List α}:pos (x::L) x=0:=by
 unfold pos
 rw[aj_];simp
def bb(f:α->β->α)(x:α)(i:Nat)(st:List α×List (Nat×β)×List Nat)(c:β):List α×List (Nat×β)×List Nat:=
 if f x c∈st.1 then(st.1,st.2.1,st.2.2++[st.1.idxOf (f x c)])else(st.1++[f x c],st.2.1++[(i,c)],st.2.2++[st.1.length])
def mJ(sp:List α->α->Bool)(f:α->β->α)(x:α)(i:Nat)(st:List α×List (Nat×β)×List Nat)(c:β):(List α×List (Nat×β)×List Nat)⊕(List α×List (Nat×β)):=
 if f x c∈st.1 then .inl (st.1,st.2.1,st.2.2++[st.1.idxOf (f x c)])
 else if sp st.1 (f x c)then .inr (st.1++[f x c],st.2.1++[(i,c)])else .inl (st.1++[f x c],st.2.1++[(i,c)],st.2.2++[st.1.length])
theorem MC{sp:List α->α->Bool}{f:α->β->α}{x:α}{i:Nat}{c:β}{L:List α}{T:List (Nat×β)}{r:List Nat}{y:α}(hy:f x c=y)(h:y∈L):mJ sp f x i (L,T,r) c= .inl (L,T,r++[L.idxOf y]):=by
 subst hy;simp only[mJ,if_pos h]
theorem I0{sp:List α->α->Bool}{f:α->β->α}{x:α}{i:Nat}{c:β}{L:List α}{T:List (Nat×β)}{r:List Nat}{y:α}(hy:f x c=y)(h:y∉L)(hs:sp L y=true):mJ sp f x i (L,T,r) c= .inr (L++[y],T++[(i,c)]):=by
 subst hy;simp only[mJ,if_neg h,if_pos hs]
theorem MD{sp:List α->α->Bool}{f:α->β->α}{x:α}{i:Nat}{c:β}{L:List α}{T:List (Nat×β)}{r:List Nat}{y:α}(hy:f x c=y)(h:y∉L)(hs:sp L y=false):mJ sp f x i (L,T,r) c= .inl (L++[y],T++[(i,c)],r++[L.length]):=by
 subst hy;simp only[mJ,if_neg h,hs,Bool.false_eq_true,if_false]
variable (f:α->β->α) (s0:α) (ls:List β)
def bD:Nat->List α×List (Nat×β)×List (List Nat)
 |0=>([s0],[],[])
 |i+1=>match(bD i).1[i]? with
  |none=>bD i
  |some x=>let r:=ls.foldl (bb f x i) ((bD i).1,(bD i).2.1,[])
   (r.1,r.2.1,(bD i).2.2++[r.2.2])
def iL(sp:List α->α->Bool):Nat->(List α×List (Nat×β)×List (List Nat))⊕(List α×List (Nat×β)×List (List Nat))
 |0=>.inl ([s0],[],[])
 |i+1=>match iL sp i with
  | .inr r=>.inr r
  | .inl S=>match S.1[i]? with
   |none=>.inl S
   |some x=>match jF (mJ sp f x i) (S.1,S.2.1,[]) ls with
    | .inl r=>.inl (r.1,r.2.1,S.2.2++[r.2.2])
    | .inr r=>.inr (r.1,r.2,S.2.2)
variable {f s0 ls}
theorem r5(x:α)(i:Nat)(st:List α×List (Nat×β)×List Nat)(c:β):st.1<+:(bb f x i st c).1/\st.2.1<+:(bb f x i st c).2.1:=by
 unfold bb
 split
 ·exact⟨m_ _,m_ _⟩
 ·exact⟨Y_ _ _,Y_ _ _⟩
theorem AG(x:α)(i:Nat):∀(l:List β) (st:List α×List (Nat×β)×List Nat),st.1<+:(l.foldl (bb f x i) st).1/\st.2.1<+:(l.foldl (bb f x i) st).2.1
 |[],st=>⟨m_ _,m_ _⟩
 |c::l,st=>by
  have h1:=r5 (f:=f) x i st c
  have h2:=AG x i l (bb f x i st c)
  exact⟨h1.1.trans h2.1,h1.2.trans h2.2⟩
theorem B4{L L':List α}(h:L<+:L'){x:α}(hx:x∈L):L'.idxOf x=L.idxOf x:=by
 obtain⟨t,rfl⟩:=h
 rw[aa_,if_pos hx]
theorem Eg{x:α}{i:Nat}:∀(l:List β) (st:List α×List (Nat×β)×List Nat),Ok f s0 ls st.1 st.2.1->st.1[i]? =some x->(∀c∈l,c∈ls)->
 Ok f s0 ls (l.foldl (bb f x i) st).1 (l.foldl (bb f x i) st).2.1/\(∀c∈l,f x c∈(l.foldl (bb f x i) st).1)/\
 (l.foldl (bb f x i) st).2.2=st.2.2++l.map λc=>(l.foldl (bb f x i) st).1.idxOf (f x c)
 |[],st,h,_,_=>⟨h,by simp,by simp⟩
 |c::l,st,h,hx,hc=>by
  have hst:Ok f s0 ls (bb f x i st c).1 (bb f x i st c).2.1/\f x c∈(bb f x i st c).1/\(bb f x i st c).2.2=st.2.2++[(bb f x i st c).1.idxOf (f x c)]:=by
   unfold bb
   split
   ·exact⟨h,by assumption,rfl⟩
   ·rename_i hn
    refine⟨h.add hx (hc c (a_ ..)) hn,by simp,?_⟩
    simp[aa_,hn]
  obtain⟨h1,h2,h3⟩:=Eg l (bb f x i st c) hst.1 (AW (r5 x i st c).1 hx) λc' hc'=>hc c' (b_ _ hc')
  have hp:=(AG (f:=f) x i l (bb f x i st c)).1
  refine⟨h1,λc' hc'=>?_,?_⟩
  ·rcases l_.1 hc' with rfl|hc'
   ·exact hp.subset hst.2.1
   ·exact h2 c' hc'
  ·rw[n_,h3,hst.2.2,<-B4 hp hst.2.1]
   simp
theorem b6{i:Nat}{x:α}(hx:(bD f s0 ls i).1[i]? =some x):bD f s0 ls (i+1)=((ls.foldl (bb f x i) ((bD f s0 ls i).1,(bD f s0 ls i).2.1,[])).1,(ls.foldl (bb f x i) ((bD f s0 ls i).1,(bD f s0 ls i).2.1,[])).2.1,(bD f s0 ls i).2.2++[(ls.foldl (bb f x i) ((bD f s0 ls i).1,(bD f s0 ls i).2.1,[])).2.2]):=by
 simp only[bD,hx]
theorem cI{i:Nat}(hx:(bD f s0 ls i).1[i]? =none):bD f s0 ls (i+1)=bD f s0 ls i:=by
 simp only[bD,hx]
theorem dq:∀i,Ok f s0 ls (bD f s0 ls i).1 (bD f s0 ls i).2.1
 |0=>⟨by simp[bD],rfl,rfl,by simp[bD]⟩
 |i+1=>by
  cases hx:(bD f s0 ls i).1[i]? with
  |none=>rw[cI hx];exact dq i
  |some x=>
   rw[b6 hx]
   exact(Eg ls ((bD f s0 ls i).1,(bD f s0 ls i).2.1,[]) (dq i) hx λ_ h=>h).1
theorem iM(i:Nat):(bD f s0 ls i).1<+:(bD f s0 ls (i+1)).1/\(bD f s0 ls i).2.1<+:(bD f s0 ls (i+1)).2.1:=by
 cases hx:(bD f s0 ls i).1[i]? with
 |none=>rw[cI hx];exact⟨m_ _,m_ _⟩
 |some x=>
  rw[b6 hx]
  exact AG x i ls ((bD f s0 ls i).1,(bD f s0 ls i).2.1,[])
theorem LM{i j:Nat}(h:i<=j):(bD f s0 ls i).1<+:(bD f s0 ls j).1/\(bD f s0 ls i).2.1<+:(bD f s0 ls j).2.1:=by
 induction h with
 |refl=>exact⟨m_ _,m_ _⟩
 |step _ ih=>exact⟨ih.1.trans (iM _).1,ih.2.trans (iM _).2⟩
theorem wg{i j:Nat}(h:i<=j)(hf:(bD f s0 ls i).1.length<=i):bD f s0 ls j=bD f s0 ls i:=by
 induction h with
 |refl=>rfl
 | @step m h ih=>
  have h:i<=m:=h
  rw[cI (by rw[ih];exact i_ (by omega)),ih]
theorem xj:∀i,∀j≥i,(bD f s0 ls i).2.2=((bD f s0 ls i).1.take i).map λx=>ls.map λc=>(bD f s0 ls j).1.idxOf (f x c)
 |0,j,_=>by simp[bD]
 |i+1,j,hj=>by
  cases hx:(bD f s0 ls i).1[i]? with
  |none=>
   have hle:=G_.1 hx
   rw[cI hx,xj i j (by omega),y_ hle,y_ (by omega)]
  |some x=>
   have hi:=(e_.1 hx).1
   have hk:=Eg ls ((bD f s0 ls i).1,(bD f s0 ls i).2.1,[]) (dq i) hx λ_ h=>h
   have hp:=(iM (f:=f) (s0:=s0) (ls:=ls) i).1
   have hx':=AW hp hx
   have e1:(bD f s0 ls (i+1)).1.take (i+1)=(bD f s0 ls i).1.take i++[x]:=by
    rw[z_,hx']
    congr 1
    obtain⟨t,ht⟩:=hp
    rw[<-ht,w_ (by omega)]
   rw[e1,C_,<-xj i j (by omega)]
   have e2:(bD f s0 ls (i+1)).2.2=(bD f s0 ls i).2.2++[(ls.foldl (bb f x i) ((bD f s0 ls i).1,(bD f s0 ls i).2.1,[])).2.2]:=by rw[b6 hx]
   rw[e2,hk.2.2]
   congr 1
   simp only[L_,p_,ab_,List.cons.injEq,and_true]
   refine V_ λc hc=>?_
   have hm:f x c∈(bD f s0 ls (i+1)).1:=by rw[b6 hx];exact hk.2.1 c hc
   have e3:(ls.foldl (bb f x i) ((bD f s0 ls i).1,(bD f s0 ls i).2.1,[])).1=(bD f s0 ls (i+1)).1:=by rw[b6 hx]
   rw[e3]
   exact(B4 (LM hj).1 hm).symm
theorem ri:∀i,∀x∈(bD f s0 ls i).1.take i,∀c∈ls,f x c∈(bD f s0 ls i).1
 |0,x,hx,_,_=>by simp at hx
 |i+1,y,hy,c,hc=>by
  cases hx:(bD f s0 ls i).1[i]? with
  |none=>
   have hle:=G_.1 hx
   rw[cI hx]at hy⊢
   refine ri i y ?_ c hc
   rw[y_ (by omega)]at hy⊢;exact hy
  |some x=>
   have hi:=(e_.1 hx).1
   have hp:=(iM (f:=f) (s0:=s0) (ls:=ls) i).1
   have e1:(bD f s0 ls (i+1)).1.take (i+1)=(bD f s0 ls i).1.take i++[x]:=by
    rw[z_,AW hp hx]
    congr 1
    obtain⟨t,ht⟩:=hp
    rw[<-ht,w_ (by omega)]
   rw[e1]at hy
   rcases g_.1 hy with h|h
   ·exact hp.subset (ri i y h c hc)
   ·simp at h
    subst h
    have hk:=Eg ls ((bD f s0 ls i).1,(bD f s0 ls i).2.1,[]) (dq i) hx λ_ h=>h
    rw[b6 hx]
    exact hk.2.1 c hc
theorem B1{sp:List α->α->Bool}{x:α}{i:Nat}:∀(l:List β) (st:List α×List (Nat×β)×List Nat),Quiet sp st.1->
 (∀r,jF (mJ sp f x i) st l= .inl r->r=l.foldl (bb f x i) st/\Quiet sp r.1)/\
 (∀r,jF (mJ sp f x i) st l= .inr r->∃L y,r.1=L++[y]/\Quiet sp L/\sp L y=true/\r.1<+:(l.foldl (bb f x i) st).1/\r.2<+:(l.foldl (bb f x i) st).2.1/\st.1<+:L)
 |[],st,h=>⟨λr hr=>by cases hr;exact⟨rfl,h⟩,λr hr=>by cases hr⟩
 |c::l,st,h=>by
  by_cases hm:f x c∈st.1
  ·have e1:mJ sp f x i st c= .inl (bb f x i st c):=by unfold mJ bb;rw[if_pos hm,if_pos hm]
   have ih:=B1 (sp:=sp) (x:=x) (i:=i) l (bb f x i st c) (by unfold bb;rw[if_pos hm];exact h)
   have hp:=(r5 (f:=f) x i st c).1
   refine⟨λr hr=>?_,λr hr=>?_⟩
   ·simp only[jF,e1]at hr;exact ih.1 r hr
   ·simp only[jF,e1]at hr
    obtain⟨L,y,g1,g2,g3,g4,g5,g6⟩:=ih.2 r hr
    exact⟨L,y,g1,g2,g3,g4,g5,hp.trans g6⟩
  ·cases hs:sp st.1 (f x c)
   ·have e1:mJ sp f x i st c= .inl (bb f x i st c):=by unfold mJ bb;rw[if_neg hm,if_neg hm,if_neg (by rw[hs];simp)]
    have ih:=B1 (sp:=sp) (x:=x) (i:=i) l (bb f x i st c) (by unfold bb;rw[if_neg hm];exact h.add hs)
    have hp:=(r5 (f:=f) x i st c).1
    refine⟨λr hr=>?_,λr hr=>?_⟩
    ·simp only[jF,e1]at hr;exact ih.1 r hr
    ·simp only[jF,e1]at hr
     obtain⟨L,y,g1,g2,g3,g4,g5,g6⟩:=ih.2 r hr
     exact⟨L,y,g1,g2,g3,g4,g5,hp.trans g6⟩
   ·have e1:mJ sp f x i st c= .inr (st.1++[f x c],st.2.1++[(i,c)]):=by unfold mJ;rw[if_neg hm,if_pos hs]
    have e2:bb f x i st c=(st.1++[f x c],st.2.1++[(i,c)],st.2.2++[st.1.length]):=by unfold bb;rw[if_neg hm]
    refine⟨λr hr=>?_,λr hr=>?_⟩
    ·simp only[jF,e1]at hr;cases hr
    ·simp only[jF,e1]at hr
     cases hr
     have hp:=AG (f:=f) x i l (bb f x i st c)
     rw[e2]at hp
     refine⟨st.1,f x c,rfl,h,hs,?_,?_,m_ _⟩
     ·rw[n_,e2];exact hp.1
     ·rw[n_,e2];exact hp.2
theorem ka{sp:List α->α->Bool}:∀i,
 (∀S,iL f s0 ls sp i= .inl S->S=bD f s0 ls i/\Quiet sp S.1)/\
 (∀r,iL f s0 ls sp i= .inr r->∃L y,r.1=L++[y]/\L≠[]/\Quiet sp L/\sp L y=true/\r.1<+:(bD f s0 ls i).1/\r.2.1<+:(bD f s0 ls i).2.1)
 |0=>⟨λS h=>by cases h;exact⟨rfl,λk x hx=>by simp at hx⟩,λr h=>by cases h⟩
 |i+1=>by
  have ih:=ka (sp:=sp) i
  cases h:iL f s0 ls sp i with
  |inr r=>
   have e:iL f s0 ls sp (i+1)= .inr r:=by simp only[iL,h]
   refine⟨λS hS=>(by rw[e]at hS;cases hS),λr' hr=>?_⟩
   rw[e]at hr;cases hr
   obtain⟨L,y,g1,g2,g3,g4,g5,g6⟩:=ih.2 r h
   exact⟨L,y,g1,g2,g3,g4,g5.trans (iM i).1,g6.trans (iM i).2⟩
  |inl S=>
   obtain⟨rfl,hq⟩:=ih.1 S h
   cases hx:(bD f s0 ls i).1[i]? with
   |none=>
    have e:iL f s0 ls sp (i+1)= .inl (bD f s0 ls i):=by simp only[iL,h,hx]
    refine⟨λS hS=>?_,λr hr=>by rw[e]at hr;cases hr⟩
    rw[e]at hS;cases hS
    exact⟨(cI hx).symm,hq⟩
   |some x=>
    have hf:=B1 (f:=f) (sp:=sp) (x:=x) (i:=i) ls ((bD f s0 ls i).1,(bD f s0 ls i).2.1,[]) hq
    cases hr:jF (mJ sp f x i) ((bD f s0 ls i).1,(bD f s0 ls i).2.1,[]) ls with
    |inl r=>
     have e:iL f s0 ls sp (i+1)= .inl (r.1,r.2.1,(bD f s0 ls i).2.2++[r.2.2]):=by simp only[iL,h,hx,hr]
     refine⟨λS hS=>?_,λr hr=>by rw[e]at hr;cases hr⟩
     rw[e]at hS;cases hS
     obtain⟨rfl,hq'⟩:=hf.1 r hr
     exact⟨(b6 hx).symm,hq'⟩
    |inr r=>
     have e:iL f s0 ls sp (i+1)= .inr (r.1,r.2,(bD f s0 ls i).2.2):=by simp only[iL,h,hx,hr]
     refine⟨λS hS=>(by rw[e]at hS;cases hS),λr' hr'=>?_⟩
     rw[e]at hr';cases hr'
     obtain⟨L,y,g1,g2,g3,g4,g5,g6⟩:=hf.2 r hr
     rw[b6 hx]
     refine⟨L,y,g1,?_,g2,g3,g4,g5⟩
     rintro rfl
     have h0:=(dq (f:=f) (s0:=s0) (ls:=ls) i).head
     have h1:=List.prefix_nil.1 g6
     simp only at h1
     rw[h1]at h0;cases h0
theorem Fw{sp:List α->α->Bool}{i j:Nat}(hij:i<=j){r:List α×List (Nat×β)×List (List Nat)}(h:iL f s0 ls sp i= .inr r):iL f s0 ls sp j= .inr r:=by
 induction hij with
 |refl=>exact h
 |step _ ih=>simp only[iL,ih]
theorem It{sp:List α->α->Bool}{i j:Nat}(hij:i<=j){S:List α×List (Nat×β)×List (List Nat)}(h:iL f s0 ls sp i= .inl S)(hf:S.1.length<=i):iL f s0 ls sp j= .inl S:=by
 induction hij with
 |refl=>exact h
 | @step m hm ih=>
  have hm:i<=m:=hm
  simp only[iL,ih,i_ (show S.1.length<=m from by omega)]
theorem Kh{L:List α}{y:α}:∀{k:Nat},k<=L.length->(∀j z,j<k->L[j]? =some z->z≠y)->(∀z,L[k]? =some z->z=y)->k=pos L y:=by
 induction L with
 |nil=>intro k hk _ _;simp at hk;subst hk;simp[pos]
 |cons x L ih=>
  intro k hk h1 h2
  cases k with
  |zero=>rw[<-h2 x rfl];exact pos_eq.symm
  |succ k=>
   rw[FX (h1 0 x (by omega) rfl),<-ih (k:=k) (by simpa using hk) (λj z hj hz=>h1 (j+1) z (by omega) (by simpa using hz)) (λz hz=>h2 z (by simpa using hz))]
theorem pos_lt{L:List α}{y:α}:y∈L↔pos L y<L.length:=by unfold pos;exact List.idxOf_lt_length_iff.symm
theorem P1{L:List α}{y:α}(h:y∉L):pos L y=L.length:=by unfold pos;exact List.idxOf_eq_length h
end
open Go Go.Ev
theorem f8{P:Rx->Prop}(h:∀k lo hi ks,(∀r∈ks,P r)->P (.mk k lo hi ks)):∀r,P r:=
 λr=>Rx.rec (motive_1:=P) (motive_2:=λks=>∀r∈ks,P r) (λk lo hi ks ih=>h k lo hi ks ih) (λr hr=>by cases hr) (λr ks ih1 ih2 x hx=>by
  rcases l_.1 hx with rfl|hx
  ·exact ih1
  ·exact ih2 x hx) r
theorem f7(v:Rx):Rx.mk v.out.1 v.out.2.1 v.out.2.2.1 v.out.2.2.2.1=v:=by cases v;rfl
structure G where
 fi:List Nat
 la:List Nat
 em:Bool
 pr:List (Nat×Nat)
 sp:List (Int×Int)
def cg(a b:List Nat):List (Nat×Nat):=a.flatMap λp=>b.map λq=>(p,q)
theorem prodL_mem{a b:List Nat}{p q:Nat}:(p,q)∈cg a b↔p∈a/\q∈b:=by
 unfold cg
 simp only[t_,x_,Prod.mk.injEq]
 constructor
 ·rintro⟨x,hx,y,hy,rfl,rfl⟩;exact⟨hx,hy⟩
 ·rintro⟨hp,hq⟩;exact⟨p,hp,q,hq,rfl,rfl⟩
def gT(a x:G):G:=⟨if a.em then a.fi++x.fi else a.fi,if x.em then a.la++x.la else x.la,a.em&&x.em,a.pr++x.pr++cg a.la x.fi,a.sp++x.sp⟩
def tL(a x:G):G:=⟨a.fi++x.fi,a.la++x.la,a.em||x.em,a.pr++x.pr,a.sp++x.sp⟩
def jH(x:G):G:=⟨x.fi,x.la,x.em,x.pr++cg x.la x.fi,x.sp⟩
def Ir(x:G):G:=⟨x.fi,x.la,true,x.pr,x.sp⟩
def g0(e:Bool):G:=⟨[],[],e,[],[]⟩
def Ix(o:Nat)(lo hi:Int):G:=⟨[o],[o],false,[],[(lo,hi)]⟩
mutual
def bR:Rx->Nat->G
 | .mk k lo hi ks,o=>
  if k=1 then Ix o lo hi else if k=2 then Ix o 0 4294967295
  else if k=3 then cT ks o (g0 true)else if k=4 then b7 ks o (g0 false)
  else if k=5 then Ir (jH (b7 ks o (g0 false)))else if k=6 then jH (b7 ks o (g0 false))
  else if k=7 then Ir (b7 ks o (g0 false))else g0 true
def cT:List Rx->Nat->G->G
 |[],_,a=>a
 |r::rs,o,a=>cT rs o (gT a (bR r (o+a.sp.length)))
def b7:List Rx->Nat->G->G
 |[],_,a=>a
 |r::rs,o,a=>b7 rs o (tL a (bR r (o+a.sp.length)))
end
theorem LS(o:Nat):∀(l m:List Rx) (a:G),cT (l++m) o a=cT m o (cT l o a)
 |[],_,_=>by simp[cT]
 |r::l,m,a=>by simp only[r_,cT];exact LS o l m _
theorem LR(o:Nat):∀(l m:List Rx) (a:G),b7 (l++m) o a=b7 m o (b7 l o a)
 |[],_,_=>by simp[b7]
 |r::l,m,a=>by simp only[r_,b7];exact LR o l m _
theorem B3{o:Nat}{ks:List Rx}{i:Nat}(h:i<ks.length)(a:G):cT (ks.take (i+1)) o a=gT (cT (ks.take i) o a) (bR ks[i] (o+(cT (ks.take i) o a).sp.length)):=by
 rw[z_,f_ h,LS];simp[cT]
theorem B2{o:Nat}{ks:List Rx}{i:Nat}(h:i<ks.length)(a:G):b7 (ks.take (i+1)) o a=tL (b7 (ks.take i) o a) (bR ks[i] (o+(b7 (ks.take i) o a).sp.length)):=by
 rw[z_,f_ h,LR];simp[b7]
theorem Vi{P:Nat->G->Prop}(h0:∀o e,P o (g0 e))(h1:∀o lo hi,P o (Ix o lo hi))(hs:∀o a x,P o a->P (o+a.sp.length) x->P o (gT a x))(ha:∀o a x,P o a->P (o+a.sp.length) x->P o (tL a x))
 (hl:∀o a,P o a->P o (jH a)) (he:∀o a,P o a->P o (Ir a)):∀(r:Rx) (o:Nat),P o (bR r o):=by
 intro r
 refine f8 (P:=λr=>∀o,P o (bR r o)) (λk lo hi ks ih o=>?_) r
 have hA:∀(l:List Rx) (a:G),(∀r∈l,∀o,P o (bR r o))->P o a->P o (b7 l o a):=by
  intro l
  induction l with
  |nil=>intro a _ h;exact h
  |cons r l ih=>intro a hl h;exact ih _ (λr hr=>hl r (b_ _ hr)) (ha o a _ h (hl r (a_ ..) _))
 have hS:∀(l:List Rx) (a:G),(∀r∈l,∀o,P o (bR r o))->P o a->P o (cT l o a):=by
  intro l
  induction l with
  |nil=>intro a _ h;exact h
  |cons r l ih=>intro a hl h;exact ih _ (λr hr=>hl r (b_ _ hr)) (hs o a _ h (hl r (a_ ..) _))
 unfold bR
 split
 ·exact h1 _ _ _
 split
 ·exact h1 _ _ _
 split
 ·exact hS _ _ ih (h0 _ _)
 split
 ·exact hA _ _ ih (h0 _ _)
 split
 ·exact he _ _ (hl _ _ (hA _ _ ih (h0 _ _)))
 split
 ·exact hl _ _ (hA _ _ ih (h0 _ _))
 split
 ·exact he _ _ (hA _ _ ih (h0 _ _))
 ·exact h0 _ _
structure Lie(o:Nat)(g:G):Prop where
 fi:∀p∈g.fi,o<=p/\p<o+g.sp.length
 la:∀p∈g.la,o<=p/\p<o+g.sp.length
 pr:∀p q,(p,q)∈g.pr->(o<=p/\p<o+g.sp.length)/\o<=q/\q<o+g.sp.length
 fl:g.fi.length<=g.sp.length
 ll:g.la.length<=g.sp.length
theorem Vr{o:Nat}{a x:G}(ha:Lie o a)(hx:Lie (o+a.sp.length) x):Lie o (gT a x):=by
 have hfl:=ha.fl;have hll:=ha.ll;have hfx:=hx.fl;have hlx:=hx.ll
 refine⟨λp hp=>?_,λp hp=>?_,λp q hp=>?_,?_,?_⟩
 ·simp only[gT,c_]at hp⊢
  split at hp
  ·rcases g_.1 hp with h|h
   ·have:=ha.fi p h;omega
   ·have:=hx.fi p h;omega
  ·have:=ha.fi p hp;omega
 ·simp only[gT,c_]at hp⊢
  split at hp
  ·rcases g_.1 hp with h|h
   ·have:=ha.la p h;omega
   ·have:=hx.la p h;omega
  ·have:=hx.la p hp;omega
 ·simp only[gT,c_,g_,prodL_mem]at hp⊢
  rcases hp with(h|h)|⟨h,h'⟩
  ·have:=ha.pr p q h;omega
  ·have:=hx.pr p q h;omega
  ·have:=ha.la p h;have:=hx.fi q h';omega
 ·simp only[gT,c_]
  split
  ·rw[c_];omega
  ·omega
 ·simp only[gT,c_]
  split
  ·rw[c_];omega
  ·omega
theorem Vq{o:Nat}{a x:G}(ha:Lie o a)(hx:Lie (o+a.sp.length) x):Lie o (tL a x):=by
 have hfl:=ha.fl;have hll:=ha.ll;have hfx:=hx.fl;have hlx:=hx.ll
 refine⟨λp hp=>?_,λp hp=>?_,λp q hp=>?_,?_,?_⟩
 ·simp only[tL,c_]at hp⊢
  rcases g_.1 hp with h|h
  ·have:=ha.fi p h;omega
  ·have:=hx.fi p h;omega
 ·simp only[tL,c_]at hp⊢
  rcases g_.1 hp with h|h
  ·have:=ha.la p h;omega
  ·have:=hx.la p h;omega
 ·simp only[tL,c_,g_]at hp⊢
  rcases hp with h|h
  ·have:=ha.pr p q h;omega
  ·have:=hx.pr p q h;omega
 ·simp only[tL,c_];omega
 ·simp only[tL,c_];omega
theorem Tq{o:Nat}{x:G}(h:Lie o x):Lie o (jH x):=by
 refine⟨h.fi,h.la,λp q hp=>?_,h.fl,h.ll⟩
 simp only[jH,g_,prodL_mem]at hp⊢
 rcases hp with hp|⟨h1,h2⟩
 ·exact h.pr p q hp
 ·exact⟨h.la p h1,h.fi q h2⟩
theorem Wv(o:Nat)(e:Bool):Lie o (g0 e):=⟨by simp[g0],by simp[g0],by simp[g0],by simp[g0],by simp[g0]⟩
theorem fC:∀(r:Rx) (o:Nat),Lie o (bR r o):=
 Vi Wv (λo lo hi=>⟨by simp[Ix],by simp[Ix],by simp[Ix],by simp[Ix],by simp[Ix]⟩) (λ_ _ _ ha hx=>Vr ha hx) (λ_ _ _ ha hx=>Vq ha hx) (λ_ _ h=>Tq h) (λo a h=>⟨h.fi,h.la,h.pr,h.fl,h.ll⟩)
def bG(l:List Nat):Nat:=l.foldr (λp a=>a|||2^p) 0
theorem cy(l:List Nat)(i:Nat):(bG l).testBit i=decide (i∈l):=by
 induction l with
 |nil=>simp[bG]
 |cons p l ih=>
  have:bG (p::l)=bG l|||2^p:=rfl
  rw[this,am_,ih,Nat.testBit_two_pow]
  by_cases h:p=i
  ·subst h;simp
  ·simp[h,Ne.symm h]
theorem z7(a b:List Nat):bG (a++b)=bG a|||bG b:=by
 refine B_ λi=>?_
 rw[am_,cy,cy,cy]
 simp
theorem fy{l:List Nat}{n:Nat}(h:∀p∈l,p<n):bG l<2^n:=by
 refine Nat.lt_pow_two_of_testBit _ λi hi=>?_
 rw[cy]
 exact decide_eq_false λhm=>by have:=h i hm;omega
theorem Xn{a b n:Nat}(ha:a<2^n)(hb:b<2^n):a|||b<2^n:=Nat.or_lt_two_pow ha hb
def FB(pr:List (Nat×Nat))(p:Nat):List Nat:=(pr.filter λx=>x.1=p).map (·.2)
theorem fol_mem{pr:List (Nat×Nat)}{p q:Nat}:q∈FB pr p↔(p,q)∈pr:=by
 unfold FB
 simp only[x_,D_,decide_eq_true_eq]
 constructor
 ·rintro⟨⟨x,y⟩,⟨h,rfl⟩,rfl⟩;exact h
 ·intro h;exact⟨(p,q),⟨h,rfl⟩,rfl⟩
def fB(k n:Int):Bool:=bif k==0||k==1||k==2 then n==0 else bif k==3 then decide (n>=2)else bif k==4 then n != 1 else bif k==5||k==6||k==7 then n==1 else false
def qt(k:Int):Bool:=k==0||k==1||k==2||k==3||k==4||k==5||k==6||k==7
def gO(k lo hi n:Int):Int:=
 bif !qt k then 15 else bif k==1&&(decide (lo<0)||decide (lo>hi)||decide (hi>4294967295))then 5 else bif (k != 1&&(lo != 0||hi != 0))|| !fB k n then 1 else 0
theorem knownB_iff{k:Int}:qt k=true↔k=0\/k=1\/k=2\/k=3\/k=4\/k=5\/k=6\/k=7:=by
 simp only[qt,Bool.or_eq_true,beq_iff_eq,or_assoc]
structure Node(k lo hi n:Int):Prop where
 known:k=0\/k=1\/k=2\/k=3\/k=4\/k=5\/k=6\/k=7
 rng:k=1->0<=lo/\lo<=hi/\hi<=4294967295
 zero:k≠1->lo=0/\hi=0
 leaf:k=0\/k=1\/k=2->n=0
 seq:k=3->2<=n
 alt:k=4->n≠1
 one:k=5\/k=6\/k=7->n=1
theorem nodeE_zero{k lo hi n:Int}:gO k lo hi n=0↔Node k lo hi n:=by
 constructor
 ·intro h
  unfold gO at h
  cases h1:qt k
  ·rw[h1]at h;exact absurd h (by simp)
  rw[h1]at h
  have hk:=knownB_iff.1 h1
  simp only[Bool.not_true,cond_false]at h
  cases h2:(k==1&&(decide (lo<0)||decide (lo>hi)||decide (hi>4294967295)))
  ·rw[h2]at h
   simp only[cond_false]at h
   cases h3:((k != 1&&(lo != 0||hi != 0))|| !fB k n)
   ·simp only[Q_,O_,bne_eq_false_iff_eq,Bool.not_eq_false',beq_eq_false_iff_ne,decide_eq_false_iff_not]at h2 h3
    obtain⟨h3,h4⟩:=h3
    refine⟨hk,λe=>?_,λe=>?_,λe=>?_,λe=>?_,λe=>?_,λe=>?_⟩
    ·rcases h2 with h2|h2
     ·exact absurd e h2
     ·omega
    ·rcases h3 with h3|h3
     ·exact absurd h3 e
     ·exact h3
    ·rcases e with rfl|rfl|rfl<;>simpa[fB]using h4
    ·subst e;simpa[fB]using h4
    ·subst e;simpa[fB]using h4
    ·rcases e with rfl|rfl|rfl<;>simpa[fB]using h4
   ·rw[h3]at h;exact absurd h (by simp)
  ·rw[h2]at h;exact absurd h (by simp)
 ·intro h
  have h1:qt k=true:=knownB_iff.2 h.known
  have h2:(k==1&&(decide (lo<0)||decide (lo>hi)||decide (hi>4294967295)))=false:=by
   by_cases e:k=1
   ·have:=h.rng e
    simp only[O_,Q_,decide_eq_false_iff_not]
    exact .inr ⟨⟨by omega,by omega⟩,by omega⟩
   ·simp[e]
  have h3:(k != 1&&(lo != 0||hi != 0))=false:=by
   by_cases e:k=1
   ·simp[e]
   ·have:=h.zero e
    simp[this]
  have h4:fB k n=true:=by
   rcases h.known with rfl|rfl|rfl|rfl|rfl|rfl|rfl|rfl
   ·simpa[fB]using h.leaf (by simp)
   ·simpa[fB]using h.leaf (by simp)
   ·simpa[fB]using h.leaf (by simp)
   ·simpa[fB]using h.seq rfl
   ·simpa[fB]using h.alt rfl
   ·simpa[fB]using h.one (by simp)
   ·simpa[fB]using h.one (by simp)
   ·simpa[fB]using h.one (by simp)
  unfold gO
  rw[h1,h2,h3,h4];rfl
mutual
def sz:Rx->Nat
 | .mk _ _ _ ks=>1+wS ks
def wS:List Rx->Nat
 |[]=>0
 |r::rs=>sz r+wS rs
end
theorem xw:∀{ks:List Rx} {r:Rx},r∈ks->sz r<=wS ks
 |x::ks,r,h=>by
  simp only[wS]
  rcases l_.1 h with rfl|h
  ·omega
  ·have:=xw h;omega
theorem WZ(r:Rx):0<sz r:=by cases r;simp only[sz];omega
theorem Yc:∀ks:List Rx,ks.length<=wS ks
 |[]=>T_ _
 |r::ks=>by
  simp only[wS,s_]
  have:=Yc ks;have:=WZ r;omega
theorem Kw:∀l m:List Rx,wS (l++m)=wS l+wS m
 |[],m=>by simp[wS]
 |r::l,m=>by simp only[r_,wS,Kw l m];omega
mutual
def cO:Rx->Bool
 | .mk k lo hi ks=>gO k lo hi ks.length==0&&wU ks
def wU:List Rx->Bool
 |[]=>true
 |r::rs=>cO r&&wU rs
end
theorem uw:∀ks:List Rx,wU ks=true↔∀r∈ks,cO r=true
 |[]=>by simp[wU]
 |r::ks=>by simp[wU,uw ks]
theorem well_iff{k lo hi:Int}{ks:List Rx}:cO (.mk k lo hi ks)=true↔Node k lo hi ks.length/\∀r∈ks,cO r=true:=by
 simp only[cO,ad_,beq_iff_eq,nodeE_zero,uw]
mutual
def tD:Rx->Int->Int->Int×Int
 | .mk k lo hi ks,lv,c=>if lv>16 then(c,24)else if c>=64 then(c,4)else if gO k lo hi ks.length≠0 then(c,gO k lo hi ks.length)else fz ks (lv+1) (c+1)
def fz:List Rx->Int->Int->Int×Int
 |[],_,c=>(c,0)
 |r::rs,lv,c=>if(tD r lv c).2≠0 then tD r lv c else fz rs lv (tD r lv c).1
end
mutual
def Mh:Rx->Bool
 | .mk k _ _ ks=>bif k==0||k==5||k==7 then true else bif k==3||k==6 then qZ ks else bif k==4 then vn ks else false
def qZ:List Rx->Bool
 |[]=>true
 |r::rs=>Mh r&&qZ rs
def vn:List Rx->Bool
 |[]=>false
 |r::rs=>Mh r||vn rs
end
theorem Mi:∀l m:List Rx,qZ (l++m)=(qZ l&&qZ m)
 |[],m=>by simp[qZ]
 |r::l,m=>by simp only[r_,qZ,Mi l m,ak_]
theorem Mj:∀l m:List Rx,vn (l++m)=(vn l||vn m)
 |[],m=>by simp[vn]
 |r::l,m=>by simp only[r_,vn,Mj l m,an_]
mutual
def cnt:Rx->Nat
 | .mk k _ _ ks=>(bif k==1||k==2 then 1 else 0)+cd ks
def cd:List Rx->Nat
 |[]=>0
 |r::rs=>cnt r+cd rs
end
theorem qc:∀l m:List Rx,cd (l++m)=cd l+cd m
 |[],m=>by simp[cd]
 |r::l,m=>by simp only[r_,cd,qc l m];omega
theorem E0(r:Rx):cnt r<=sz r:=by
 refine f8 (P:=λr=>cnt r<=sz r) (λk lo hi ks ih=>?_) r
 have:∀l:List Rx,(∀r∈l,cnt r<=sz r)->cd l<=wS l:=by
  intro l
  induction l with
  |nil=>intro _;exact T_ _
  |cons r l ih2=>
   intro h
   simp only[cd,wS]
   have:=h r (a_ ..)
   have:=ih2 λr hr=>h r (b_ _ hr)
   omega
 have:=this ks ih
 simp only[cnt,sz]
 cases(k==1||k==2)<;>simp<;>omega
theorem len_nil{ks:List Rx}(h:(ks.length:Int)=0):ks=[]:=List.length_eq_zero_iff.1 (by omega)
theorem lP{ks:List Rx}(h:(ks.length:Int)=1):∃r,ks=[r]:=List.length_eq_one_iff.1 (by omega)
theorem dE:∀(r:Rx),cO r=true->∀o,(bR r o).sp.length=cnt r/\(bR r o).em=Mh r:=by
 refine f8 λk lo hi ks ih hw o=>?_
 obtain⟨hn,hks⟩:=well_iff.1 hw
 have hA:∀(l:List Rx) (a:G),(∀r∈l,r∈ks)->(b7 l o a).sp.length=a.sp.length+cd l/\(b7 l o a).em=(a.em||vn l):=by
  intro l
  induction l with
  |nil=>intro a _;simp[b7,cd,vn]
  |cons r l ihl=>
   intro a hl
   have hr:=hl r (a_ ..)
   obtain⟨h1,h2⟩:=ih r hr (hks r hr) (o+a.sp.length)
   obtain⟨h3,h4⟩:=ihl (tL a (bR r (o+a.sp.length))) λx hx=>hl x (b_ _ hx)
   simp only[b7,h3,h4,cd,vn]
   simp only[tL,c_,h1,h2,an_]
   exact⟨by omega,trivial⟩
 have hS:∀(l:List Rx) (a:G),(∀r∈l,r∈ks)->(cT l o a).sp.length=a.sp.length+cd l/\(cT l o a).em=(a.em&&qZ l):=by
  intro l
  induction l with
  |nil=>intro a _;simp[cT,cd,qZ]
  |cons r l ihl=>
   intro a hl
   have hr:=hl r (a_ ..)
   obtain⟨h1,h2⟩:=ih r hr (hks r hr) (o+a.sp.length)
   obtain⟨h3,h4⟩:=ihl (gT a (bR r (o+a.sp.length))) λx hx=>hl x (b_ _ hx)
   simp only[cT,h3,h4,cd,qZ]
   simp only[gT,c_,h1,h2,ak_]
   exact⟨by omega,trivial⟩
 obtain⟨a1,a2⟩:=hA ks (g0 false) λ_ h=>h
 obtain⟨s1,s2⟩:=hS ks (g0 true) λ_ h=>h
 rcases hn.known with rfl|rfl|rfl|rfl|rfl|rfl|rfl|rfl
 ·have:=len_nil (hn.leaf (by simp));subst this;simp[bR,g0,cnt,cd,Mh]
 ·have:=len_nil (hn.leaf (by simp));subst this;simp[bR,Ix,cnt,cd,Mh]
 ·have:=len_nil (hn.leaf (by simp));subst this;simp[bR,Ix,cnt,cd,Mh]
 ·simp only[g0,v_,A_,Bool.true_and]at s1 s2
  simp[bR,g0,s1,s2,cnt,Mh]
 ·simp only[g0,v_,A_,H_]at a1 a2
  simp[bR,g0,a1,a2,cnt,Mh]
 ·simp only[g0,v_,A_,H_]at a1 a2
  simp[bR,Ir,jH,g0,a1,cnt,Mh]
 ·obtain⟨x,rfl⟩:=lP (hn.one (by simp))
  simp only[g0,v_,A_,H_]at a1 a2
  simp[bR,jH,g0,a1,a2,cnt,Mh,vn,qZ]
 ·simp only[g0,v_,A_,H_]at a1 a2
  simp[bR,Ir,g0,a1,cnt,Mh]
open Go.Ev
def a6(M:Nat)(f:Nat->Bool):List Bool:=(k_ M).map f
theorem cX(M:Nat)(f:Nat->Bool):(a6 M f).length=M:=by simp[a6]
theorem tw{M i:Nat}(f:Nat->Bool)(h:i<(a6 M f).length):(a6 M f)[i]=f i:=by simp[a6]
theorem cz{M:Nat}{f g:Nat->Bool}(h:∀i,i<M->f i=g i):a6 M f=a6 M g:=V_ λi hi=>h i (j_.1 hi)
theorem qR{M i:Nat}(f:Nat->Bool)(b:Bool):(a6 M f).set i b=a6 M λj=>if j=i then b else f j:=by
 refine ag_ (by simp[a6]) λj h1 h2=>?_
 have hj:j<M:=by simpa[a6]using h2
 rw[List.getElem_set]
 by_cases e:i=j
 ·subst e;simp[a6]
 ·have e':¬j=i:=λh=>e h.symm
  simp[a6,e,e']
theorem Bg(M:Nat):List.replicate M false=a6 M λ_=>false:=by
 refine ag_ (by simp[a6]) λj h1 h2=>?_
 simp[a6]
def jo(g:G)(n:Int)(p:Nat):Bool:=match g.sp[p]? with
 |some q=>decide (q.1<=n)&&decide (n<=q.2)
 |none=>false
def G1(g:G)(can:Nat->Bool)(n:Int)(p:Nat):Bool:=can p&&jo g n p
def TG(g:G)(at_:Nat->Bool)(q:Nat):Bool:=g.pr.any λx=>at_ x.1&&decide (x.2=q)
def r8(g:G)(s:(Nat->Bool)×(Nat->Bool))(n:Int):(Nat->Bool)×(Nat->Bool):=(TG g (G1 g s.1 n),G1 g s.1 n)
def gE(g:G)(path:List Int):(Nat->Bool)×(Nat->Bool):=path.foldl (r8 g) (λp=>decide (p∈g.fi),λ_=>false)
def lR(g:G)(path:List Int):Bool:=bif path.isEmpty then g.em else g.la.any (gE g path).2
theorem RD{g:G}{path:List Int}{i:Nat}(h:i<path.length):gE g (path.take (i+1))=r8 g (gE g (path.take i)) path[i]:=by
 unfold gE
 rw[z_,f_ h,q_]
 rfl
theorem nxF_iff{g:G}{f:Nat->Bool}{q:Nat}:TG g f q=true↔∃p,f p=true/\(p,q)∈g.pr:=by
 unfold TG
 rw[af_]
 constructor
 ·rintro⟨⟨p,q'⟩,h1,h2⟩
  simp only[ad_,decide_eq_true_eq]at h2
  obtain⟨h2,rfl⟩:=h2
  exact⟨p,h2,h1⟩
 ·rintro⟨p,h1,h2⟩
  exact⟨(p,q),h2,by simp[h1]⟩
def eK(path:List Int):Bool:=path.all λn=>decide (0<=n)&&decide (n<=4294967295)
theorem V9:∀(r:Rx),cO r=true->∀o,∀q∈(bR r o).sp,0<=q.1/\q.2<=4294967295:=by
 refine f8 λk lo hi ks ih hw o=>?_
 obtain⟨hn,hks⟩:=well_iff.1 hw
 have hA:∀(l:List Rx) (a:G),(∀r∈l,r∈ks)->(∀q∈a.sp,0<=q.1/\q.2<=4294967295)->∀q∈(b7 l o a).sp,0<=q.1/\q.2<=4294967295:=by
  intro l
  induction l with
  |nil=>intro a _ h;exact h
  |cons r l il=>
   intro a hl h
   refine il _ (λr hr=>hl r (b_ _ hr)) λq hq=>?_
   rcases g_.1 hq with hq|hq
   ·exact h q hq
   ·exact ih r (hl r (a_ ..)) (hks r (hl r (a_ ..))) _ q hq
 have hS:∀(l:List Rx) (a:G),(∀r∈l,r∈ks)->(∀q∈a.sp,0<=q.1/\q.2<=4294967295)->∀q∈(cT l o a).sp,0<=q.1/\q.2<=4294967295:=by
  intro l
  induction l with
  |nil=>intro a _ h;exact h
  |cons r l il=>
   intro a hl h
   refine il _ (λr hr=>hl r (b_ _ hr)) λq hq=>?_
   rcases g_.1 hq with hq|hq
   ·exact h q hq
   ·exact ih r (hl r (a_ ..)) (hks r (hl r (a_ ..))) _ q hq
 have h0:∀(e:Bool),∀q∈(g0 e).sp,0<=q.1/\q.2<=4294967295:=λe q hq=>by simp[g0]at hq
 unfold bR
 split
 ·rename_i h1
  have:=hn.rng h1
  intro q hq
  simp only[Ix,u_]at hq
  subst hq
  exact⟨by omega,by omega⟩
 split
 ·intro q hq
  simp only[Ix,u_]at hq
  subst hq
  exact⟨by decide,by decide⟩
 split
 ·exact hS _ _ (λ_ h=>h) (h0 _)
 split
 ·exact hA _ _ (λ_ h=>h) (h0 _)
 split
 ·exact hA _ _ (λ_ h=>h) (h0 _)
 split
 ·exact hA _ _ (λ_ h=>h) (h0 _)
 split
 ·exact hA _ _ (λ_ h=>h) (h0 _)
 ·exact h0 _
theorem MG{g:G}:∀(l:List Int) (s:(Nat->Bool)×(Nat->Bool)),(∀p,s.1 p=false)->(∀p,s.2 p=false)->∀p,(l.foldl (r8 g) s).2 p=false
 |[],s,_,h2,p=>h2 p
 |n::l,s,h1,h2,p=>by
  have ha:∀p,(r8 g s n).2 p=false:=λp=>by show(s.1 p&&_)=false;rw[h1];rfl
  refine MG l (r8 g s n) (λq=>?_) ha p
  cases e:(r8 g s n).1 q
  ·rfl
  ·obtain⟨p,hp,_⟩:=nxF_iff.1 (show TG g (G1 g s.1 n) q=true from e)
   have:=ha p
   rw[show(r8 g s n).2 p=G1 g s.1 n p from rfl,hp]at this
   cases this
theorem IJ{r:Rx}(hw:cO r=true){path:List Int}(h:eK path=false):lR (bR r 0) path=false:=by
 have:∃n∈path,¬(0<=n/\n<=4294967295):=by
  refine h_ λhn=>?_
  have:eK path=true:=by
   unfold eK
   rw[List.all_eq_true]
   intro n hm
   have:=h_ λhq=>hn ⟨n,hm,hq⟩
   simp[this.1,this.2]
  rw[h]at this;cases this
 obtain⟨n,hm,ho⟩:=this
 obtain⟨l1,l2,rfl⟩:=List.append_of_mem hm
 unfold lR
 have he:(l1++n::l2).isEmpty=false:=by cases l1<;>rfl
 rw[he]
 show(bR r 0).la.any _=false
 rw[Z_]
 intro p hp
 have hh:∀p,jo (bR r 0) n p=false:=λp=>by
  unfold jo
  split
  ·rename_i q hq
   have:=V9 r hw 0 q (S_ hq)
   by_cases h1:q.1<=n
   ·have:¬n<=q.2:=by omega
    simp[this]
   ·simp[h1]
  ·rfl
 have ha:∀(s:(Nat->Bool)×(Nat->Bool)) p,(r8 (bR r 0) s n).2 p=false:=λs p=>by show(_&&jo _ n p)=false;rw[hh,Bool.and_false]
 have:(gE (bR r 0) (l1++n::l2)).2 p=false:=by
  unfold gE
  rw[q_,n_]
  refine MG l2 _ (λq=>?_) (ha _) p
  cases e:(r8 (bR r 0) (al_ (r8 (bR r 0)) (λp=>decide (p∈(bR r 0).fi),λ_=>false) l1) n).1 q
  ·rfl
  ·obtain⟨p,hp,_⟩:=nxF_iff.1 (show TG _ _ q=true from e)
   have:=ha (al_ (r8 (bR r 0)) (λp=>decide (p∈(bR r 0).fi),λ_=>false) l1) p
   rw[show(r8 (bR r 0) (al_ (r8 (bR r 0)) (λp=>decide (p∈(bR r 0).fi),λ_=>false) l1) n).2 p=G1 _ _ n p from rfl,hp]at this
   cases this
 simp[this]
section
variable {σ β σ' β':Type}
inductive F2(R:σ->σ'->Prop):List σ->List σ'->Prop
 |nil:F2 R [] []
 |cons {x:σ} {y:σ'} {l:List σ} {l':List σ'}:R x y->F2 R l l'->F2 R (x::l) (y::l')
theorem F2.len{R:σ->σ'->Prop}{l:List σ}{l':List σ'}(h:F2 R l l'):l.length=l'.length:=by
 induction h with
 |nil=>rfl
 |cons _ _ ih=>simp[ih]
theorem F2.get{R:σ->σ'->Prop}{l:List σ}{l':List σ'}(h:F2 R l l'):∀{i:Nat} {x:σ} {y:σ'},l[i]? =some x->l'[i]? =some y->R x y:=by
 induction h with
 |nil=>intro i x y h;simp at h
 |cons hr _ ih=>
  intro i x y hx hy
  cases i with
  |zero=>simp at hx hy;subst hx hy;exact hr
  |succ i=>exact ih (by simpa using hx) (by simpa using hy)
theorem F2.app{R:σ->σ'->Prop}{l k:List σ}{l' k':List σ'}(h:F2 R l l')(h':F2 R k k'):F2 R (l++k) (l'++k'):=by
 induction h with
 |nil=>exact h'
 |cons hr _ ih=>exact .cons hr ih
def Eqv(f:σ->β->σ)(acc:σ->Bool)(ls:List β)(s t:σ):Prop:=∀w:List β,(∀c∈w,c∈ls)->acc (w.foldl f s)=acc (w.foldl f t)
variable {f:σ->β->σ} {acc:σ->Bool} {ls:List β}
theorem Eqv.refl(s:σ):Eqv f acc ls s s:=λ_ _=>rfl
theorem Eqv.symm{s t:σ}(h:Eqv f acc ls s t):Eqv f acc ls t s:=λw hw=>(h w hw).symm
theorem Eqv.trans{s t u:σ}(h:Eqv f acc ls s t)(h':Eqv f acc ls t u):Eqv f acc ls s u:=λw hw=>(h w hw).trans (h' w hw)
theorem Eqv.nil{s t:σ}(h:Eqv f acc ls s t):acc s=acc t:=h [] (by simp)
theorem Eqv.step{s t:σ}(h:Eqv f acc ls s t){c:β}(hc:c∈ls):Eqv f acc ls (f s c) (f t c):=λw hw=>h (c::w) λx hx=>by
 rcases l_.1 hx with rfl|hx
 ·exact hc
 ·exact hw x hx
theorem OW{P:σ->Prop}{b:σ->Int}(hP:∀s c,c∈ls->P s->P (f s c))(ha:∀s t,P s->P t->b s=b t->acc s=acc t)
 (hs:∀s t c,c∈ls->P s->P t->b s=b t->b (f s c)=b (f t c)) {s t:σ} (h1:P s) (h2:P t) (h:b s=b t):Eqv f acc ls s t:=by
 intro w
 induction w generalizing s t with
 |nil=>intro _;exact ha s t h1 h2 h
 |cons c w ih=>
  intro hw
  have hc:=hw c (a_ ..)
  exact ih (hP s c hc h1) (hP t c hc h2) (hs s t c hc h1 h2 h) λx hx=>hw x (b_ _ hx)
theorem Km{P:σ->Prop}{b b':σ->Int}{m:Nat}(hon:∀i:Nat,i<m->∃s,P s/\b s=(i:Int))(hb':∀s,P s->0<=b' s/\b' s<(m:Int))
 (href:∀s t,P s->P t->b' s=b' t->b s=b t) {s t:σ} (h1:P s) (h2:P t) (h:b s=b t):b' s=b' t:=by
 obtain⟨rep,hrep⟩:∃rep:Nat->σ,∀i,i<m->P (rep i)/\b (rep i)=(i:Int):=
  ⟨λi=>if h:i<m then ae_ (hon i h)else s,λi hi=>by simp only[hi,dif_pos];exact P_ (hon i hi)⟩
 have hnd:((k_ m).map λi=>b' (rep i)).Nodup:=by
  rw[F_,List.pairwise_map]
  refine List.Pairwise.imp_of_mem ?_ (F_.1 List.nodup_range)
  intro i j hi hj hij he
  have hi:=j_.1 hi
  have hj:=j_.1 hj
  have:=href _ _ (hrep i hi).1 (hrep j hj).1 he
  rw[(hrep i hi).2,(hrep j hj).2]at this
  omega
 have hall:∀x:Int,0<=x->x<(m:Int)->x∈(k_ m).map λi=>b' (rep i):=by
  intro x h0 hx
  refine h_ λhn=>?_
  have hm:x∈(k_ m).map fun(i:Nat)=>(i:Int):=x_.2 ⟨x.toNat,j_.2 (by omega),by omega⟩
  have:=kG ((k_ m).map λi=>b' (rep i)) (((k_ m).map fun(i:Nat)=>(i:Int)).erase x) hnd λy hy=>by
   obtain⟨i,hi,rfl⟩:=x_.1 hy
   have hi:=j_.1 hi
   have hbi:=hb' _ (hrep i hi).1
   refine(R_ ?_).2 (x_.2 ⟨(b' (rep i)).toNat,j_.2 (by omega),by omega⟩)
   rintro rfl
   exact hn (x_.2 ⟨i,j_.2 hi,rfl⟩)
  have h3:=I_ hm
  have h4:=K_ hm
  simp only[List.length_map,List.length_range]at this h3 h4
  omega
 have key:∀u,P u->b' u=b' (rep (b u).toNat):=by
  intro u hu
  obtain⟨i,hi,he⟩:=x_.1 (hall _ (hb' u hu).1 (hb' u hu).2)
  have hi:=j_.1 hi
  have:=href _ _ (hrep i hi).1 hu he
  rw[(hrep i hi).2]at this
  rw[<-this]
  simp only[Int.toNat_natCast]
  exact he.symm
 rw[key s h1,key t h2,h]
variable [DecidableEq σ] [DecidableEq σ']
theorem Qm{Rel:σ->σ'->Prop}{g:σ'->β'->σ'}{h:β->β'}{x:σ}{y:σ'}{i:Nat}(hinj:∀a a' b b',Rel a b->Rel a' b'->(a=a'↔b=b')):
 ∀(l:List β),(∀c∈l,Rel (f x c) (g y (h c)))->∀(L:List σ) (L':List σ') (T:List (Nat×β)) (R:List Nat),F2 Rel L L'->
 F2 Rel (l.foldl (bb f x i) (L,T,R)).1 ((l.map h).foldl (bb g y i) (L',T.map (λt=>(t.1,h t.2)),R)).1/\
 ((l.map h).foldl (bb g y i) (L',T.map (λt=>(t.1,h t.2)),R)).2.1=(l.foldl (bb f x i) (L,T,R)).2.1.map (λt=>(t.1,h t.2))/\
 ((l.map h).foldl (bb g y i) (L',T.map (λt=>(t.1,h t.2)),R)).2.2=(l.foldl (bb f x i) (L,T,R)).2.2
 |[],_,_,_,_,_,hL=>⟨hL,rfl,rfl⟩
 |c::l,hst,L,L',T,R,hL=>by
  have hc:=hst c (a_ ..)
  have hmem:∀(L:List σ) (L':List σ'),F2 Rel L L'->(f x c∈L↔g y (h c)∈L')/\pos L (f x c)=pos L' (g y (h c)):=by
   intro L L' hL
   induction hL with
   |nil=>simp[pos]
   | @cons a b L L' hab hL ih=>
    have he:=hinj a (f x c) b (g y (h c)) hab hc
    by_cases e:a=f x c
    ·have e':=he.1 e
     subst e e'
     exact⟨by simp,by rw[pos_eq,pos_eq]⟩
    ·have e':¬b=g y (h c):=λh=>e (he.2 h)
     refine⟨?_,by rw[FX e,FX e',ih.2]⟩
     simp only[l_,ih.1]
     constructor
     ·rintro(h|h)
      ·exact absurd h.symm e
      ·exact .inr h
     ·rintro(h|h)
      ·exact absurd h.symm e'
      ·exact .inr h
  have hm:=hmem L L' hL
  have hlen:L.length=L'.length:=F2.len hL
  have ih:=Qm (Rel:=Rel) (g:=g) (h:=h) (x:=x) (y:=y) (i:=i) hinj l λc' hc'=>hst c' (b_ _ hc')
  rw[n_,p_,n_]
  by_cases hin:f x c∈L
  ·have hin':=hm.1.1 hin
   have e1:bb f x i (L,T,R) c=(L,T,R++[pos L (f x c)]):=by simp only[bb,if_pos hin]
   have e2:bb g y i (L',T.map (λt=>(t.1,h t.2)),R) (h c)=(L',T.map (λt=>(t.1,h t.2)),R++[pos L (f x c)]):=by simp only[bb,if_pos hin',hm.2]
   rw[e1,e2]
   exact ih L L' T _ hL
  ·have hin':g y (h c)∉L':=λe=>hin (hm.1.2 e)
   have e1:bb f x i (L,T,R) c=(L++[f x c],T++[(i,c)],R++[L.length]):=by simp only[bb,if_neg hin]
   have e2:bb g y i (L',T.map (λt=>(t.1,h t.2)),R) (h c)=(L'++[g y (h c)],(T++[(i,c)]).map (λt=>(t.1,h t.2)),R++[L.length]):=by
    simp only[bb,if_neg hin',hlen,C_,p_,ab_]
   rw[e1,e2]
   refine ih _ _ _ _ (F2.app hL ?_)
   exact .cons hc .nil
theorem Az{Rel:σ->σ'->Prop}{g:σ'->β'->σ'}{h:β->β'}{s0:σ}{t0:σ'}(h0:Rel s0 t0)(hst:∀x y c,c∈ls->Rel x y->Rel (f x c) (g y (h c)))
 (hinj:∀a a' b b',Rel a b->Rel a' b'->(a=a'↔b=b')):∀i,F2 Rel (bD f s0 ls i).1 (bD g t0 (ls.map h) i).1/\
 (bD g t0 (ls.map h) i).2.1=(bD f s0 ls i).2.1.map (λt=>(t.1,h t.2))/\(bD g t0 (ls.map h) i).2.2=(bD f s0 ls i).2.2
 |0=>⟨.cons h0 .nil,rfl,rfl⟩
 |i+1=>by
  obtain⟨h1,h2,h3⟩:=Az h0 hst hinj i
  have hlen:=F2.len h1
  by_cases hi:i<(bD f s0 ls i).1.length
  ·have hx:=f_ hi
   have hy:=f_ (l:=(bD g t0 (ls.map h) i).1) (i:=i) (by omega)
   rw[b6 hx,b6 hy,h2,h3]
   have hr:Rel (bD f s0 ls i).1[i] (bD g t0 (ls.map h) i).1[i]:=F2.get h1 hx hy
   obtain⟨g1,g2,g3⟩:=Qm (f:=f) (g:=g) (h:=h) (i:=i) (x:=(bD f s0 ls i).1[i]) (y:=(bD g t0 (ls.map h) i).1[i]) hinj ls (λc hc=>hst _ _ c hc hr) _ _ (bD f s0 ls i).2.1 [] h1
   exact⟨g1,g2,by rw[g3]⟩
  ·rw[cI (i_ (by omega)),cI (i_ (by omega))]
   exact⟨h1,h2,h3⟩
def cH(L:List σ)(ys:List σ):List σ:=ys.foldl (λL y=>if y∈L then L else L++[y]) L
theorem uk{x:σ}{i:Nat}:∀(l:List β) (st:List σ×List (Nat×β)×List Nat),(l.foldl (bb f x i) st).1=cH st.1 (l.map (f x))
 |[],_=>rfl
 |c::l,st=>by
  rw[n_,uk l,p_]
  unfold cH
  rw[n_]
  congr 1
  unfold bb
  split<;>rfl
theorem sr(L ys zs:List σ):cH L (ys++zs)=cH (cH L ys) zs:=q_
theorem EK:∀(ys L:List σ),(∀x∈L,x∈cH L ys)/\∀y∈ys,y∈cH L ys
 |[],L=>⟨λ_ h=>h,by simp⟩
 |y::ys,L=>by
  have h1:y∈(if y∈L then L else L++[y]):=by split<;>simp_all
  have h2:∀x∈L,x∈(if y∈L then L else L++[y]):=λx hx=>by split<;>simp_all
  have ih:=EK ys (if y∈L then L else L++[y])
  refine⟨λx hx=>ih.1 x (h2 x hx),λz hz=>?_⟩
  rcases l_.1 hz with rfl|hz
  ·exact ih.1 _ h1
  ·exact ih.2 z hz
theorem If{L:List σ}{y:σ}(h:y∈L):cH L [y]=L:=by simp[cH,h]
theorem Nv{L:List σ}{y:σ}(h:y∉L):cH L [y]=L++[y]:=by simp[cH,h]
theorem yj(y:Nat->σ)(kp:Nat->Bool):∀(k:Nat) (L:List σ),(∀c,c<k->kp c=false->0<c/\y c=y (c - 1))->cH L (((k_ k).filter kp).map y)=cH L ((k_ k).map y)
 |0,_,_=>rfl
 |k+1,L,h=>by
  have ih:=yj y kp k L λc hc=>h c (by omega)
  rw[List.range_succ,List.filter_append,C_,C_,sr,sr,ih]
  cases hk:kp k
  ·obtain⟨h0,he⟩:=h k (by omega) hk
   have:y k∈cH L ((k_ k).map y):=(EK _ _).2 _ (x_.2 ⟨k - 1,j_.2 (by omega),he.symm⟩)
   rw[show [k].filter kp=[]from by simp[hk]]
   simp only[ab_,p_]
   rw[If this];rfl
  ·rw[show [k].filter kp=[k]from by simp[hk]]
theorem B0{f:σ->Nat->σ}{s0:σ}{k:Nat}{kp:Nat->Bool}:∀i,(∀x∈(bD f s0 (k_ k) i).1,∀c,c<k->kp c=false->0<c/\f x c=f x (c - 1))->
 (bD f s0 ((k_ k).filter kp) i).1=(bD f s0 (k_ k) i).1
 |0,_=>rfl
 |i+1,h=>by
  have ih:=B0 (f:=f) (s0:=s0) (k:=k) (kp:=kp) i λx hx=>h x ((iM i).1.subset hx)
  by_cases hi:i<(bD f s0 (k_ k) i).1.length
  ·have hx:=f_ hi
   have hx':(bD f s0 ((k_ k).filter kp) i).1[i]? =some (bD f s0 (k_ k) i).1[i]:=by rw[ih];exact hx
   rw[b6 hx,b6 hx']
   simp only
   rw[uk,uk]
   simp only[ih]
   exact yj _ _ _ _ λc hc hk=>h _ ((iM i).1.subset (List.getElem_mem hi)) c hc hk
  ·rw[cI (f:=f) (ls:=k_ k) (i_ (by omega)),cI (i_ (by rw[ih];omega)),ih]
end
open Go Go.Ev Go.Lib
def FG(b:UInt8):Prop:=48<=b.toNat/\b.toNat<=57
instance (b:UInt8):Decidable (FG b):=inferInstanceAs (Decidable (_/\_))
def wT(l:List UInt8):Nat:=l.foldl (λn b=>10*n+(b.toNat - 48)) 0
theorem Cr(l:List UInt8)(b:UInt8):wT (l++[b])=10*wT l+(b.toNat - 48):=by simp[wT,q_]
theorem Ip{n:Nat}(h:n<10):(UInt8.ofNat (48+n)).toNat=48+n:=by simp;omega
theorem xf:∀(n:Nat),(∀b∈decDigits n,FG b)/\wT (decDigits n)=n/\0<(decDigits n).length/\(1<(decDigits n).length->((decDigits n).getD 0 0).toNat≠48)/\(0<n->((decDigits n).getD 0 0).toNat≠48):=by
 intro n
 induction n using M_ with
 |ind n ih=>
  rw[decDigits]
  by_cases h:n<10
  ·rw[dif_pos h]
   have:=Ip h
   refine⟨λb hb=>?_,?_,by simp,by simp,?_⟩
   ·simp only[u_]at hb;subst hb;unfold FG;omega
   ·show 10*0+((UInt8.ofNat (48+n)).toNat - 48)=n;omega
   ·intro h0;show(UInt8.ofNat (48+n)).toNat≠48;omega
  ·rw[dif_neg h]
   obtain⟨h1,h2,h3,h4,h5⟩:=ih (n/10) (by omega)
   have hd:=Ip (show n%10<10 by omega)
   have hg:(decDigits (n/10)++[UInt8.ofNat (48+n%10)]).getD 0 0=(decDigits (n/10)).getD 0 0:=by
    simp only[U_,d_ h3]
   refine⟨λb hb=>?_,?_,by simp,λ_=>?_,λ_=>?_⟩
   ·simp only[g_,u_]at hb
    rcases hb with hb|rfl
    ·exact h1 b hb
    ·unfold FG;omega
   ·rw[Cr,h2,hd];omega
   ·rw[hg];exact h5 (by omega)
   ·rw[hg];exact h5 (by omega)
theorem Ag(n:Nat):∀b∈decDigits n,FG b:=(xf n).1
theorem Lv(n:Nat):wT (decDigits n)=n:=(xf n).2.1
theorem Lu(n:Nat):0<(decDigits n).length:=(xf n).2.2.1
theorem QR(n:Nat)(h:1<(decDigits n).length):((decDigits n).getD 0 0).toNat≠48:=(xf n).2.2.2.1 h
theorem Lt:∀(n k:Nat),n<10^(k+1)->(decDigits n).length<=k+1
 |n,0,h=>by
  rw[decDigits,dif_pos (by omega)]
  simp
 |n,k+1,h=>by
  rw[decDigits]
  split
  ·simp
  ·have:=Lt (n/10) k (by rw[Nat.pow_succ]at h;omega)
   simp only[c_,o_]
   omega
theorem tP{n:Nat}(h:n<=4294967295):(decDigits n).length<=10:=Lt n 9 (by omega)
theorem takeD{l:List UInt8}{k:Nat}(h:k<l.length):l.take (k+1)=l.take k++[l.getD k 0]:=by
 have e:l.getD k 0=l[k]:=by simp[U_,f_ h]
 rw[List.take_succ_eq_append_getElem h,e]
theorem Bf(l:List UInt8):∀(d k:Nat),k+d=l.length->wT (l.take k)<=wT l
 |0,k,h=>by rw[y_ (by omega)];exact T_ _
 |d+1,k,h=>by
  have h1:=Bf l d (k+1) (by omega)
  rw[takeD (by omega),Cr]at h1
  omega
theorem Jd{l:List UInt8}{k:Nat}(h:k<=l.length):wT (l.take k)<=wT l:=Bf l (l.length - k) k (by omega)
def sa(p:Int):Rx->Bool
 | .mk k _ _ ks=>bif k==4 then !ks.isEmpty else bif k==3 then p != 4 else(k==5||k==6||k==7)&&(p==5||p==6||p==7)
def t7(w:Bool)(l:List UInt8):List UInt8:=bif w then 40::(l++[41])else l
def jn(sep:UInt8):List (List UInt8)->List UInt8
 |[]=>[]
 |[x]=>x
 |x::y::l=>x++sep::jn sep (y::l)
mutual
def iY:Rx->List UInt8
 | .mk k lo hi ks=>
  if k=0 then [40,41]else if k=2 then [46]
  else if k=1 then(if lo=hi then decDigits lo.toNat else 91::(decDigits lo.toNat++45::(decDigits hi.toNat++[93])))
  else if k=5 then(Kd 5 ks).headD []++[42]else if k=6 then(Kd 6 ks).headD []++[43]else if k=7 then(Kd 7 ks).headD []++[63]
  else if k=4 then(if ks=[]then [33]else jn 124 (Kd 4 ks))else jn 32 (Kd 3 ks)
def Kd:Int->List Rx->List (List UInt8)
 |_,[]=>[]
 |p,r::rs=>t7 (sa p r) (iY r)::Kd p rs
end
def inn(p:Int)(r:Rx):List UInt8:=t7 (sa p r) (iY r)
theorem fZ(p:Int):∀ks:List Rx,Kd p ks=ks.map (inn p)
 |[]=>by simp[Kd]
 |r::rs=>by simp[Kd,fZ p rs,inn]
theorem PL(sep:UInt8):∀(l:List (List UInt8)) (x:List UInt8),jn sep (l++[x])=if l=[]then x else jn sep l++sep::x
 |[],x=>by simp[jn]
 |[y],x=>by simp[jn]
 |y::z::l,x=>by
  have:=PL sep (z::l) x
  simp only[r_,jn]at*
  rw[this]
  simp
theorem N5(sep:UInt8):∀(l:List (List UInt8)),(jn sep l).length<=(l.map λx=>x.length+1).sum
 |[]=>by simp[jn]
 |[x]=>by simp[jn]
 |x::y::l=>by
  have:=N5 sep (y::l)
  simp only[jn,c_,s_,p_,W_]at*
  omega
theorem PH(p:Int)(r:Rx):(inn p r).length<=(iY r).length+2:=by
 unfold inn t7
 cases sa p r<;>simp
theorem Kc:∀(r:Rx),cO r=true->(iY r).length+3<=26*sz r:=by
 refine f8 λk lo hi ks ih hw=>?_
 obtain⟨hn,hks⟩:=well_iff.1 hw
 have hsum:∀p:Int,∀l:List Rx,(∀r∈l,r∈ks)->((l.map (inn p)).map λx=>x.length+1).sum<=26*wS l:=by
  intro p l
  induction l with
  |nil=>intro _;simp
  |cons r l il=>
   intro h
   have h1:=ih r (h r (a_ ..)) (hks r (h r (a_ ..)))
   have h2:=il λx hx=>h x (b_ _ hx)
   have h3:=PH p r
   simp only[p_,W_,wS]at*
   omega
 have hd:∀p:Int,((ks.map (inn p)).headD []).length<=26*wS ks:=by
  intro p
  have h1:=hsum p ks λ_ h=>h
  cases ks with
  |nil=>simp
  |cons r l=>simp only[p_,ai_,W_]at*;omega
 have hj:∀(p:Int) (s:UInt8),(jn s (ks.map (inn p))).length<=26*wS ks:=λp s=>Nat.le_trans (N5 s _) (hsum p ks λ_ h=>h)
 have hlo:k=1->(decDigits lo.toNat).length<=10/\(decDigits hi.toNat).length<=10:=λe=>by
  have:=hn.rng e
  exact⟨tP (by omega),tP (by omega)⟩
 simp only[iY,fZ,sz]
 split
 ·simp;omega
 split
 ·simp;omega
 split
 ·rename_i h
  have:=hlo h
  split<;>simp<;>omega
 split
 ·have:=hd 5;simp;simp at this;omega
 split
 ·have:=hd 6;simp;simp at this;omega
 split
 ·have:=hd 7;simp;simp at this;omega
 split
 ·split
  ·simp;omega
  ·have:=hj 4 124;omega
 ·have:=hj 3 32;omega
def hd(t:List UInt8):Nat:=(t.headD 0).toNat
def pk(s:List UInt8)(i:Nat):Nat:=(s.getD i 0).toNat
theorem mh(s:List UInt8)(i:Nat):pk s i=hd (s.drop i):=by
 unfold pk hd
 rw[List.headD_eq_head?_getD,List.head?_drop];rfl
theorem gP{s:List UInt8}{i:Nat}(h:pk s i≠0):i<s.length:=by
 apply h_
 intro hn
 apply h
 unfold pk
 rw[U_,i_ (by omega)];rfl
theorem WC{s:List UInt8}{i:Nat}(h:i<s.length):pk s i=s[i].toNat:=by
 unfold pk
 rw[U_,f_ h];rfl
theorem WB{s:List UInt8}{i:Nat}(h:¬i<s.length):pk s i=0:=by
 unfold pk
 rw[U_,i_ (by omega)];rfl
theorem iK{s a t:List UInt8}{i:Nat}(h:s.drop i=a++t):s.drop (i+a.length)=t:=by
 rw[<-List.drop_drop,h,List.drop_left]
theorem vU{s t:List UInt8}{b:UInt8}{i:Nat}(h:s.drop i=b::t):s.drop (i+1)=t:=iK (a:=[b]) h
theorem J1{a t:List UInt8}(h:a≠[]):hd (a++t)=hd a:=by
 cases a with
 |nil=>exact absurd rfl h
 |cons b a=>rfl
def dg(c:Nat):Prop:=48<=c/\c<=57
section
variable (num:Nat->Option (Int×Nat)) (s:List UInt8)
def iQ(alt:Nat->Option (Rx×Nat))(i:Nat):Option (Rx×Nat):=
 if pk s i=46 then some (.mk 2 0 0 [],i+1)
 else if pk s i=33 then some (.mk 4 0 0 [],i+1)
 else if pk s i=91 then
  match num (i+1)with
  |none=>none
  |some (lo,j)=>if pk s j=45 then(match num (j+1)with
   |none=>none
   |some (up,k)=>if pk s k=93 then some (.mk 1 lo up [],k+1)else none)else none
 else if pk s i=40 then
  if pk s (i+1)=41 then some (.mk 0 0 0 [],i+2)else
  match alt (i+1)with
  |none=>none
  |some (r,j)=>if pk s j=41 then some (r,j+1)else none
 else match num i with
  |none=>none
  |some (n,j)=>some (.mk 1 n n [],j)
def AS(alt:Nat->Option (Rx×Nat))(i:Nat):Option (Rx×Nat):=
 match iQ num s alt i with
 |none=>none
 |some (r,j)=>if pk s j=42 then some (.mk 5 0 0 [r],j+1)else if pk s j=43 then some (.mk 6 0 0 [r],j+1)else if pk s j=63 then some (.mk 7 0 0 [r],j+1)else some (r,j)
def kH(sep:Nat)(one:Nat->Option (Rx×Nat)):Nat->List Rx->Nat->Option (List Rx×Nat)
 |0,_,_=>none
 |f+1,acc,i=>match one i with
  |none=>none
  |some (r,j)=>if pk s j=sep then kH sep one f (acc++[r]) (j+1)else some (acc++[r],j)
def Q0(k:Int)(l:List Rx):Rx:=match l with
 |[x]=>x
 |l=>.mk k 0 0 l
def Hu(sep:Nat)(k:Int)(one:Nat->Option (Rx×Nat))(i:Nat):Option (Rx×Nat):=match kH s sep one (s.length+1 - i) [] i with
 |none=>none
 |some (l,j)=>some (Q0 k l,j)
def Rm(alt:Nat->Option (Rx×Nat))(i:Nat):Option (Rx×Nat):=Hu s 32 3 (AS num s alt) i
def AR:Nat->Nat->Option (Rx×Nat)
 |0,_=>none
 |b+1,i=>Hu s 124 4 (Rm num s (AR b)) i
end
structure NumOk(s:List UInt8)(num:Nat->Option (Int×Nat)):Prop where
 bnd:∀i n j,i<=s.length->num i=some (n,j)->i<j/\j<=s.length
 txt:∀i (m:Nat) t,s.drop i=decDigits m++t->m<=4294967295->¬dg (hd t)->num i=some ((m:Int),i+(decDigits m).length)
def Qw(s:List UInt8)(one:Nat->Option (Rx×Nat)):Prop:=∀i r j,i<=s.length->one i=some (r,j)->i<j/\j<=s.length/\sz r<=2*(j - i)
section
variable {num:Nat->Option (Int×Nat)} {s:List UInt8}
theorem SJ(hn:NumOk s num){alt:Nat->Option (Rx×Nat)}(ha:Qw s alt):Qw s (iQ num s alt):=by
 intro i r j hi h
 unfold iQ at h
 have one:sz (.mk 0 0 0 [])=1:=rfl
 split at h
 ·rename_i h1
  have:=gP (s:=s) (i:=i) (by omega)
  cases h;refine⟨by omega,by omega,?_⟩;show 1<=_;omega
 split at h
 ·have:=gP (s:=s) (i:=i) (by omega)
  cases h;refine⟨by omega,by omega,?_⟩;show 1<=_;omega
 split at h
 ·have:=gP (s:=s) (i:=i) (by omega)
  split at h
  ·cases h
  rename_i lo a e
  have b1:=hn.bnd _ _ _ (by omega) e
  split at h
  ·have:=gP (s:=s) (i:=a) (by omega)
   split at h
   ·cases h
   rename_i up b e2
   have b2:=hn.bnd _ _ _ (by omega) e2
   split at h
   ·have:=gP (s:=s) (i:=b) (by omega)
    cases h;refine⟨by omega,by omega,?_⟩;show 1<=_;omega
   ·cases h
  ·cases h
 split at h
 ·have:=gP (s:=s) (i:=i) (by omega)
  split at h
  ·have:=gP (s:=s) (i:=i+1) (by omega)
   cases h;refine⟨by omega,by omega,?_⟩;show 1<=_;omega
  split at h
  ·cases h
  rename_i r2 a e
  obtain⟨b1,b2,b3⟩:=ha _ _ _ (by omega) e
  split at h
  ·have:=gP (s:=s) (i:=a) (by omega)
   cases h;exact⟨by omega,by omega,by omega⟩
  ·cases h
 split at h
 ·cases h
 rename_i n a e
 have b1:=hn.bnd _ _ _ hi e
 cases h;refine⟨by omega,by omega,?_⟩;show 1<=_;omega
theorem EU(hn:NumOk s num){alt:Nat->Option (Rx×Nat)}(ha:Qw s alt):Qw s (AS num s alt):=by
 intro i r j hi h
 unfold AS at h
 split at h
 ·cases h
 rename_i r2 a e
 obtain⟨b1,b2,b3⟩:=SJ hn ha _ _ _ hi e
 have hs:∀k:Int,sz (.mk k 0 0 [r2])=sz r2+1:=λk=>by simp only[sz,wS];omega
 split at h
 ·have:=gP (s:=s) (i:=a) (by omega)
  cases h;rw[hs];exact⟨by omega,by omega,by omega⟩
 split at h
 ·have:=gP (s:=s) (i:=a) (by omega)
  cases h;rw[hs];exact⟨by omega,by omega,by omega⟩
 split at h
 ·have:=gP (s:=s) (i:=a) (by omega)
  cases h;rw[hs];exact⟨by omega,by omega,by omega⟩
 ·cases h;exact⟨b1,b2,b3⟩
theorem Li{one:Nat->Option (Rx×Nat)}(ho:Qw s one){sep:Nat}(h0:sep≠0):∀(f:Nat) (acc:List Rx) (i:Nat) (l:List Rx) (j:Nat),i<=s.length->kH s sep one f acc i=some (l,j)->
 i<j/\j<=s.length/\wS l+2*l.length<=wS acc+2*acc.length+2*(j - i)+2/\acc.length<l.length
 |0,_,_,_,_,_,h=>by simp[kH]at h
 |f+1,acc,i,l,j,hi,h=>by
  rw[kH]at h
  split at h
  ·cases h
  rename_i r a e
  obtain⟨b1,b2,b3⟩:=ho _ _ _ hi e
  have e1:wS (acc++[r])=wS acc+sz r:=by rw[Kw];simp[wS]
  split at h
  ·have:=gP (s:=s) (i:=a) (by omega)
   obtain⟨c1,c2,c3,c4⟩:=Li ho h0 f _ _ _ _ (by omega) h
   rw[e1,c_,o_]at c3
   rw[c_,o_]at c4
   exact⟨by omega,by omega,by omega,by omega⟩
  ·cases h
   rw[e1,c_,o_]
   exact⟨by omega,by omega,by omega,by omega⟩
theorem Ju{one:Nat->Option (Rx×Nat)}(ho:Qw s one){sep:Nat}(h0:sep≠0)(k:Int):Qw s (Hu s sep k one):=by
 intro i r j hi h
 unfold Hu at h
 split at h
 ·cases h
 rename_i l a e
 obtain⟨b1,b2,b3,b4⟩:=Li ho h0 _ _ _ _ _ hi e
 cases h
 refine⟨b1,b2,?_⟩
 unfold Q0
 split
 ·simp[wS]at b3;omega
 ·rename_i hne
  have:2<=l.length:=by
   match l,hne,b4 with
   |[],_,b4=>simp at b4
   |[x],hne,_=>exact absurd rfl (hne x)
   |x::y::l,_,_=>simp
  simp only[sz]
  simp[wS]at b3
  omega
theorem Jt(hn:NumOk s num):∀b:Nat,Qw s (AR num s b)
 |0=>λi r j _ h=>by simp[AR]at h
 |b+1=>λi r j hi h=>by
  rw[AR]at h
  exact Ju (one:=Rm num s (AR num s b)) (λi r j hi h=>Ju (one:=AS num s (AR num s b)) (EU hn (Jt hn b)) (by decide) 3 i r j hi h) (by decide) 4 i r j hi h
end
mutual
def KR:Rx->Nat
 | .mk _ _ _ ks=>1+NQ ks
def NQ:List Rx->Nat
 |[]=>0
 |r::rs=>max (KR r) (NQ rs)
end
theorem Ed:∀{ks:List Rx} {r:Rx},r∈ks->KR r<=NQ ks
 |x::ks,r,h=>by
  simp only[NQ]
  rcases l_.1 h with rfl|h
  ·omega
  ·have:=Ed h;omega
theorem S2(w:Bool)(l t:List UInt8):t7 w l++t=bif w then 40::(l++41::t)else l++t:=by
 cases w<;>simp[t7]
def Xg(c:Nat):Prop:=dg c\/c=46\/c=33\/c=91\/c=40
theorem JG(n:Nat):decDigits n≠[]/\dg (hd (decDigits n)):=by
 have h:=Lu n
 have hd0:=Ag n
 cases e:decDigits n with
 |nil=>rw[e]at h;simp at h
 |cons b l=>
  rw[e]at hd0
  exact⟨by simp,hd0 b (by simp)⟩
theorem Em:∀(r:Rx),cO r=true->iY r≠[]/\Xg (hd (iY r)):=by
 refine f8 λk lo up ks ih hw=>?_
 obtain⟨hn,hks⟩:=well_iff.1 hw
 have hin:∀p:Int,∀x∈ks,inn p x≠[]/\Xg (hd (inn p x)):=λp x hx=>by
  obtain⟨h1,h2⟩:=ih x hx (hks x hx)
  unfold inn t7
  cases sa p x
  ·exact⟨h1,h2⟩
  ·exact⟨by simp,.inr (.inr (.inr (.inr rfl)))⟩
 have hh:∀p:Int,∀t:List UInt8,ks≠[]->(ks.map (inn p)).headD []++t≠[]/\Xg (hd ((ks.map (inn p)).headD []++t)):=λp t h=>by
  cases ks with
  |nil=>exact absurd rfl h
  |cons x l=>
   obtain⟨h1,h2⟩:=hin p x (a_ ..)
   simp only[p_,ai_]
   rw[J1 h1]
   exact⟨by simp[h1],h2⟩
 have hj:∀p:Int,∀c:UInt8,ks≠[]->jn c (ks.map (inn p))≠[]/\Xg (hd (jn c (ks.map (inn p)))):=λp c h=>by
  cases ks with
  |nil=>exact absurd rfl h
  |cons x l=>
   obtain⟨h1,h2⟩:=hin p x (a_ ..)
   cases l with
   |nil=>exact⟨h1,h2⟩
   |cons y l=>
    simp only[p_,jn]
    rw[J1 h1]
    exact⟨by simp[h1],h2⟩
 have hne:(k=5\/k=6\/k=7)->ks≠[]:=λh e=>by
  have:=hn.one h
  rw[e]at this;simp at this
 have hne3:k=3->ks≠[]:=λh e=>by
  have:=hn.seq h
  rw[e]at this;simp at this
 simp only[iY,fZ]
 split
 ·exact⟨by simp,.inr (.inr (.inr (.inr rfl)))⟩
 split
 ·exact⟨by simp,.inr (.inl rfl)⟩
 split
 ·split
  ·exact⟨(JG _).1,.inl (JG _).2⟩
  ·exact⟨by simp,.inr (.inr (.inr (.inl rfl)))⟩
 split
 ·exact hh 5 _ (hne (by omega))
 split
 ·exact hh 6 _ (hne (by omega))
 split
 ·exact hh 7 _ (hne (by omega))
 split
 ·split
  ·exact⟨by simp,.inr (.inr (.inl rfl))⟩
  ·rename_i h;exact hj 4 124 h
 ·rcases hn.known with h|h|h|h|h|h|h|h<;>try exact absurd h (by assumption)
  exact hj 3 32 (hne3 h)
def comp:Rx->Bool
 | .mk k _ _ ks=>bif k==4 then !ks.isEmpty else(k==3||k==5||k==6||k==7)
def E1:Rx->Bool
 | .mk k _ _ ks=>bif k==4 then !ks.isEmpty else k==3
def E2:Rx->Bool
 | .mk k _ _ ks=>bif k==4 then !ks.isEmpty else false
section
variable {num:Nat->Option (Int×Nat)} {s:List UInt8}
theorem Pj(hn:NumOk s num){alt:Nat->Option (Rx×Nat)}{r:Rx}(hw:cO r=true)
 (ha:comp r=true->∀i t,s.drop i=iY r++t->(hd t=0\/hd t=41)->alt i=some (r,i+(iY r).length)) {i:Nat} {t:List UInt8}
 (h:s.drop i=t7 (comp r) (iY r)++t) (hf:¬dg (hd t)):iQ num s alt i=some (r,i+(t7 (comp r) (iY r)).length):=by
 cases hc:comp r with
 |true=>
  rw[hc,S2]at h
  have h:s.drop i=40::(iY r++41::t):=h
  have p0:pk s i=40:=by rw[mh,h];rfl
  have h1:=vU h
  obtain⟨f1,f2⟩:=Em r hw
  have p1:pk s (i+1)≠41:=by
   rw[mh,h1,J1 f1]
   intro e
   rw[e]at f2
   revert f2;unfold Xg dg;omega
  have h2:=ha hc (i+1) (41::t) h1 (.inr rfl)
  have p2:pk s (i+1+(iY r).length)=41:=by rw[mh,iK h1];rfl
  unfold iQ
  rw[if_neg (by omega),if_neg (by omega),if_neg (by omega),if_pos p0,if_neg p1,h2]
  simp only
  rw[if_pos p2]
  simp[t7];omega
 |false=>
  rw[hc]at h
  have h:s.drop i=iY r++t:=h
  show _=some (r,i+(iY r).length)
  obtain⟨k,lo,up,ks⟩:=r
  obtain⟨nd,hks⟩:=well_iff.1 hw
  rcases nd.known with rfl|rfl|rfl|rfl|rfl|rfl|rfl|rfl
  ·have e:=len_nil (nd.leaf (by simp));subst e
   obtain⟨rfl,rfl⟩:=nd.zero (by decide)
   have h:s.drop i=40::41::t:=h
   have p0:pk s i=40:=by rw[mh,h];rfl
   have p1:pk s (i+1)=41:=by rw[mh,vU h];rfl
   unfold iQ
   rw[if_neg (by omega),if_neg (by omega),if_neg (by omega),if_pos p0,if_pos p1];rfl
  ·have e:=len_nil (nd.leaf (by simp));subst e
   obtain⟨r1,r2,r3⟩:=nd.rng rfl
   by_cases hl:lo=up
   ·subst hl
    have ep:iY (.mk 1 lo lo [])=decDigits lo.toNat:=by simp[iY]
    rw[ep]at h⊢
    obtain⟨d1,d2⟩:=JG lo.toNat
    have p0:dg (pk s i):=by rw[mh,h,J1 d1];exact d2
    unfold dg at p0
    have hm:=hn.txt i lo.toNat t h (by omega) hf
    unfold iQ
    rw[if_neg (by omega),if_neg (by omega),if_neg (by omega),if_neg (by omega),hm]
    simp only
    rw[E_ r1]
   ·have ep:iY (.mk 1 lo up [])=91::(decDigits lo.toNat++45::(decDigits up.toNat++[93])):=by simp[iY,hl]
    rw[ep]at h⊢
    have h:s.drop i=91::(decDigits lo.toNat++45::(decDigits up.toNat++93::t)):=by rw[h];simp
    have p0:pk s i=91:=by rw[mh,h];rfl
    have h1:=vU h
    have m1:=hn.txt _ lo.toNat _ h1 (by omega) (by show ¬dg 45;unfold dg;omega)
    have h2:=iK h1
    have p2:pk s (i+1+(decDigits lo.toNat).length)=45:=by rw[mh,h2];rfl
    have h3:=vU h2
    have m2:=hn.txt _ up.toNat _ h3 (by omega) (by show ¬dg 93;unfold dg;omega)
    have p3:pk s (i+1+(decDigits lo.toNat).length+1+(decDigits up.toNat).length)=93:=by rw[mh,iK h3];rfl
    unfold iQ
    rw[if_neg (by omega),if_neg (by omega),if_pos p0,m1]
    simp only
    rw[if_pos p2,m2]
    simp only
    rw[if_pos p3,E_ r1,E_ (by omega)]
    simp;omega
  ·have e:=len_nil (nd.leaf (by simp));subst e
   obtain⟨rfl,rfl⟩:=nd.zero (by decide)
   have h:s.drop i=46::t:=h
   have p0:pk s i=46:=by rw[mh,h];rfl
   unfold iQ
   rw[if_pos p0];rfl
  ·exact absurd hc (by simp[comp])
  ·obtain⟨rfl,rfl⟩:=nd.zero (by decide)
   have e:ks=[]:=by simpa[comp]using hc
   subst e
   have h:s.drop i=33::t:=by rw[h];simp[iY]
   have p0:pk s i=33:=by rw[mh,h];rfl
   unfold iQ
   rw[if_neg (by omega),if_pos p0];simp[iY]
  ·exact absurd hc (by simp[comp])
  ·exact absurd hc (by simp[comp])
  ·exact absurd hc (by simp[comp])
def f2(c:Nat):Prop:=c=0\/c=41\/c=124\/c=32
def Sk(s:List UInt8)(alt:Nat->Option (Rx×Nat))(b:Nat):Prop:=∀r,cO r=true->KR r<=b->∀i t,s.drop i=iY r++t->(hd t=0\/hd t=41)->alt i=some (r,i+(iY r).length)
theorem PK(hn:NumOk s num){alt:Nat->Option (Rx×Nat)}{b:Nat}(ha:Sk s alt b){r:Rx}(hw:cO r=true)(hb:KR r<=b+1)(hb2:E1 r=true->KR r<=b){i:Nat}{t:List UInt8}
 (h:s.drop i=inn 3 r++t) (hf:f2 (hd t)):AS num s alt i=some (r,i+(inn 3 r).length):=by
 obtain⟨k,lo,up,ks⟩:=r
 obtain⟨nd,hks⟩:=well_iff.1 hw
 have hnd:¬dg (hd t):=by unfold f2 at hf;unfold dg;omega
 by_cases hk:k=5\/k=6\/k=7
 ·obtain⟨x,rfl⟩:=lP (nd.one hk)
  obtain⟨rfl,rfl⟩:=nd.zero (by omega)
  have hx:x∈[x]:=a_ ..
  have hd1:=Ed hx
  have hdx:KR x<=b:=by simp only[KR]at hb;omega
  have hwr:∀p:Int,(p=5\/p=6\/p=7)->inn p x=t7 (comp x) (iY x):=λp hp=>by
   obtain⟨a,_,_,l⟩:=x
   unfold inn
   have:((p==5||p==6)||p==7)=true:=by simp;omega
   simp only[sa,comp,this,Bool.and_true]
   have h3:(p != 4)=true:=by simp;omega
   rw[h3]
   cases(a==4)<;>cases(a==3)<;>simp
  have hsg:∃c:UInt8,inn 3 (.mk k 0 0 [x])=t7 (comp x) (iY x)++[c]/\(c.toNat=42/\k=5\/c.toNat=43/\k=6\/c.toNat=63/\k=7):=by
   rcases hk with rfl|rfl|rfl
   ·refine⟨42,?_,by decide⟩
    show iY (.mk 5 0 0 [x])=_
    simp[iY,fZ,hwr]
   ·refine⟨43,?_,by decide⟩
    show iY (.mk 6 0 0 [x])=_
    simp[iY,fZ,hwr]
   ·refine⟨63,?_,by decide⟩
    show iY (.mk 7 0 0 [x])=_
    simp[iY,fZ,hwr]
  obtain⟨c,e,hc⟩:=hsg
  rw[e]at h⊢
  have h:s.drop i=t7 (comp x) (iY x)++c::t:=by rw[h];simp
  have ha1:=Pj hn (hks x hx) (λ_=>ha x (hks x hx) hdx) h (by show ¬dg c.toNat;unfold dg;omega)
  have p1:pk s (i+(t7 (comp x) (iY x)).length)=c.toNat:=by rw[mh,iK h];rfl
  unfold AS
  rw[ha1]
  simp only[p1,c_,o_]
  rcases hc with⟨hc,rfl⟩|⟨hc,rfl⟩|⟨hc,rfl⟩<;>simp[hc]<;>omega
 ·have e:inn 3 (.mk k lo up ks)=t7 (comp (.mk k lo up ks)) (iY (.mk k lo up ks)):=by
   unfold inn
   simp only[sa,comp]
   have h5:(k==5)=false:=by simp;omega
   have h6:(k==6)=false:=by simp;omega
   have h7:(k==7)=false:=by simp;omega
   rw[h5,h6,h7]
   cases(k==4)<;>cases(k==3)<;>simp
  have e2:comp (.mk k lo up ks)=E1 (.mk k lo up ks):=by
   simp only[comp,E1]
   have h5:(k==5)=false:=by simp;omega
   have h6:(k==6)=false:=by simp;omega
   have h7:(k==7)=false:=by simp;omega
   rw[h5,h6,h7]
   cases(k==4)<;>cases(k==3)<;>simp
  rw[e]at h⊢
  have ha1:=Pj hn hw (λhc=>ha _ hw (hb2 (by rw[<-e2];exact hc))) h hnd
  have p1:pk s (i+(t7 (comp (.mk k lo up ks)) (iY (.mk k lo up ks))).length)=hd t:=by rw[mh,iK h]
  unfold AS
  rw[ha1]
  unfold f2 at hf
  simp only[p1]
  rw[if_neg (by omega),if_neg (by omega),if_neg (by omega)]
theorem J7{one:Nat->Option (Rx×Nat)}{f:Rx->List UInt8}{sep:UInt8}{E:Nat->Prop}:∀(ks:List Rx),ks≠[]->
 (∀x∈ks,∀i t,s.drop i=f x++t->(E (hd t)\/hd t=sep.toNat)->one i=some (x,i+(f x).length))->
 (∀x∈ks,f x≠[])->∀(fu:Nat) (acc:List Rx) (i:Nat) (t:List UInt8),s.drop i=jn sep (ks.map f)++t->E (hd t)->hd t≠sep.toNat->s.length+1<=fu+i->i<=s.length->
 kH s sep.toNat one fu acc i=some (acc++ks,i+(jn sep (ks.map f)).length)
 |[],h,_,_,_,_,_,_,_,_,_,_,_=>absurd rfl h
 |[x],_,ho,hne,fu,acc,i,t,h,he,hs,hf,hi=>by
  have h:s.drop i=f x++t:=h
  have h1:=ho x (by simp) i t h (.inl he)
  obtain⟨m,rfl⟩:∃m,fu=m+1:=⟨fu - 1,by omega⟩
  have p1:pk s (i+(f x).length)=hd t:=by rw[mh,iK h]
  rw[kH,h1]
  simp only
  rw[if_neg (by rw[p1];exact hs)]
  rfl
 |x::y::ks,_,ho,hne,fu,acc,i,t,h,he,hs,hf,hi=>by
  have h:s.drop i=f x++sep::(jn sep ((y::ks).map f)++t):=by rw[h];simp[jn]
  have h1:=ho x (by simp) i _ h (.inr rfl)
  obtain⟨m,rfl⟩:∃m,fu=m+1:=⟨fu - 1,by omega⟩
  have h2:=iK h
  have p1:pk s (i+(f x).length)=sep.toNat:=by rw[mh,h2];rfl
  have hlt:i+(f x).length<s.length:=by
   apply h_
   intro hge
   rw[J_ (by omega)]at h2
   cases h2
  have:=J7 (y::ks) (by simp) (λz hz=>ho z (b_ _ hz)) (λz hz=>hne z (b_ _ hz)) m (acc++[x]) (i+(f x).length+1) t (vU h2) he hs (by omega) (by omega)
  rw[kH,h1]
  simp only
  rw[if_pos p1,this]
  simp[jn];omega
theorem AF{k:Int}{l:List Rx}(h:l.length≠1):Q0 k l= .mk k 0 0 l:=by
 unfold Q0
 split
 ·simp at h
 ·rfl
theorem seq_ok(hn:NumOk s num){alt:Nat->Option (Rx×Nat)}{b:Nat}(ha:Sk s alt b){r:Rx}(hw:cO r=true)(hb:KR r<=b+1)(hb2:E2 r=true->KR r<=b){i:Nat}{t:List UInt8}
 (h:s.drop i=inn 4 r++t) (hf:hd t=0\/hd t=41\/hd t=124) (hi:i<=s.length):Rm num s alt i=some (r,i+(inn 4 r).length):=by
 obtain⟨k,lo,up,ks⟩:=r
 obtain⟨nd,hks⟩:=well_iff.1 hw
 unfold Rm Hu
 by_cases hk:k=3
 ·subst hk
  obtain⟨rfl,rfl⟩:=nd.zero (by decide)
  have h2:2<=(ks.length:Int):=nd.seq rfl
  have e:inn 4 (.mk 3 0 0 ks)=jn 32 (ks.map (inn 3)):=by
   show iY (.mk 3 0 0 ks)=_
   simp[iY,fZ]
  rw[e]at h⊢
  have hdk:∀x∈ks,KR x<=b:=λx hx=>by
   have:=Ed hx
   simp only[KR]at hb;omega
  have hne:ks≠[]:=by intro e;rw[e]at h2;simp at h2
  have:=J7 (one:=AS num s alt) (f:=inn 3) (sep:=32) (E:=λc=>c=0\/c=41\/c=124) ks hne (λx hx i t hd0 hc=>PK hn ha (hks x hx) (by have:=hdk x hx;omega) (λ_=>hdk x hx) hd0 (by
   unfold f2
   rcases hc with hc|hc
   ·omega
   ·rw[hc];decide)) (λx hx=>by
   unfold inn t7
   cases sa 3 x
   ·exact(Em x (hks x hx)).1
   ·simp) (s.length+1 - i) [] i t h hf (by
   show hd t≠32
   omega) (by omega) hi
  have this:kH s 32 (AS num s alt) (s.length+1 - i) [] i=_:=this
  rw[this]
  simp only[L_]
  rw[AF (by omega)]
 ·have e:inn 4 (.mk k lo up ks)=inn 3 (.mk k lo up ks):=by
   unfold inn
   simp only[sa]
   have h3:(k==3)=false:=by simpa using hk
   rw[h3]
   cases(k==4)<;>simp
  have e2:E1 (.mk k lo up ks)=E2 (.mk k lo up ks):=by
   simp only[E1,E2]
   have h3:(k==3)=false:=by simpa using hk
   rw[h3]
  rw[e]at h⊢
  have h1:=PK hn ha hw hb (by rw[e2];exact hb2) h (by unfold f2;omega)
  have p1:pk s (i+(inn 3 (.mk k lo up ks)).length)=hd t:=by rw[mh,iK h]
  obtain⟨m,hm⟩:∃m,s.length+1 - i=m+1:=⟨s.length - i,by omega⟩
  rw[hm,kH,h1]
  simp only
  rw[if_neg (by rw[p1];omega)]
  simp[Q0]
theorem JH{a t:List UInt8}{i:Nat}(h:s.drop i=a++t)(ha:a≠[]):i<s.length:=by
 apply h_
 intro hge
 rw[J_ (by omega)]at h
 have:=List.append_eq_nil_iff.1 h.symm
 exact ha this.1
theorem Ti(p:Int){x:Rx}(hx:cO x=true):inn p x≠[]:=by
 unfold inn t7
 cases sa p x
 ·exact(Em x hx).1
 ·simp
theorem SD(hn:NumOk s num):∀b:Nat,Sk s (AR num s b) b
 |0=>λr _ hb=>by cases r;simp[KR]at hb
 |b+1=>λr hw hb i t h hf=>by
  have hi:=JH h (Em r hw).1
  have ha:=SD hn b
  rw[AR]
  unfold Hu
  cases hc:E2 r with
  |true=>
   obtain⟨k,lo,up,ks⟩:=r
   obtain⟨nd,hks⟩:=well_iff.1 hw
   have hk:k=4:=by
    simp only[E2]at hc
    cases e:(k==4)
    ·rw[e]at hc;cases hc
    ·simpa using e
   subst hk
   obtain⟨rfl,rfl⟩:=nd.zero (by decide)
   have hne:ks≠[]:=by simpa[E2]using hc
   have h1:(ks.length:Int)≠1:=nd.alt rfl
   have e:iY (.mk 4 0 0 ks)=jn 124 (ks.map (inn 4)):=by
    simp[iY,fZ,hne]
   rw[e]at h⊢
   have hdk:∀x∈ks,KR x<=b:=λx hx=>by
    have:=Ed hx
    simp only[KR]at hb;omega
   have:=J7 (one:=Rm num s (AR num s b)) (f:=inn 4) (sep:=124) (E:=λc=>c=0\/c=41) ks hne (λx hx i t hd0 hc=>seq_ok hn ha (hks x hx) (by have:=hdk x hx;omega) (λ_=>hdk x hx) hd0 (by
    rcases hc with hc|hc
    ·omega
    ·rw[hc];decide) (ac_ (JH hd0 (Ti 4 (hks x hx))))) (λx hx=>Ti 4 (hks x hx)) (s.length+1 - i) [] i t h hf (by
    show hd t≠124
    omega) (by omega) (ac_ hi)
   have this:kH s 124 (Rm num s (AR num s b)) (s.length+1 - i) [] i=_:=this
   rw[this]
   simp only[L_]
   rw[AF (by omega)]
  |false=>
   have e:iY r=inn 4 r:=by
    obtain⟨k,lo,up,ks⟩:=r
    unfold inn
    simp only[sa]
    simp only[E2]at hc
    cases h4:(k==4)
    ·cases h3:(k==3)
     ·simp[t7]
     ·simp[t7]
    ·rw[h4]at hc
     simp only[cond_true]at hc
     simp only[cond_true,hc]
     rfl
   rw[e]at h⊢
   have h1:=seq_ok hn ha hw hb (λh=>by rw[hc]at h;cases h) h (by omega) (ac_ hi)
   have p1:pk s (i+(inn 4 r).length)=hd t:=by rw[mh,iK h]
   obtain⟨m,hm⟩:∃m,s.length+1 - i=m+1:=⟨s.length - i,by omega⟩
   rw[hm,kH,h1]
   simp only
   rw[if_neg (by rw[p1];omega)]
   simp[Q0]
end
theorem U4:∀(r:Rx) (lv c:Int),(tD r lv c).2=0->lv+(KR r:Int)<=17:=by
 refine f8 λk lo up ks ih lv c h=>?_
 rw[tD]at h
 split at h
 ·cases h
 split at h
 ·cases h
 split at h
 ·rename_i h0;exact absurd h h0
 have hks:∀(l:List Rx),(∀r∈l,r∈ks)->∀(c:Int),(fz l (lv+1) c).2=0->lv+1+(NQ l:Int)<=17:=by
  intro l
  induction l with
  |nil=>intro _ c _;simp only[NQ];omega
  |cons r l il=>
   intro hm c h
   rw[fz]at h
   split at h
   ·rename_i h0;exact absurd h h0
   ·rename_i h0
    have h1:=ih r (hm r (a_ ..)) (lv+1) c (ao_.1 h0)
    have h2:=il (λx hx=>hm x (b_ _ hx)) _ h
    simp only[NQ]
    omega
 have:=hks ks (λ_ h=>h) _ h
 simp only[KR]
 omega
theorem Ro{num:Nat->Option (Int×Nat)}{r:Rx}(hn:NumOk (iY r) num)(hw:cO r=true){b:Nat}(hb:KR r<=b):AR num (iY r) b 0=some (r,(iY r).length):=by
 have:=SD hn b r hw hb 0 [] (by simp) (.inl rfl)
 rw[this,A_]
def l5(g:G):Option Nat->Nat
 |none=>bG g.fi
 |some b=>bG ((k_ g.sp.length).flatMap λk=>if b.testBit k then FB g.pr k else [])
def vm(g:G)(a:Int):Nat:=bG ((k_ g.sp.length).filter (jo g a))
def cu(g:G)(x:Option Nat)(a:Int):Option Nat:=some (l5 g x&&&vm g a)
def l4(g:G):Option Nat->Bool
 |none=>g.em
 |some b=>b&&&bG g.la != 0
def p8(l:List (Int×Int)):List Int:=0::l.flatMap λp=>p.1::(if p.2<4294967295 then [p.2+1]else [])
theorem Po{g:G}(h:Lie 0 g)(x:Option Nat):l5 g x<2^g.sp.length:=by
 cases x with
 |none=>exact fy λp hp=>by have:=h.fi p hp;omega
 |some b=>
  refine fy λp hp=>?_
  obtain⟨k,hk,hp⟩:=t_.1 hp
  split at hp
  ·have:=h.pr _ _ (fol_mem.1 hp);omega
  ·cases hp
theorem Vt(g:G)(a:Int):vm g a<2^g.sp.length:=fy λp hp=>by
 have:=(D_.1 hp).1
 exact j_.1 this
theorem MY{g:G}(h:Lie 0 g)(x:Option Nat)(a:Int):l5 g x&&&vm g a<2^g.sp.length:=Nat.lt_of_le_of_lt Nat.and_le_left (Po h x)
theorem Vj{g:G}{n:Int}{p:Nat}(h:jo g n p=true):p<g.sp.length:=by
 unfold jo at h
 split at h
 ·rename_i q hq;exact(e_.1 hq).1
 ·cases h
theorem AQ(g:G)(a:Int)(p:Nat):(vm g a).testBit p=jo g a p:=by
 unfold vm
 rw[cy]
 cases e:jo g a p
 ·exact decide_eq_false λhm=>by rw[(D_.1 hm).2]at e;cases e
 ·exact decide_eq_true (D_.2 ⟨j_.2 (Vj e),e⟩)
theorem QM(g:G)(q:Nat):(l5 g none).testBit q=(gE g []).1 q:=by
 show(bG g.fi).testBit q=decide (q∈g.fi)
 rw[cy]
theorem Ik{g:G}(h:Lie 0 g)(b:Nat)(q:Nat):(l5 g (some b)).testBit q=TG g b.testBit q:=by
 show(bG _).testBit q=_
 rw[cy]
 cases e:TG g b.testBit q
 ·refine decide_eq_false λhm=>?_
  obtain⟨k,hk,hp⟩:=t_.1 hm
  split at hp
  ·rename_i hb
   have:=nxF_iff.2 ⟨k,hb,fol_mem.1 hp⟩
   rw[this]at e;cases e
  ·cases hp
 ·obtain⟨p,h1,h2⟩:=nxF_iff.1 e
  refine decide_eq_true (t_.2 ⟨p,j_.2 (by have:=h.pr p q h2;omega),?_⟩)
  rw[if_pos h1]
  exact fol_mem.2 h2
theorem RE{g:G}(h:Lie 0 g):∀(w:List Int),(∀q,(l5 g (w.foldl (cu g) none)).testBit q=(gE g w).1 q)/\(w≠[]->∃b,w.foldl (cu g) none=some b/\∀p,b.testBit p=(gE g w).2 p):=by
 intro w
 rw[<-List.reverse_reverse w]
 induction w.reverse with
 |nil=>exact⟨QM g,λh=>absurd rfl h⟩
 |cons v l ih=>
  rw[List.reverse_cons,q_,n_,List.foldl_nil]
  have e2:gE g (l.reverse++[v])=r8 g (gE g l.reverse) v:=by unfold gE;rw[q_];rfl
  have hb:∀p,(l5 g (l.reverse.foldl (cu g) none)&&&vm g v).testBit p=(gE g (l.reverse++[v])).2 p:=λp=>by
   rw[e2,N_,ih.1,AQ];rfl
  refine⟨λq=>?_,λ_=>⟨_,rfl,hb⟩⟩
  show(l5 g (some _)).testBit q=_
  rw[Ik h,show TG g (l5 g (l.reverse.foldl (cu g) none)&&&vm g v).testBit q=TG g (gE g (l.reverse++[v])).2 q from by rw[show(l5 g (l.reverse.foldl (cu g) none)&&&vm g v).testBit=(gE g (l.reverse++[v])).2 from funext hb],e2]
  rfl
theorem Ic(g:G)(b:Nat):l4 g (some b)=g.la.any b.testBit:=by
 show(b&&&bG g.la != 0)=_
 cases e:g.la.any b.testBit
 ·have:b&&&bG g.la=0:=B_ λi=>by
   rw[N_,cy,ah_]
   by_cases hi:i∈g.la
   ·have:=Z_.1 e i hi
    simp[this]
   ·simp[hi]
  rw[this];rfl
 ·obtain⟨p,hp,hb⟩:=af_.1 e
  have:b&&&bG g.la≠0:=λh0=>by
   have h1:(b&&&bG g.la).testBit p=true:=by rw[N_,cy,hb];simp[hp]
   rw[h0,ah_]at h1;cases h1
  simpa using this
theorem Sy{g:G}(h:Lie 0 g)(w:List Int):l4 g (w.foldl (cu g) none)=lR g w:=by
 unfold lR
 cases w with
 |nil=>rfl
 |cons v w=>
  obtain⟨b,h1,h2⟩:=(RE h (v::w)).2 (by simp)
  rw[h1,Ic,show b.testBit=(gE g (v::w)).2 from funext h2]
  rfl
theorem Te{g:G}(hg:∀q∈g.sp,0<=q.1/\q.2<=4294967295){a v:Int}(hav:a<=v)(hv:v<=4294967295)(hall:∀x∈p8 g.sp,x<=v->x<=a)(p:Nat):jo g v p=jo g a p:=by
 unfold jo
 cases e:g.sp[p]? with
 |none=>rfl
 |some q=>
  have hm:=S_ e
  have h1:q.1∈p8 g.sp:=b_ _ (t_.2 ⟨q,hm,a_ ..⟩)
  have h2:q.2<4294967295->q.2+1∈p8 g.sp:=λh=>b_ _ (t_.2 ⟨q,hm,b_ _ (by rw[if_pos h];simp)⟩)
  have h3:=hall _ h1
  have h4:=hg q hm
  simp only
  have e1:decide (q.1<=v)=decide (q.1<=a):=decide_eq_decide.2 ⟨λh=>h3 h,λh=>by omega⟩
  have e2:decide (v<=q.2)=decide (a<=q.2):=decide_eq_decide.2 ⟨λh=>by omega,λh=>by
   by_cases hq:q.2<4294967295
   ·have:=hall _ (h2 hq)
    apply h_
    intro hn
    have:=this (by omega)
    omega
   ·omega⟩
  rw[e1,e2]
theorem R1{g:G}(hg:∀q∈g.sp,0<=q.1/\q.2<=4294967295){a v:Int}(hav:a<=v)(hv:v<=4294967295)(hall:∀x∈p8 g.sp,x<=v->x<=a)(x:Option Nat):cu g x v=cu g x a:=by
 unfold cu
 have:vm g v=vm g a:=B_ λi=>by rw[AQ,AQ];exact Te hg hav hv hall i
 rw[this]
theorem UZ{g:G}(hg:∀q∈g.sp,0<=q.1/\q.2<=4294967295)(hlo:∀q∈g.sp,q.1<=q.2):∀x∈p8 g.sp,0<=x/\x<=4294967295:=by
 intro x hx
 rcases l_.1 hx with rfl|hx
 ·omega
 obtain⟨q,hq,hx⟩:=t_.1 hx
 have h1:=hg q hq
 have h2:=hlo q hq
 rcases l_.1 hx with rfl|hx
 ·omega
 ·split at hx
  ·simp at hx;omega
  ·cases hx
theorem zY(l:List (Int×Int)):(p8 l).length<=2*l.length+1:=by
 unfold p8
 rw[s_]
 have:∀m:List (Int×Int),(m.flatMap λp=>p.1::(if p.2<4294967295 then [p.2+1]else [])).length<=2*m.length:=by
  intro m
  induction m with
  |nil=>simp
  |cons q m ih=>
   rw[List.flatMap_cons,c_,s_,s_]
   split
   ·simp only[s_,v_];omega
   ·simp only[v_];omega
 have:=this l
 omega
theorem XB:∀(r:Rx),cO r=true->∀o,∀q∈(bR r o).sp,q.1<=q.2:=by
 refine f8 λk lo hi ks ih hw o=>?_
 obtain⟨hn,hks⟩:=well_iff.1 hw
 have hA:∀(l:List Rx) (a:G),(∀r∈l,r∈ks)->(∀q∈a.sp,q.1<=q.2)->∀q∈(b7 l o a).sp,q.1<=q.2:=by
  intro l
  induction l with
  |nil=>intro a _ h;exact h
  |cons r l il=>
   intro a hl h
   refine il _ (λr hr=>hl r (b_ _ hr)) λq hq=>?_
   rcases g_.1 hq with hq|hq
   ·exact h q hq
   ·exact ih r (hl r (a_ ..)) (hks r (hl r (a_ ..))) _ q hq
 have hS:∀(l:List Rx) (a:G),(∀r∈l,r∈ks)->(∀q∈a.sp,q.1<=q.2)->∀q∈(cT l o a).sp,q.1<=q.2:=by
  intro l
  induction l with
  |nil=>intro a _ h;exact h
  |cons r l il=>
   intro a hl h
   refine il _ (λr hr=>hl r (b_ _ hr)) λq hq=>?_
   rcases g_.1 hq with hq|hq
   ·exact h q hq
   ·exact ih r (hl r (a_ ..)) (hks r (hl r (a_ ..))) _ q hq
 have h0:∀(e:Bool),∀q∈(g0 e).sp,q.1<=q.2:=λe q hq=>by simp[g0]at hq
 unfold bR
 split
 ·rename_i h1
  have:=hn.rng h1
  intro q hq
  simp only[Ix,u_]at hq
  subst hq
  exact this.2.1
 split
 ·intro q hq
  simp only[Ix,u_]at hq
  subst hq
  show(0:Int)<=4294967295
  decide
 split
 ·exact hS _ _ (λ_ h=>h) (h0 _)
 split
 ·exact hA _ _ (λ_ h=>h) (h0 _)
 split
 ·exact hA _ _ (λ_ h=>h) (h0 _)
 split
 ·exact hA _ _ (λ_ h=>h) (h0 _)
 split
 ·exact hA _ _ (λ_ h=>h) (h0 _)
 ·exact h0 _
end Go.Pl
