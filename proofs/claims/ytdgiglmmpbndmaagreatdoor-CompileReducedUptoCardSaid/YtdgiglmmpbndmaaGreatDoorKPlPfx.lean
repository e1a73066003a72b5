import Derived.Test.YtdgiglmmpbndmaaGreatDoorKL7
import Derived.Test.YtdgiglmmpbndmaaGreatDoorKL5
import Derived.Lib.ItoaNum
set_option linter.unusedVariables false
set_option linter.unusedSimpArgs false
open Bool renaming eq_iff_iff->n_,false_or->u_,and_eq_true->v_,true_and->B_,false_eq_true->D_
open Classical renaming byContradiction->e_
open Go.IntKind renaming bits->G_,wrap->R_
open List renaming getElem?_eq_getElem->a_,length_append->b_,getElem?_append_left->c_,getElem?_eq_some_iff->d_,mem_cons_self->f_,mem_cons_of_mem->g_,prefix_refl->h_,mem_append->i_,take_append_of_le_length->j_,getElem?_eq_none->k_,mem_iff_getElem->l_,cons_append->m_,length_nil->o_,take_add_one->p_,take_of_length_le->q_,take_succ_eq_append_getElem->r_,getElem?_eq_none_iff->t_,length_cons->w_,foldl_cons->x_,map_cons->C_,mem_singleton->E_,prefix_append->F_,idxOf_append->H_,countP_cons->I_,all_append->J_,idxOf_cons->K_,mem_cons->L_,sum_cons->M_,getD->Q_
open Nat renaming zero_add->s_,strongRecOn->y_,eq_of_testBit_eq->z_,le_refl->A_,le_trans->N_,zero_le->O_
open Option.some renaming injEq->P_
namespace Go.Pl
open Go Go.Av Go.Ev
def jN(x n:Nat):Nat:=x>>>(32 - n) <<< (32 - n)
def zc6(x n:Int):Int:=(jN x.toNat n.toNat:Int)
theorem zaX(x n j:Nat):(jN x n).testBit j=(decide (32 - n<=j)&&x.testBit j):=by unfold jN;grind
theorem zc0{x:Nat}(b:x<4294967296){j:Nat}(a:32<=j):x.testBit j=false:=Nat.testBit_lt_two_pow (Nat.lt_of_lt_of_le b (N_ (show 4294967296<=2^32 by simp) (Nat.pow_le_pow_right (by simp) a)))
theorem zaY{x n:Nat}(b:x<4294967296)(hn:n<=32):x&&&(4294967295*2^(32 - n)%4294967296)=jN x n:=by
 refine z_ λj=>?_;rw[Nat.testBit_and,zaX];by_cases a:j<32
 ·have e:(4294967295*2^(32 - n)%4294967296).testBit j=decide (32 - n<=j):=by
   rw[show(4294967296:Nat)=2^32 from rfl,Nat.testBit_mod_two_pow,decide_eq_true a,B_,Nat.testBit_mul_two_pow];by_cases h:32 - n<=j;·rw[decide_eq_true (show j>=32 - n from h),B_,show(4294967295:Nat)=2^32 - 1 from rfl,Nat.testBit_two_pow_sub_one];grind
   grind
  grind
 ·rw[zc0 b (by omega)];simp
theorem zcq{x y:Nat}(a:x<4294967296)(b:y<4294967296):gE .u32 .and (x:Int) (y:Int)=((x&&&y:Nat):Int):=by
 show R_ .u32 ((BitVec.ofInt (G_ .u32) (x:Int)&&&BitVec.ofInt (G_ .u32) (y:Int)).toNat:Int)=_;rw[wrap_u32,BitVec.toNat_and];have e:∀z:Nat,z<4294967296->(BitVec.ofInt (G_ .u32) (z:Int)).toNat=z:=λz c=>by rw[BitVec.toNat_ofInt];show(((z:Int)%((2^32:Nat):Int))).toNat=z;omega
 rw[e x a,e y b];have:x&&&y<=x:=Nat.and_le_left;omega
section
variable {α β σ τ:Type}
def nK(f:σ->β->σ⊕τ):σ->List β->σ⊕τ
 |s,[]=>.inl s
 |s,x::xs=>match f s x with
  | .inl s'=>nK f s' xs
  | .inr b=>.inr b
theorem oW [DecidableEq α]:∀(l u:List α),l.Nodup->(∀x∈l,x∈u)->l.length<=u.length
 |[],_,_,_=>O_ _
 |x::l,u,hn,hs=>by
  have b:=hs x (f_ ..);have a:=List.nodup_cons.1 hn;have h:=oW l (u.erase x) a.2 λy c=>by refine(List.mem_erase_of_ne ?_).2 (hs y (g_ _ c));rintro rfl;exact a.1 c
  have:=List.length_erase_of_mem b;have:=List.length_pos_of_mem b;simp only[w_];omega
theorem Vm{L L':List τ}(h:L<+:L'){i:Nat}{x:τ}(a:L[i]? =some x):L'[i]? =some x:=by obtain⟨t,rfl⟩:=h;rw[c_ (d_.1 a).1];exact a
section
variable {f:α->β->α} {s0:α} {ls:List β}
theorem HZ{L L':List α}(h:L<+:L'){i:Nat}{x:α}(a:L[i]? =some x):L'[i]? =some x:=by obtain⟨t,rfl⟩:=h;rw[c_ (d_.1 a).1];exact a
structure Ok(f:α->β->α)(s0:α)(ls:List β)(L:List α)(T:List (Nat×β)):Prop where
 nodup:L.Nodup
 len:L.length=T.length+1
 head:L[0]? =some s0
 link:∀k j c,T[k]? =some (j,c)->j<k+1/\c∈ls/\∃x,L[j]? =some x/\L[k+1]? =some (f x c)
theorem Ok.add{L:List α}{T:List (Nat×β)}(h:Ok f s0 ls L T){x:α}{i:Nat}{c:β}(I:L[i]? =some x)(hc:c∈ls)(hn:f x c∉L):Ok f s0 ls (L++[f x c]) (T++[(i,c)]):=by
 have hi:i<L.length:=(d_.1 I).1;have hl:=h.len;refine⟨?_,by simp[hl],?_,λk j J z=>?_⟩;·rw[List.nodup_append];exact⟨h.nodup,by simp,λa ha b H=>by simp at H;subst H;rintro rfl;exact hn ha⟩
 ·rw[c_ (by omega)];exact h.head
 ·by_cases C:k<T.length;·rw[c_ C]at z;obtain⟨M,N,y,U,Y⟩:=h.link k j J z;exact⟨M,N,y,by rw[c_ (by omega)];exact U,by rw[c_ (by omega)];exact Y⟩
  ·rw[List.getElem?_append_right (by omega)]at z;have E:k=T.length:=by have:=(d_.1 z).1;simp at this;omega
   subst E;simp at z;obtain⟨rfl,rfl⟩:=z;refine⟨by omega,hc,x,by rw[c_ hi];exact I,?_⟩;rw[show T.length+1=L.length by omega];simp
theorem Ok.inv{P:α->Prop}{L:List α}{T:List (Nat×β)}(h:Ok f s0 ls L T)(C:P s0)(M:∀x c,c∈ls->P x->P (f x c)):∀(k:Nat) (x:α),L[k]? =some x->P x:=by
 intro k;induction k using y_ with
 |ind k U=>
  intro x z
  match k with|0=>rw[h.head]at z;cases z;exact C|k+1=>have Y:=(d_.1 z).1;have N:=a_ (l:=T) (i:=k) (by have:=h.len;omega);obtain⟨E,H,y,I,J⟩:=h.link k _ _ N;rw[J]at z;cases z;exact M _ _ H (U _ E y I)
def Quiet(sp:List α->α->Bool)(L:List α):Prop:=∀k x,L[k+1]? =some x->sp (L.take (k+1)) x=false
theorem Quiet.add{sp:List α->α->Bool}{L:List α}{y:α}(h:Quiet sp L)(hs:sp L y=false):Quiet sp (L++[y]):=by
 intro k x z;by_cases E:k+1<L.length;·rw[c_ E]at z;rw[j_ (by omega)];exact h k x z
 ·have C:=(d_.1 z).1;simp at C;have:k+1=L.length:=by omega
  rw[this]at z⊢;simp at z;subst z;simpa using hs
theorem Ok.pre{L L':List α}{T T':List (Nat×β)}(h:Ok f s0 ls L T)(E:L'<+:L)(N:T'<+:T)(hl:L'.length=T'.length+1):Ok f s0 ls L' T':=by
 have z:∀k,k<L'.length->L'[k]? =L[k]? :=λk C=>by obtain⟨t,rfl⟩:=E;rw[c_ C]
 refine⟨h.nodup.sublist E.sublist,hl,by rw[z 0 (by omega)];exact h.head,λk j c C=>?_⟩;have U:=(d_.1 C).1;obtain⟨H,I,x,J,M⟩:=h.link k j c (Vm N C);exact⟨H,I,x,by rw[z j (by omega)];exact J,by rw[z (k+1) (by omega)];exact M⟩
inductive Tr(T:List (Nat×β)):Nat->List β->Prop
 |zero:Tr T 0 []
 |step {k j:Nat} {c:β} {p:List β}:T[k]? =some (j,c)->Tr T j p->Tr T (k+1) (p++[c])
theorem Tr.mono{T T':List (Nat×β)}(hp:T<+:T'){k:Nat}{p:List β}(h:Tr T k p):Tr T' k p:=by induction h with|zero=>exact .zero|step z _ C=>exact .step (Vm hp z) C
theorem Ok.tr{L:List α}{T:List (Nat×β)}(h:Ok f s0 ls L T):∀k,k<L.length->∃p,Tr T k p:=by
 intro k;induction k using y_ with
 |ind k E=>
  intro H
  match k with|0=>exact⟨[],.zero⟩|k+1=>have z:=a_ (l:=T) (i:=k) (by have:=h.len;omega);obtain⟨C,_⟩:=h.link k _ _ z;obtain⟨p,hp⟩:=E _ C (by omega);exact⟨_,.step z hp⟩
theorem Tr.len{L:List α}{T:List (Nat×β)}(h:Ok f s0 ls L T){k:Nat}{p:List β}(C:Tr T k p):p.length<=k:=by induction C with|zero=>exact A_ _|step z _ E=>have:=(h.link _ _ _ z).1;simp only[b_,List.length_singleton];omega
end
variable [DecidableEq α]
abbrev pos(L:List α)(x:α):Nat:=L.idxOf x
theorem Xb{x y:α}{L:List α}(h:x≠y):pos (x::L) y=pos L y+1:=by unfold pos;rw[K_,show(x==y)=false from by simpa using h];rfl
theorem Xa{x:α}{L:List α}:pos (x::L) x=0:=by unfold pos;rw[K_];simp
def bQ(f:α->β->α)(x:α)(i:Nat)(st:List α×List (Nat×β)×List Nat)(c:β):List α×List (Nat×β)×List Nat:=
 if f x c∈st.1 then(st.1,st.2.1,st.2.2++[st.1.idxOf (f x c)])else(st.1++[f x c],st.2.1++[(i,c)],st.2.2++[st.1.length])
def pg(sp:List α->α->Bool)(f:α->β->α)(x:α)(i:Nat)(st:List α×List (Nat×β)×List Nat)(c:β):(List α×List (Nat×β)×List Nat)⊕(List α×List (Nat×β)):=
 if f x c∈st.1 then .inl (st.1,st.2.1,st.2.2++[st.1.idxOf (f x c)])
 else if sp st.1 (f x c)then .inr (st.1++[f x c],st.2.1++[(i,c)])else .inl (st.1++[f x c],st.2.1++[(i,c)],st.2.2++[st.1.length])
theorem Vw{sp:List α->α->Bool}{f:α->β->α}{x:α}{i:Nat}{c:β}{L:List α}{T:List (Nat×β)}{r:List Nat}{y:α}(a:f x c=y)(h:y∈L):pg sp f x i (L,T,r) c= .inl (L,T,r++[L.idxOf y]):=by subst a;simp only[pg,if_pos h]
theorem QC{sp:List α->α->Bool}{f:α->β->α}{x:α}{i:Nat}{c:β}{L:List α}{T:List (Nat×β)}{r:List Nat}{y:α}(a:f x c=y)(h:y∉L)(hs:sp L y=true):pg sp f x i (L,T,r) c= .inr (L++[y],T++[(i,c)]):=by subst a;simp only[pg,if_neg h,if_pos hs]
theorem Vx{sp:List α->α->Bool}{f:α->β->α}{x:α}{i:Nat}{c:β}{L:List α}{T:List (Nat×β)}{r:List Nat}{y:α}(a:f x c=y)(h:y∉L)(hs:sp L y=false):pg sp f x i (L,T,r) c= .inl (L++[y],T++[(i,c)],r++[L.length]):=by subst a;simp only[pg,if_neg h,hs,D_,if_false]
variable (f:α->β->α) (s0:α) (ls:List β)
def cJ:Nat->List α×List (Nat×β)×List (List Nat)
 |0=>([s0],[],[])
 |i+1=>match(cJ i).1[i]? with
  |none=>cJ i
  |some x=>let r:=ls.foldl (bQ f x i) ((cJ i).1,(cJ i).2.1,[])
   (r.1,r.2.1,(cJ i).2.2++[r.2.2])
def lz(sp:List α->α->Bool):Nat->(List α×List (Nat×β)×List (List Nat))⊕(List α×List (Nat×β)×List (List Nat))
 |0=>.inl ([s0],[],[])
 |i+1=>match lz sp i with
  | .inr r=>.inr r
  | .inl S=>match S.1[i]? with
   |none=>.inl S
   |some x=>match nK (pg sp f x i) (S.1,S.2.1,[]) ls with
    | .inl r=>.inl (r.1,r.2.1,S.2.2++[r.2.2])
    | .inr r=>.inr (r.1,r.2,S.2.2)
variable {f s0 ls}
theorem wZ(x:α)(i:Nat)(st:List α×List (Nat×β)×List Nat)(c:β):st.1<+:(bQ f x i st c).1/\st.2.1<+:(bQ f x i st c).2.1:=by
 unfold bQ;split;·exact⟨h_ _,h_ _⟩
 ·exact⟨F_ _ _,F_ _ _⟩
theorem HG(x:α)(i:Nat):∀(l:List β) (st:List α×List (Nat×β)×List Nat),st.1<+:(l.foldl (bQ f x i) st).1/\st.2.1<+:(l.foldl (bQ f x i) st).2.1
 |[],st=>⟨h_ _,h_ _⟩
 |c::l,st=>by have a:=wZ (f:=f) x i st c;have b:=HG x i l (bQ f x i st c);exact⟨a.1.trans b.1,a.2.trans b.2⟩
theorem I4{L L':List α}(h:L<+:L'){x:α}(a:x∈L):L'.idxOf x=L.idxOf x:=by obtain⟨t,rfl⟩:=h;rw[H_,if_pos a]
theorem K9{x:α}{i:Nat}:∀(l:List β) (st:List α×List (Nat×β)×List Nat),Ok f s0 ls st.1 st.2.1->st.1[i]? =some x->(∀c∈l,c∈ls)->
 Ok f s0 ls (l.foldl (bQ f x i) st).1 (l.foldl (bQ f x i) st).2.1/\(∀c∈l,f x c∈(l.foldl (bQ f x i) st).1)/\
 (l.foldl (bQ f x i) st).2.2=st.2.2++l.map λc=>(l.foldl (bQ f x i) st).1.idxOf (f x c)
 |[],st,h,_,_=>⟨h,by simp,by simp⟩
 |c::l,st,h,e,hc=>by
  have b:Ok f s0 ls (bQ f x i st c).1 (bQ f x i st c).2.1/\f x c∈(bQ f x i st c).1/\(bQ f x i st c).2.2=st.2.2++[(bQ f x i st c).1.idxOf (f x c)]:=by
   unfold bQ;split;·exact⟨h,by assumption,rfl⟩
   ·rename_i hn;refine⟨h.add e (hc c (f_ ..)) hn,by simp,?_⟩;simp[H_,hn]
  obtain⟨g,j,k⟩:=K9 l (bQ f x i st c) b.1 (HZ (wZ x i st c).1 e) λd a=>hc d (g_ _ a);have hp:=(HG (f:=f) x i l (bQ f x i st c)).1;refine⟨g,λd a=>?_,?_⟩
  ·rcases L_.1 a with rfl|a;·exact hp.subset b.2.1
   ·exact j d a
  ·rw[x_,k,b.2.2,<-I4 hp b.2.1];simp
theorem ek{i:Nat}{x:α}(a:(cJ f s0 ls i).1[i]? =some x):cJ f s0 ls (i+1)=((ls.foldl (bQ f x i) ((cJ f s0 ls i).1,(cJ f s0 ls i).2.1,[])).1,(ls.foldl (bQ f x i) ((cJ f s0 ls i).1,(cJ f s0 ls i).2.1,[])).2.1,(cJ f s0 ls i).2.2++[(ls.foldl (bQ f x i) ((cJ f s0 ls i).1,(cJ f s0 ls i).2.1,[])).2.2]):=by simp only[cJ,a]
theorem jl{i:Nat}(a:(cJ f s0 ls i).1[i]? =none):cJ f s0 ls (i+1)=cJ f s0 ls i:=by simp only[cJ,a]
theorem iH:∀i,Ok f s0 ls (cJ f s0 ls i).1 (cJ f s0 ls i).2.1
 |0=>⟨by simp[cJ],rfl,rfl,by simp[cJ]⟩
 |i+1=>by cases a:(cJ f s0 ls i).1[i]? with|none=>rw[jl a];exact iH i|some x=>rw[ek a];exact(K9 ls ((cJ f s0 ls i).1,(cJ f s0 ls i).2.1,[]) (iH i) a λ_ h=>h).1
theorem pX(i:Nat):(cJ f s0 ls i).1<+:(cJ f s0 ls (i+1)).1/\(cJ f s0 ls i).2.1<+:(cJ f s0 ls (i+1)).2.1:=by cases a:(cJ f s0 ls i).1[i]? with|none=>rw[jl a];exact⟨h_ _,h_ _⟩|some x=>rw[ek a];exact HG x i ls ((cJ f s0 ls i).1,(cJ f s0 ls i).2.1,[])
theorem Uy{i j:Nat}(h:i<=j):(cJ f s0 ls i).1<+:(cJ f s0 ls j).1/\(cJ f s0 ls i).2.1<+:(cJ f s0 ls j).2.1:=by induction h with|refl=>exact⟨h_ _,h_ _⟩|step _ a=>exact⟨a.1.trans (pX _).1,a.2.trans (pX _).2⟩
theorem MC{i j:Nat}(h:i<=j)(b:(cJ f s0 ls i).1.length<=i):cJ f s0 ls j=cJ f s0 ls i:=by induction h with|refl=>rfl| @step m h a=>have h:i<=m:=h;rw[jl (by rw[a];exact k_ (by omega)),a]
theorem uK:∀i,∀j≥i,(cJ f s0 ls i).2.2=((cJ f s0 ls i).1.take i).map λx=>ls.map λc=>(cJ f s0 ls j).1.idxOf (f x c)
 |0,j,_=>by simp[cJ]
 |i+1,j,n=>by
  cases a:(cJ f s0 ls i).1[i]? with
  |none=>have b:=t_.1 a;rw[jl a,uK i j (by omega),q_ b,q_ (by omega)]|some x=>
   have s:=(d_.1 a).1;have e:=K9 ls ((cJ f s0 ls i).1,(cJ f s0 ls i).2.1,[]) (iH i) a λ_ h=>h;have hp:=(pX (f:=f) (s0:=s0) (ls:=ls) i).1;have d:=HZ hp a;have g:(cJ f s0 ls (i+1)).1.take (i+1)=(cJ f s0 ls i).1.take i++[x]:=by rw[p_,d];congr 1;obtain⟨t,r⟩:=hp;rw[<-r,j_ (by omega)]
   rw[g,List.map_append,<-uK i j (by omega)];have k:(cJ f s0 ls (i+1)).2.2=(cJ f s0 ls i).2.2++[(ls.foldl (bQ f x i) ((cJ f s0 ls i).1,(cJ f s0 ls i).2.1,[])).2.2]:=by rw[ek a]
   rw[k,e.2.2];congr 1;simp only[List.nil_append,C_,List.map_nil,List.cons.injEq,and_true];refine List.map_congr_left λc hc=>?_;have p:f x c∈(cJ f s0 ls (i+1)).1:=by rw[ek a];exact e.2.1 c hc
   have l:(ls.foldl (bQ f x i) ((cJ f s0 ls i).1,(cJ f s0 ls i).2.1,[])).1=(cJ f s0 ls (i+1)).1:=by rw[ek a]
   rw[l];exact(I4 (Uy n).1 p).symm
theorem sG:∀i,∀x∈(cJ f s0 ls i).1.take i,∀c∈ls,f x c∈(cJ f s0 ls i).1
 |0,x,a,_,_=>by simp at a
 |i+1,y,b,c,hc=>by
  cases a:(cJ f s0 ls i).1[i]? with
  |none=>have g:=t_.1 a;rw[jl a]at b⊢;refine sG i y ?_ c hc;rw[q_ (by omega)]at b⊢;exact b|some x=>
   have k:=(d_.1 a).1;have hp:=(pX (f:=f) (s0:=s0) (ls:=ls) i).1;have d:(cJ f s0 ls (i+1)).1.take (i+1)=(cJ f s0 ls i).1.take i++[x]:=by rw[p_,HZ hp a];congr 1;obtain⟨t,j⟩:=hp;rw[<-j,j_ (by omega)]
   rw[d]at b;rcases i_.1 b with h|h;·exact hp.subset (sG i y h c hc)
   ·simp at h;subst h;have e:=K9 ls ((cJ f s0 ls i).1,(cJ f s0 ls i).2.1,[]) (iH i) a λ_ h=>h;rw[ek a];exact e.2.1 c hc
theorem Ok.bound{L:List α}{T:List (Nat×β)}(h:Ok f s0 ls L T){u:List α}(z:s0∈u)(E:∀x c,c∈ls->x∈u->f x c∈u):L.length<=u.length:=by refine oW _ _ h.nodup λx H=>?_;obtain⟨k,C,rfl⟩:=l_.1 H;exact h.inv (P:=(·∈u)) z E k _ (a_ C)
theorem I2{sp:List α->α->Bool}{x:α}{i:Nat}:∀(l:List β) (st:List α×List (Nat×β)×List Nat),Quiet sp st.1->
 (∀r,nK (pg sp f x i) st l= .inl r->r=l.foldl (bQ f x i) st/\Quiet sp r.1)/\
 (∀r,nK (pg sp f x i) st l= .inr r->∃L y,r.1=L++[y]/\Quiet sp L/\sp L y=true/\r.1<+:(l.foldl (bQ f x i) st).1/\r.2<+:(l.foldl (bQ f x i) st).2.1/\st.1<+:L)
 |[],st,h=>⟨λr hr=>by cases hr;exact⟨rfl,h⟩,λr hr=>by cases hr⟩
 |c::l,st,h=>by
  by_cases b:f x c∈st.1
  ·have a:pg sp f x i st c= .inl (bQ f x i st c):=by unfold pg bQ;rw[if_pos b,if_pos b]
   have d:=I2 (sp:=sp) (x:=x) (i:=i) l (bQ f x i st c) (by unfold bQ;rw[if_pos b];exact h);have hp:=(wZ (f:=f) x i st c).1;refine⟨λr hr=>?_,λr hr=>?_⟩;·simp only[nK,a]at hr;exact d.1 r hr
   ·simp only[nK,a]at hr;obtain⟨L,y,g,j,k,n,p,s⟩:=d.2 r hr;exact⟨L,y,g,j,k,n,p,hp.trans s⟩
  ·cases hs:sp st.1 (f x c)
   ·have a:pg sp f x i st c= .inl (bQ f x i st c):=by unfold pg bQ;rw[if_neg b,if_neg b,if_neg (by rw[hs];simp)]
    have d:=I2 (sp:=sp) (x:=x) (i:=i) l (bQ f x i st c) (by unfold bQ;rw[if_neg b];exact h.add hs);have hp:=(wZ (f:=f) x i st c).1;refine⟨λr hr=>?_,λr hr=>?_⟩;·simp only[nK,a]at hr;exact d.1 r hr
    ·simp only[nK,a]at hr;obtain⟨L,y,g,j,k,n,p,s⟩:=d.2 r hr;exact⟨L,y,g,j,k,n,p,hp.trans s⟩
   ·have a:pg sp f x i st c= .inr (st.1++[f x c],st.2.1++[(i,c)]):=by unfold pg;rw[if_neg b,if_pos hs]
    have e:bQ f x i st c=(st.1++[f x c],st.2.1++[(i,c)],st.2.2++[st.1.length]):=by unfold bQ;rw[if_neg b]
    refine⟨λr hr=>?_,λr hr=>?_⟩;·simp only[nK,a]at hr;cases hr
    ·simp only[nK,a]at hr;cases hr;have hp:=HG (f:=f) x i l (bQ f x i st c);rw[e]at hp;refine⟨st.1,f x c,rfl,h,hs,?_,?_,h_ _⟩;·rw[x_,e];exact hp.1
     ·rw[x_,e];exact hp.2
theorem lY{sp:List α->α->Bool}:∀i,
 (∀S,lz f s0 ls sp i= .inl S->S=cJ f s0 ls i/\Quiet sp S.1)/\
 (∀r,lz f s0 ls sp i= .inr r->∃L y,r.1=L++[y]/\L≠[]/\Quiet sp L/\sp L y=true/\r.1<+:(cJ f s0 ls i).1/\r.2.1<+:(cJ f s0 ls i).2.1)
 |0=>⟨λS h=>by cases h;exact⟨rfl,λk x b=>by simp at b⟩,λr h=>by cases h⟩
 |i+1=>by
  have A:=lY (sp:=sp) i;cases h:lz f s0 ls sp i with
  |inr r=>
   have e:lz f s0 ls sp (i+1)= .inr r:=by simp only[lz,h]
   refine⟨λS a=>(by rw[e]at a;cases a),λB hr=>?_⟩;rw[e]at hr;cases hr;obtain⟨L,y,d,g,j,l,n,p⟩:=A.2 r h;exact⟨L,y,d,g,j,l,n.trans (pX i).1,p.trans (pX i).2⟩
  |inl S=>
   obtain⟨rfl,z⟩:=A.1 S h;cases b:(cJ f s0 ls i).1[i]? with
   |none=>
    have e:lz f s0 ls sp (i+1)= .inl (cJ f s0 ls i):=by simp only[lz,h,b]
    refine⟨λS a=>?_,λr hr=>by rw[e]at hr;cases hr⟩;rw[e]at a;cases a;exact⟨(jl b).symm,z⟩
   |some x=>
    have w:=I2 (f:=f) (sp:=sp) (x:=x) (i:=i) ls ((cJ f s0 ls i).1,(cJ f s0 ls i).2.1,[]) z;cases hr:nK (pg sp f x i) ((cJ f s0 ls i).1,(cJ f s0 ls i).2.1,[]) ls with
    |inl r=>
     have e:lz f s0 ls sp (i+1)= .inl (r.1,r.2.1,(cJ f s0 ls i).2.2++[r.2.2]):=by simp only[lz,h,b,hr]
     refine⟨λS a=>?_,λr hr=>by rw[e]at hr;cases hr⟩;rw[e]at a;cases a;obtain⟨rfl,s⟩:=w.1 r hr;exact⟨(ek b).symm,s⟩
    |inr r=>
     have e:lz f s0 ls sp (i+1)= .inr (r.1,r.2,(cJ f s0 ls i).2.2):=by simp only[lz,h,b,hr]
     refine⟨λS a=>(by rw[e]at a;cases a),λB c=>?_⟩;rw[e]at c;cases c;obtain⟨L,y,d,g,j,l,n,p⟩:=w.2 r hr;rw[ek b];refine⟨L,y,d,?_,g,j,l,n⟩;rintro rfl;have u:=(iH (f:=f) (s0:=s0) (ls:=ls) i).head;have v:=List.prefix_nil.1 p;simp only at v;rw[v]at u;cases u
theorem MB{sp:List α->α->Bool}{i j:Nat}(a:i<=j){r:List α×List (Nat×β)×List (List Nat)}(h:lz f s0 ls sp i= .inr r):lz f s0 ls sp j= .inr r:=by induction a with|refl=>exact h|step _ b=>simp only[lz,b]
theorem P5{sp:List α->α->Bool}{i j:Nat}(a:i<=j){S:List α×List (Nat×β)×List (List Nat)}(h:lz f s0 ls sp i= .inl S)(d:S.1.length<=i):lz f s0 ls sp j= .inl S:=by induction a with|refl=>exact h| @step m b c=>have b:i<=m:=b;simp only[lz,c,k_ (show S.1.length<=m from by omega)]
theorem pos_lt{L:List α}{y:α}:y∈L↔pos L y<L.length:=by unfold pos;exact List.idxOf_lt_length_iff.symm
end
open Go Go.Ev
theorem qF{P:Rx->Prop}(h:∀k lo a ks,(∀r∈ks,P r)->P (.mk k lo a ks)):∀r,P r:=λr=>Rx.rec (motive_1:=P) (motive_2:=λks=>∀r∈ks,P r) (λk lo a ks b=>h k lo a ks b) (λr hr=>by grind) (λr ks c d x e=>by grind) r
theorem vX(v:Rx):Rx.mk v.out.1 v.out.2.1 v.out.2.2.1 v.out.2.2.2.1=v:=by cases v;rfl
structure G where
 fi:List Nat
 la:List Nat
 em:Bool
 pr:List (Nat×Nat)
 sp:List (Int×Int)
def mR(a b:List Nat):List (Nat×Nat):=a.flatMap λp=>b.map λq=>(p,q)
theorem prodL_mem{a b:List Nat}{p q:Nat}:(p,q)∈mR a b↔p∈a/\q∈b:=by unfold mR;simp
def xJ(a x:G):G:=⟨if a.em then a.fi++x.fi else a.fi,if x.em then a.la++x.la else x.la,a.em&&x.em,a.pr++x.pr++mR a.la x.fi,a.sp++x.sp⟩
def GY(a x:G):G:=⟨a.fi++x.fi,a.la++x.la,a.em||x.em,a.pr++x.pr,a.sp++x.sp⟩
def ye(x:G):G:=⟨x.fi,x.la,x.em,x.pr++mR x.la x.fi,x.sp⟩
def emG(x:G):G:=⟨x.fi,x.la,true,x.pr,x.sp⟩
def g0(e:Bool):G:=⟨[],[],e,[],[]⟩
def V9(o:Nat)(lo a:Int):G:=⟨[o],[o],false,[],[(lo,a)]⟩
mutual
def kA:Rx->Nat->G
 | .mk k lo a ks,o=>
  if k=1 then V9 o lo a else if k=2 then V9 o 0 4294967295
  else if k=3 then mH ks o (g0 true)else if k=4 then kX ks o (g0 false)
  else if k=5 then emG (ye (kX ks o (g0 false)))else if k=6 then ye (kX ks o (g0 false))
  else if k=7 then emG (kX ks o (g0 false))else g0 true
def mH:List Rx->Nat->G->G
 |[],_,a=>a
 |r::b,o,a=>mH b o (xJ a (kA r (o+a.sp.length)))
def kX:List Rx->Nat->G->G
 |[],_,a=>a
 |r::b,o,a=>kX b o (GY a (kA r (o+a.sp.length)))
end
theorem UE(o:Nat):∀(l m:List Rx) (a:G),mH (l++m) o a=mH m o (mH l o a)
 |[],_,_=>by simp[mH]
 |r::l,m,a=>by simp only[m_,mH];exact UE o l m _
theorem UD(o:Nat):∀(l m:List Rx) (a:G),kX (l++m) o a=kX m o (kX l o a)
 |[],_,_=>by simp[kX]
 |r::l,m,a=>by simp only[m_,kX];exact UD o l m _
theorem zaV{o:Nat}{ks:List Rx}{i:Nat}(h:i<ks.length)(a:G):mH (ks.take (i+1)) o a=xJ (mH (ks.take i) o a) (kA ks[i] (o+(mH (ks.take i) o a).sp.length)):=by rw[p_,a_ h,UE];simp[mH]
theorem zaU{o:Nat}{ks:List Rx}{i:Nat}(h:i<ks.length)(a:G):kX (ks.take (i+1)) o a=GY (kX (ks.take i) o a) (kA ks[i] (o+(kX (ks.take i) o a).sp.length)):=by rw[p_,a_ h,UD];simp[kX]
theorem zfv{P:Nat->G->Prop}(f:∀o e,P o (g0 e))(g:∀o lo c,P o (V9 o lo c))(hs:∀o a x,P o a->P (o+a.sp.length) x->P o (xJ a x))(d:∀o a x,P o a->P (o+a.sp.length) x->P o (GY a x)) (hl:∀o a,P o a->P o (ye a)) (p:∀o a,P o a->P o (emG a)):∀(r:Rx) (o:Nat),P o (kA r o):=by
 intro r;refine qF (P:=λr=>∀o,P o (kA r o)) (λk lo c ks b o=>?_) r;have j:∀(l:List Rx) (a:G),(∀r∈l,∀o,P o (kA r o))->P o a->P o (kX l o a):=by intro l;induction l with|nil=>intro a _ h;exact h|cons r l b=>intro a hl h;exact b _ (λr hr=>hl r (g_ _ hr)) (d o a _ h (hl r (f_ ..) _))
 have n:∀(l:List Rx) (a:G),(∀r∈l,∀o,P o (kA r o))->P o a->P o (mH l o a):=by intro l;induction l with|nil=>intro a _ h;exact h|cons r l b=>intro a hl h;exact b _ (λr hr=>hl r (g_ _ hr)) (hs o a _ h (hl r (f_ ..) _))
 unfold kA;split;·grind
 split;·grind
 split;·grind
 split;·grind
 split;·grind
 split;all_goals grind
structure Lie(o:Nat)(g:G):Prop where
 fi:∀p∈g.fi,o<=p/\p<o+g.sp.length
 la:∀p∈g.la,o<=p/\p<o+g.sp.length
 pr:∀p q,(p,q)∈g.pr->(o<=p/\p<o+g.sp.length)/\o<=q/\q<o+g.sp.length
 fl:g.fi.length<=g.sp.length
 ll:g.la.length<=g.sp.length
theorem zfF{o:Nat}{a x:G}(b:Lie o a)(c:Lie (o+a.sp.length) x):Lie o (xJ a x):=by
 have d:=b.fl;have f:=b.ll;have e:=c.fl;have g:=c.ll;refine⟨λp hp=>?_,λp hp=>?_,λp q hp=>?_,?_,?_⟩
 ·simp only[xJ,b_]at hp⊢;split at hp
  ·rcases i_.1 hp with h|h;·have:=b.fi p h;omega
   ·have:=c.fi p h;omega
  ·have:=b.fi p hp;omega
 ·simp only[xJ,b_]at hp⊢;split at hp
  ·rcases i_.1 hp with h|h;·have:=b.la p h;omega
   ·have:=c.la p h;omega
  ·have:=c.la p hp;omega
 ·simp only[xJ,b_,i_,prodL_mem]at hp⊢;rcases hp with(h|h)|⟨h,h'⟩;·have:=b.pr p q h;omega
  ·have:=c.pr p q h;omega
  ·have:=b.la p h;have:=c.fi q h';omega
 ·simp only[xJ,b_];grind
 ·simp only[xJ,b_];grind
theorem zfE{o:Nat}{a x:G}(b:Lie o a)(c:Lie (o+a.sp.length) x):Lie o (GY a x):=by
 have d:=b.fl;have f:=b.ll;have e:=c.fl;have g:=c.ll;refine⟨λp hp=>?_,λp hp=>?_,λp q hp=>?_,?_,?_⟩
 ·simp only[GY,b_]at hp⊢;rcases i_.1 hp with h|h;·have:=b.fi p h;omega
  ·have:=c.fi p h;omega
 ·simp only[GY,b_]at hp⊢;rcases i_.1 hp with h|h;·have:=b.la p h;omega
  ·have:=c.la p h;omega
 ·simp only[GY,b_,i_]at hp⊢;rcases hp with h|h;·have:=b.pr p q h;omega
  ·have:=c.pr p q h;omega
 ·simp only[GY,b_];omega
 ·simp only[GY,b_];omega
theorem zde{o:Nat}{x:G}(h:Lie o x):Lie o (ye x):=by
 refine⟨h.fi,h.la,λp q hp=>?_,h.fl,h.ll⟩;simp only[ye,i_,prodL_mem]at hp⊢;rcases hp with hp|⟨a,b⟩;·exact h.pr p q hp
 ·exact⟨h.la p a,h.fi q b⟩
theorem zg0(o:Nat)(e:Bool):Lie o (g0 e):=⟨by simp[g0],by simp[g0],by simp[g0],by simp[g0],by simp[g0]⟩
theorem zS:∀(r:Rx) (o:Nat),Lie o (kA r o):=zfv zg0 (λo lo d=>⟨by simp[V9],by simp[V9],by simp[V9],by simp[V9],by simp[V9]⟩) (λ_ _ _ b c=>zfF b c) (λ_ _ _ b c=>zfE b c) (λ_ _ h=>zde h) (λo a h=>⟨h.fi,h.la,h.pr,h.fl,h.ll⟩)
def bX(l:List Nat):Nat:=l.foldr (λp a=>a|||2^p) 0
theorem iN(l:List Nat)(i:Nat):(bX l).testBit i=decide (i∈l):=by induction l with|nil=>simp[bX]|cons p l a=>have:bX (p::l)=bX l|||2^p:=rfl;grind
theorem G2(a b:List Nat):bX (a++b)=bX a|||bX b:=by refine z_ λi=>?_;rw[Nat.testBit_or,iN,iN,iN];simp
theorem iF{l:List Nat}{n:Nat}(h:∀p∈l,p<n):bX l<2^n:=by refine Nat.lt_pow_two_of_testBit _ λi a=>?_;rw[iN];grind
theorem zhY{a b n:Nat}(c:a<2^n)(d:b<2^n):a|||b<2^n:=Nat.or_lt_two_pow c d
def K8(pr:List (Nat×Nat))(p:Nat):List Nat:=(pr.filter λx=>x.1=p).map (·.2)
theorem fol_mem{pr:List (Nat×Nat)}{p q:Nat}:q∈K8 pr p↔(p,q)∈pr:=by unfold K8;simp
def ql(k n:Int):Bool:=bif k==0||k==1||k==2 then n==0 else bif k==3 then decide (n>=2)else bif k==4 then n != 1 else bif k==5||k==6||k==7 then n==1 else false
def CJ(k:Int):Bool:=k==0||k==1||k==2||k==3||k==4||k==5||k==6||k==7
def yh(k lo a n:Int):Int:=
 bif !CJ k then 15 else bif k==1&&(decide (lo<0)||decide (lo>a)||decide (a>4294967295))then 5 else bif (k != 1&&(lo != 0||a != 0))|| !ql k n then 1 else 0
theorem knownB_iff{k:Int}:CJ k=true↔k=0\/k=1\/k=2\/k=3\/k=4\/k=5\/k=6\/k=7:=by simp only[CJ,Bool.or_eq_true,beq_iff_eq,or_assoc]
structure Node(k lo hi n:Int):Prop where
 known:k=0\/k=1\/k=2\/k=3\/k=4\/k=5\/k=6\/k=7
 rng:k=1->0<=lo/\lo<=hi/\hi<=4294967295
 zero:k≠1->lo=0/\hi=0
 leaf:k=0\/k=1\/k=2->n=0
 seq:k=3->2<=n
 alt:k=4->n≠1
 one:k=5\/k=6\/k=7->n=1
theorem nodeE_zero{k lo a n:Int}:yh k lo a n=0↔Node k lo a n:=by
 constructor
 ·intro h;unfold yh at h;cases d:CJ k;·grind
  rw[d]at h;have g:=knownB_iff.1 d;simp only[Bool.not_true,cond_false]at h;cases f:(k==1&&(decide (lo<0)||decide (lo>a)||decide (a>4294967295)))
  ·rw[f]at h;simp only[cond_false]at h;cases c:((k != 1&&(lo != 0||a != 0))|| !ql k n)
   ·simp only[Bool.or_eq_false_iff,Bool.and_eq_false_iff,bne_eq_false_iff_eq,Bool.not_eq_false',beq_eq_false_iff_ne,decide_eq_false_iff_not]at f c;obtain⟨c,b⟩:=c;refine⟨g,λe=>?_,λe=>?_,λe=>?_,λe=>?_,λe=>?_,λe=>?_⟩;·omega
    ·omega
    ·rcases e with rfl|rfl|rfl<;>simpa[ql]using b
    ·subst e;simpa[ql]using b
    ·subst e;simpa[ql]using b
    ·rcases e with rfl|rfl|rfl<;>simpa[ql]using b
   grind
  grind
 ·intro h;have d:CJ k=true:=knownB_iff.2 h.known;have f:(k==1&&(decide (lo<0)||decide (lo>a)||decide (a>4294967295)))=false:=by
   by_cases e:k=1;·have:=h.rng e;grind
   grind
  have c:(k != 1&&(lo != 0||a != 0))=false:=by
   by_cases e:k=1;·grind
   ·have:=h.zero e;grind
  have b:ql k n=true:=by
   rcases h.known with rfl|rfl|rfl|rfl|rfl|rfl|rfl|rfl;·simpa[ql]using h.leaf (by simp)
   ·simpa[ql]using h.leaf (by simp)
   ·simpa[ql]using h.leaf (by simp)
   ·simpa[ql]using h.seq rfl
   ·simpa[ql]using h.alt rfl
   ·simpa[ql]using h.one (by simp)
   ·simpa[ql]using h.one (by simp)
   ·simpa[ql]using h.one (by simp)
  unfold yh;grind
mutual
def sz:Rx->Nat
 | .mk _ _ _ ks=>1+C4 ks
def C4:List Rx->Nat
 |[]=>0
 |r::a=>sz r+C4 a
end
theorem DL:∀{ks:List Rx} {r:Rx},r∈ks->sz r<=C4 ks
 |x::ks,r,h=>by
  simp only[C4];rcases L_.1 h with rfl|h;·simp
  ·have:=DL h;omega
theorem zhy(r:Rx):0<sz r:=by cases r;simp only[sz];omega
theorem Lm:∀ks:List Rx,ks.length<=C4 ks
 |[]=>A_ _
 |r::ks=>by simp only[C4,w_];have:=Lm ks;have:=zhy r;omega
theorem SI:∀l m:List Rx,C4 (l++m)=C4 l+C4 m
 |[],m=>by simp[C4]
 |r::l,m=>by simp only[m_,C4,SI l m];omega
mutual
def hU:Rx->Bool
 | .mk k lo a ks=>yh k lo a ks.length==0&&NR ks
def NR:List Rx->Bool
 |[]=>true
 |r::a=>hU r&&NR a
end
theorem NS:∀ks:List Rx,NR ks=true↔∀r∈ks,hU r=true
 |[]=>by simp[NR]
 |r::ks=>by simp[NR,NS ks]
theorem well_iff{k lo a:Int}{ks:List Rx}:hU (.mk k lo a ks)=true↔Node k lo a ks.length/\∀r∈ks,hU r=true:=by simp only[hU,v_,beq_iff_eq,nodeE_zero,NS]
mutual
def IK:Rx->Int->Int->Int×Int
 | .mk k lo a ks,lv,c=>if lv>16 then(c,24)else if c>=64 then(c,4)else if yh k lo a ks.length≠0 then(c,yh k lo a ks.length)else nF ks (lv+1) (c+1)
def nF:List Rx->Int->Int->Int×Int
 |[],_,c=>(c,0)
 |r::a,lv,c=>if(IK r lv c).2≠0 then IK r lv c else nF a lv (IK r lv c).1
end
mutual
def nul:Rx->Bool
 | .mk k _ _ ks=>bif k==0||k==5||k==7 then true else bif k==3||k==6 then zba ks else bif k==4 then zbb ks else false
def zba:List Rx->Bool
 |[]=>true
 |r::a=>nul r&&zba a
def zbb:List Rx->Bool
 |[]=>false
 |r::a=>nul r||zbb a
end
mutual
def cnt:Rx->Nat
 | .mk k _ _ ks=>(bif k==1||k==2 then 1 else 0)+iX ks
def iX:List Rx->Nat
 |[]=>0
 |r::a=>cnt r+iX a
end
theorem L3:∀l m:List Rx,iX (l++m)=iX l+iX m
 |[],m=>by simp[iX]
 |r::l,m=>by simp only[m_,iX,L3 l m];omega
theorem zcA(r:Rx):cnt r<=sz r:=by
 refine qF (P:=λr=>cnt r<=sz r) (λk lo c ks a=>?_) r;have:∀l:List Rx,(∀r∈l,cnt r<=sz r)->iX l<=C4 l:=by intro l;induction l with|nil=>intro _;exact A_ _|cons r l b=>intro h;simp only[iX,C4];grind
 have:=this ks a;simp only[cnt,sz];grind
theorem len_nil{ks:List Rx}(h:(ks.length:Int)=0):ks=[]:=List.length_eq_zero_iff.1 (by omega)
theorem wO{ks:List Rx}(h:(ks.length:Int)=1):∃r,ks=[r]:=List.length_eq_one_iff.1 (by omega)
theorem vI:∀(r:Rx),hU r=true->∀o,(kA r o).sp.length=cnt r/\(kA r o).em=nul r:=by
 refine qF λk lo A ks s z o=>?_;obtain⟨hn,e⟩:=well_iff.1 z;have w:∀(l:List Rx) (a:G),(∀r∈l,r∈ks)->(kX l o a).sp.length=a.sp.length+iX l/\(kX l o a).em=(a.em||zbb l):=by intro l;induction l with|nil=>intro a _;simp[kX,iX,zbb]|cons r l c=>intro a hl;have hr:=hl r (f_ ..);obtain⟨f,g⟩:=s r hr (e r hr) (o+a.sp.length);obtain⟨j,n⟩:=c (GY a (kA r (o+a.sp.length))) λx p=>hl x (g_ _ p);simp only[kX,j,n,iX,zbb];simp only[GY,b_,f,g,Bool.or_assoc];grind
 have y:∀(l:List Rx) (a:G),(∀r∈l,r∈ks)->(mH l o a).sp.length=a.sp.length+iX l/\(mH l o a).em=(a.em&&zba l):=by intro l;induction l with|nil=>intro a _;simp[mH,iX,zba]|cons r l c=>intro a hl;have hr:=hl r (f_ ..);obtain⟨f,g⟩:=s r hr (e r hr) (o+a.sp.length);obtain⟨j,n⟩:=c (xJ a (kA r (o+a.sp.length))) λx p=>hl x (g_ _ p);simp only[mH,j,n,iX,zba];simp only[xJ,b_,f,g,Bool.and_assoc];grind
 obtain⟨b,d⟩:=w ks (g0 false) λ_ h=>h;obtain⟨u,v⟩:=y ks (g0 true) λ_ h=>h;rcases hn.known with rfl|rfl|rfl|rfl|rfl|rfl|rfl|rfl;·have:=len_nil (hn.leaf (by simp));subst this;simp[kA,g0,cnt,iX,nul]
 ·have:=len_nil (hn.leaf (by simp));subst this;simp[kA,V9,cnt,iX,nul]
 ·have:=len_nil (hn.leaf (by simp));subst this;simp[kA,V9,cnt,iX,nul]
 ·simp only[g0,o_,s_,B_]at u v;simp[kA,g0,u,v,cnt,nul]
 ·simp only[g0,o_,s_,u_]at b d;simp[kA,g0,b,d,cnt,nul]
 ·simp only[g0,o_,s_,u_]at b d;simp[kA,emG,ye,g0,b,cnt,nul]
 ·obtain⟨x,rfl⟩:=wO (hn.one (by simp));simp only[g0,o_,s_,u_]at b d;simp[kA,ye,g0,b,d,cnt,nul,zbb,zba]
 ·simp only[g0,o_,s_,u_]at b d;simp[kA,emG,g0,b,cnt,nul]
open Go Go.Ev Go.Lib
def MK(b:UInt8):Prop:=48<=b.toNat/\b.toNat<=57
instance (b:UInt8):Decidable (MK b):=inferInstanceAs (Decidable (_/\_))
def Df(l:List UInt8):Nat:=l.foldl (λn b=>10*n+(b.toNat - 48)) 0
theorem Jy(l:List UInt8)(b:UInt8):Df (l++[b])=10*Df l+(b.toNat - 48):=by simp[Df,List.foldl_append]
theorem PX{n:Nat}(h:n<10):(UInt8.ofNat (48+n)).toNat=48+n:=by simp;omega
theorem Dr:∀(n:Nat),(∀b∈decDigits n,MK b)/\Df (decDigits n)=n/\0<(decDigits n).length/\(1<(decDigits n).length->((decDigits n).getD 0 0).toNat≠48)/\(0<n->((decDigits n).getD 0 0).toNat≠48):=by
 intro n;induction n using y_ with
 |ind n d=>
  rw[decDigits];by_cases h:n<10
  ·rw[dif_pos h];have:=PX h;refine⟨λb a=>?_,?_,by simp,by simp,?_⟩;·simp only[E_]at a;subst a;unfold MK;omega
   ·show 10*0+((UInt8.ofNat (48+n)).toNat - 48)=n;omega
   grind
  ·rw[dif_neg h];obtain⟨e,c,f,g,j⟩:=d (n/10) (by omega);have hd:=PX (show n%10<10 by omega);have hg:(decDigits (n/10)++[UInt8.ofNat (48+n%10)]).getD 0 0=(decDigits (n/10)).getD 0 0:=by grind
   refine⟨λb a=>?_,?_,by simp,λ_=>?_,λ_=>?_⟩
   ·simp only[i_,E_]at a;rcases a with a|rfl;·grind
    ·unfold MK;omega
   ·rw[Jy,c,hd];omega
   all_goals grind
theorem G9(n:Nat):∀b∈decDigits n,MK b:=(Dr n).1
theorem TU(n:Nat):Df (decDigits n)=n:=(Dr n).2.1
theorem TT(n:Nat):0<(decDigits n).length:=(Dr n).2.2.1
theorem zaL(n:Nat)(h:1<(decDigits n).length):((decDigits n).getD 0 0).toNat≠48:=(Dr n).2.2.2.1 h
theorem TS:∀(n k:Nat),n<10^(k+1)->(decDigits n).length<=k+1
 |n,0,h=>by rw[decDigits,dif_pos (by omega)];simp
 |n,k+1,h=>by
  rw[decDigits];split;·simp
  ·have:=TS (n/10) k (by omega);grind
theorem zh{n:Nat}(h:n<=4294967295):(decDigits n).length<=10:=TS n 9 (by omega)
theorem takeD{l:List UInt8}{k:Nat}(h:k<l.length):l.take (k+1)=l.take k++[l.getD k 0]:=by
 have e:l.getD k 0=l[k]:=by grind
 rw[r_ h,e]
theorem It(l:List UInt8):∀(d k:Nat),k+d=l.length->Df (l.take k)<=Df l
 |0,k,h=>by grind
 |d+1,k,h=>by have a:=It l d (k+1) (by omega);rw[takeD (by omega),Jy]at a;omega
theorem QP{l:List UInt8}{k:Nat}(h:k<=l.length):Df (l.take k)<=Df l:=It l (l.length - k) k (by omega)
def xc(p:Int):Rx->Bool
 | .mk k _ _ ks=>bif k==4 then !ks.isEmpty else bif k==3 then p != 4 else(k==5||k==6||k==7)&&(p==5||p==6||p==7)
def zH(w:Bool)(l:List UInt8):List UInt8:=bif w then 40::(l++[41])else l
def jn(sep:UInt8):List (List UInt8)->List UInt8
 |[]=>[]
 |[x]=>x
 |x::y::l=>x++sep::jn sep (y::l)
mutual
def nn:Rx->List UInt8
 | .mk k lo a ks=>
  if k=0 then [40,41]else if k=2 then [46]
  else if k=1 then(if lo=a then decDigits lo.toNat else 91::(decDigits lo.toNat++45::(decDigits a.toNat++[93])))
  else if k=5 then(Sr 5 ks).headD []++[42]else if k=6 then(Sr 6 ks).headD []++[43]else if k=7 then(Sr 7 ks).headD []++[63]
  else if k=4 then(if ks=[]then [33]else jn 124 (Sr 4 ks))else jn 32 (Sr 3 ks)
def Sr:Int->List Rx->List (List UInt8)
 |_,[]=>[]
 |p,r::a=>zH (xc p r) (nn r)::Sr p a
end
def inn(p:Int)(r:Rx):List UInt8:=zH (xc p r) (nn r)
theorem jx(p:Int):∀ks:List Rx,Sr p ks=ks.map (inn p)
 |[]=>by simp[Sr]
 |r::a=>by simp[Sr,jx p a,inn]
theorem YQ(sep:UInt8):∀(l:List (List UInt8)) (x:List UInt8),jn sep (l++[x])=if l=[]then x else jn sep l++sep::x
 |[],x=>by simp[jn]
 |[y],x=>by simp[jn]
 |y::z::l,x=>by have:=YQ sep (z::l) x;simp only[m_,jn]at*;grind
theorem WV(sep:UInt8):∀(l:List (List UInt8)),(jn sep l).length<=(l.map λx=>x.length+1).sum
 |[]=>by simp[jn]
 |[x]=>by simp[jn]
 |x::y::l=>by have:=WV sep (y::l);simp only[jn,b_,w_,C_,M_]at*;omega
theorem YN(p:Int)(r:Rx):(inn p r).length<=(nn r).length+2:=by unfold inn zH;cases xc p r<;>simp
theorem Sq:∀(r:Rx),hU r=true->(nn r).length+3<=26*sz r:=by
 refine qF λk lo d ks n g=>?_;obtain⟨hn,b⟩:=well_iff.1 g;have a:∀p:Int,∀l:List Rx,(∀r∈l,r∈ks)->((l.map (inn p)).map λx=>x.length+1).sum<=26*C4 l:=by intro p l;induction l with|nil=>simp|cons r l u=>intro h;have c:=n r (h r (f_ ..)) (b r (h r (f_ ..)));have v:=u λx j=>h x (g_ _ j);have w:=YN p r;simp only[C_,M_,C4]at*;omega
 have hd:∀p:Int,((ks.map (inn p)).headD []).length<=26*C4 ks:=by intro p;have c:=a p ks λ_ h=>h;cases ks with|nil=>simp|cons r l=>grind
 have y:∀(p:Int) (s:UInt8),(jn s (ks.map (inn p))).length<=26*C4 ks:=λp s=>N_ (WV s _) (a p ks λ_ h=>h);have f:k=1->(decDigits lo.toNat).length<=10/\(decDigits d.toNat).length<=10:=λe=>by have:=hn.rng e;exact⟨zh (by omega),zh (by omega)⟩
 simp only[nn,jx,sz];grind
end Go.Pl
namespace Go.Ev
open Go Go.RowKit Go.Av
def Ht(f:Nat->Int)(i:Nat):Nat->Int
 |0=>0
 |k+1=>if f i=0 then Ht f (i+1) k else f i
def qI(f:Nat->Int)(N:Nat):Int:=Ht f 0 N
theorem P0{f:Nat->Int}:∀(k i:Nat),Ht f i k=0↔∀j,i<=j->j<i+k->f j=0
 |0,i=>by simp only[Ht,true_iff];omega
 |k+1,i=>by
  simp only[Ht];split;·rename_i h;rw[P0 k (i+1)];grind
  grind
theorem errN_zero{f:Nat->Int}{N:Nat}:qI f N=0↔∀j,j<N->f j=0:=by unfold qI;rw[P0];simp
def cE{α:Type}(f:α->Int)(l:List α):Int:=qI (λi=>match l[i]? with|some x=>f x|none=>0) l.length
theorem errL_zero{α:Type}{f:α->Int}{l:List α}:cE f l=0↔∀x∈l,f x=0:=by
 unfold cE;rw[errN_zero];constructor;·intro h x a;obtain⟨i,b,rfl⟩:=l_.1 a;grind
 grind
theorem JA{ρ β a:Type}{N:Nat}{f:Nat->Int}{enc:Nat->ρ}{oB:Int->β}{oE:a}{body:Nat->ρ->Option (ρ⊕β⊕a)}{Q:β⊕a->Prop} (h:∀i,i<N->Wp (λn=>body n (enc i)) λr=>r=if f i=0 then .inl (enc (i+1))else .inr (.inl (oB (f i)))) (c:Wp (λn=>body n (enc N)) λr=>r= .inr (.inr oE)) (b:Q (if qI f N=0 then .inr oE else .inl (oB (qI f N)))):Wp (λn=>aT n (body n) (enc 0)) Q:=by
 refine bi (N:=N) (I:=λi s=>s=enc i/\qI f N=Ht f i (N - i)) ⟨rfl,rfl⟩ (λi s d hs=>?_) λs hs=>?_;·obtain⟨rfl,hd⟩:=hs;refine wp_mono (h i d) λr hr=>?_;subst hr;rw[show N - i=(N - (i+1))+1 by omega]at hd;simp only[Ht]at hd;grind
 ·obtain⟨rfl,hd⟩:=hs;refine wp_mono c λr hr=>?_;subst hr;rw[Nat.sub_self]at hd;rw[if_pos (show qI f N=0 from hd)]at b;omega
theorem uG{α ρ β a:Type}{l:List α}{f:α->Int}{enc:Nat->ρ}{oB:Int->β}{oE:a}{body:Nat->ρ->Option (ρ⊕β⊕a)}{Q:β⊕a->Prop} (h:∀i (d:i<l.length),Wp (λn=>body n (enc i)) λr=>r=if f l[i]=0 then .inl (enc (i+1))else .inr (.inl (oB (f l[i])))) (c:Wp (λn=>body n (enc l.length)) λr=>r= .inr (.inr oE)) (b:Q (if cE f l=0 then .inr oE else .inl (oB (cE f l)))):Wp (λn=>aT n (body n) (enc 0)) Q:=by
 refine JA (f:=λi=>match l[i]? with|some x=>f x|none=>0) (oB:=oB) (λi d=>?_) c b
 grind
theorem zeJ{α ρ β b:Type}{xs:List α}{p:α->Bool}{enc:Nat->ρ}{g:α->β}{e:b}{body:Nat->ρ->Option (ρ⊕β⊕b)}{Q:β⊕b->Prop} (h:∀(i:Nat) (a:i<xs.length),Wp (λn=>body n (enc i)) λr=>r=if p xs[i]then .inr (.inl (g xs[i]))else .inl (enc (i+1))) (c:Wp (λn=>body n (enc xs.length)) λr=>r= .inr (.inr e)) (d:Q (match xs.find? p with|some x=>.inl (g x)|none=>.inr e)):Wp (λn=>aT n (body n) (enc 0)) Q:=by
 refine bi (N:=xs.length) (I:=λi s=>s=enc i/\xs.find? p=(xs.drop i).find? p) ⟨rfl,by simp⟩ (λi s a hs=>?_) λs hs=>?_;·obtain⟨rfl,hd⟩:=hs;refine wp_mono (h i a) λr hr=>?_;rw[List.drop_eq_getElem_cons a,List.find?_cons]at hd;grind
 ·obtain⟨rfl,hd⟩:=hs;refine wp_mono c λr hr=>?_;grind
end Go.Ev
namespace Go.Pl
open Go Go.Av Go.Ev
abbrev PFX:Type:=Int×(Int×Unit)
abbrev Tb:Type:=Int×(List UInt8×(Int×(PFX×(Bool×Unit))))
abbrev Bw:Type:=Int×(Int×(Int×(Int×(Int×Unit))))
abbrev V8:Type:=List UInt8×(List Tb×(List Bw×(Int×Unit)))
abbrev Rc:Type:=List UInt8×(List V8×(Int×Unit))
abbrev V7:Type:=Bool×(PFX×(Int×(Int×Unit)))
abbrev PLS:Type:=List UInt8×(List V7×Unit)
abbrev HRU:Type:=Bool×(List UInt8×Unit)
abbrev HLS:Type:=List UInt8×(List HRU×Unit)
abbrev Wa:Type:=Bool×(Int×(Int×Unit))
abbrev CLS:Type:=List UInt8×(List Wa×Unit)
abbrev PS:Type:=List PLS×(List HLS×(List CLS×(List Rc×Unit)))
abbrev yP:Ty:=pr [tW,tI]
abbrev yM:Ty:=pr [tI,tS,tI,yP,tB]
abbrev yA:Ty:=pr [tI,tI,tI,tW,tW]
abbrev yT:Ty:=pr [tS,.list yM,.list yA,tI]
abbrev yO:Ty:=pr [tS,.list yT,tI]
abbrev yR:Ty:=pr [tB,yP,tI,tI]
abbrev yL:Ty:=pr [tS,.list yR]
abbrev yH:Ty:=pr [tB,tS]
abbrev yG:Ty:=pr [tS,.list yH]
abbrev yC:Ty:=pr [tB,tI,tI]
abbrev yD:Ty:=pr [tS,.list yC]
abbrev yS:Ty:=pr [.list yL,.list yG,.list yD,.list yO]
def Gx(p:PFX):Bool:=(decide (0<=p.2.1)&&decide (p.2.1<=32))&&(zc6 p.1 p.2.1==p.1)
def M1(c:UInt8):Bool:=(((decide ((c.toNat:Int)>=97)&&decide ((c.toNat:Int)<=122))||(decide ((c.toNat:Int)>=65)&&decide ((c.toNat:Int)<=90)))||(decide ((c.toNat:Int)>=48)&&decide ((c.toNat:Int)<=57)))||((c.toNat:Int)==45)
def sO(s:List UInt8):Bool:=s.all M1&&(decide (1<=s.length)&&decide (s.length<=32))
def rP(r:V7):Int:=if Gx r.2.1=false then 1 else if r.2.2.1<r.2.1.2.1\/r.2.2.2.1<r.2.2.1\/r.2.2.2.1>32 then 5 else 0
def sC(r:Wa):Int:=if r.2.1< -1\/r.2.1>65535\/r.2.2.1< -1\/r.2.2.1>65535 then 5 else 0
def W4(a b:List UInt8):Bool:=Op.bytesLess a b||a==b
def vN(l:List (List UInt8))(i:Nat):Int:=match l[i]? with
 |none=>0
 |some x=>if sO x=false then 1 else if 0<i/\W4 x (l.getD (i - 1) [])=true then 16 else 0
def R1{α:Type}(nm:α->List UInt8)(sz:α->Nat)(a:α->Int)(l:List α)(i:Nat):Int:=if vN (l.map nm) i≠0 then vN (l.map nm) i else match l[i]? with
 |none=>0
 |some x=>if sz x>64 then 4 else a x
def im{α:Type}(nm:α->List UInt8)(sz:α->Nat)(a:α->Int)(l:List α):Int:=if l.length>64 then 4 else qI (R1 nm sz a l) l.length
def zfH(k:Int):Int:=if k=4 then 1 else 0
def YL(k:Int):Int:=if k=4 then 7 else if k=5 then 4294967295 else if k=6 then 16777216 else 2000
def WT(s:PS)(k:Int)(n:List UInt8):Bool:=if k=1 then s.1.any (·.1==n)else if k=2 then s.2.1.any (·.1==n)else s.2.2.1.any (·.1==n)
def uA(s:PS)(m:Tb):Int:=
 if m.1<1\/8<m.1 then 15
 else if(3<m.1/\m.2.1≠[])\/(¬(m.1=4\/m.1=5\/m.1=6\/m.1=8)/\m.2.2.1≠0)\/(m.1≠7/\(m.2.2.2.1.1≠0\/m.2.2.2.1.2.1≠0))then 1
 else if m.1<=3 then(if WT s m.1 m.2.1 then 0 else 6)
 else if m.1=7 then(if Gx m.2.2.2.1 then 0 else 1)
 else if m.2.2.1<zfH m.1\/YL m.1<m.2.2.1 then 5 else 0
def Fu(a:Bw):Bw:=if a.1<=4 then(a.1,a.2.1,0,0,0,())else if a.1=5 then(a.1,0,0,0,a.2.2.2.2.1,())else if a.1<=7 then(a.1,0,0,a.2.2.2.1,0,())else(a.1,a.2.1,a.2.2.1,0,0,())
def Fq(a:Bw):Bool:=if a.1=3 then decide (0<=a.2.1)&&decide (a.2.1<=16777216)else if a.1<=4 then decide (0<=a.2.1)&&decide (a.2.1<=4294967295)else if a.1=5 then a.2.2.2.2.1 != 0
 else if a.1<=7 then true else(decide (1<=a.2.2.1)&&decide (a.2.2.1<=4294967295))&&(decide (1<=a.2.1)&&decide (a.2.1<=16))
def o9(a:Bw):Int:=if a.1<1\/8<a.1 then 15 else if ¬a=Fu a then 1 else if Fq a=false then 5 else 0
theorem X6(a b:Bw):jk yA a b=true↔a=b:=by obtain⟨c,d,e,f,g,⟨⟩⟩:=a;obtain⟨h,j,k,l,n,⟨⟩⟩:=b;simp[jk]
def qM(s:PS)(a:List V8)(t:V8):Int:=
 if sO t.1=false then 1
 else if a.any (·.1==t.1)=true then 7
 else if t.2.1.length>64 then 4
 else if cE (uA s) t.2.1≠0 then cE (uA s) t.2.1
 else if t.2.2.1.length>64 then 4
 else if cE o9 t.2.2.1≠0 then cE o9 t.2.2.1
 else if t.2.2.2.1<1\/3<t.2.2.2.1 then 15 else 0
def wj(s:PS)(p:Rc):Int:=
 if qI (λi=>match p.2.1[i]? with|some t=>qM s (p.2.1.take i) t|none=>0) p.2.1.length≠0 then qI (λi=>match p.2.1[i]? with|some t=>qM s (p.2.1.take i) t|none=>0) p.2.1.length
 else if p.2.2.1≠1/\p.2.2.1≠2 then 15 else 0
def KL(pe:List UInt8->Int)(s:PS):Int:=
 if im (·.1) (λl=>l.2.1.length) (λl=>cE rP l.2.1) s.1≠0 then im (·.1) (λl=>l.2.1.length) (λl=>cE rP l.2.1) s.1
 else if im (·.1) (λl=>l.2.1.length) (λl=>cE (λr=>pe r.2.1) l.2.1) s.2.1≠0 then im (·.1) (λl=>l.2.1.length) (λl=>cE (λr=>pe r.2.1) l.2.1) s.2.1
 else if im (·.1) (λl=>l.2.1.length) (λl=>cE sC l.2.1) s.2.2.1≠0 then im (·.1) (λl=>l.2.1.length) (λl=>cE sC l.2.1) s.2.2.1
 else im (·.1) (λp=>p.2.1.length) (wj s) s.2.2.2.1
theorem rO{s:PS}{k N a pl:Int}{nm:List UInt8}{nt:Bool}(h:k=1\/k=2\/k=3):uA s (k,nm,N,(a,pl,()),nt,())=if N≠0\/a≠0\/pl≠0 then 1 else if WT s k nm then 0 else 6:=by unfold uA;grind
theorem UY{s:PS}{N a pl:Int}{nm:List UInt8}{nt:Bool}:uA s (7,nm,N,(a,pl,()),nt,())=if nm≠[]\/N≠0 then 1 else if Gx (a,pl,())then 0 else 1:=by unfold uA;simp
theorem UZ{s:PS}{k N a pl:Int}{nm:List UInt8}{nt:Bool}(h:k=4\/k=5\/k=6\/k=8):uA s (k,nm,N,(a,pl,()),nt,())=if nm≠[]\/a≠0\/pl≠0 then 1 else if N<zfH k\/YL k<N then 5 else 0:=by unfold uA;grind
theorem zdo{s:PS}{m:Tb}(h:m.1<1\/8<m.1):uA s m=15:=by unfold uA;rw[if_pos h]
structure SmP(s:PS):Prop where
 ok:okD yS s
 l1:s.1.length<=1048576
 l2:s.2.1.length<=1048576
 l3:s.2.2.1.length<=1048576
 l4:s.2.2.2.1.length<=1048576
 pt:∀l∈s.2.1,∀r∈l.2.1,r.2.1.length<=1048576
theorem Le{α:Type}{nm:α->List UInt8}{sz:α->Nat}{b:α->Int}{l:List α}(h:im nm sz b l=0):l.length<=64/\∀x∈l,sO (nm x)=true/\sz x<=64/\b x=0:=by
 unfold im at h;split at h;·omega
 rename_i hl;refine⟨by omega,λx f=>?_⟩;obtain⟨i,c,rfl⟩:=l_.1 f;have a:=errN_zero.1 h i c;unfold R1 at a;split at a;·omega
 rename_i d;rw[a_ c]at a;simp only at a;split at a;·omega
 rename_i g;refine⟨?_,by omega,a⟩;have e:vN (l.map nm) i=0:=e_ d;unfold vN at e;grind
structure TrmOk(s:PS)(t:V8):Prop where
 nm:sO t.1=true
 ml:t.2.1.length<=64
 ma:∀m∈t.2.1,uA s m=0
 al:t.2.2.1.length<=64
 ac:∀a∈t.2.2.1,o9 a=0
 ve:1<=t.2.2.2.1/\t.2.2.2.1<=3
theorem zgb{s:PS}{b:List V8}{t:V8}(h:qM s b t=0):TrmOk s t:=by
 unfold qM at h;split at h;·omega
 rename_i d;split at h;·omega
 split at h;·omega
 rename_i e;split at h;·omega
 rename_i a;split at h;·omega
 rename_i f;split at h;·omega
 rename_i c;split at h;·omega
 rename_i g;refine⟨?_,by omega,errL_zero.1 (e_ a),by omega,errL_zero.1 (e_ c),by omega⟩;grind
structure PlcOk(s:PS)(p:Rc):Prop where
 tl:p.2.1.length<=64
 tr:∀t∈p.2.1,TrmOk s t
 df:p.2.2.1=1\/p.2.2.1=2
structure PolOk(pe:List UInt8->Int)(s:PS):Prop where
 l1:s.1.length<=64
 r1:∀l∈s.1,l.2.1.length<=64/\∀r∈l.2.1,rP r=0
 l2:s.2.1.length<=64
 r2:∀l∈s.2.1,l.2.1.length<=64/\∀r∈l.2.1,pe r.2.1=0
 l3:s.2.2.1.length<=64
 r3:∀l∈s.2.2.1,l.2.1.length<=64/\∀r∈l.2.1,sC r=0
 l4:s.2.2.2.1.length<=64
 r4:∀p∈s.2.2.2.1,PlcOk s p
theorem zfU{s:PS}{p:Rc}(hl:p.2.1.length<=64)(h:wj s p=0):PlcOk s p:=by
 unfold wj at h;split at h;·omega
 rename_i c;split at h;·omega
 rename_i e;refine⟨hl,λt d=>?_,by omega⟩;obtain⟨i,b,rfl⟩:=l_.1 d;have a:=errN_zero.1 (e_ c) i b;rw[a_ b]at a;exact zgb a
theorem zfV{pe:List UInt8->Int}{s:PS}(h:KL pe s=0):PolOk pe s:=by
 unfold KL at h;split at h;·omega
 rename_i e;split at h;·omega
 rename_i f;split at h;·omega
 rename_i g;have a:=Le (e_ e);have b:=Le (e_ f);have c:=Le (e_ g);have d:=Le h;exact⟨a.1,λl hl=>⟨(a.2 l hl).2.1,errL_zero.1 (a.2 l hl).2.2⟩,b.1,λl hl=>⟨(b.2 l hl).2.1,λr hr=>errL_zero.1 (b.2 l hl).2.2 r hr⟩,c.1,λl hl=>⟨(c.2 l hl).2.1,errL_zero.1 (c.2 l hl).2.2⟩,d.1,λp hp=>zfU (d.2 p hp).2.1 (d.2 p hp).2.2⟩
def zcS(s:PS)(n:List UInt8):Option Rc:=s.2.2.2.1.find? (·.1==n)
theorem zcT{s:PS}{n:List UInt8}{p:Rc}(h:zcS s n=some p):p∈s.2.2.2.1:=List.mem_of_find?_eq_some h
end Go.Pl
namespace Go.Cm
def zgt(x:Int):List Int->Bool->List Int
 |[],d=>if d then []else [x]
 |y::r,d=>(if !d&&decide (x<=y)then [x]else [])++((if y != x then [y]else [])++zgt x r (d||decide (x<=y)))
abbrev ins(x:Int)(l:List Int):List Int:=zgt x l false
def asc(l:List Int):List Int:=l.foldl (λo x=>ins x o) []
abbrev Up(l:List Int):Prop:=l.Pairwise (·<·)
theorem De{l:List Int}{k:Nat}(h:k<l.length):l.take (k+1)=l.take k++[l.getD k 0]:=by
 have e:l.getD k 0=l[k]:=by simp[Q_,a_ h]
 rw[r_ h,e]
def left(l a:List Int):Nat:=l.countP λz=>a.all (λy=>decide (y<z))
theorem left_step{l a:List Int}{b:Int}(c:b∈l)(f:∀y∈a,y<b):left l (a++[b])+1<=left l a:=by
 unfold left;induction l with
 |nil=>simp at c|cons z l n=>
  rw[I_,I_];have j:l.countP (λz=>(a++[b]).all λy=>decide (y<z))<=l.countP (λz=>a.all λy=>decide (y<z)):=by apply List.countP_mono_left;intro z _ h;simp only[J_,v_]at h;exact h.1
  by_cases e:z=b
  ·subst e;have g:((a++[z]).all λy=>decide (y<z))=false:=by simp
   have k:(a.all λy=>decide (y<z))=true:=by simpa using f
   rw[g,k];simp only[D_,if_false,if_true];omega
  ·have d:b∈l:=by simp at c;rcases c with h|h;exact absurd h.symm e;exact h
   have p:=n d;have g:(if((a++[b]).all λy=>decide (y<z))=true then 1 else 0)<=(if(a.all λy=>decide (y<z))=true then 1 else 0):=by
    split;·rename_i h;simp only[J_,v_]at h;rw[if_pos h.1];exact A_ 1
    ·exact O_ _
   omega
structure Best(l out:List Int)(k:Nat)(found:Bool)(best:Int):Prop where
 yes:found=true->best∈l/\(∀y∈out,y<best)
 least:∀z∈l.take k,(∀y∈out,y<z)->found=true/\best<=z
structure Out(l out:List Int):Prop where
 up:Up out
 sub:∀z∈out,z∈l
 all:∀z∈l,z∈out\/∀y∈out,y<z
 len:out.length+left l out<=l.length
theorem Out.zero(l:List Int):Out l []:=⟨List.Pairwise.nil,by simp,by simp,by simp[left]⟩
theorem Out.step{l C:List Int}{b:Int}(h:Out l C)(I:Best l C l.length true b):Out l (C++[b]):=by
 obtain⟨M,N⟩:=I.yes rfl;have hl:=left_step M N;have E:=I.least;rw[List.take_length]at E;refine⟨?_,?_,λz J=>?_,?_⟩;·have:=h.up;unfold Up at this⊢;rw[List.pairwise_append];grind
 ·have:=h.sub;grind
 ·rcases h.all z J with H|H;·grind
  ·have:=(E z J H).2;by_cases e:z=b;·left;simp[e]
   ·right;grind
 ·have:=h.len;simp;omega
theorem Best.zero(l z:List Int)(b:Int):Best l z 0 false b:=⟨by simp,by simp⟩
theorem Best.take{l C:List Int}{k:Nat}{f:Bool}{b:Int}(h:Best l C k f b)(E:k<l.length)(H:∀y∈C,y<l.getD k 0)(M:f=false\/l.getD k 0<b):Best l C (k+1) true (l.getD k 0):=by
 have e:l.getD k 0=l[k]:=by simp[Q_,a_ E]
 have I:l.getD k 0∈l:=by rw[e];exact List.getElem_mem E
 refine⟨λ_=>⟨I,H⟩,λz J hg=>⟨rfl,?_⟩⟩;rw[De E]at J;have:=h.least z;grind
theorem Best.skip{l C:List Int}{k:Nat}{f:Bool}{b:Int}(h:Best l C k f b)(E:k<l.length)(I:(∀y∈C,y<l.getD k 0)->f=true/\b<=l.getD k 0):Best l C (k+1) f b:=by refine⟨h.yes,λz H hg=>?_⟩;rw[De E]at H;have:=h.least z;grind
def add(l:List Int)(c:Int):List Int:=if 255<=(asc l).length/\c∉asc l then asc l else ins c (asc l)
def drop(l:List Int)(c:Int):List Int:=(asc l).filter (λx=>x != c)
end Go.Cm
namespace Go.Pl
open Go Go.Av Go.Ev
abbrev SUB:Type:=PFX×(Int×(Int×(List Int×(List Int×(Int×(Int×(Int×(Int×Unit))))))))
structure SmR(k:Nat)(r:SUB):Prop where
 pt:r.2.2.2.1.length<=100000
 cm:r.2.2.2.2.1.length<=k
abbrev zie(a:Bw):PS:=([],[],[],[([112],[([116],[],[a],1,())],1,())],())
theorem zhx(pe:List UInt8->Int)(a:Bw):KL pe (zie a)=o9 a:=by
 have j:∀s:PS,qM s [] (([116],[],[a],1,()):V8)=o9 a:=λs=>by
  have c:cE (uA s) ([]:List Tb)=0:=rfl;have d:cE o9 [a]=o9 a:=by show(if o9 a=0 then 0 else o9 a)=o9 a;omega
  unfold qM;rw[if_neg (by show ¬sO [116]=false;decide),if_neg (by simp),if_neg (by simp),c,if_neg (λh=>h rfl),if_neg (by simp),d];grind
 have g:∀s:PS,wj s (([112],[([116],[],[a],1,())],1,()):Rc)=o9 a:=λs=>by
  have e:qI (λi=>match([([116],[],[a],1,())]:List V8)[i]? with|some t=>qM s (([([116],[],[a],1,())]:List V8).take i) t|none=>0) 1=o9 a:=by show(if qM s [] (([116],[],[a],1,()):V8)=0 then 0 else qM s [] (([116],[],[a],1,()):V8))=o9 a;grind
  unfold wj;grind
 have l4:∀s:PS,im (·.1) (λp=>p.2.1.length) (wj s) ([([112],[([116],[],[a],1,())],1,())]:List Rc)=o9 a:=λs=>by
  have f:R1 (·.1) (λp=>p.2.1.length) (wj s) ([([112],[([116],[],[a],1,())],1,())]:List Rc) 0=o9 a:=by
   unfold R1;rw[if_neg (show ¬(vN (([([112],[([116],[],[a],1,())],1,())]:List Rc).map (·.1)) 0≠0) by show ¬(vN [[112]] 0≠0);decide)]
   grind
  unfold im;rw[if_neg (by simp)];show(if R1 (·.1) (λp=>p.2.1.length) (wj s) ([([112],[([116],[],[a],1,())],1,())]:List Rc) 0=0 then 0 else R1 (·.1) (λp=>p.2.1.length) (wj s) ([([112],[([116],[],[a],1,())],1,())]:List Rc) 0)=o9 a;omega
 unfold KL;have k:∀{α:Type} (nm:α->List UInt8) (sz:α->Nat) (b:α->Int),im nm sz b []=0:=λ_ _ _=>rfl;grind
abbrev DFT:Type:=List Int×(List (List Int)×(List Bool×(Int×Unit)))
abbrev yZ:Type:=Int×(Int×(PFX×(List V7×(DFT×(List Wa×Unit)))))
abbrev d6:Type:=Int×(Int×(Int×Unit))
abbrev lF:Type:=Bool×(List Bw×Unit)
abbrev eC:Type:=List yZ×(List d6×(List lF×(Int×Unit)))
abbrev yF:Ty:=pr [.list tI,.list (.list tI),.list tB,tI]
abbrev NV:Ty:=pr [tI,tI,yP,.list yR,yF,.list yC]
abbrev Di:Ty:=pr [tI,tI,tI]
abbrev K1:Ty:=pr [tB,.list yA]
abbrev yAU:Ty:=pr [.list NV,.list Di,.list K1,tI]
instance iDF:DecidableEq DFT:=by unfold DFT;infer_instance
instance iPR:DecidableEq V7:=by unfold V7;infer_instance
instance iT2:DecidableEq (DFT×(List Wa×Unit)):=instDecidableEqProd
instance iT1:DecidableEq (PFX×(List V7×(DFT×(List Wa×Unit)))):=instDecidableEqProd
instance iTS:DecidableEq yZ:=instDecidableEqProd
instance iAC:DecidableEq Bw:=by unfold Bw;infer_instance
instance iLA:DecidableEq (List Bw×Unit):=instDecidableEqProd
instance iLE:DecidableEq lF:=instDecidableEqProd
instance iA2:DecidableEq (List lF×(Int×Unit)):=instDecidableEqProd
instance iA1:DecidableEq (List d6×(List lF×(Int×Unit))):=instDecidableEqProd
instance iAU:DecidableEq eC:=instDecidableEqProd
theorem zgo(a b:PFX):jk yP a b=decide (a=b):=by obtain⟨c,d,⟨⟩⟩:=a;obtain⟨e,f,⟨⟩⟩:=b;rw[n_];simp[jk]
theorem zgp(a b:V7):jk yR a b=decide (a=b):=by obtain⟨c,⟨d,e,⟨⟩⟩,f,g,⟨⟩⟩:=a;obtain⟨h,⟨j,k,⟨⟩⟩,l,n,⟨⟩⟩:=b;rw[n_];simp[jk,and_assoc]
theorem zgn(a b:Wa):jk yC a b=decide (a=b):=by obtain⟨c,d,e,⟨⟩⟩:=a;obtain⟨f,g,h,⟨⟩⟩:=b;rw[n_];simp[jk]
theorem Ux(a b:d6):jk Di a b=decide (a=b):=by obtain⟨c,d,e,⟨⟩⟩:=a;obtain⟨f,g,h,⟨⟩⟩:=b;rw[n_];simp[jk]
theorem zgm(a b:Bw):jk yA a b=decide (a=b):=by rw[n_];simpa using X6 a b
theorem An{α:Type}{a b:List α}{body:Nat->(Int×Unit)->Option ((Int×Unit)⊕(Bool×Unit)⊕Unit)}{Q:(Bool×Unit)⊕Unit->Prop}(hl:a.length=b.length) (h:∀i (c:i<a.length) (d:i<b.length),Wp (λn=>body n ((i:Int),())) λr=>(a[i]=b[i]/\r= .inl (((i+1:Nat):Int),()))\/(¬a[i]=b[i]/\r= .inr (.inl (false,())))) (j:Wp (λn=>body n ((a.length:Int),())) λr=>r= .inr (.inr ())) (f:a=b->Q (.inr ())) (g:¬a=b->Q (.inl (false,()))):Wp (λn=>aT n (body n) ((0:Int),())) Q:=by
 refine Am (N:=a.length) (good:=λi=>a[i]? =b[i]?) (λi c=>?_) j (λh=>f (List.ext_getElem? λi=>?_)) (fun⟨i,_,hn⟩=>g λe=>hn (by rw[e]))
 ·have d:i<b.length:=by omega
  refine Go.Ev.wp_mono (h i c d) λr hr=>?_;rw[a_ c,a_ d,P_];exact hr
 ·by_cases c:i<a.length;·exact h i c
  ·rw[k_ (by omega),k_ (by omega)]
end Go.Pl
