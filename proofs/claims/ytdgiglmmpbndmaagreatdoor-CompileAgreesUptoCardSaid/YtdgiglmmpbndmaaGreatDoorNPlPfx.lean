import Derived.Test.YtdgiglmmpbndmaaGreatDoorNL5
import Derived.Lib.ItoaNum
set_option linter.all false
open Bool renaming eq_iff_iff->l_,false_or->A_,and_eq_true->B_,true_and->H_,false_eq_true->J_,and_assoc->R_,or_assoc->T_
open Classical renaming byContradiction->c_
open Go.IntKind renaming bits->n_,wrap->V_
open List renaming getElem?_eq_getElem->a_,length_append->b_,mem_cons_self->d_,mem_append->e_,mem_cons_of_mem->f_,cons_append->g_,mem_iff_getElem->h_,getElem?_append_left->j_,getElem?_eq_some_iff->k_,length_nil->m_,take_add_one->o_,take_of_length_le->p_,take_succ_eq_append_getElem->q_,pairwise_append->r_,foldl_cons->s_,getD->u_,mem_singleton->v_,drop_eq_getElem_cons->w_,getElem?_eq_none_iff->x_,pairwise_iff_getElem->y_,prefix_refl->C_,getElem?_eq_none->G_,map_cons->I_,pairwise_cons->K_,countP_cons->M_,getElem_mem->N_,length_cons->O_,take_length->P_,all_append->Q_,sum_cons->U_
open Nat renaming eq_of_testBit_eq->i_,zero_add->t_,le_refl->z_,testBit_mod_two_pow->D_,testBit_mul_two_pow->E_,strongRecOn->F_,or_lt_two_pow->L_,testBit_or->S_,le_trans->W_,zero_le->X_
open Option.some renaming injEq->Y_
namespace Go.Pl
open Go Go.Av Go.Ev
def bH(x n:Nat):Nat:=x>>>(32 - n) <<< (32 - n)
def yr(x n:Int):Int:=(bH x.toNat n.toNat:Int)
def uG(x n j:Nat):(bH x n).testBit j=(decide (32 - n<=j)&&x.testBit j):=by unfold bH;grind
def Xa(x n:Nat):bH x n<=x:=by unfold bH;rw[Nat.shiftLeft_eq,Nat.shiftRight_eq_div_pow];exact Nat.div_mul_le_self _ _
def Nq{x:Nat}(b:x<4294967296){j:Nat}(a:32<=j):x.testBit j=false:=Nat.testBit_lt_two_pow (Nat.lt_of_lt_of_le b (W_ (show 4294967296<=2^32 by simp) (Nat.pow_le_pow_right (by simp) a)))
def UA{x n:Nat}(b:x<4294967296)(hn:n<=32):x&&&(4294967295*2^(32 - n)%4294967296)=bH x n:=by
 refine i_ λj=>?_;rw[Nat.testBit_and,uG];by_cases a:j<32
 .have e:(4294967295*2^(32 - n)%4294967296).testBit j=decide (32 - n<=j):=by
   rw[show(4294967296:Nat)=2^32 from rfl,D_,decide_eq_true a,H_,E_];by_cases h:32 - n<=j;.rw[decide_eq_true (show j>=32 - n from h),H_,show(4294967295:Nat)=2^32 - 1 from rfl,Nat.testBit_two_pow_sub_one];grind
   grind
  grind
 .rw[Nq b (by omega)];simp
def UC{x:Nat}(b:x<4294967296):bH x 0=0:=by
 refine i_ λj=>?_;rw[uG,Nat.zero_testBit];by_cases a:32<=j;.rw[Nq b a,Bool.and_false]
 grind
def UB(x:Nat){i:Nat}(a:i<32):bH x (i+1)=bH x i|||(x/2^(31 - i)%2)*2^(31 - i):=by
 refine i_ λj=>?_;rw[S_,uG,uG,E_];have h2:∀k,(x/2^(31 - i)%2).testBit k=(decide (k=0)&&x.testBit (31 - i)):=λk=>by rw[show(2:Nat)=2^1 from rfl,D_];grind
 grind
def Mx{x y:Nat}(a:x<4294967296)(b:y<4294967296):kh .u32 .and (x:Int) (y:Int)=((x&&&y:Nat):Int):=by
 show V_ .u32 ((BitVec.ofInt (n_ .u32) (x:Int)&&&BitVec.ofInt (n_ .u32) (y:Int)).toNat:Int)=_;rw[wrap_u32,BitVec.toNat_and];have e:∀z:Nat,z<4294967296->(BitVec.ofInt (n_ .u32) (z:Int)).toNat=z:=λz c=>by rw[BitVec.toNat_ofInt];show(((z:Int)%((2^32:Nat):Int))).toNat=z;omega
 rw[e x a,e y b];have:x&&&y<=x:=Nat.and_le_left;omega
def Z2{x y:Nat}(a:x<4294967296)(b:y<4294967296):kh .u32 .or (x:Int) (y:Int)=((x|||y:Nat):Int):=by
 show V_ .u32 ((BitVec.ofInt (n_ .u32) (x:Int)|||BitVec.ofInt (n_ .u32) (y:Int)).toNat:Int)=_;rw[wrap_u32,BitVec.toNat_or];have e:∀z:Nat,z<4294967296->(BitVec.ofInt (n_ .u32) (z:Int)).toNat=z:=λz c=>by rw[BitVec.toNat_ofInt];show(((z:Int)%((2^32:Nat):Int))).toNat=z;omega
 rw[e x a,e y b];have:x|||y<2^32:=L_ (by omega) (by omega);omega
section
variable {α β σ τ:Type}
def kW(f:σ->β->σ⊕τ):σ->List β->σ⊕τ
 |s,[]=>.inl s
 |s,x::xs=>match f s x with
  | .inl s'=>kW f s' xs
  | .inr b=>.inr b
theorem f5 [DecidableEq α]:∀(l u:List α),l.Nodup->(∀x∈l,x∈u)->l.length<=u.length
 |[],_,_,_=>X_ _
 |x::l,u,hn,hs=>by
  have b:=hs x (d_ ..);have a:=List.nodup_cons.1 hn;have h:=f5 l (u.erase x) a.2 λy c=>by grind
  grind
theorem Oe{L L':List τ}(h:L<+:L'){i:Nat}{x:τ}(a:L[i]? =some x):L'[i]? =some x:=by obtain⟨t,rfl⟩:=h;grind
section
variable {f:α->β->α} {s0:α} {ls:List β}
theorem y5{L L':List α}(h:L<+:L'){i:Nat}{x:α}(a:L[i]? =some x):L'[i]? =some x:=by obtain⟨t,rfl⟩:=h;grind
structure Ok(f:α->β->α)(s0:α)(ls:List β)(L:List α)(T:List (Nat×β)):Prop where
 nodup:L.Nodup
 len:L.length=T.length+1
 head:L[0]? =some s0
 link:∀k j c,T[k]? =some (j,c)->j<k+1/\c∈ls/\∃x,L[j]? =some x/\L[k+1]? =some (f x c)
theorem Ok.add{L:List α}{T:List (Nat×β)}(h:Ok f s0 ls L T){x:α}{i:Nat}{c:β}(hx:L[i]? =some x)(hc:c∈ls)(hn:f x c∉L):Ok f s0 ls (L++[f x c]) (T++[(i,c)]):=by
 have hl:=h.len;refine⟨?_,by grind,?_,λk j I H=>?_⟩;.rw[List.nodup_append];exact⟨h.nodup,by simp,λa U b Y=>by grind⟩
 .rw[j_ (by omega)];exact h.head
 .by_cases E:k<T.length;.rw[j_ E]at H;obtain⟨h1,h2,y,J,N⟩:=h.link k j I H;grind
  grind
theorem Ok.inv{P:α->Prop}{L:List α}{T:List (Nat×β)}(h:Ok f s0 ls L T)(H:P s0)(N:∀x c,c∈ls->P x->P (f x c)):∀(k:Nat) (x:α),L[k]? =some x->P x:=by
 intro k;induction k using F_ with
 |ind k Y=>
  intro x E
  match k with|0=>rw[h.head]at E;grind|k+1=>have U:=(k_.1 E).1;obtain⟨h1,h2,y,I,J⟩:=h.link k _ _ (a_ (by have:=h.len;omega));grind
def Quiet(sp:List α->α->Bool)(L:List α):Prop:=∀k x,L[k+1]? =some x->sp (L.take (k+1)) x=false
theorem Quiet.add{sp:List α->α->Bool}{L:List α}{y:α}(h:Quiet sp L)(hs:sp L y=false):Quiet sp (L++[y]):=by
 intro k x E;by_cases H:k+1<L.length;.rw[j_ H]at E;rw[List.take_append_of_le_length (by omega)];exact h k x E
 grind
theorem Ok.pre{L L':List α}{T H:List (Nat×β)}(h:Ok f s0 ls L T)(I:L'<+:L)(N:H<+:T)(hl:L'.length=H.length+1):Ok f s0 ls L' H:=by
 have E:∀k,k<L'.length->L'[k]? =L[k]? :=λk J=>by obtain⟨t,rfl⟩:=I;grind
 refine⟨h.nodup.sublist I.sublist,hl,by rw[E 0 (by omega)];exact h.head,λk j c J=>?_⟩;obtain⟨h1,h2,x,U,Y⟩:=h.link k j c (Oe N J);grind
inductive Tr(T:List (Nat×β)):Nat->List β->Prop
 |zero:Tr T 0 []
 |step {k j:Nat} {c:β} {p:List β}:T[k]? =some (j,c)->Tr T j p->Tr T (k+1) (p++[c])
theorem Tr.mono{T E:List (Nat×β)}(hp:T<+:E){k:Nat}{p:List β}(h:Tr T k p):Tr E k p:=by induction h with|zero=>exact .zero|step h1 _ H=>exact .step (Oe hp h1) H
theorem Ok.tr{L:List α}{T:List (Nat×β)}(h:Ok f s0 ls L T):∀k,k<L.length->∃p,Tr T k p:=by
 intro k;induction k using F_ with
 |ind k H=>
  intro I
  match k with|0=>exact⟨[],.zero⟩|k+1=>have E:=a_ (l:=T) (i:=k) (by have:=h.len;omega);obtain⟨h1,_⟩:=h.link k _ _ E;obtain⟨p,hp⟩:=H _ h1 (by omega);exact⟨_,.step E hp⟩
theorem Tr.len{L:List α}{T:List (Nat×β)}(h:Ok f s0 ls L T){k:Nat}{p:List β}(ht:Tr T k p):p.length<=k:=by induction ht with|zero=>simp|step h1 _ E=>have:=(h.link _ _ _ h1).1;grind
end
variable [DecidableEq α]
abbrev pos(L:List α)(x:α):Nat:=L.idxOf x
theorem zcE{x y:α}{L:List α}(h:x≠y):pos (x::L) y=pos L y+1:=by grind
def bC(f:α->β->α)(x:α)(i:Nat)(st:List α×List (Nat×β)×List Nat)(c:β):List α×List (Nat×β)×List Nat:=
 if f x c∈st.1 then(st.1,st.2.1,st.2.2++[st.1.idxOf (f x c)])else(st.1++[f x c],st.2.1++[(i,c)],st.2.2++[st.1.length])
def kH(sp:List α->α->Bool)(f:α->β->α)(x:α)(i:Nat)(st:List α×List (Nat×β)×List Nat)(c:β):(List α×List (Nat×β)×List Nat)⊕(List α×List (Nat×β)):=
 if f x c∈st.1 then .inl (st.1,st.2.1,st.2.2++[st.1.idxOf (f x c)])
 else if sp st.1 (f x c)then .inr (st.1++[f x c],st.2.1++[(i,c)])else .inl (st.1++[f x c],st.2.1++[(i,c)],st.2.2++[st.1.length])
theorem Ov{sp:List α->α->Bool}{f:α->β->α}{x:α}{i:Nat}{c:β}{L:List α}{T:List (Nat×β)}{r:List Nat}{y:α}(a:f x c=y)(h:y∈L):kH sp f x i (L,T,r) c= .inl (L,T,r++[L.idxOf y]):=by subst a;simp only[kH,if_pos h]
theorem I6{sp:List α->α->Bool}{f:α->β->α}{x:α}{i:Nat}{c:β}{L:List α}{T:List (Nat×β)}{r:List Nat}{y:α}(a:f x c=y)(h:y∉L)(hs:sp L y=true):kH sp f x i (L,T,r) c= .inr (L++[y],T++[(i,c)]):=by subst a;simp only[kH,if_neg h,if_pos hs]
theorem Ow{sp:List α->α->Bool}{f:α->β->α}{x:α}{i:Nat}{c:β}{L:List α}{T:List (Nat×β)}{r:List Nat}{y:α}(a:f x c=y)(h:y∉L)(hs:sp L y=false):kH sp f x i (L,T,r) c= .inl (L++[y],T++[(i,c)],r++[L.length]):=by subst a;simp only[kH,if_neg h,hs,J_,if_false]
variable (f:α->β->α) (s0:α) (ls:List β)
def cp:Nat->List α×List (Nat×β)×List (List Nat)
 |0=>([s0],[],[])
 |i+1=>match(cp i).1[i]? with
  |none=>cp i
  |some x=>let r:=ls.foldl (bC f x i) ((cp i).1,(cp i).2.1,[])
   (r.1,r.2.1,(cp i).2.2++[r.2.2])
def ji(sp:List α->α->Bool):Nat->(List α×List (Nat×β)×List (List Nat))⊕(List α×List (Nat×β)×List (List Nat))
 |0=>.inl ([s0],[],[])
 |i+1=>match ji sp i with
  | .inr r=>.inr r
  | .inl S=>match S.1[i]? with
   |none=>.inl S
   |some x=>match kW (kH sp f x i) (S.1,S.2.1,[]) ls with
    | .inl r=>.inl (r.1,r.2.1,S.2.2++[r.2.2])
    | .inr r=>.inr (r.1,r.2,S.2.2)
variable {f s0 ls}
theorem pF(x:α)(i:Nat)(st:List α×List (Nat×β)×List Nat)(c:β):st.1<+:(bC f x i st c).1/\st.2.1<+:(bC f x i st c).2.1:=by grind[bC]
theorem yj(x:α)(i:Nat):∀(l:List β) (st:List α×List (Nat×β)×List Nat),st.1<+:(l.foldl (bC f x i) st).1/\st.2.1<+:(l.foldl (bC f x i) st).2.1
 |[],st=>⟨C_ _,C_ _⟩
 |c::l,st=>by have h1:=pF (f:=f) x i st c;have h2:=yj x i l (bC f x i st c);grind
theorem AG{L L':List α}(h:L<+:L'){x:α}(a:x∈L):L'.idxOf x=L.idxOf x:=by obtain⟨t,rfl⟩:=h;grind
theorem C7{x:α}{i:Nat}:∀(l:List β) (st:List α×List (Nat×β)×List Nat),Ok f s0 ls st.1 st.2.1->st.1[i]? =some x->(∀c∈l,c∈ls)->
 Ok f s0 ls (l.foldl (bC f x i) st).1 (l.foldl (bC f x i) st).2.1/\(∀c∈l,f x c∈(l.foldl (bC f x i) st).1)/\
 (l.foldl (bC f x i) st).2.2=st.2.2++l.map λc=>(l.foldl (bC f x i) st).1.idxOf (f x c)
 |[],st,h,_,_=>⟨h,by simp,by simp⟩
 |c::l,st,h,d,hc=>by
  have b:Ok f s0 ls (bC f x i st c).1 (bC f x i st c).2.1/\f x c∈(bC f x i st c).1/\(bC f x i st c).2.2=st.2.2++[(bC f x i st c).1.idxOf (f x c)]:=by
   unfold bC;split;.grind
   .rename_i hn;refine⟨h.add d (hc c (d_ ..)) hn,by simp,?_⟩;grind
  obtain⟨h1,h2,g⟩:=C7 l (bC f x i st c) b.1 (y5 (pF x i st c).1 d) λe a=>hc e (f_ _ a);grind[yj,bC,AG]
theorem dV{i:Nat}{x:α}(a:(cp f s0 ls i).1[i]? =some x):cp f s0 ls (i+1)=((ls.foldl (bC f x i) ((cp f s0 ls i).1,(cp f s0 ls i).2.1,[])).1,(ls.foldl (bC f x i) ((cp f s0 ls i).1,(cp f s0 ls i).2.1,[])).2.1,(cp f s0 ls i).2.2++[(ls.foldl (bC f x i) ((cp f s0 ls i).1,(cp f s0 ls i).2.1,[])).2.2]):=by grind[cp]
theorem fW{i:Nat}(a:(cp f s0 ls i).1[i]? =none):cp f s0 ls (i+1)=cp f s0 ls i:=by simp only[cp,a]
theorem eX:∀i,Ok f s0 ls (cp f s0 ls i).1 (cp f s0 ls i).2.1
 |0=>⟨by simp[cp],rfl,rfl,by simp[cp]⟩
 |i+1=>by cases a:(cp f s0 ls i).1[i]? with|none=>rw[fW a];exact eX i|some x=>rw[dV a];exact(C7 ls ((cp f s0 ls i).1,(cp f s0 ls i).2.1,[]) (eX i) a λ_ h=>h).1
theorem nH(i:Nat):(cp f s0 ls i).1<+:(cp f s0 ls (i+1)).1/\(cp f s0 ls i).2.1<+:(cp f s0 ls (i+1)).2.1:=by cases a:(cp f s0 ls i).1[i]? with|none=>grind[fW]|some x=>rw[dV a];exact yj x i ls ((cp f s0 ls i).1,(cp f s0 ls i).2.1,[])
theorem MW{i j:Nat}(h:i<=j):(cp f s0 ls i).1<+:(cp f s0 ls j).1/\(cp f s0 ls i).2.1<+:(cp f s0 ls j).2.1:=by induction h with|refl=>simp|step _ a=>grind[nH]
theorem En{i j:Nat}(h:i<=j)(a:(cp f s0 ls i).1.length<=i):cp f s0 ls j=cp f s0 ls i:=by induction h with|refl=>rfl| @step m h b=>grind[fW]
theorem ng:∀i,∀j≥i,(cp f s0 ls i).2.2=((cp f s0 ls i).1.take i).map λx=>ls.map λc=>(cp f s0 ls j).1.idxOf (f x c)
 |0,j,_=>by simp[cp]
 |i+1,j,n=>by
  cases a:(cp f s0 ls i).1[i]? with
  |none=>have b:=x_.1 a;rw[fW a,ng i j (by omega),p_ b,p_ (by omega)]|some x=>
   have l:=(k_.1 a).1;have k:=C7 ls ((cp f s0 ls i).1,(cp f s0 ls i).2.1,[]) (eX i) a λ_ h=>h;have hp:=(nH (f:=f) (s0:=s0) (ls:=ls) i).1;have d:=y5 hp a;have e:(cp f s0 ls (i+1)).1.take (i+1)=(cp f s0 ls i).1.take i++[x]:=by rw[o_,d];congr 1;obtain⟨t,ht⟩:=hp;grind
   rw[e,List.map_append,<-ng i j (by omega)];have g:(cp f s0 ls (i+1)).2.2=(cp f s0 ls i).2.2++[(ls.foldl (bC f x i) ((cp f s0 ls i).1,(cp f s0 ls i).2.1,[])).2.2]:=by rw[dV a]
   rw[g,k.2.2];congr 1;simp only[List.nil_append,I_,List.map_nil,List.cons.injEq,and_true];grind[List.map_congr_left,cp,dV,bC,AG,MW]
theorem lX:∀i,∀x∈(cp f s0 ls i).1.take i,∀c∈ls,f x c∈(cp f s0 ls i).1
 |0,x,a,_,_=>by grind
 |i+1,y,b,c,hc=>by
  cases a:(cp f s0 ls i).1[i]? with
  |none=>have e:=x_.1 a;rw[fW a]at b⊢;refine lX i y ?_ c hc;grind[p_]|some x=>
   have g:=(k_.1 a).1;have hp:=(nH (f:=f) (s0:=s0) (ls:=ls) i).1;have d:(cp f s0 ls (i+1)).1.take (i+1)=(cp f s0 ls i).1.take i++[x]:=by rw[o_,y5 hp a];congr 1;obtain⟨t,ht⟩:=hp;grind
   rw[d]at b;rcases e_.1 b with h|h;.exact hp.subset (lX i y h c hc)
   .simp at h;subst h;have j:=C7 ls ((cp f s0 ls i).1,(cp f s0 ls i).2.1,[]) (eX i) a λ_ h=>h;grind[dV]
theorem Ok.bound{L:List α}{T:List (Nat×β)}(h:Ok f s0 ls L T){u:List α}(E:s0∈u)(I:∀x c,c∈ls->x∈u->f x c∈u):L.length<=u.length:=by refine f5 _ _ h.nodup λx J=>?_;obtain⟨k,H,rfl⟩:=h_.1 J;exact h.inv E I k _ (a_ H)
theorem Ay{sp:List α->α->Bool}{x:α}{i:Nat}:∀(l:List β) (st:List α×List (Nat×β)×List Nat),Quiet sp st.1->
 (∀r,kW (kH sp f x i) st l= .inl r->r=l.foldl (bC f x i) st/\Quiet sp r.1)/\
 (∀r,kW (kH sp f x i) st l= .inr r->∃L y,r.1=L++[y]/\Quiet sp L/\sp L y=true/\r.1<+:(l.foldl (bC f x i) st).1/\r.2<+:(l.foldl (bC f x i) st).2.1/\st.1<+:L)
 |[],st,h=>⟨λr hr=>by cases hr;exact⟨rfl,h⟩,λr hr=>by cases hr⟩
 |c::l,st,h=>by
  by_cases a:f x c∈st.1
  .have b:kH sp f x i st c= .inl (bC f x i st c):=by unfold kH bC;rw[if_pos a,if_pos a]
   have e:=Ay (sp:=sp) (x:=x) (i:=i) l (bC f x i st c) (by unfold bC;rw[if_pos a];exact h);grind[pF,kW]
  .cases hs:sp st.1 (f x c)
   .have b:kH sp f x i st c= .inl (bC f x i st c):=by unfold kH bC;rw[if_neg a,if_neg a,if_neg (by rw[hs];simp)]
    have e:=Ay (sp:=sp) (x:=x) (i:=i) l (bC f x i st c) (by unfold bC;rw[if_neg a];exact h.add hs);grind[pF,kW]
   .have b:kH sp f x i st c= .inr (st.1++[f x c],st.2.1++[(i,c)]):=by unfold kH;rw[if_neg a,if_pos hs]
    have d:bC f x i st c=(st.1++[f x c],st.2.1++[(i,c)],st.2.2++[st.1.length]):=by unfold bC;rw[if_neg a]
    refine⟨λr hr=>?_,λr hr=>?_⟩;.simp only[kW,b]at hr;cases hr
    .simp only[kW,b]at hr;cases hr;have hp:=yj (f:=f) x i l (bC f x i st c);rw[d]at hp;refine⟨st.1,f x c,rfl,h,hs,?_,?_,C_ _⟩;.rw[s_,d];exact hp.1
     .rw[s_,d];exact hp.2
theorem iB{sp:List α->α->Bool}:∀i,
 (∀S,ji f s0 ls sp i= .inl S->S=cp f s0 ls i/\Quiet sp S.1)/\
 (∀r,ji f s0 ls sp i= .inr r->∃L y,r.1=L++[y]/\L≠[]/\Quiet sp L/\sp L y=true/\r.1<+:(cp f s0 ls i).1/\r.2.1<+:(cp f s0 ls i).2.1)
 |0=>⟨λS h=>by cases h;exact⟨rfl,λk x g=>by grind⟩,λr h=>by cases h⟩
 |i+1=>by
  have j:=iB (sp:=sp) i;cases h:ji f s0 ls sp i with
  |inr r=>grind[ji,nH]|inl S=>
   obtain⟨rfl,c⟩:=j.1 S h;cases g:(cp f s0 ls i).1[i]? with
   |none=>grind[ji,cp,fW]|some x=>
    have b:=Ay (f:=f) (sp:=sp) (x:=x) (i:=i) ls ((cp f s0 ls i).1,(cp f s0 ls i).2.1,[]) c;cases hr:kW (kH sp f x i) ((cp f s0 ls i).1,(cp f s0 ls i).2.1,[]) ls with
    |inl r=>
     have e:ji f s0 ls sp (i+1)= .inl (r.1,r.2.1,(cp f s0 ls i).2.2++[r.2.2]):=by grind[ji]
     refine⟨λS a=>?_,λr hr=>by grind⟩;rw[e]at a;cases a;obtain⟨rfl,d⟩:=b.1 r hr;grind[dV]
    |inr r=>grind[ji,cp,dV]
theorem Em{sp:List α->α->Bool}{i j:Nat}(a:i<=j){r:List α×List (Nat×β)×List (List Nat)}(h:ji f s0 ls sp i= .inr r):ji f s0 ls sp j= .inr r:=by induction a with|refl=>omega|step _ b=>grind[ji]
theorem Iv{sp:List α->α->Bool}{i j:Nat}(a:i<=j){S:List α×List (Nat×β)×List (List Nat)}(h:ji f s0 ls sp i= .inl S)(b:S.1.length<=i):ji f s0 ls sp j= .inl S:=by induction a with|refl=>omega| @step m c d=>grind[ji]
theorem QG{L:List α}{y:α}:∀{k:Nat},k<=L.length->(∀j z,j<k->L[j]? =some z->z≠y)->(∀z,L[k]? =some z->z=y)->k=pos L y:=by induction L with|nil=>simp|cons x L b=>intro k d h1 h2;cases k with|zero=>rw[<-h2 x rfl];simp|succ k=>rw[zcE (h1 0 x (by simp) rfl),<-b (k:=k) (by grind) (λj z c a=>h1 (j+1) z (by omega) (by grind)) (λz a=>h2 z (by grind))]
theorem K7{L:List α}{y:α}:y∈L↔pos L y<L.length:=by unfold pos;exact List.idxOf_lt_length_iff.symm
end
open Go Go.Ev
def fg{P:Rx->Prop}(h:∀k lo a ks,(∀r∈ks,P r)->P (.mk k lo a ks)):∀r,P r:=λr=>Rx.rec (motive_1:=P) (motive_2:=λks=>∀r∈ks,P r) (λk lo a ks b=>h k lo a ks b) (λr hr=>by grind) (λr ks c d x e=>by grind) r
theorem b8(v:Rx):Rx.mk v.out.1 v.out.2.1 v.out.2.2.1 v.out.2.2.2.1=v:=by cases v;rfl
structure G where
 fi:List Nat
 la:List Nat
 em:Bool
 pr:List (Nat×Nat)
 sp:List (Int×Int)
def ca(a b:List Nat):List (Nat×Nat):=a.flatMap λp=>b.map λq=>(p,q)
def jY{a b:List Nat}{p q:Nat}:(p,q)∈ca a b↔p∈a/\q∈b:=by unfold ca;simp
def gY(a x:G):G:=⟨if a.em then a.fi++x.fi else a.fi,if x.em then a.la++x.la else x.la,a.em&&x.em,a.pr++x.pr++ca a.la x.fi,a.sp++x.sp⟩
def q6(a x:G):G:=⟨a.fi++x.fi,a.la++x.la,a.em||x.em,a.pr++x.pr,a.sp++x.sp⟩
def jl(x:G):G:=⟨x.fi,x.la,x.em,x.pr++ca x.la x.fi,x.sp⟩
def Is(x:G):G:=⟨x.fi,x.la,true,x.pr,x.sp⟩
def g0(e:Bool):G:=⟨[],[],e,[],[]⟩
def IB(o:Nat)(lo a:Int):G:=⟨[o],[o],false,[],[(lo,a)]⟩
mutual
def bO:Rx->Nat->G
 | .mk k lo a ks,o=>
  if k=1 then IB o lo a else if k=2 then IB o 0 4294967295
  else if k=3 then cY ks o (g0 true)else if k=4 then bZ ks o (g0 false)
  else if k=5 then Is (jl (bZ ks o (g0 false)))else if k=6 then jl (bZ ks o (g0 false))
  else if k=7 then Is (bZ ks o (g0 false))else g0 true
def cY:List Rx->Nat->G->G
 |[],_,a=>a
 |r::b,o,a=>cY b o (gY a (bO r (o+a.sp.length)))
def bZ:List Rx->Nat->G->G
 |[],_,a=>a
 |r::b,o,a=>bZ b o (q6 a (bO r (o+a.sp.length)))
end
def No(o:Nat):∀(l m:List Rx) (a:G),cY (l++m) o a=cY m o (cY l o a)
 |[],_,_=>by simp[cY]
 |r::l,m,a=>by simp only[g_,cY];exact No o l m _
def Nn(o:Nat):∀(l m:List Rx) (a:G),bZ (l++m) o a=bZ m o (bZ l o a)
 |[],_,_=>by simp[bZ]
 |r::l,m,a=>by simp only[g_,bZ];exact Nn o l m _
def AD{o:Nat}{ks:List Rx}{i:Nat}(h:i<ks.length)(a:G):cY (ks.take (i+1)) o a=gY (cY (ks.take i) o a) (bO ks[i] (o+(cY (ks.take i) o a).sp.length)):=by rw[o_,a_ h,No];simp[cY]
def AB{o:Nat}{ks:List Rx}{i:Nat}(h:i<ks.length)(a:G):bZ (ks.take (i+1)) o a=q6 (bZ (ks.take i) o a) (bO ks[i] (o+(bZ (ks.take i) o a).sp.length)):=by rw[o_,a_ h,Nn];simp[bZ]
def zaw{P:Nat->G->Prop}(f:∀o e,P o (g0 e))(h1:∀o lo c,P o (IB o lo c))(hs:∀o a x,P o a->P (o+a.sp.length) x->P o (gY a x))(d:∀o a x,P o a->P (o+a.sp.length) x->P o (q6 a x)) (hl:∀o a,P o a->P o (jl a)) (n:∀o a,P o a->P o (Is a)):∀(r:Rx) (o:Nat),P o (bO r o):=by
 intro r;refine fg (P:=λr=>∀o,P o (bO r o)) (λk lo c ks b o=>?_) r;have g:∀(l:List Rx) (a:G),(∀r∈l,∀o,P o (bO r o))->P o a->P o (bZ l o a):=by intro l;induction l with|nil=>intro a _ h;exact h|cons r l b=>intro a hl h;exact b _ (λr hr=>hl r (f_ _ hr)) (d o a _ h (hl r (d_ ..) _))
 have j:∀(l:List Rx) (a:G),(∀r∈l,∀o,P o (bO r o))->P o a->P o (cY l o a):=by intro l;induction l with|nil=>intro a _ h;exact h|cons r l b=>intro a hl h;exact b _ (λr hr=>hl r (f_ _ hr)) (hs o a _ h (hl r (d_ ..) _))
 unfold bO;split;.grind
 split;.grind
 split;.grind
 split;.grind
 split;.grind
 split;all_goals grind
structure GY(o:Nat)(g:G):Prop where
 fi:∀p∈g.fi,o<=p/\p<o+g.sp.length
 la:∀p∈g.la,o<=p/\p<o+g.sp.length
 pr:∀p q,(p,q)∈g.pr->(o<=p/\p<o+g.sp.length)/\o<=q/\q<o+g.sp.length
 fl:g.fi.length<=g.sp.length
 ll:g.la.length<=g.sp.length
def zaO{o:Nat}{a x:G}(b:GY o a)(c:GY (o+a.sp.length) x):GY o (gY a x):=by
 have d:=b.fl;have f:=b.ll;have e:=c.fl;have g:=c.ll;refine⟨λp hp=>?_,λp hp=>?_,λp q hp=>?_,?_,?_⟩
 .simp only[gY,b_]at hp⊢;split at hp
  .rcases e_.1 hp with h|h;.have:=b.fi p h;omega
   .have:=c.fi p h;omega
  .have:=b.fi p hp;omega
 .simp only[gY,b_]at hp⊢;split at hp
  .rcases e_.1 hp with h|h;.have:=b.la p h;omega
   .have:=c.la p h;omega
  .have:=c.la p hp;omega
 .simp only[gY,b_,e_,jY]at hp⊢;rcases hp with(h|h)|⟨h,h'⟩;.have:=b.pr p q h;omega
  .have:=c.pr p q h;omega
  .have:=b.la p h;have:=c.fi q h';omega
 .simp only[gY,b_];grind
 .simp only[gY,b_];grind
def zaN{o:Nat}{a x:G}(b:GY o a)(c:GY (o+a.sp.length) x):GY o (q6 a x):=by
 have d:=b.fl;have f:=b.ll;have e:=c.fl;have g:=c.ll;refine⟨λp hp=>?_,λp hp=>?_,λp q hp=>?_,?_,?_⟩
 .simp only[q6,b_]at hp⊢;rcases e_.1 hp with h|h;.have:=b.fi p h;omega
  .have:=c.fi p h;omega
 .simp only[q6,b_]at hp⊢;rcases e_.1 hp with h|h;.have:=b.la p h;omega
  .have:=c.la p h;omega
 .simp only[q6,b_,e_]at hp⊢;rcases hp with h|h;.have:=b.pr p q h;omega
  .have:=c.pr p q h;omega
 .simp only[q6,b_];omega
 .simp only[q6,b_];omega
def Xl{o:Nat}{x:G}(h:GY o x):GY o (jl x):=by
 refine⟨h.fi,h.la,λp q hp=>?_,h.fl,h.ll⟩;simp only[jl,e_,jY]at hp⊢;rcases hp with hp|⟨h1,h2⟩;.exact h.pr p q hp
 .exact⟨h.la p h1,h.fi q h2⟩
def zcn(o:Nat)(e:Bool):GY o (g0 e):=⟨by simp[g0],by simp[g0],by simp[g0],by simp[g0],by simp[g0]⟩
def eY:∀(r:Rx) (o:Nat),GY o (bO r o):=zaw zcn (λo lo d=>⟨by simp[IB],by simp[IB],by simp[IB],by simp[IB],by simp[IB]⟩) (λ_ _ _ b c=>zaO b c) (λ_ _ _ b c=>zaN b c) (λ_ _ h=>Xl h) (λo a h=>⟨h.fi,h.la,h.pr,h.fl,h.ll⟩)
def bK(l:List Nat):Nat:=l.foldr (λp a=>a|||2^p) 0
def cW(l:List Nat)(i:Nat):(bK l).testBit i=decide (i∈l):=by induction l with|nil=>simp[bK]|cons p l a=>have:bK (p::l)=bK l|||2^p:=rfl;grind
def xH(a b:List Nat):bK (a++b)=bK a|||bK b:=by refine i_ λi=>?_;rw[S_,cW,cW,cW];simp
def fv{l:List Nat}{n:Nat}(h:∀p∈l,p<n):bK l<2^n:=by refine Nat.lt_pow_two_of_testBit _ λi a=>?_;rw[cW];grind
def zd2{a b n:Nat}(c:a<2^n)(d:b<2^n):a|||b<2^n:=L_ c d
def CL(pr:List (Nat×Nat))(p:Nat):List Nat:=(pr.filter λx=>x.1=p).map (·.2)
def jx{pr:List (Nat×Nat)}{p q:Nat}:q∈CL pr p↔(p,q)∈pr:=by unfold CL;simp
def fO(k n:Int):Bool:=bif k==0||k==1||k==2 then n==0 else bif k==3 then decide (n>=2)else bif k==4 then n != 1 else bif k==5||k==6||k==7 then n==1 else false
def pZ(k:Int):Bool:=k==0||k==1||k==2||k==3||k==4||k==5||k==6||k==7
def fD(k lo a n:Int):Int:=
 bif !pZ k then 15 else bif k==1&&(decide (lo<0)||decide (lo>a)||decide (a>4294967295))then 5 else bif (k != 1&&(lo != 0||a != 0))|| !fO k n then 1 else 0
def EY{k:Int}:pZ k=true↔k=0\/k=1\/k=2\/k=3\/k=4\/k=5\/k=6\/k=7:=by simp only[pZ,Bool.or_eq_true,beq_iff_eq,or_assoc]
structure Node(k lo hi n:Int):Prop where
 known:k=0\/k=1\/k=2\/k=3\/k=4\/k=5\/k=6\/k=7
 za:k=1->0<=lo/\lo<=hi/\hi<=4294967295
 zero:k≠1->lo=0/\hi=0
 leaf:k=0\/k=1\/k=2->n=0
 seq:k=3->2<=n
 alt:k=4->n≠1
 one:k=5\/k=6\/k=7->n=1
theorem Fw{k lo a n:Int}:fD k lo a n=0↔Node k lo a n:=by
 constructor
 .intro h;unfold fD at h;cases h1:pZ k;.grind
  rw[h1]at h;have d:=EY.1 h1;simp only[Bool.not_true,cond_false]at h;cases h2:(k==1&&(decide (lo<0)||decide (lo>a)||decide (a>4294967295)))
  .rw[h2]at h;simp only[cond_false]at h;cases c:((k != 1&&(lo != 0||a != 0))|| !fO k n)
   .simp only[Bool.or_eq_false_iff,Bool.and_eq_false_iff,bne_eq_false_iff_eq,Bool.not_eq_false',beq_eq_false_iff_ne,decide_eq_false_iff_not]at h2 c;obtain⟨c,b⟩:=c;refine⟨d,λe=>?_,λe=>?_,λe=>?_,λe=>?_,λe=>?_,λe=>?_⟩;.omega
    .omega
    .rcases e with rfl|rfl|rfl<;>simpa[fO]using b
    .subst e;simpa[fO]using b
    .subst e;simpa[fO]using b
    .rcases e with rfl|rfl|rfl<;>simpa[fO]using b
   grind
  grind
 .intro h;have h1:pZ k=true:=EY.2 h.known;have h2:(k==1&&(decide (lo<0)||decide (lo>a)||decide (a>4294967295)))=false:=by
   by_cases e:k=1;.have:=h.za e;grind
   grind
  have c:(k != 1&&(lo != 0||a != 0))=false:=by
   by_cases e:k=1;.grind
   .have:=h.zero e;grind
  have b:fO k n=true:=by
   rcases h.known with rfl|rfl|rfl|rfl|rfl|rfl|rfl|rfl;.simpa[fO]using h.leaf (by simp)
   .simpa[fO]using h.leaf (by simp)
   .simpa[fO]using h.leaf (by simp)
   .simpa[fO]using h.seq rfl
   .simpa[fO]using h.alt rfl
   .simpa[fO]using h.one (by simp)
   .simpa[fO]using h.one (by simp)
   .simpa[fO]using h.one (by simp)
  unfold fD;grind
mutual
def sz:Rx->Nat
 | .mk _ _ _ ks=>1+sN ks
def sN:List Rx->Nat
 |[]=>0
 |r::a=>sz r+sN a
end
def m7:∀{ks:List Rx} {r:Rx},r∈ks->sz r<=sN ks
 |x::ks,r,h=>by
  simp only[sN];rcases List.mem_cons.1 h with rfl|h;.simp
  .have:=m7 h;omega
def zc3(r:Rx):0<sz r:=by cases r;simp only[sz];omega
def zp:∀ks:List Rx,ks.length<=sN ks
 |[]=>z_ _
 |r::ks=>by simp only[sN,O_];have:=zp ks;have:=zc3 r;omega
theorem Lt:∀l m:List Rx,sN (l++m)=sN l+sN m
 |[],m=>by simp[sN]
 |r::l,m=>by simp only[g_,sN,Lt l m];omega
mutual
def cN:Rx->Bool
 | .mk k lo a ks=>fD k lo a ks.length==0&&r7 ks
def r7:List Rx->Bool
 |[]=>true
 |r::a=>cN r&&r7 a
end
theorem lM:∀ks:List Rx,r7 ks=true↔∀r∈ks,cN r=true
 |[]=>by simp[r7]
 |r::ks=>by simp[r7,lM ks]
theorem eF{k lo a:Int}{ks:List Rx}:cN (.mk k lo a ks)=true↔Node k lo a ks.length/\∀r∈ks,cN r=true:=by simp only[cN,B_,beq_iff_eq,Fw,lM]
mutual
def tk:Rx->Int->Int->Int×Int
 | .mk k lo a ks,lv,c=>if lv>16 then(c,24)else if c>=64 then(c,4)else if fD k lo a ks.length≠0 then(c,fD k lo a ks.length)else fH ks (lv+1) (c+1)
def fH:List Rx->Int->Int->Int×Int
 |[],_,c=>(c,0)
 |r::a,lv,c=>if(tk r lv c).2≠0 then tk r lv c else fH a lv (tk r lv c).1
end
mutual
def Pj:Rx->Bool
 | .mk k _ _ ks=>bif k==0||k==5||k==7 then true else bif k==3||k==6 then qF ks else bif k==4 then vv ks else false
def qF:List Rx->Bool
 |[]=>true
 |r::a=>Pj r&&qF a
def vv:List Rx->Bool
 |[]=>false
 |r::a=>Pj r||vv a
end
theorem NY:∀l m:List Rx,qF (l++m)=(qF l&&qF m)
 |[],m=>by simp[qF]
 |r::l,m=>by simp only[g_,qF,NY l m,R_]
theorem NZ:∀l m:List Rx,vv (l++m)=(vv l||vv m)
 |[],m=>by simp[vv]
 |r::l,m=>by simp only[g_,vv,NZ l m,T_]
mutual
def cnt:Rx->Nat
 | .mk k _ _ ks=>(bif k==1||k==2 then 1 else 0)+cj ks
def cj:List Rx->Nat
 |[]=>0
 |r::a=>cnt r+cj a
end
def nC:∀l m:List Rx,cj (l++m)=cj l+cj m
 |[],m=>by simp[cj]
 |r::l,m=>by simp only[g_,cj,nC l m];omega
def D3(r:Rx):cnt r<=sz r:=by
 refine fg (P:=λr=>cnt r<=sz r) (λk lo c ks a=>?_) r;have:∀l:List Rx,(∀r∈l,cnt r<=sz r)->cj l<=sN l:=by intro l;induction l with|nil=>intro _;exact z_ _|cons r l b=>intro h;simp only[cj,sN];grind
 have:=this ks a;simp only[cnt,sz];grind
theorem len_nil{ks:List Rx}(h:(ks.length:Int)=0):ks=[]:=List.length_eq_zero_iff.1 (by omega)
def iq{ks:List Rx}(h:(ks.length:Int)=1):∃r,ks=[r]:=List.length_eq_one_iff.1 (by omega)
def dF:∀(r:Rx),cN r=true->∀o,(bO r o).sp.length=cnt r/\(bO r o).em=Pj r:=by
 refine fg λk lo y ks n w o=>?_;obtain⟨hn,e⟩:=eF.1 w;have u:∀(l:List Rx) (a:G),(∀r∈l,r∈ks)->(bZ l o a).sp.length=a.sp.length+cj l/\(bZ l o a).em=(a.em||vv l):=by intro l;induction l with|nil=>intro a _;simp[bZ,cj,vv]|cons r l c=>intro a hl;have hr:=hl r (d_ ..);obtain⟨h1,h2⟩:=n r hr (e r hr) (o+a.sp.length);obtain⟨f,g⟩:=c (q6 a (bO r (o+a.sp.length))) λx j=>hl x (f_ _ j);simp only[bZ,f,g,cj,vv];simp only[q6,b_,h1,h2,T_];grind
 have v:∀(l:List Rx) (a:G),(∀r∈l,r∈ks)->(cY l o a).sp.length=a.sp.length+cj l/\(cY l o a).em=(a.em&&qF l):=by intro l;induction l with|nil=>intro a _;simp[cY,cj,qF]|cons r l c=>intro a hl;have hr:=hl r (d_ ..);obtain⟨h1,h2⟩:=n r hr (e r hr) (o+a.sp.length);obtain⟨f,g⟩:=c (gY a (bO r (o+a.sp.length))) λx j=>hl x (f_ _ j);simp only[cY,f,g,cj,qF];simp only[gY,b_,h1,h2,R_];grind
 obtain⟨b,d⟩:=u ks (g0 false) λ_ h=>h;obtain⟨p,s⟩:=v ks (g0 true) λ_ h=>h;rcases hn.known with rfl|rfl|rfl|rfl|rfl|rfl|rfl|rfl;.have:=len_nil (hn.leaf (by simp));subst this;simp[bO,g0,cnt,cj,Pj]
 .have:=len_nil (hn.leaf (by simp));subst this;simp[bO,IB,cnt,cj,Pj]
 .have:=len_nil (hn.leaf (by simp));subst this;simp[bO,IB,cnt,cj,Pj]
 .simp only[g0,m_,t_,H_]at p s;simp[bO,g0,p,s,cnt,Pj]
 .simp only[g0,m_,t_,A_]at b d;simp[bO,g0,b,d,cnt,Pj]
 .simp only[g0,m_,t_,A_]at b d;simp[bO,Is,jl,g0,b,cnt,Pj]
 .obtain⟨x,rfl⟩:=iq (hn.one (by simp));simp only[g0,m_,t_,A_]at b d;simp[bO,jl,g0,b,d,cnt,Pj,vv,qF]
 .simp only[g0,m_,t_,A_]at b d;simp[bO,Is,g0,b,cnt,Pj]
open Go Go.Ev Go.Lib
def EW(b:UInt8):Prop:=48<=b.toNat/\b.toNat<=57
instance (b:UInt8):Decidable (EW b):=inferInstanceAs (Decidable (_/\_))
def lL(l:List UInt8):Nat:=l.foldl (λn b=>10*n+(b.toNat - 48)) 0
theorem uS(l:List UInt8)(b:UInt8):lL (l++[b])=10*lL l+(b.toNat - 48):=by simp[lL,List.foldl_append]
def Iq{n:Nat}(h:n<10):(UInt8.ofNat (48+n)).toNat=48+n:=by simp;omega
def uz:∀(n:Nat),(∀b∈decDigits n,EW b)/\lL (decDigits n)=n/\0<(decDigits n).length/\(1<(decDigits n).length->((decDigits n).getD 0 0).toNat≠48)/\(0<n->((decDigits n).getD 0 0).toNat≠48):=by
 intro n;induction n using F_ with
 |ind n c=>
  rw[decDigits];by_cases h:n<10
  .rw[dif_pos h];have:=Iq h;refine⟨λb a=>?_,?_,by simp,by simp,?_⟩;.simp only[v_]at a;subst a;unfold EW;omega
   .show 10*0+((UInt8.ofNat (48+n)).toNat - 48)=n;omega
   grind
  .rw[dif_neg h];obtain⟨h1,h2,d,e,f⟩:=c (n/10) (by omega);have hd:=Iq (show n%10<10 by omega);have hg:(decDigits (n/10)++[UInt8.ofNat (48+n%10)]).getD 0 0=(decDigits (n/10)).getD 0 0:=by grind
   refine⟨λb a=>?_,?_,by simp,λ_=>?_,λ_=>?_⟩
   .simp only[e_,v_]at a;rcases a with a|rfl;.grind
    .unfold EW;omega
   .rw[uS,h2,hd];omega
   all_goals grind
theorem xP(n:Nat):∀b∈decDigits n,EW b:=(uz n).1
theorem xQ(n:Nat):lL (decDigits n)=n:=(uz n).2.1
theorem D7(n:Nat):0<(decDigits n).length:=(uz n).2.2.1
theorem T3(n:Nat)(h:1<(decDigits n).length):((decDigits n).getD 0 0).toNat≠48:=(uz n).2.2.2.1 h
def MM:∀(n k:Nat),n<10^(k+1)->(decDigits n).length<=k+1
 |n,0,h=>by rw[decDigits,dif_pos (by omega)];simp
 |n,k+1,h=>by
  rw[decDigits];split;.simp
  .have:=MM (n/10) k (by omega);grind
def jB{n:Nat}(h:n<=4294967295):(decDigits n).length<=10:=MM n 9 (by omega)
theorem takeD{l:List UInt8}{k:Nat}(h:k<l.length):l.take (k+1)=l.take k++[l.getD k 0]:=by
 have e:l.getD k 0=l[k]:=by grind
 rw[q_ h,e]
def zr(l:List UInt8):∀(d k:Nat),k+d=l.length->lL (l.take k)<=lL l
 |0,k,h=>by grind
 |d+1,k,h=>by have h1:=zr l d (k+1) (by omega);rw[takeD (by omega),uS]at h1;omega
theorem Jk{l:List UInt8}{k:Nat}(h:k<=l.length):lL (l.take k)<=lL l:=zr l (l.length - k) k (by omega)
def my(p:Int):Rx->Bool
 | .mk k _ _ ks=>bif k==4 then !ks.isEmpty else bif k==3 then p != 4 else(k==5||k==6||k==7)&&(p==5||p==6||p==7)
def sx(w:Bool)(l:List UInt8):List UInt8:=bif w then 40::(l++[41])else l
def jn(sep:UInt8):List (List UInt8)->List UInt8
 |[]=>[]
 |[x]=>x
 |x::y::l=>x++sep::jn sep (y::l)
mutual
def pat:Rx->List UInt8
 | .mk k lo a ks=>
  if k=0 then [40,41]else if k=2 then [46]
  else if k=1 then(if lo=a then decDigits lo.toNat else 91::(decDigits lo.toNat++45::(decDigits a.toNat++[93])))
  else if k=5 then(K5 5 ks).headD []++[42]else if k=6 then(K5 6 ks).headD []++[43]else if k=7 then(K5 7 ks).headD []++[63]
  else if k=4 then(if ks=[]then [33]else jn 124 (K5 4 ks))else jn 32 (K5 3 ks)
def K5:Int->List Rx->List (List UInt8)
 |_,[]=>[]
 |p,r::a=>sx (my p r) (pat r)::K5 p a
end
def jy(p:Int)(r:Rx):List UInt8:=sx (my p r) (pat r)
theorem dI(p:Int):∀ks:List Rx,K5 p ks=ks.map (jy p)
 |[]=>by simp[K5]
 |r::a=>by simp[K5,dI p a,jy]
def KI(sep:UInt8):∀(l:List (List UInt8)) (x:List UInt8),jn sep (l++[x])=if l=[]then x else jn sep l++sep::x
 |[],x=>by simp[jn]
 |[y],x=>by simp[jn]
 |y::z::l,x=>by have:=KI sep (z::l) x;simp only[g_,jn]at*;grind
def KH(sep:UInt8):∀(l:List (List UInt8)),(jn sep l).length<=(l.map λx=>x.length+1).sum
 |[]=>by simp[jn]
 |[x]=>by simp[jn]
 |x::y::l=>by have:=KH sep (y::l);simp only[jn,b_,O_,I_,U_]at*;omega
def Sn(p:Int)(r:Rx):(jy p r).length<=(pat r).length+2:=by unfold jy sx;cases my p r<;>simp
def Dh:∀(r:Rx),cN r=true->(pat r).length+3<=26*sz r:=by
 refine fg λk lo c ks j f=>?_;obtain⟨hn,b⟩:=eF.1 f;have a:∀p:Int,∀l:List Rx,(∀r∈l,r∈ks)->((l.map (jy p)).map λx=>x.length+1).sum<=26*sN l:=by intro p l;induction l with|nil=>simp|cons r l n=>intro h;have h1:=j r (h r (d_ ..)) (b r (h r (d_ ..)));have h2:=n λx g=>h x (f_ _ g);have u:=Sn p r;simp only[I_,U_,sN]at*;omega
 have hd:∀p:Int,((ks.map (jy p)).headD []).length<=26*sN ks:=by intro p;have h1:=a p ks λ_ h=>h;cases ks with|nil=>simp|cons r l=>grind
 have v:∀(p:Int) (s:UInt8),(jn s (ks.map (jy p))).length<=26*sN ks:=λp s=>W_ (KH s _) (a p ks λ_ h=>h);have d:k=1->(decDigits lo.toNat).length<=10/\(decDigits c.toNat).length<=10:=λe=>by have:=hn.za e;exact⟨jB (by omega),jB (by omega)⟩
 simp only[pat,dI,sz];grind
end Go.Pl
namespace Go.Ev
open Go Go.RowKit Go.Av
def Ak(f:Nat->Int)(i:Nat):Nat->Int
 |0=>0
 |k+1=>if f i=0 then Ak f (i+1) k else f i
def gS(f:Nat->Int)(N:Nat):Int:=Ak f 0 N
def Iu{f:Nat->Int}:∀(k i:Nat),Ak f i k=0↔∀j,i<=j->j<i+k->f j=0
 |0,i=>by simp only[Ak,true_iff];omega
 |k+1,i=>by
  simp only[Ak];split;.rename_i h;rw[Iu k (i+1)];grind
  grind
def nf{f:Nat->Int}{N:Nat}:gS f N=0↔∀j,j<N->f j=0:=by unfold gS;rw[Iu];simp
def MS{f:Nat->Int}{c:Int}(h:∀j,f j=0\/f j=c):∀(k i:Nat),Ak f i k=0\/Ak f i k=c
 |0,_=>.inl rfl
 |k+1,i=>by
  simp only[Ak];split;.exact MS h k (i+1)
  grind
def WP{f:Nat->Int}{c:Int}{N:Nat}(h:∀j,f j=0\/f j=c):gS f N=0\/gS f N=c:=MS h N 0
def bz{α:Type}(f:α->Int)(l:List α):Int:=gS (λi=>match l[i]? with|some x=>f x|none=>0) l.length
def fj{α:Type}{f:α->Int}{l:List α}:bz f l=0↔∀x∈l,f x=0:=by
 unfold bz;rw[nf];constructor;.intro h x a;obtain⟨i,b,rfl⟩:=h_.1 a;grind
 grind
def mG{ρ β a:Type}{N:Nat}{f:Nat->Int}{enc:Nat->ρ}{oB:Int->β}{oE:a}{body:Nat->ρ->Option (ρ⊕β⊕a)}{Q:β⊕a->Prop} (h:∀i,i<N->Wp (λn=>body n (enc i)) λr=>r=if f i=0 then .inl (enc (i+1))else .inr (.inl (oB (f i)))) (c:Wp (λn=>body n (enc N)) λr=>r= .inr (.inr oE)) (b:Q (if gS f N=0 then .inr oE else .inl (oB (gS f N)))):Wp (λn=>ff n (body n) (enc 0)) Q:=by
 refine aI (N:=N) (I:=λi s=>s=enc i/\gS f N=Ak f i (N - i)) ⟨rfl,rfl⟩ (λi s d hs=>?_) λs hs=>?_;.obtain⟨rfl,hd⟩:=hs;refine wp_mono (h i d) λr hr=>?_;subst hr;rw[show N - i=(N - (i+1))+1 by omega]at hd;simp only[Ak]at hd;grind
 .obtain⟨rfl,hd⟩:=hs;refine wp_mono c λr hr=>?_;subst hr;rw[Nat.sub_self]at hd;rw[if_pos (show gS f N=0 from hd)]at b;omega
def iu{α ρ β a:Type}{l:List α}{f:α->Int}{enc:Nat->ρ}{oB:Int->β}{oE:a}{body:Nat->ρ->Option (ρ⊕β⊕a)}{Q:β⊕a->Prop} (h:∀i (d:i<l.length),Wp (λn=>body n (enc i)) λr=>r=if f l[i]=0 then .inl (enc (i+1))else .inr (.inl (oB (f l[i])))) (c:Wp (λn=>body n (enc l.length)) λr=>r= .inr (.inr oE)) (b:Q (if bz f l=0 then .inr oE else .inl (oB (bz f l)))):Wp (λn=>ff n (body n) (enc 0)) Q:=by
 refine mG (f:=λi=>match l[i]? with|some x=>f x|none=>0) (oB:=oB) (λi d=>?_) c b
 grind
def iP{α ρ β b:Type}{xs:List α}{p:α->Bool}{enc:Nat->ρ}{g:α->β}{e:b}{body:Nat->ρ->Option (ρ⊕β⊕b)}{Q:β⊕b->Prop} (h:∀(i:Nat) (a:i<xs.length),Wp (λn=>body n (enc i)) λr=>r=if p xs[i]then .inr (.inl (g xs[i]))else .inl (enc (i+1))) (c:Wp (λn=>body n (enc xs.length)) λr=>r= .inr (.inr e)) (d:Q (match xs.find? p with|some x=>.inl (g x)|none=>.inr e)):Wp (λn=>ff n (body n) (enc 0)) Q:=by
 refine aI (N:=xs.length) (I:=λi s=>s=enc i/\xs.find? p=(xs.drop i).find? p) ⟨rfl,by simp⟩ (λi s a hs=>?_) λs hs=>?_;.obtain⟨rfl,hd⟩:=hs;refine wp_mono (h i a) λr hr=>?_;rw[w_ a,List.find?_cons]at hd;grind
 .obtain⟨rfl,hd⟩:=hs;refine wp_mono c λr hr=>?_;grind
end Go.Ev
namespace Go.Pl
open Go Go.Av Go.Ev
abbrev Gu:Type:=Int×(Int×Unit)
abbrev oJ:Type:=Int×(List UInt8×(Int×(Gu×(Bool×Unit))))
abbrev j7:Type:=Int×(Int×(Int×(Int×(Int×Unit))))
abbrev jd:Type:=List UInt8×(List oJ×(List j7×(Int×Unit)))
abbrev sr:Type:=List UInt8×(List jd×(Int×Unit))
abbrev Ly:Type:=Bool×(Gu×(Int×(Int×Unit)))
abbrev Zm:Type:=List UInt8×(List Ly×Unit)
abbrev Pt:Type:=Bool×(List UInt8×Unit)
abbrev Zl:Type:=List UInt8×(List Pt×Unit)
abbrev Tv:Type:=Bool×(Int×(Int×Unit))
abbrev Zi:Type:=List UInt8×(List Tv×Unit)
abbrev PS:Type:=List Zm×(List Zl×(List Zi×(List sr×Unit)))
abbrev yP:Ty:=pr [tW,tI]
abbrev yM:Ty:=pr [tI,tS,tI,yP,tB]
abbrev yA:Ty:=pr [tI,tI,tI,tW,tW]
abbrev yT:Ty:=pr [tS,.list yM,.list yA,tI]
abbrev yO:Ty:=pr [tS,.list yT,tI]
abbrev yR:Ty:=pr [tB,yP,tI,tI]
abbrev yL:Ty:=pr [tS,.list yR]
abbrev yH:Ty:=pr [tB,tS]
abbrev yG:Ty:=pr [tS,.list yH]
abbrev yC:Ty:=pr [tB,tI,tI]
abbrev yD:Ty:=pr [tS,.list yC]
abbrev yS:Ty:=pr [.list yL,.list yG,.list yD,.list yO]
def ik(p:Gu):Bool:=(decide (0<=p.2.1)&&decide (p.2.1<=32))&&(yr p.1 p.2.1==p.1)
def Fu(c:UInt8):Bool:=(((decide ((c.toNat:Int)>=97)&&decide ((c.toNat:Int)<=122))||(decide ((c.toNat:Int)>=65)&&decide ((c.toNat:Int)<=90)))||(decide ((c.toNat:Int)>=48)&&decide ((c.toNat:Int)<=57)))||((c.toNat:Int)==45)
def jX(s:List UInt8):Bool:=s.all Fu&&(decide (1<=s.length)&&decide (s.length<=32))
def gG(r:Ly):Int:=if ik r.2.1=false then 1 else if r.2.2.1<r.2.1.2.1\/r.2.2.2.1<r.2.2.1\/r.2.2.2.1>32 then 5 else 0
def gE(r:Tv):Int:=if r.2.1< -1\/r.2.1>65535\/r.2.2.1< -1\/r.2.2.1>65535 then 5 else 0
def tR(a b:List UInt8):Bool:=Op.bytesLess a b||a==b
def kP(l:List (List UInt8))(i:Nat):Int:=match l[i]? with
 |none=>0
 |some x=>if jX x=false then 1 else if 0<i/\tR x (l.getD (i - 1) [])=true then 16 else 0
def xS{α:Type}(nm:α->List UInt8)(sz:α->Nat)(ck:α->Int)(l:List α)(i:Nat):Int:=if kP (l.map nm) i≠0 then kP (l.map nm) i else match l[i]? with
 |none=>0
 |some x=>if sz x>64 then 4 else ck x
def c8{α:Type}(nm:α->List UInt8)(sz:α->Nat)(ck:α->Int)(l:List α):Int:=if l.length>64 then 4 else gS (xS nm sz ck l) l.length
def Xo(k:Int):Int:=if k=4 then 1 else 0
def IC(k:Int):Int:=if k=4 then 7 else if k=5 then 4294967295 else if k=6 then 16777216 else 2000
def yq(s:PS)(k:Int)(n:List UInt8):Bool:=if k=1 then s.1.any (·.1==n)else if k=2 then s.2.1.any (·.1==n)else s.2.2.1.any (·.1==n)
def iw(s:PS)(m:oJ):Int:=
 if m.1<1\/8<m.1 then 15
 else if(3<m.1/\m.2.1≠[])\/(¬(m.1=4\/m.1=5\/m.1=6\/m.1=8)/\m.2.2.1≠0)\/(m.1≠7/\(m.2.2.2.1.1≠0\/m.2.2.2.1.2.1≠0))then 1
 else if m.1<=3 then(if yq s m.1 m.2.1 then 0 else 6)
 else if m.1=7 then(if ik m.2.2.2.1 then 0 else 1)
 else if m.2.2.1<Xo m.1\/IC m.1<m.2.2.1 then 5 else 0
def kC(a:j7):j7:=if a.1<=4 then(a.1,a.2.1,0,0,0,())else if a.1=5 then(a.1,0,0,0,a.2.2.2.2.1,())else if a.1<=7 then(a.1,0,0,a.2.2.2.1,0,())else(a.1,a.2.1,a.2.2.1,0,0,())
def jk(a:j7):Bool:=if a.1=3 then decide (0<=a.2.1)&&decide (a.2.1<=16777216)else if a.1<=4 then decide (0<=a.2.1)&&decide (a.2.1<=4294967295)else if a.1=5 then a.2.2.2.2.1 != 0
 else if a.1<=7 then true else(decide (1<=a.2.2.1)&&decide (a.2.2.1<=4294967295))&&(decide (1<=a.2.1)&&decide (a.2.1<=16))
def eP(a:j7):Int:=if a.1<1\/8<a.1 then 15 else if ¬a=kC a then 1 else if jk a=false then 5 else 0
def R6(a b:j7):hZ yA a b=true↔a=b:=by obtain⟨c,d,e,f,g,⟨⟩⟩:=a;obtain⟨h,j,k,l,n,⟨⟩⟩:=b;simp[hZ]
def gu(s:PS)(a:List jd)(t:jd):Int:=
 if jX t.1=false then 1
 else if a.any (·.1==t.1)=true then 7
 else if t.2.1.length>64 then 4
 else if bz (iw s) t.2.1≠0 then bz (iw s) t.2.1
 else if t.2.2.1.length>64 then 4
 else if bz eP t.2.2.1≠0 then bz eP t.2.2.1
 else if t.2.2.2.1<1\/3<t.2.2.2.1 then 15 else 0
def kQ(s:PS)(p:sr):Int:=
 if gS (λi=>match p.2.1[i]? with|some t=>gu s (p.2.1.take i) t|none=>0) p.2.1.length≠0 then gS (λi=>match p.2.1[i]? with|some t=>gu s (p.2.1.take i) t|none=>0) p.2.1.length
 else if p.2.2.1≠1/\p.2.2.1≠2 then 15 else 0
def j5(pe:List UInt8->Int)(s:PS):Int:=
 if c8 (·.1) (λl=>l.2.1.length) (λl=>bz gG l.2.1) s.1≠0 then c8 (·.1) (λl=>l.2.1.length) (λl=>bz gG l.2.1) s.1
 else if c8 (·.1) (λl=>l.2.1.length) (λl=>bz (λr=>pe r.2.1) l.2.1) s.2.1≠0 then c8 (·.1) (λl=>l.2.1.length) (λl=>bz (λr=>pe r.2.1) l.2.1) s.2.1
 else if c8 (·.1) (λl=>l.2.1.length) (λl=>bz gE l.2.1) s.2.2.1≠0 then c8 (·.1) (λl=>l.2.1.length) (λl=>bz gE l.2.1) s.2.2.1
 else c8 (·.1) (λp=>p.2.1.length) (kQ s) s.2.2.2.1
def jF{s:PS}{k N a pl:Int}{nm:List UInt8}{nt:Bool}(h:k=1\/k=2\/k=3):iw s (k,nm,N,(a,pl,()),nt,())=if N≠0\/a≠0\/pl≠0 then 1 else if yq s k nm then 0 else 6:=by unfold iw;grind
def Fo{s:PS}{N a pl:Int}{nm:List UInt8}{nt:Bool}:iw s (7,nm,N,(a,pl,()),nt,())=if nm≠[]\/N≠0 then 1 else if ik (a,pl,())then 0 else 1:=by unfold iw;simp
def Fp{s:PS}{k N a pl:Int}{nm:List UInt8}{nt:Bool}(h:k=4\/k=5\/k=6\/k=8):iw s (k,nm,N,(a,pl,()),nt,())=if nm≠[]\/a≠0\/pl≠0 then 1 else if N<Xo k\/IC k<N then 5 else 0:=by unfold iw;grind
theorem Fl{s:PS}{m:oJ}(h:m.1<1\/8<m.1):iw s m=15:=by unfold iw;rw[if_pos h]
structure Bw(s:PS):Prop where
 ok:okD yS s
 l1:s.1.length<=1048576
 l2:s.2.1.length<=1048576
 l3:s.2.2.1.length<=1048576
 l4:s.2.2.2.1.length<=1048576
 pt:∀l∈s.2.1,∀r∈l.2.1,r.2.1.length<=1048576
def Db{α:Type}{nm:α->List UInt8}{sz:α->Nat}{ck:α->Int}{l:List α}(h:c8 nm sz ck l=0):l.length<=64/\∀x∈l,jX (nm x)=true/\sz x<=64/\ck x=0:=by
 unfold c8 at h;split at h;.omega
 rename_i hl;refine⟨by omega,λx c=>?_⟩;obtain⟨i,a,rfl⟩:=h_.1 c;have h1:=nf.1 h i a;unfold xS at h1;split at h1;.omega
 rename_i h2;rw[a_ a]at h1;simp only at h1;split at h1;.omega
 rename_i d;refine⟨?_,by omega,h1⟩;have b:kP (l.map nm) i=0:=c_ h2;unfold kP at b;grind
structure Mc(s:PS)(t:jd):Prop where
 nm:jX t.1=true
 ml:t.2.1.length<=64
 ma:∀m∈t.2.1,iw s m=0
 al:t.2.2.1.length<=64
 ac:∀a∈t.2.2.1,eP a=0
 ve:1<=t.2.2.2.1/\t.2.2.2.1<=3
def zbm{s:PS}{b:List jd}{t:jd}(h:gu s b t=0):Mc s t:=by
 unfold gu at h;split at h;.omega
 rename_i c;split at h;.omega
 split at h;.omega
 rename_i h1;split at h;.omega
 rename_i h2;split at h;.omega
 rename_i d;split at h;.omega
 rename_i a;split at h;.omega
 rename_i e;refine⟨?_,by omega,fj.1 (c_ h2),by omega,fj.1 (c_ a),by omega⟩;grind
structure Ib(s:PS)(p:sr):Prop where
 tl:p.2.1.length<=64
 tr:∀t∈p.2.1,Mc s t
 df:p.2.2.1=1\/p.2.2.1=2
structure L8(pe:List UInt8->Int)(s:PS):Prop where
 l1:s.1.length<=64
 r1:∀l∈s.1,l.2.1.length<=64/\∀r∈l.2.1,gG r=0
 l2:s.2.1.length<=64
 r2:∀l∈s.2.1,l.2.1.length<=64/\∀r∈l.2.1,pe r.2.1=0
 l3:s.2.2.1.length<=64
 r3:∀l∈s.2.2.1,l.2.1.length<=64/\∀r∈l.2.1,gE r=0
 l4:s.2.2.2.1.length<=64
 r4:∀p∈s.2.2.2.1,Ib s p
def za1{s:PS}{p:sr}(hl:p.2.1.length<=64)(h:kQ s p=0):Ib s p:=by
 unfold kQ at h;split at h;.omega
 rename_i b;split at h;.omega
 rename_i h1;refine⟨hl,λt ht=>?_,by omega⟩;obtain⟨i,a,rfl⟩:=h_.1 ht;have h2:=nf.1 (c_ b) i a;rw[a_ a]at h2;exact zbm h2
def yZ{pe:List UInt8->Int}{s:PS}(h:j5 pe s=0):L8 pe s:=by
 unfold j5 at h;split at h;.omega
 rename_i h1;split at h;.omega
 rename_i h2;split at h;.omega
 rename_i e;have a:=Db (c_ h1);have b:=Db (c_ h2);have c:=Db (c_ e);have d:=Db h;exact⟨a.1,λl hl=>⟨(a.2 l hl).2.1,fj.1 (a.2 l hl).2.2⟩,b.1,λl hl=>⟨(b.2 l hl).2.1,λr hr=>fj.1 (b.2 l hl).2.2 r hr⟩,c.1,λl hl=>⟨(c.2 l hl).2.1,fj.1 (c.2 l hl).2.2⟩,d.1,λp hp=>za1 (d.2 p hp).2.1 (d.2 p hp).2.2⟩
def mS(s:PS)(n:List UInt8):Option sr:=s.2.2.2.1.find? (·.1==n)
def l5{s:PS}{n:List UInt8}{p:sr}(h:mS s n=some p):p∈s.2.2.2.1:=List.mem_of_find?_eq_some h
end Go.Pl
namespace Go.Cm
def kX(x:Int):List Int->Bool->List Int
 |[],d=>if d then []else [x]
 |y::r,d=>(if !d&&decide (x<=y)then [x]else [])++((if y != x then [y]else [])++kX x r (d||decide (x<=y)))
abbrev ins(x:Int)(l:List Int):List Int:=kX x l false
def pc(l:List Int):List Int:=l.foldl (λo x=>ins x o) []
abbrev Up(l:List Int):Prop:=l.Pairwise (·<·)
def AN(x z:Int):∀(l:List Int) (d:Bool),z∈kX x l d↔(z∈l/\z≠x)\/(d=false/\z=x)
 |[],d=>by cases d<;>simp[kX]
 |y::r,d=>by have:=AN x z r (d||decide (x<=y));grind [kX]
def KY(x z:Int)(l:List Int):z∈ins x l↔z∈l\/z=x:=by have:=AN x z l false;grind
def uniq:∀(a b:List Int),Up a->Up b->(∀z,z∈a↔z∈b)->a=b
 |[],[],_,_,_=>rfl
 |[],y::b,_,_,h=>by have:=h y;simp at this
 |y::b,[],_,_,h=>by have:=h y;simp at this
 |x::a,y::b,c,d,h=>by
  have h1:=(h x).1 (by simp);have h2:=(h y).2 (by simp);unfold Up at c d;rw[K_]at c d;have e:x=y:=by grind
  subst e;rw[uniq a b c.2 d.2];grind
def IJ(x:Int):∀(l:List Int) (d:Bool),(kX x l d).length<=l.length+(if d then 0 else 1)
 |[],d=>by cases d<;>simp[kX]
 |y::r,d=>by have:=IJ x r (d||decide (x<=y));grind [kX]
def zaK(x:Int)(l:List Int):(ins x l).length<=l.length+1:=IJ x l false
def O3(x:Int):∀(l:List Int) (d:Bool),Up l->(d=true->∀z∈l,x<=z)->Up (kX x l d)
 |[],d,_,_=>by cases d<;>simp[kX]
 |y::r,d,hl,hd=>by unfold Up at hl⊢;rw[K_]at hl;have b:=O3 x r (d||decide (x<=y)) hl.2 (by grind);have a:=λz=>AN x z r (d||decide (x<=y));simp only[kX,r_];grind [List.Pairwise.nil]
def Rj(x:Int)(l:List Int)(h:Up l):Up (ins x l):=O3 x l false h (by simp)
def tK:∀(l o:List Int),Up o->Up (l.foldl (λo x=>ins x o) o)/\(∀z,z∈l.foldl (λo x=>ins x o) o↔z∈o\/z∈l)/\(l.foldl (λo x=>ins x o) o).length<=o.length+l.length
 |[],o,h=>⟨h,by simp,by simp⟩
 |x::l,o,h=>by
  have⟨h1,h2,b⟩:=tK l (ins x o) (Rj x o h);have:=zaK x o;have a:=λz=>KY x z o;refine⟨h1,λz=>?_,?_⟩;.rw[s_,h2,a];grind
  .rw[s_];grind
def Ri(l:List Int):Up (pc l):=(tK l [] List.Pairwise.nil).1
theorem Dc(l:List Int)(z:Int):z∈pc l↔z∈l:=by have:=(tK l [] List.Pairwise.nil).2.1 z;simpa[pc]using this
def KM(l:List Int):(pc l).length<=l.length:=by have:=(tK l [] List.Pairwise.nil).2.2;simpa[pc]using this
def Wk{l o:List Int}(h:Up o)(a:∀z,z∈o↔z∈l):o=pc l:=uniq _ _ h (Ri l) (by grind [Dc])
def zaC(x:Int)(l:List Int):ins x (pc l)=pc (pc l++[x]):=Wk (Rj x _ (Ri l)) (by intro z;rw[KY];simp)
def Qp(x:Int)(l:List Int)(k:Nat)(d:Bool)(h:k<l.length):kX x (l.drop k) d=(if !d&&decide (x<=l.getD k 0)then [x]else [])++((if l.getD k 0 != x then [l.getD k 0]else [])++kX x (l.drop (k+1)) (d||decide (x<=l.getD k 0))):=by
 have e:l.getD k 0=l[k]:=by simp[u_,a_ h]
 rw[e,w_ h];rfl
def ow{l:List Int}{k:Nat}(h:k<l.length):l.take (k+1)=l.take k++[l.getD k 0]:=by
 have e:l.getD k 0=l[k]:=by simp[u_,a_ h]
 rw[q_ h,e]
def left(l a:List Int):Nat:=l.countP λz=>a.all (λy=>decide (y<z))
def left_step{l a:List Int}{b:Int}(c:b∈l)(f:∀y∈a,y<b):left l (a++[b])+1<=left l a:=by
 unfold left;induction l with
 |nil=>simp at c|cons z l j=>
  rw[M_,M_];have g:l.countP (λz=>(a++[b]).all λy=>decide (y<z))<=l.countP (λz=>a.all λy=>decide (y<z)):=by apply List.countP_mono_left;intro z _ h;simp only[Q_,B_]at h;exact h.1
  by_cases e:z=b
  .subst e;have h1:((a++[z]).all λy=>decide (y<z))=false:=by simp
   have h2:(a.all λy=>decide (y<z))=true:=by simpa using f
   rw[h1,h2];simp only[J_,if_false,if_true];omega
  .have d:b∈l:=by simp at c;rcases c with h|h;exact absurd h.symm e;exact h
   have k:=j d;have h1:(if((a++[b]).all λy=>decide (y<z))=true then 1 else 0)<=(if(a.all λy=>decide (y<z))=true then 1 else 0):=by
    split;.rename_i h;simp only[Q_,B_]at h;rw[if_pos h.1];exact z_ 1
    .exact X_ _
   omega
structure vS(l out:List Int)(k:Nat)(found:Bool)(best:Int):Prop where
 yes:found=true->best∈l/\(∀y∈out,y<best)
 least:∀z∈l.take k,(∀y∈out,y<z)->found=true/\best<=z
structure Out(l out:List Int):Prop where
 up:Up out
 sub:∀z∈out,z∈l
 all:∀z∈l,z∈out\/∀y∈out,y<z
 len:out.length+left l out<=l.length
def Out.zero(l:List Int):Out l []:=⟨List.Pairwise.nil,by simp,by simp,by simp[left]⟩
def Out.step{l E:List Int}{b:Int}(h:Out l E)(J:vS l E l.length true b):Out l (E++[b]):=by
 obtain⟨h1,h2⟩:=J.yes rfl;have hl:=left_step h1 h2;have H:=J.least;rw[P_]at H;refine⟨?_,?_,λz N=>?_,?_⟩;.have:=h.up;unfold Up at this⊢;rw[r_];grind
 .have:=h.sub;grind
 .rcases h.all z N with I|I;.grind
  .have:=(H z N I).2;by_cases e:z=b;.left;simp[e]
   .right;grind
 .have:=h.len;simp;omega
def Out.za0{l E:List Int}{b:Int}(h:Out l E)(N:vS l E l.length false b):E=pc l:=by
 refine Wk h.up λz=>⟨h.sub z,λJ=>?_⟩;have I:=N.least;rw[P_]at I;rcases h.all z J with H|H;.exact H
 .have:=(I z J H).1;cases this
def Sw{a:List Int}(h:Up a)(b:a≠[])(z:Int):(∀y∈a,y<z)↔a.getD (a.length - 1) 0<z:=by
 have hl:a.length - 1<a.length:=by have:=List.length_pos_iff.2 b;omega
 have e:a.getD (a.length - 1) 0=a[a.length - 1]:=by simp[u_,a_ hl]
 rw[e];refine⟨λh=>h _ (N_ hl),λf y d=>?_⟩;obtain⟨i,c,rfl⟩:=List.getElem_of_mem d;unfold Up at h;rw[y_]at h;by_cases e:i=a.length - 1;.subst e;exact f
 .have:=h i (a.length - 1) c hl (by omega);omega
def vS.zero(l E:List Int)(b:Int):vS l E 0 false b:=⟨by simp,by simp⟩
def vS.take{l E:List Int}{k:Nat}{f:Bool}{b:Int}(h:vS l E k f b)(H:k<l.length)(h1:∀y∈E,y<l.getD k 0)(h2:f=false\/l.getD k 0<b):vS l E (k+1) true (l.getD k 0):=by
 have e:l.getD k 0=l[k]:=by simp[u_,a_ H]
 have I:l.getD k 0∈l:=by rw[e];exact N_ H
 refine⟨λ_=>⟨I,h1⟩,λz J hg=>⟨rfl,?_⟩⟩;rw[ow H]at J;have:=h.least z;grind
def vS.skip{l E:List Int}{k:Nat}{f:Bool}{b:Int}(h:vS l E k f b)(H:k<l.length)(h1:(∀y∈E,y<l.getD k 0)->f=true/\b<=l.getD k 0):vS l E (k+1) f b:=by refine⟨h.yes,λz I hg=>?_⟩;rw[ow H]at I;have:=h.least z;grind
def Tt{l:List Int}{k:Nat}(h:Up (l.take k))(g:k<l.length)(h1:k=0\/l.getD (k - 1) 0<l.getD k 0):Up (l.take (k+1)):=by
 rw[ow g];by_cases e:l.take k=[];.rw[e];simp
 .have:=(Sw h e (l.getD k 0)).2 ?_;.unfold Up at h⊢;rw[r_];refine⟨h,by simp,λa f b d=>?_⟩;simp only[v_]at d;rw[d];exact this a f
  .have c:k≠0:=by intro h;subst h;simp at e
   have:(l.take k).getD ((l.take k).length - 1) 0=l.getD (k - 1) 0:=by simp only[u_,List.length_take,List.getElem?_take];rw[show min k l.length=k by omega,if_pos (by omega)]
   rw[this];rcases h1 with h1|h1;.exact absurd h1 c
   .exact h1
def XE{l:List Int}{k:Nat}(a:k<l.length)(d:0<k)(h1:l.getD k 0<=l.getD (k - 1) 0):¬Up l:=by
 intro h;unfold Up at h;rw[y_]at h;have:=h (k - 1) k (by omega) a (by omega);have b:l.getD k 0=l[k]:=by simp[u_,a_ a]
 have c:l.getD (k - 1) 0=l[k - 1]:=by simp[u_,a_ (show k - 1<l.length by omega)]
 omega
def check(l:List Int):Int:=if 255<l.length then 4 else if Up l then 0 else 16
def DZ{l:List Int}(h:255<l.length):check l=4:=by unfold check;rw[if_pos h]
def MF{l:List Int}(h:¬255<l.length)(a:Up l):check l=0:=by unfold check;rw[if_neg h,if_pos a]
def Im{l:List Int}(h:¬255<l.length)(a:¬Up l):check l=16:=by unfold check;rw[if_neg h,if_neg a]
def add(l:List Int)(c:Int):List Int:=if 255<=(pc l).length/\c∉pc l then pc l else ins c (pc l)
def drop(l:List Int)(c:Int):List Int:=(pc l).filter (λx=>x != c)
def add_eq(l:List Int)(c:Int):ins c (pc l)=pc (pc l++[c]):=zaC c l
end Go.Cm
namespace Go.Pl
open Go Go.Av Go.Ev
abbrev ix:Type:=Gu×(Int×(Int×(List Int×(List Int×(Int×(Int×(Int×(Int×Unit))))))))
abbrev xn:Ty:=pr [yP,tI,tW,.list tI,.list tW,tI,tI,tI,tI]
abbrev CV:ix:=((0,0,()),0,0,[],[],0,0,0,0,())
abbrev pY(x:Int):Prop:=0<=x/\x<=4294967295
def mE(r:ix):Int:=
 if ik r.1=false then 1
 else if r.2.1<1\/7<r.2.1 then 5
 else if r.2.2.2.1.length>2000 then 4
 else if ¬∀v∈r.2.2.2.1,1<=v/\v<=4294967295 then 5
 else if Cm.check r.2.2.2.2.1≠0 then Cm.check r.2.2.2.2.1
 else if ¬(pY r.2.2.2.2.2.1/\pY r.2.2.2.2.2.2.1/\pY r.2.2.2.2.2.2.2.2.1)\/r.2.2.2.2.2.2.2.1<0\/16777216<r.2.2.2.2.2.2.2.1 then 5 else 0
def Cf(a:j7):ix->ix
 |(p,po,c,pt,cm,d,b,mt,e,u)=>
  if a.1=1 then(p,po,c,pt,cm,a.2.1,b,mt,e,u)
  else if a.1=2 then(p,po,c,pt,cm,d,a.2.1,mt,e,u)
  else if a.1=3 then(p,po,c,pt,cm,d,b,a.2.1,e,u)
  else if a.1=4 then(p,po,c,pt,cm,d,b,mt,a.2.1,u)
  else if a.1=5 then(p,po,a.2.2.2.2.1,pt,cm,d,b,mt,e,u)
  else if a.1=6 then(p,po,c,pt,Cm.add cm a.2.2.2.1,d,b,mt,e,u)
  else if a.1=7 then(p,po,c,pt,Cm.drop cm a.2.2.2.1,d,b,mt,e,u)
  else if(pt.length:Int)+a.2.1<=2000 then(p,po,c,List.replicate a.2.1.toNat a.2.2.1++pt,cm,d,b,mt,e,u)
  else(p,po,c,pt,cm,d,b,mt,e,u)
def DC(a:j7)(r:ix):ix:=if eP a=0 then Cf a r else r
def u4(l:List j7)(r:ix):ix:=l.foldl (λr a=>DC a r) r
def fb(hold:jd->Bool):List jd->Nat->Int->List Int×List j7×Int
 |[],_,d=>([],[],d)
 |t::l,i,d=>if hold t then(if t.2.2.2.1≠3 then([(i:Int)],t.2.2.1,t.2.2.2.1)else((i:Int)::(fb hold l (i+1) d).1,t.2.2.1++(fb hold l (i+1) d).2.1,(fb hold l (i+1) d).2.2))else fb hold l (i+1) d
structure Zo(k:Nat)(r:ix):Prop where
 pt:r.2.2.2.1.length<=100000
 cm:r.2.2.2.2.1.length<=k
def qo{hold:jd->Bool}:∀{l:List jd} {i:Nat} {d:Int},(∀t∈l,t.2.2.1.length<=64)->(fb hold l i d).1.length<=l.length/\(fb hold l i d).2.1.length<=64*l.length
 |[],_,_,_=>⟨z_ _,z_ _⟩
 |t::l,i,d,h=>by have c:=qo (hold:=hold) (l:=l) (i:=i+1) (d:=d) λx b=>h x (by grind);have a:=h t (by simp);unfold fb;grind
abbrev YT(a:j7):PS:=([],[],[],[([112],[([116],[],[a],1,())],1,())],())
def YU(pe:List UInt8->Int)(a:j7):j5 pe (YT a)=eP a:=by
 have f:∀s:PS,gu s [] (([116],[],[a],1,()):jd)=eP a:=λs=>by
  have b:bz (iw s) ([]:List oJ)=0:=rfl;have c:bz eP [a]=eP a:=by show(if eP a=0 then 0 else eP a)=eP a;omega
  unfold gu;rw[if_neg (by show ¬jX [116]=false;decide),if_neg (by simp),if_neg (by simp),b,if_neg (λh=>h rfl),if_neg (by simp),c];grind
 have d:∀s:PS,kQ s (([112],[([116],[],[a],1,())],1,()):sr)=eP a:=λs=>by
  have e:gS (λi=>match([([116],[],[a],1,())]:List jd)[i]? with|some t=>gu s (([([116],[],[a],1,())]:List jd).take i) t|none=>0) 1=eP a:=by show(if gu s [] (([116],[],[a],1,()):jd)=0 then 0 else gu s [] (([116],[],[a],1,()):jd))=eP a;grind
  unfold kQ;grind
 have l4:∀s:PS,c8 (·.1) (λp=>p.2.1.length) (kQ s) ([([112],[([116],[],[a],1,())],1,())]:List sr)=eP a:=λs=>by
  have e0:xS (·.1) (λp=>p.2.1.length) (kQ s) ([([112],[([116],[],[a],1,())],1,())]:List sr) 0=eP a:=by
   unfold xS;rw[if_neg (show ¬(kP (([([112],[([116],[],[a],1,())],1,())]:List sr).map (·.1)) 0≠0) by show ¬(kP [[112]] 0≠0);decide)]
   grind
  unfold c8;rw[if_neg (by simp)];show(if xS (·.1) (λp=>p.2.1.length) (kQ s) ([([112],[([116],[],[a],1,())],1,())]:List sr) 0=0 then 0 else xS (·.1) (λp=>p.2.1.length) (kQ s) ([([112],[([116],[],[a],1,())],1,())]:List sr) 0)=eP a;omega
 unfold j5;have g:∀{α:Type} (nm:α->List UInt8) (sz:α->Nat) (ck:α->Int),c8 nm sz ck []=0:=λ_ _ _=>rfl;grind
def OC(a b:ix):Bool:=
 (((((((((false ^^ hZ yP a.1 b.1)&&(a.2.1==b.2.1))&&(a.2.2.1==b.2.2.1))&&(a.2.2.2.2.2.1==b.2.2.2.2.2.1))&&(a.2.2.2.2.2.2.1==b.2.2.2.2.2.2.1))&&(a.2.2.2.2.2.2.2.1==b.2.2.2.2.2.2.2.1))&&(a.2.2.2.2.2.2.2.2.1==b.2.2.2.2.2.2.2.2.1))&&decide (a.2.2.2.1=b.2.2.2.1))&&decide (a.2.2.2.2.1=b.2.2.2.2.1))
def zaj(p:Gu):hZ yP p p=true:=by show((p.1==p.1)&&((p.2.1==p.2.1)&&true))=true;simp
def Ja(a:ix):OC a a=true:=by have h:=zaj a.1;unfold OC;rw[h];simp
abbrev ZK:Type:=List Int×(List (List Int)×(List Bool×(Int×Unit)))
abbrev ee:Type:=Int×(Int×(Gu×(List Ly×(ZK×(List Tv×Unit)))))
abbrev cF:Type:=Int×(Int×(Int×Unit))
abbrev dM:Type:=Bool×(List j7×Unit)
abbrev eZ:Type:=List ee×(List cF×(List dM×(Int×Unit)))
abbrev yF:Ty:=pr [.list tI,.list (.list tI),.list tB,tI]
abbrev LG:Ty:=pr [tI,tI,yP,.list yR,yF,.list yC]
abbrev xk:Ty:=pr [tI,tI,tI]
abbrev H5:Ty:=pr [tB,.list yA]
abbrev O8:Ty:=pr [.list LG,.list xk,.list H5,tI]
instance iDF:DecidableEq ZK:=by unfold ZK;infer_instance
instance iPR:DecidableEq Ly:=by unfold Ly;infer_instance
instance iT2:DecidableEq (ZK×(List Tv×Unit)):=instDecidableEqProd
instance iT1:DecidableEq (Gu×(List Ly×(ZK×(List Tv×Unit)))):=instDecidableEqProd
instance iTS:DecidableEq ee:=instDecidableEqProd
instance iAC:DecidableEq j7:=by unfold j7;infer_instance
instance iLA:DecidableEq (List j7×Unit):=instDecidableEqProd
instance iLE:DecidableEq dM:=instDecidableEqProd
instance iA2:DecidableEq (List dM×(Int×Unit)):=instDecidableEqProd
instance iA1:DecidableEq (List cF×(List dM×(Int×Unit))):=instDecidableEqProd
instance iAU:DecidableEq eZ:=instDecidableEqProd
def zdH(a b:Gu):hZ yP a b=decide (a=b):=by obtain⟨c,d,⟨⟩⟩:=a;obtain⟨e,f,⟨⟩⟩:=b;rw[l_];simp[hZ]
def zdI(a b:Ly):hZ yR a b=decide (a=b):=by obtain⟨c,⟨d,e,⟨⟩⟩,f,g,⟨⟩⟩:=a;obtain⟨h,⟨j,k,⟨⟩⟩,l,n,⟨⟩⟩:=b;rw[l_];simp[hZ,and_assoc]
def zdG(a b:Tv):hZ yC a b=decide (a=b):=by obtain⟨c,d,e,⟨⟩⟩:=a;obtain⟨f,g,h,⟨⟩⟩:=b;rw[l_];simp[hZ]
def R5(a b:cF):hZ xk a b=decide (a=b):=by obtain⟨c,d,e,⟨⟩⟩:=a;obtain⟨f,g,h,⟨⟩⟩:=b;rw[l_];simp[hZ]
def zdF(a b:j7):hZ yA a b=decide (a=b):=by rw[l_];simpa using R6 a b
def Ro{α:Type}{a b:List α}{body:Nat->(Int×Unit)->Option ((Int×Unit)⊕(Bool×Unit)⊕Unit)}{Q:(Bool×Unit)⊕Unit->Prop}(hl:a.length=b.length) (h:∀i (c:i<a.length) (d:i<b.length),Wp (λn=>body n ((i:Int),())) λr=>(a[i]=b[i]/\r= .inl (((i+1:Nat):Int),()))\/(¬a[i]=b[i]/\r= .inr (.inl (false,())))) (f:Wp (λn=>body n ((a.length:Int),())) λr=>r= .inr (.inr ())) (h1:a=b->Q (.inr ())) (h2:¬a=b->Q (.inl (false,()))):Wp (λn=>ff n (body n) ((0:Int),())) Q:=by
 refine r8 (N:=a.length) (good:=λi=>a[i]? =b[i]?) (λi c=>?_) f (λh=>h1 (List.ext_getElem? λi=>?_)) (fun⟨i,_,hn⟩=>h2 λe=>hn (by rw[e]))
 .have d:i<b.length:=by omega
  refine Go.Ev.wp_mono (h i c d) λr hr=>?_;rw[a_ c,a_ d,Y_];exact hr
 .by_cases c:i<a.length;.exact h i c
  .rw[G_ (by omega),G_ (by omega)]
end Go.Pl
