import Derived.Test.YtdgiglmmpbndmaaGreatDoorML5
import Derived.Lib.ItoaNum
set_option linter.all false
open Bool renaming false_or->r_,true_and->w_,and_assoc->C_,or_assoc->E_
open Classical renaming byContradiction->b_
open Go.IntKind renaming bits->m_,wrap->G_
open List renaming length_append->a_,getElem?_eq_getElem->c_,mem_cons_self->d_,mem_append->e_,mem_cons_of_mem->f_,cons_append->g_,mem_iff_getElem->h_,getElem?_append_left->j_,getElem?_eq_some_iff->k_,length_nil->l_,take_add_one->n_,take_of_length_le->o_,getElem?_eq_none_iff->q_,prefix_refl->s_,map_cons->x_,mem_singleton->y_,length_cons->A_,foldl_cons->B_,sum_cons->F_
open Nat renaming eq_of_testBit_eq->i_,zero_add->p_,testBit_mod_two_pow->t_,testBit_mul_two_pow->u_,strongRecOn->v_,or_lt_two_pow->z_,testBit_or->D_,le_trans->H_,le_refl->I_
namespace Go.Pl
open Go Go.Av Go.Ev
def dI(x n:Nat):Nat:=x>>>(32 - n) <<< (32 - n)
def Q2(x n:Int):Int:=(dI x.toNat n.toNat:Int)
def uE(x n j:Nat):(dI x n).testBit j=(decide (32 - n<=j)&&x.testBit j):=by unfold dI;grind
def VG(x n:Nat):dI x n<=x:=by unfold dI;rw[Nat.shiftLeft_eq,Nat.shiftRight_eq_div_pow];exact Nat.div_mul_le_self _ _
def L9{x:Nat}(b:x<4294967296){j:Nat}(a:32<=j):x.testBit j=false:=Nat.testBit_lt_two_pow (Nat.lt_of_lt_of_le b (H_ (show 4294967296<=2^32 by simp) (Nat.pow_le_pow_right (by simp) a)))
def SH{x n:Nat}(b:x<4294967296)(hn:n<=32):x&&&(4294967295*2^(32 - n)%4294967296)=dI x n:=by
 refine i_ λj=>?_;rw[Nat.testBit_and,uE];by_cases a:j<32
 .have e:(4294967295*2^(32 - n)%4294967296).testBit j=decide (32 - n<=j):=by
   rw[show(4294967296:Nat)=2^32 from rfl,t_,decide_eq_true a,w_,u_];by_cases h:32 - n<=j;.rw[decide_eq_true (show j>=32 - n from h),w_,show(4294967295:Nat)=2^32 - 1 from rfl,Nat.testBit_two_pow_sub_one];grind
   grind
  grind
 .rw[L9 b (by omega)];simp
def SJ{x:Nat}(b:x<4294967296):dI x 0=0:=by
 refine i_ λj=>?_;rw[uE,Nat.zero_testBit];by_cases a:32<=j;.rw[L9 b a,Bool.and_false]
 grind
def SI(x:Nat){i:Nat}(a:i<32):dI x (i+1)=dI x i|||(x/2^(31 - i)%2)*2^(31 - i):=by
 refine i_ λj=>?_;rw[D_,uE,uE,u_];have h2:∀k,(x/2^(31 - i)%2).testBit k=(decide (k=0)&&x.testBit (31 - i)):=λk=>by rw[show(2:Nat)=2^1 from rfl,t_];grind
 grind
def Lp{x y:Nat}(a:x<4294967296)(b:y<4294967296):lE .u32 .and (x:Int) (y:Int)=((x&&&y:Nat):Int):=by
 show G_ .u32 ((BitVec.ofInt (m_ .u32) (x:Int)&&&BitVec.ofInt (m_ .u32) (y:Int)).toNat:Int)=_;rw[wrap_u32,BitVec.toNat_and];have e:∀z:Nat,z<4294967296->(BitVec.ofInt (m_ .u32) (z:Int)).toNat=z:=λz c=>by rw[BitVec.toNat_ofInt];show(((z:Int)%((2^32:Nat):Int))).toNat=z;omega
 rw[e x a,e y b];have:x&&&y<=x:=Nat.and_le_left;omega
def Ye{x y:Nat}(a:x<4294967296)(b:y<4294967296):lE .u32 .or (x:Int) (y:Int)=((x|||y:Nat):Int):=by
 show G_ .u32 ((BitVec.ofInt (m_ .u32) (x:Int)|||BitVec.ofInt (m_ .u32) (y:Int)).toNat:Int)=_;rw[wrap_u32,BitVec.toNat_or];have e:∀z:Nat,z<4294967296->(BitVec.ofInt (m_ .u32) (z:Int)).toNat=z:=λz c=>by rw[BitVec.toNat_ofInt];show(((z:Int)%((2^32:Nat):Int))).toNat=z;omega
 rw[e x a,e y b];have:x|||y<2^32:=z_ (by omega) (by omega);omega
section
variable {α β σ τ:Type}
def ig(f:σ->β->σ⊕τ):σ->List β->σ⊕τ
 |s,[]=>.inl s
 |s,x::xs=>match f s x with
  | .inl s'=>ig f s' xs
  | .inr b=>.inr b
theorem gR [DecidableEq α]:∀(l u:List α),l.Nodup->(∀x∈l,x∈u)->l.length<=u.length
 |[],_,_,_=>Nat.zero_le _
 |x::l,u,hn,hs=>by
  have b:=hs x (d_ ..);have a:=List.nodup_cons.1 hn;have h:=gR l (u.erase x) a.2 λy c=>by grind
  grind
theorem MX{L L':List τ}(h:L<+:L'){i:Nat}{x:τ}(a:L[i]? =some x):L'[i]? =some x:=by obtain⟨t,rfl⟩:=h;grind
section
variable {f:α->β->α} {s0:α} {ls:List β}
theorem rF{L L':List α}(h:L<+:L'){i:Nat}{x:α}(a:L[i]? =some x):L'[i]? =some x:=by obtain⟨t,rfl⟩:=h;grind
structure Ok(f:α->β->α)(s0:α)(ls:List β)(L:List α)(T:List (Nat×β)):Prop where
 nodup:L.Nodup
 len:L.length=T.length+1
 head:L[0]? =some s0
 link:∀k j c,T[k]? =some (j,c)->j<k+1/\c∈ls/\∃x,L[j]? =some x/\L[k+1]? =some (f x c)
theorem Ok.add{L:List α}{T:List (Nat×β)}(h:Ok f s0 ls L T){x:α}{i:Nat}{c:β}(U:L[i]? =some x)(hc:c∈ls)(hn:f x c∉L):Ok f s0 ls (L++[f x c]) (T++[(i,c)]):=by
 have hl:=h.len;refine⟨?_,by grind,?_,λk j H E=>?_⟩;.rw[List.nodup_append];exact⟨h.nodup,by simp,λa M b N=>by grind⟩
 .rw[j_ (by omega)];exact h.head
 .by_cases C:k<T.length;.rw[j_ C]at E;obtain⟨h1,h2,y,I,J⟩:=h.link k j H E;grind
  grind
theorem Ok.inv{P:α->Prop}{L:List α}{T:List (Nat×β)}(h:Ok f s0 ls L T)(E:P s0)(J:∀x c,c∈ls->P x->P (f x c)):∀(k:Nat) (x:α),L[k]? =some x->P x:=by
 intro k;induction k using v_ with
 |ind k N=>
  intro x C
  match k with|0=>rw[h.head]at C;grind|k+1=>have M:=(k_.1 C).1;obtain⟨h1,h2,y,H,I⟩:=h.link k _ _ (c_ (by have:=h.len;omega));grind
def Quiet(sp:List α->α->Bool)(L:List α):Prop:=∀k x,L[k+1]? =some x->sp (L.take (k+1)) x=false
theorem Quiet.add{sp:List α->α->Bool}{L:List α}{y:α}(h:Quiet sp L)(hs:sp L y=false):Quiet sp (L++[y]):=by
 intro k x C;by_cases E:k+1<L.length;.rw[j_ E]at C;rw[List.take_append_of_le_length (by omega)];exact h k x C
 grind
theorem Ok.pre{L L':List α}{T E:List (Nat×β)}(h:Ok f s0 ls L T)(H:L'<+:L)(J:E<+:T)(hl:L'.length=E.length+1):Ok f s0 ls L' E:=by
 have C:∀k,k<L'.length->L'[k]? =L[k]? :=λk I=>by obtain⟨t,rfl⟩:=H;grind
 refine⟨h.nodup.sublist H.sublist,hl,by rw[C 0 (by omega)];exact h.head,λk j c I=>?_⟩;obtain⟨h1,h2,x,M,N⟩:=h.link k j c (MX J I);grind
inductive Tr(T:List (Nat×β)):Nat->List β->Prop
 |zero:Tr T 0 []
 |step {k j:Nat} {c:β} {p:List β}:T[k]? =some (j,c)->Tr T j p->Tr T (k+1) (p++[c])
theorem Tr.mono{T C:List (Nat×β)}(hp:T<+:C){k:Nat}{p:List β}(h:Tr T k p):Tr C k p:=by induction h with|zero=>exact .zero|step h1 _ E=>exact .step (MX hp h1) E
theorem Tr.reaches{L:List α}{T:List (Nat×β)}(h:Ok f s0 ls L T){k:Nat}{p:List β}(ht:Tr T k p):L[k]? =some (p.foldl f s0)/\∀c∈p,c∈ls:=by induction ht with|zero=>exact⟨h.head,by simp⟩|step h1 _ H=>obtain⟨_,h2,x,C,E⟩:=h.link _ _ _ h1;grind
theorem Ok.tr{L:List α}{T:List (Nat×β)}(h:Ok f s0 ls L T):∀k,k<L.length->∃p,Tr T k p:=by
 intro k;induction k using v_ with
 |ind k E=>
  intro H
  match k with|0=>exact⟨[],.zero⟩|k+1=>have C:=c_ (l:=T) (i:=k) (by have:=h.len;omega);obtain⟨h1,_⟩:=h.link k _ _ C;obtain⟨p,hp⟩:=E _ h1 (by omega);exact⟨_,.step C hp⟩
theorem Tr.len{L:List α}{T:List (Nat×β)}(h:Ok f s0 ls L T){k:Nat}{p:List β}(ht:Tr T k p):p.length<=k:=by induction ht with|zero=>simp|step h1 _ C=>have:=(h.link _ _ _ h1).1;grind
end
variable [DecidableEq α]
abbrev pos(L:List α)(x:α):Nat:=L.idxOf x
theorem Pf{x y:α}{L:List α}(h:x≠y):pos (x::L) y=pos L y+1:=by grind
theorem Wy{x:α}{L:List α}:pos (x::L) x=0:=by unfold pos;rw[List.idxOf_cons];simp
def be(f:α->β->α)(x:α)(i:Nat)(st:List α×List (Nat×β)×List Nat)(c:β):List α×List (Nat×β)×List Nat:=
 if f x c∈st.1 then(st.1,st.2.1,st.2.2++[st.1.idxOf (f x c)])else(st.1++[f x c],st.2.1++[(i,c)],st.2.2++[st.1.length])
def hH(sp:List α->α->Bool)(f:α->β->α)(x:α)(i:Nat)(st:List α×List (Nat×β)×List Nat)(c:β):(List α×List (Nat×β)×List Nat)⊕(List α×List (Nat×β)):=
 if f x c∈st.1 then .inl (st.1,st.2.1,st.2.2++[st.1.idxOf (f x c)])
 else if sp st.1 (f x c)then .inr (st.1++[f x c],st.2.1++[(i,c)])else .inl (st.1++[f x c],st.2.1++[(i,c)],st.2.2++[st.1.length])
theorem yX{sp:List α->α->Bool}{f:α->β->α}{x:α}{i:Nat}{c:β}{L:List α}{T:List (Nat×β)}{r:List Nat}{y:α}(a:f x c=y)(h:y∈L):hH sp f x i (L,T,r) c= .inl (L,T,r++[L.idxOf y]):=by subst a;simp only[hH,if_pos h]
theorem uN{sp:List α->α->Bool}{f:α->β->α}{x:α}{i:Nat}{c:β}{L:List α}{T:List (Nat×β)}{r:List Nat}{y:α}(a:f x c=y)(h:y∉L)(hs:sp L y=true):hH sp f x i (L,T,r) c= .inr (L++[y],T++[(i,c)]):=by subst a;simp only[hH,if_neg h,if_pos hs]
theorem yY{sp:List α->α->Bool}{f:α->β->α}{x:α}{i:Nat}{c:β}{L:List α}{T:List (Nat×β)}{r:List Nat}{y:α}(a:f x c=y)(h:y∉L)(hs:sp L y=false):hH sp f x i (L,T,r) c= .inl (L++[y],T++[(i,c)],r++[L.length]):=by subst a;simp only[hH,if_neg h,hs,Bool.false_eq_true,if_false]
variable (f:α->β->α) (s0:α) (ls:List β)
def bD:Nat->List α×List (Nat×β)×List (List Nat)
 |0=>([s0],[],[])
 |i+1=>match(bD i).1[i]? with
  |none=>bD i
  |some x=>let r:=ls.foldl (be f x i) ((bD i).1,(bD i).2.1,[])
   (r.1,r.2.1,(bD i).2.2++[r.2.2])
def gJ(sp:List α->α->Bool):Nat->(List α×List (Nat×β)×List (List Nat))⊕(List α×List (Nat×β)×List (List Nat))
 |0=>.inl ([s0],[],[])
 |i+1=>match gJ sp i with
  | .inr r=>.inr r
  | .inl S=>match S.1[i]? with
   |none=>.inl S
   |some x=>match ig (hH sp f x i) (S.1,S.2.1,[]) ls with
    | .inl r=>.inl (r.1,r.2.1,S.2.2++[r.2.2])
    | .inr r=>.inr (r.1,r.2,S.2.2)
variable {f s0 ls}
theorem oZ(x:α)(i:Nat)(st:List α×List (Nat×β)×List Nat)(c:β):st.1<+:(be f x i st c).1/\st.2.1<+:(be f x i st c).2.1:=by grind[be]
theorem yd(x:α)(i:Nat):∀(l:List β) (st:List α×List (Nat×β)×List Nat),st.1<+:(l.foldl (be f x i) st).1/\st.2.1<+:(l.foldl (be f x i) st).2.1
 |[],st=>⟨s_ _,s_ _⟩
 |c::l,st=>by have h1:=oZ (f:=f) x i st c;have h2:=yd x i l (be f x i st c);grind
theorem Aq{L L':List α}(h:L<+:L'){x:α}(a:x∈L):L'.idxOf x=L.idxOf x:=by obtain⟨t,rfl⟩:=h;grind
theorem Cr{x:α}{i:Nat}:∀(l:List β) (st:List α×List (Nat×β)×List Nat),Ok f s0 ls st.1 st.2.1->st.1[i]? =some x->(∀c∈l,c∈ls)->
 Ok f s0 ls (l.foldl (be f x i) st).1 (l.foldl (be f x i) st).2.1/\(∀c∈l,f x c∈(l.foldl (be f x i) st).1)/\
 (l.foldl (be f x i) st).2.2=st.2.2++l.map λc=>(l.foldl (be f x i) st).1.idxOf (f x c)
 |[],st,h,_,_=>⟨h,by simp,by simp⟩
 |c::l,st,h,d,hc=>by
  have b:Ok f s0 ls (be f x i st c).1 (be f x i st c).2.1/\f x c∈(be f x i st c).1/\(be f x i st c).2.2=st.2.2++[(be f x i st c).1.idxOf (f x c)]:=by
   unfold be;split;.grind
   .rename_i hn;refine⟨h.add d (hc c (d_ ..)) hn,by simp,?_⟩;grind
  obtain⟨h1,h2,g⟩:=Cr l (be f x i st c) b.1 (rF (oZ x i st c).1 d) λe a=>hc e (f_ _ a);grind[yd,be,Aq]
theorem cn{i:Nat}{x:α}(a:(bD f s0 ls i).1[i]? =some x):bD f s0 ls (i+1)=((ls.foldl (be f x i) ((bD f s0 ls i).1,(bD f s0 ls i).2.1,[])).1,(ls.foldl (be f x i) ((bD f s0 ls i).1,(bD f s0 ls i).2.1,[])).2.1,(bD f s0 ls i).2.2++[(ls.foldl (be f x i) ((bD f s0 ls i).1,(bD f s0 ls i).2.1,[])).2.2]):=by grind[bD]
theorem cY{i:Nat}(a:(bD f s0 ls i).1[i]? =none):bD f s0 ls (i+1)=bD f s0 ls i:=by simp only[bD,a]
theorem cx:∀i,Ok f s0 ls (bD f s0 ls i).1 (bD f s0 ls i).2.1
 |0=>⟨by simp[bD],rfl,rfl,by simp[bD]⟩
 |i+1=>by cases a:(bD f s0 ls i).1[i]? with|none=>rw[cY a];exact cx i|some x=>rw[cn a];exact(Cr ls ((bD f s0 ls i).1,(bD f s0 ls i).2.1,[]) (cx i) a λ_ h=>h).1
theorem iu(i:Nat):(bD f s0 ls i).1<+:(bD f s0 ls (i+1)).1/\(bD f s0 ls i).2.1<+:(bD f s0 ls (i+1)).2.1:=by cases a:(bD f s0 ls i).1[i]? with|none=>grind[cY]|some x=>rw[cn a];exact yd x i ls ((bD f s0 ls i).1,(bD f s0 ls i).2.1,[])
theorem LK{i j:Nat}(h:i<=j):(bD f s0 ls i).1<+:(bD f s0 ls j).1/\(bD f s0 ls i).2.1<+:(bD f s0 ls j).2.1:=by induction h with|refl=>simp|step _ a=>grind[iu]
theorem ti{i j:Nat}(h:i<=j)(a:(bD f s0 ls i).1.length<=i):bD f s0 ls j=bD f s0 ls i:=by induction h with|refl=>rfl| @step m h b=>grind[cY]
theorem mU:∀i,∀j≥i,(bD f s0 ls i).2.2=((bD f s0 ls i).1.take i).map λx=>ls.map λc=>(bD f s0 ls j).1.idxOf (f x c)
 |0,j,_=>by simp[bD]
 |i+1,j,n=>by
  cases a:(bD f s0 ls i).1[i]? with
  |none=>have b:=q_.1 a;rw[cY a,mU i j (by omega),o_ b,o_ (by omega)]|some x=>
   have l:=(k_.1 a).1;have k:=Cr ls ((bD f s0 ls i).1,(bD f s0 ls i).2.1,[]) (cx i) a λ_ h=>h;have hp:=(iu (f:=f) (s0:=s0) (ls:=ls) i).1;have d:=rF hp a;have e:(bD f s0 ls (i+1)).1.take (i+1)=(bD f s0 ls i).1.take i++[x]:=by rw[n_,d];congr 1;obtain⟨t,ht⟩:=hp;grind
   rw[e,List.map_append,<-mU i j (by omega)];have g:(bD f s0 ls (i+1)).2.2=(bD f s0 ls i).2.2++[(ls.foldl (be f x i) ((bD f s0 ls i).1,(bD f s0 ls i).2.1,[])).2.2]:=by rw[cn a]
   rw[g,k.2.2];congr 1;simp only[List.nil_append,x_,List.map_nil,List.cons.injEq,and_true];grind[List.map_congr_left,bD,cn,be,Aq,LK]
theorem lI:∀i,∀x∈(bD f s0 ls i).1.take i,∀c∈ls,f x c∈(bD f s0 ls i).1
 |0,x,a,_,_=>by grind
 |i+1,y,b,c,hc=>by
  cases a:(bD f s0 ls i).1[i]? with
  |none=>have e:=q_.1 a;rw[cY a]at b⊢;refine lI i y ?_ c hc;grind[o_]|some x=>
   have g:=(k_.1 a).1;have hp:=(iu (f:=f) (s0:=s0) (ls:=ls) i).1;have d:(bD f s0 ls (i+1)).1.take (i+1)=(bD f s0 ls i).1.take i++[x]:=by rw[n_,rF hp a];congr 1;obtain⟨t,ht⟩:=hp;grind
   rw[d]at b;rcases e_.1 b with h|h;.exact hp.subset (lI i y h c hc)
   .simp at h;subst h;have j:=Cr ls ((bD f s0 ls i).1,(bD f s0 ls i).2.1,[]) (cx i) a λ_ h=>h;grind[cn]
theorem Ok.bound{L:List α}{T:List (Nat×β)}(h:Ok f s0 ls L T){u:List α}(C:s0∈u)(H:∀x c,c∈ls->x∈u->f x c∈u):L.length<=u.length:=by refine gR _ _ h.nodup λx I=>?_;obtain⟨k,E,rfl⟩:=h_.1 I;exact h.inv C H k _ (c_ E)
theorem Ao{sp:List α->α->Bool}{x:α}{i:Nat}:∀(l:List β) (st:List α×List (Nat×β)×List Nat),Quiet sp st.1->
 (∀r,ig (hH sp f x i) st l= .inl r->r=l.foldl (be f x i) st/\Quiet sp r.1)/\
 (∀r,ig (hH sp f x i) st l= .inr r->∃L y,r.1=L++[y]/\Quiet sp L/\sp L y=true/\r.1<+:(l.foldl (be f x i) st).1/\r.2<+:(l.foldl (be f x i) st).2.1/\st.1<+:L)
 |[],st,h=>⟨λr hr=>by cases hr;exact⟨rfl,h⟩,λr hr=>by cases hr⟩
 |c::l,st,h=>by
  by_cases a:f x c∈st.1
  .have b:hH sp f x i st c= .inl (be f x i st c):=by unfold hH be;rw[if_pos a,if_pos a]
   have e:=Ao (sp:=sp) (x:=x) (i:=i) l (be f x i st c) (by unfold be;rw[if_pos a];exact h);grind[oZ,ig]
  .cases hs:sp st.1 (f x c)
   .have b:hH sp f x i st c= .inl (be f x i st c):=by unfold hH be;rw[if_neg a,if_neg a,if_neg (by rw[hs];simp)]
    have e:=Ao (sp:=sp) (x:=x) (i:=i) l (be f x i st c) (by unfold be;rw[if_neg a];exact h.add hs);grind[oZ,ig]
   .have b:hH sp f x i st c= .inr (st.1++[f x c],st.2.1++[(i,c)]):=by unfold hH;rw[if_neg a,if_pos hs]
    have d:be f x i st c=(st.1++[f x c],st.2.1++[(i,c)],st.2.2++[st.1.length]):=by unfold be;rw[if_neg a]
    refine⟨λr hr=>?_,λr hr=>?_⟩;.simp only[ig,b]at hr;cases hr
    .simp only[ig,b]at hr;cases hr;have hp:=yd (f:=f) x i l (be f x i st c);rw[d]at hp;refine⟨st.1,f x c,rfl,h,hs,?_,?_,s_ _⟩;.rw[B_,d];exact hp.1
     .rw[B_,d];exact hp.2
theorem eG{sp:List α->α->Bool}:∀i,
 (∀S,gJ f s0 ls sp i= .inl S->S=bD f s0 ls i/\Quiet sp S.1)/\
 (∀r,gJ f s0 ls sp i= .inr r->∃L y,r.1=L++[y]/\L≠[]/\Quiet sp L/\sp L y=true/\r.1<+:(bD f s0 ls i).1/\r.2.1<+:(bD f s0 ls i).2.1)
 |0=>⟨λS h=>by cases h;exact⟨rfl,λk x g=>by grind⟩,λr h=>by cases h⟩
 |i+1=>by
  have j:=eG (sp:=sp) i;cases h:gJ f s0 ls sp i with
  |inr r=>grind[gJ,iu]|inl S=>
   obtain⟨rfl,c⟩:=j.1 S h;cases g:(bD f s0 ls i).1[i]? with
   |none=>grind[gJ,bD,cY]|some x=>
    have b:=Ao (f:=f) (sp:=sp) (x:=x) (i:=i) ls ((bD f s0 ls i).1,(bD f s0 ls i).2.1,[]) c;cases hr:ig (hH sp f x i) ((bD f s0 ls i).1,(bD f s0 ls i).2.1,[]) ls with
    |inl r=>
     have e:gJ f s0 ls sp (i+1)= .inl (r.1,r.2.1,(bD f s0 ls i).2.2++[r.2.2]):=by grind[gJ]
     refine⟨λS a=>?_,λr hr=>by grind⟩;rw[e]at a;cases a;obtain⟨rfl,d⟩:=b.1 r hr;grind[cn]
    |inr r=>grind[gJ,bD,cn]
theorem qS{sp:List α->α->Bool}{i j:Nat}(a:i<=j){r:List α×List (Nat×β)×List (List Nat)}(h:gJ f s0 ls sp i= .inr r):gJ f s0 ls sp j= .inr r:=by induction a with|refl=>omega|step _ b=>grind[gJ]
theorem uA{sp:List α->α->Bool}{i j:Nat}(a:i<=j){S:List α×List (Nat×β)×List (List Nat)}(h:gJ f s0 ls sp i= .inl S)(b:S.1.length<=i):gJ f s0 ls sp j= .inl S:=by induction a with|refl=>omega| @step m c d=>grind[gJ]
theorem xc{L:List α}{y:α}:∀{k:Nat},k<=L.length->(∀j z,j<k->L[j]? =some z->z≠y)->(∀z,L[k]? =some z->z=y)->k=pos L y:=by induction L with|nil=>simp|cons x L b=>intro k d h1 h2;cases k with|zero=>rw[<-h2 x rfl];simp|succ k=>rw[Pf (h1 0 x (by simp) rfl),<-b (k:=k) (by grind) (λj z c a=>h1 (j+1) z (by omega) (by grind)) (λz a=>h2 z (by grind))]
theorem w9{L:List α}{y:α}:y∈L↔pos L y<L.length:=by unfold pos;exact List.idxOf_lt_length_iff.symm
theorem CC{L:List α}{y:α}(h:y∉L):pos L y=L.length:=by unfold pos;exact List.idxOf_eq_length h
end
open Go Go.Ev
def hU{P:Rx->Prop}(h:∀k lo a ks,(∀r∈ks,P r)->P (.mk k lo a ks)):∀r,P r:=λr=>Rx.rec (motive_1:=P) (motive_2:=λks=>∀r∈ks,P r) (λk lo a ks b=>h k lo a ks b) (λr hr=>by grind) (λr ks c d x e=>by grind) r
theorem cV(v:Rx):Rx.mk v.out.1 v.out.2.1 v.out.2.2.1 v.out.2.2.2.1=v:=by cases v;rfl
structure G where
 fi:List Nat
 la:List Nat
 em:Bool
 pr:List (Nat×Nat)
 sp:List (Int×Int)
def dD(a b:List Nat):List (Nat×Nat):=a.flatMap λp=>b.map λq=>(p,q)
def jQ{a b:List Nat}{p q:Nat}:(p,q)∈dD a b↔p∈a/\q∈b:=by unfold dD;simp
def jB(a x:G):G:=⟨if a.em then a.fi++x.fi else a.fi,if x.em then a.la++x.la else x.la,a.em&&x.em,a.pr++x.pr++dD a.la x.fi,a.sp++x.sp⟩
def r9(a x:G):G:=⟨a.fi++x.fi,a.la++x.la,a.em||x.em,a.pr++x.pr,a.sp++x.sp⟩
def nC(x:G):G:=⟨x.fi,x.la,x.em,x.pr++dD x.la x.fi,x.sp⟩
def QJ(x:G):G:=⟨x.fi,x.la,true,x.pr,x.sp⟩
def g0(e:Bool):G:=⟨[],[],e,[],[]⟩
def KE(o:Nat)(lo a:Int):G:=⟨[o],[o],false,[],[(lo,a)]⟩
mutual
def di:Rx->Nat->G
 | .mk k lo a ks,o=>
  if k=1 then KE o lo a else if k=2 then KE o 0 4294967295
  else if k=3 then ee ks o (g0 true)else if k=4 then cK ks o (g0 false)
  else if k=5 then QJ (nC (cK ks o (g0 false)))else if k=6 then nC (cK ks o (g0 false))
  else if k=7 then QJ (cK ks o (g0 false))else g0 true
def ee:List Rx->Nat->G->G
 |[],_,a=>a
 |r::b,o,a=>ee b o (jB a (di r (o+a.sp.length)))
def cK:List Rx->Nat->G->G
 |[],_,a=>a
 |r::b,o,a=>cK b o (r9 a (di r (o+a.sp.length)))
end
def L6(o:Nat):∀(l m:List Rx) (a:G),ee (l++m) o a=ee m o (ee l o a)
 |[],_,_=>by simp[ee]
 |r::l,m,a=>by simp only[g_,ee];exact L6 o l m _
def L5(o:Nat):∀(l m:List Rx) (a:G),cK (l++m) o a=cK m o (cK l o a)
 |[],_,_=>by simp[cK]
 |r::l,m,a=>by simp only[g_,cK];exact L5 o l m _
def HP{o:Nat}{ks:List Rx}{i:Nat}(h:i<ks.length)(a:G):ee (ks.take (i+1)) o a=jB (ee (ks.take i) o a) (di ks[i] (o+(ee (ks.take i) o a).sp.length)):=by rw[n_,c_ h,L6];simp[ee]
def HO{o:Nat}{ks:List Rx}{i:Nat}(h:i<ks.length)(a:G):cK (ks.take (i+1)) o a=r9 (cK (ks.take i) o a) (di ks[i] (o+(cK (ks.take i) o a).sp.length)):=by rw[n_,c_ h,L5];simp[cK]
def YE{P:Nat->G->Prop}(f:∀o e,P o (g0 e))(h1:∀o lo c,P o (KE o lo c))(hs:∀o a x,P o a->P (o+a.sp.length) x->P o (jB a x))(d:∀o a x,P o a->P (o+a.sp.length) x->P o (r9 a x)) (hl:∀o a,P o a->P o (nC a)) (n:∀o a,P o a->P o (QJ a)):∀(r:Rx) (o:Nat),P o (di r o):=by
 intro r;refine hU (P:=λr=>∀o,P o (di r o)) (λk lo c ks b o=>?_) r;have g:∀(l:List Rx) (a:G),(∀r∈l,∀o,P o (di r o))->P o a->P o (cK l o a):=by intro l;induction l with|nil=>intro a _ h;exact h|cons r l b=>intro a hl h;exact b _ (λr hr=>hl r (f_ _ hr)) (d o a _ h (hl r (d_ ..) _))
 have j:∀(l:List Rx) (a:G),(∀r∈l,∀o,P o (di r o))->P o a->P o (ee l o a):=by intro l;induction l with|nil=>intro a _ h;exact h|cons r l b=>intro a hl h;exact b _ (λr hr=>hl r (f_ _ hr)) (hs o a _ h (hl r (d_ ..) _))
 unfold di;split;.grind
 split;.grind
 split;.grind
 split;.grind
 split;.grind
 split;all_goals grind
structure FM(o:Nat)(g:G):Prop where
 fi:∀p∈g.fi,o<=p/\p<o+g.sp.length
 la:∀p∈g.la,o<=p/\p<o+g.sp.length
 pr:∀p q,(p,q)∈g.pr->(o<=p/\p<o+g.sp.length)/\o<=q/\q<o+g.sp.length
 fl:g.fi.length<=g.sp.length
 ll:g.la.length<=g.sp.length
def YP{o:Nat}{a x:G}(b:FM o a)(c:FM (o+a.sp.length) x):FM o (jB a x):=by
 have d:=b.fl;have f:=b.ll;have e:=c.fl;have g:=c.ll;refine⟨λp hp=>?_,λp hp=>?_,λp q hp=>?_,?_,?_⟩
 .simp only[jB,a_]at hp⊢;split at hp
  .rcases e_.1 hp with h|h;.have:=b.fi p h;omega
   .have:=c.fi p h;omega
  .have:=b.fi p hp;omega
 .simp only[jB,a_]at hp⊢;split at hp
  .rcases e_.1 hp with h|h;.have:=b.la p h;omega
   .have:=c.la p h;omega
  .have:=c.la p hp;omega
 .simp only[jB,a_,e_,jQ]at hp⊢;rcases hp with(h|h)|⟨h,h'⟩;.have:=b.pr p q h;omega
  .have:=c.pr p q h;omega
  .have:=b.la p h;have:=c.fi q h';omega
 .simp only[jB,a_];grind
 .simp only[jB,a_];grind
def YO{o:Nat}{a x:G}(b:FM o a)(c:FM (o+a.sp.length) x):FM o (r9 a x):=by
 have d:=b.fl;have f:=b.ll;have e:=c.fl;have g:=c.ll;refine⟨λp hp=>?_,λp hp=>?_,λp q hp=>?_,?_,?_⟩
 .simp only[r9,a_]at hp⊢;rcases e_.1 hp with h|h;.have:=b.fi p h;omega
  .have:=c.fi p h;omega
 .simp only[r9,a_]at hp⊢;rcases e_.1 hp with h|h;.have:=b.la p h;omega
  .have:=c.la p h;omega
 .simp only[r9,a_,e_]at hp⊢;rcases hp with h|h;.have:=b.pr p q h;omega
  .have:=c.pr p q h;omega
 .simp only[r9,a_];omega
 .simp only[r9,a_];omega
def VO{o:Nat}{x:G}(h:FM o x):FM o (nC x):=by
 refine⟨h.fi,h.la,λp q hp=>?_,h.fl,h.ll⟩;simp only[nC,e_,jQ]at hp⊢;rcases hp with hp|⟨h1,h2⟩;.exact h.pr p q hp
 .exact⟨h.la p h1,h.fi q h2⟩
def zaw(o:Nat)(e:Bool):FM o (g0 e):=⟨by simp[g0],by simp[g0],by simp[g0],by simp[g0],by simp[g0]⟩
def jm:∀(r:Rx) (o:Nat),FM o (di r o):=YE zaw (λo lo d=>⟨by simp[KE],by simp[KE],by simp[KE],by simp[KE],by simp[KE]⟩) (λ_ _ _ b c=>YP b c) (λ_ _ _ b c=>YO b c) (λ_ _ h=>VO h) (λo a h=>⟨h.fi,h.la,h.pr,h.fl,h.ll⟩)
def bS(l:List Nat):Nat:=l.foldr (λp a=>a|||2^p) 0
def cP(l:List Nat)(i:Nat):(bS l).testBit i=decide (i∈l):=by induction l with|nil=>simp[bS]|cons p l a=>have:bS (p::l)=bS l|||2^p:=rfl;grind
def xC(a b:List Nat):bS (a++b)=bS a|||bS b:=by refine i_ λi=>?_;rw[D_,cP,cP,cP];simp
def fy{l:List Nat}{n:Nat}(h:∀p∈l,p<n):bS l<2^n:=by refine Nat.lt_pow_two_of_testBit _ λi a=>?_;rw[cP];grind
def zbN{a b n:Nat}(c:a<2^n)(d:b<2^n):a|||b<2^n:=z_ c d
def Ek(pr:List (Nat×Nat))(p:Nat):List Nat:=(pr.filter λx=>x.1=p).map (·.2)
def jl{pr:List (Nat×Nat)}{p q:Nat}:q∈Ek pr p↔(p,q)∈pr:=by unfold Ek;simp
def fM(k n:Int):Bool:=bif k==0||k==1||k==2 then n==0 else bif k==3 then decide (n>=2)else bif k==4 then n != 1 else bif k==5||k==6||k==7 then n==1 else false
def pD(k:Int):Bool:=k==0||k==1||k==2||k==3||k==4||k==5||k==6||k==7
def kz(k lo a n:Int):Int:=
 bif !pD k then 15 else bif k==1&&(decide (lo<0)||decide (lo>a)||decide (a>4294967295))then 5 else bif (k != 1&&(lo != 0||a != 0))|| !fM k n then 1 else 0
def Ex{k:Int}:pD k=true↔k=0\/k=1\/k=2\/k=3\/k=4\/k=5\/k=6\/k=7:=by simp only[pD,Bool.or_eq_true,beq_iff_eq,or_assoc]
structure Node(k lo hi n:Int):Prop where
 known:k=0\/k=1\/k=2\/k=3\/k=4\/k=5\/k=6\/k=7
 nW:k=1->0<=lo/\lo<=hi/\hi<=4294967295
 zero:k≠1->lo=0/\hi=0
 leaf:k=0\/k=1\/k=2->n=0
 seq:k=3->2<=n
 alt:k=4->n≠1
 one:k=5\/k=6\/k=7->n=1
theorem EP{k lo a n:Int}:kz k lo a n=0↔Node k lo a n:=by
 constructor
 .intro h;unfold kz at h;cases h1:pD k;.grind
  rw[h1]at h;have d:=Ex.1 h1;simp only[Bool.not_true,cond_false]at h;cases h2:(k==1&&(decide (lo<0)||decide (lo>a)||decide (a>4294967295)))
  .rw[h2]at h;simp only[cond_false]at h;cases c:((k != 1&&(lo != 0||a != 0))|| !fM k n)
   .simp only[Bool.or_eq_false_iff,Bool.and_eq_false_iff,bne_eq_false_iff_eq,Bool.not_eq_false',beq_eq_false_iff_ne,decide_eq_false_iff_not]at h2 c;obtain⟨c,b⟩:=c;refine⟨d,λe=>?_,λe=>?_,λe=>?_,λe=>?_,λe=>?_,λe=>?_⟩;.omega
    .omega
    .rcases e with rfl|rfl|rfl<;>simpa[fM]using b
    .subst e;simpa[fM]using b
    .subst e;simpa[fM]using b
    .rcases e with rfl|rfl|rfl<;>simpa[fM]using b
   grind
  grind
 .intro h;have h1:pD k=true:=Ex.2 h.known;have h2:(k==1&&(decide (lo<0)||decide (lo>a)||decide (a>4294967295)))=false:=by
   by_cases e:k=1;.have:=h.nW e;grind
   grind
  have c:(k != 1&&(lo != 0||a != 0))=false:=by
   by_cases e:k=1;.grind
   .have:=h.zero e;grind
  have b:fM k n=true:=by
   rcases h.known with rfl|rfl|rfl|rfl|rfl|rfl|rfl|rfl;.simpa[fM]using h.leaf (by simp)
   .simpa[fM]using h.leaf (by simp)
   .simpa[fM]using h.leaf (by simp)
   .simpa[fM]using h.seq rfl
   .simpa[fM]using h.alt rfl
   .simpa[fM]using h.one (by simp)
   .simpa[fM]using h.one (by simp)
   .simpa[fM]using h.one (by simp)
  unfold kz;grind
mutual
def sz:Rx->Nat
 | .mk _ _ _ ks=>1+sA ks
def sA:List Rx->Nat
 |[]=>0
 |r::a=>sz r+sA a
end
def mO:∀{ks:List Rx} {r:Rx},r∈ks->sz r<=sA ks
 |x::ks,r,h=>by
  simp only[sA];rcases List.mem_cons.1 h with rfl|h;.simp
  .have:=mO h;omega
def za6(r:Rx):0<sz r:=by cases r;simp only[sz];omega
def za:∀ks:List Rx,ks.length<=sA ks
 |[]=>I_ _
 |r::ks=>by simp only[sA,A_];have:=za ks;have:=za6 r;omega
theorem Kt:∀l m:List Rx,sA (l++m)=sA l+sA m
 |[],m=>by simp[sA]
 |r::l,m=>by simp only[g_,sA,Kt l m];omega
mutual
def eW:Rx->Bool
 | .mk k lo a ks=>kz k lo a ks.length==0&&FJ ks
def FJ:List Rx->Bool
 |[]=>true
 |r::a=>eW r&&FJ a
end
def FK:∀ks:List Rx,FJ ks=true↔∀r∈ks,eW r=true
 |[]=>by simp[FJ]
 |r::ks=>by simp[FJ,FK ks]
theorem fe{k lo a:Int}{ks:List Rx}:eW (.mk k lo a ks)=true↔Node k lo a ks.length/\∀r∈ks,eW r=true:=by simp only[eW,Bool.and_eq_true,beq_iff_eq,EP,FK]
mutual
def s8:Rx->Int->Int->Int×Int
 | .mk k lo a ks,lv,c=>if lv>16 then(c,24)else if c>=64 then(c,4)else if kz k lo a ks.length≠0 then(c,kz k lo a ks.length)else fG ks (lv+1) (c+1)
def fG:List Rx->Int->Int->Int×Int
 |[],_,c=>(c,0)
 |r::a,lv,c=>if(s8 r lv c).2≠0 then s8 r lv c else fG a lv (s8 r lv c).1
end
mutual
def NS:Rx->Bool
 | .mk k _ _ ks=>bif k==0||k==5||k==7 then true else bif k==3||k==6 then qp ks else bif k==4 then vt ks else false
def qp:List Rx->Bool
 |[]=>true
 |r::a=>NS r&&qp a
def vt:List Rx->Bool
 |[]=>false
 |r::a=>NS r||vt a
end
theorem MF:∀l m:List Rx,qp (l++m)=(qp l&&qp m)
 |[],m=>by simp[qp]
 |r::l,m=>by simp only[g_,qp,MF l m,C_]
theorem MG:∀l m:List Rx,vt (l++m)=(vt l||vt m)
 |[],m=>by simp[vt]
 |r::l,m=>by simp only[g_,vt,MG l m,E_]
mutual
def cnt:Rx->Nat
 | .mk k _ _ ks=>(bif k==1||k==2 then 1 else 0)+dt ks
def dt:List Rx->Nat
 |[]=>0
 |r::a=>cnt r+dt a
end
def s9:∀l m:List Rx,dt (l++m)=dt l+dt m
 |[],m=>by simp[dt]
 |r::l,m=>by simp only[g_,dt,s9 l m];omega
def Ov(r:Rx):cnt r<=sz r:=by
 refine hU (P:=λr=>cnt r<=sz r) (λk lo c ks a=>?_) r;have:∀l:List Rx,(∀r∈l,cnt r<=sz r)->dt l<=sA l:=by intro l;induction l with|nil=>intro _;exact I_ _|cons r l b=>intro h;simp only[dt,sA];grind
 have:=this ks a;simp only[cnt,sz];grind
theorem len_nil{ks:List Rx}(h:(ks.length:Int)=0):ks=[]:=List.length_eq_zero_iff.1 (by omega)
def ku{ks:List Rx}(h:(ks.length:Int)=1):∃r,ks=[r]:=List.length_eq_one_iff.1 (by omega)
def fU:∀(r:Rx),eW r=true->∀o,(di r o).sp.length=cnt r/\(di r o).em=NS r:=by
 refine hU λk lo y ks n w o=>?_;obtain⟨hn,e⟩:=fe.1 w;have u:∀(l:List Rx) (a:G),(∀r∈l,r∈ks)->(cK l o a).sp.length=a.sp.length+dt l/\(cK l o a).em=(a.em||vt l):=by intro l;induction l with|nil=>intro a _;simp[cK,dt,vt]|cons r l c=>intro a hl;have hr:=hl r (d_ ..);obtain⟨h1,h2⟩:=n r hr (e r hr) (o+a.sp.length);obtain⟨f,g⟩:=c (r9 a (di r (o+a.sp.length))) λx j=>hl x (f_ _ j);simp only[cK,f,g,dt,vt];simp only[r9,a_,h1,h2,E_];grind
 have v:∀(l:List Rx) (a:G),(∀r∈l,r∈ks)->(ee l o a).sp.length=a.sp.length+dt l/\(ee l o a).em=(a.em&&qp l):=by intro l;induction l with|nil=>intro a _;simp[ee,dt,qp]|cons r l c=>intro a hl;have hr:=hl r (d_ ..);obtain⟨h1,h2⟩:=n r hr (e r hr) (o+a.sp.length);obtain⟨f,g⟩:=c (jB a (di r (o+a.sp.length))) λx j=>hl x (f_ _ j);simp only[ee,f,g,dt,qp];simp only[jB,a_,h1,h2,C_];grind
 obtain⟨b,d⟩:=u ks (g0 false) λ_ h=>h;obtain⟨p,s⟩:=v ks (g0 true) λ_ h=>h;rcases hn.known with rfl|rfl|rfl|rfl|rfl|rfl|rfl|rfl;.have:=len_nil (hn.leaf (by simp));subst this;simp[di,g0,cnt,dt,NS]
 .have:=len_nil (hn.leaf (by simp));subst this;simp[di,KE,cnt,dt,NS]
 .have:=len_nil (hn.leaf (by simp));subst this;simp[di,KE,cnt,dt,NS]
 .simp only[g0,l_,p_,w_]at p s;simp[di,g0,p,s,cnt,NS]
 .simp only[g0,l_,p_,r_]at b d;simp[di,g0,b,d,cnt,NS]
 .simp only[g0,l_,p_,r_]at b d;simp[di,QJ,nC,g0,b,cnt,NS]
 .obtain⟨x,rfl⟩:=ku (hn.one (by simp));simp only[g0,l_,p_,r_]at b d;simp[di,nC,g0,b,d,cnt,NS,vt,qp]
 .simp only[g0,l_,p_,r_]at b d;simp[di,QJ,g0,b,cnt,NS]
open Go Go.Ev Go.Lib
def Eu(b:UInt8):Prop:=48<=b.toNat/\b.toNat<=57
instance (b:UInt8):Decidable (Eu b):=inferInstanceAs (Decidable (_/\_))
def ly(l:List UInt8):Nat:=l.foldl (λn b=>10*n+(b.toNat - 48)) 0
theorem uR(l:List UInt8)(b:UInt8):ly (l++[b])=10*ly l+(b.toNat - 48):=by simp[ly,List.foldl_append]
def HB{n:Nat}(h:n<10):(UInt8.ofNat (48+n)).toNat=48+n:=by simp;omega
def uw:∀(n:Nat),(∀b∈decDigits n,Eu b)/\ly (decDigits n)=n/\0<(decDigits n).length/\(1<(decDigits n).length->((decDigits n).getD 0 0).toNat≠48)/\(0<n->((decDigits n).getD 0 0).toNat≠48):=by
 intro n;induction n using v_ with
 |ind n c=>
  rw[decDigits];by_cases h:n<10
  .rw[dif_pos h];have:=HB h;refine⟨λb a=>?_,?_,by simp,by simp,?_⟩;.simp only[y_]at a;subst a;unfold Eu;omega
   .show 10*0+((UInt8.ofNat (48+n)).toNat - 48)=n;omega
   grind
  .rw[dif_neg h];obtain⟨h1,h2,d,e,f⟩:=c (n/10) (by omega);have hd:=HB (show n%10<10 by omega);have hg:(decDigits (n/10)++[UInt8.ofNat (48+n%10)]).getD 0 0=(decDigits (n/10)).getD 0 0:=by grind
   refine⟨λb a=>?_,?_,by simp,λ_=>?_,λ_=>?_⟩
   .simp only[e_,y_]at a;rcases a with a|rfl;.grind
    .unfold Eu;omega
   .rw[uR,h2,hd];omega
   all_goals grind
theorem xK(n:Nat):∀b∈decDigits n,Eu b:=(uw n).1
theorem xL(n:Nat):ly (decDigits n)=n:=(uw n).2.1
theorem Do(n:Nat):0<(decDigits n).length:=(uw n).2.2.1
theorem Sy(n:Nat)(h:1<(decDigits n).length):((decDigits n).getD 0 0).toNat≠48:=(uw n).2.2.2.1 h
def LD:∀(n k:Nat),n<10^(k+1)->(decDigits n).length<=k+1
 |n,0,h=>by rw[decDigits,dif_pos (by omega)];simp
 |n,k+1,h=>by
  rw[decDigits];split;.simp
  .have:=LD (n/10) k (by omega);grind
def jt{n:Nat}(h:n<=4294967295):(decDigits n).length<=10:=LD n 9 (by omega)
theorem takeD{l:List UInt8}{k:Nat}(h:k<l.length):l.take (k+1)=l.take k++[l.getD k 0]:=by
 have e:l.getD k 0=l[k]:=by grind
 rw[List.take_succ_eq_append_getElem h,e]
def ze(l:List UInt8):∀(d k:Nat),k+d=l.length->ly (l.take k)<=ly l
 |0,k,h=>by grind
 |d+1,k,h=>by have h1:=ze l d (k+1) (by omega);rw[takeD (by omega),uR]at h1;omega
theorem It{l:List UInt8}{k:Nat}(h:k<=l.length):ly (l.take k)<=ly l:=ze l (l.length - k) k (by omega)
def lX(p:Int):Rx->Bool
 | .mk k _ _ ks=>bif k==4 then !ks.isEmpty else bif k==3 then p != 4 else(k==5||k==6||k==7)&&(p==5||p==6||p==7)
def sd(w:Bool)(l:List UInt8):List UInt8:=bif w then 40::(l++[41])else l
def jn(sep:UInt8):List (List UInt8)->List UInt8
 |[]=>[]
 |[x]=>x
 |x::y::l=>x++sep::jn sep (y::l)
mutual
def pat:Rx->List UInt8
 | .mk k lo a ks=>
  if k=0 then [40,41]else if k=2 then [46]
  else if k=1 then(if lo=a then decDigits lo.toNat else 91::(decDigits lo.toNat++45::(decDigits a.toNat++[93])))
  else if k=5 then(J5 5 ks).headD []++[42]else if k=6 then(J5 6 ks).headD []++[43]else if k=7 then(J5 7 ks).headD []++[63]
  else if k=4 then(if ks=[]then [33]else jn 124 (J5 4 ks))else jn 32 (J5 3 ks)
def J5:Int->List Rx->List (List UInt8)
 |_,[]=>[]
 |p,r::a=>sd (lX p r) (pat r)::J5 p a
end
def je(p:Int)(r:Rx):List UInt8:=sd (lX p r) (pat r)
theorem dS(p:Int):∀ks:List Rx,J5 p ks=ks.map (je p)
 |[]=>by simp[J5]
 |r::a=>by simp[J5,dS p a,je]
def JM(sep:UInt8):∀(l:List (List UInt8)) (x:List UInt8),jn sep (l++[x])=if l=[]then x else jn sep l++sep::x
 |[],x=>by simp[jn]
 |[y],x=>by simp[jn]
 |y::z::l,x=>by have:=JM sep (z::l) x;simp only[g_,jn]at*;grind
def JL(sep:UInt8):∀(l:List (List UInt8)),(jn sep l).length<=(l.map λx=>x.length+1).sum
 |[]=>by simp[jn]
 |[x]=>by simp[jn]
 |x::y::l=>by have:=JL sep (y::l);simp only[jn,a_,A_,x_,F_]at*;omega
def QZ(p:Int)(r:Rx):(je p r).length<=(pat r).length+2:=by unfold je sd;cases lX p r<;>simp
def Cz:∀(r:Rx),eW r=true->(pat r).length+3<=26*sz r:=by
 refine hU λk lo c ks j f=>?_;obtain⟨hn,b⟩:=fe.1 f;have a:∀p:Int,∀l:List Rx,(∀r∈l,r∈ks)->((l.map (je p)).map λx=>x.length+1).sum<=26*sA l:=by intro p l;induction l with|nil=>simp|cons r l n=>intro h;have h1:=j r (h r (d_ ..)) (b r (h r (d_ ..)));have h2:=n λx g=>h x (f_ _ g);have u:=QZ p r;simp only[x_,F_,sA]at*;omega
 have hd:∀p:Int,((ks.map (je p)).headD []).length<=26*sA ks:=by intro p;have h1:=a p ks λ_ h=>h;cases ks with|nil=>simp|cons r l=>grind
 have v:∀(p:Int) (s:UInt8),(jn s (ks.map (je p))).length<=26*sA ks:=λp s=>H_ (JL s _) (a p ks λ_ h=>h);have d:k=1->(decDigits lo.toNat).length<=10/\(decDigits c.toNat).length<=10:=λe=>by have:=hn.nW e;exact⟨jt (by omega),jt (by omega)⟩
 simp only[pat,dS,sz];grind
end Go.Pl
namespace Go.Ev
open Go Go.RowKit Go.Av
def OI(f:Nat->Int)(i:Nat):Nat->Int
 |0=>0
 |k+1=>if f i=0 then OI f (i+1) k else f i
def jT(f:Nat->Int)(N:Nat):Int:=OI f 0 N
def HG{f:Nat->Int}:∀(k i:Nat),OI f i k=0↔∀j,i<=j->j<i+k->f j=0
 |0,i=>by simp only[OI,true_iff];omega
 |k+1,i=>by
  simp only[OI];split;.rename_i h;rw[HG k (i+1)];grind
  grind
def uy{f:Nat->Int}{N:Nat}:jT f N=0↔∀j,j<N->f j=0:=by unfold jT;rw[HG];simp
def b9{α:Type}(f:α->Int)(l:List α):Int:=jT (λi=>match l[i]? with|some x=>f x|none=>0) l.length
def iK{α:Type}{f:α->Int}{l:List α}:b9 f l=0↔∀x∈l,f x=0:=by
 unfold b9;rw[uy];constructor;.intro h x a;obtain⟨i,b,rfl⟩:=h_.1 a;grind
 grind
def nV{ρ β a:Type}{N:Nat}{f:Nat->Int}{enc:Nat->ρ}{oB:Int->β}{oE:a}{body:Nat->ρ->Option (ρ⊕β⊕a)}{Q:β⊕a->Prop} (h:∀i,i<N->Wp (λn=>body n (enc i)) λr=>r=if f i=0 then .inl (enc (i+1))else .inr (.inl (oB (f i)))) (c:Wp (λn=>body n (enc N)) λr=>r= .inr (.inr oE)) (b:Q (if jT f N=0 then .inr oE else .inl (oB (jT f N)))):Wp (λn=>gr n (body n) (enc 0)) Q:=by
 refine aK (N:=N) (I:=λi s=>s=enc i/\jT f N=OI f i (N - i)) ⟨rfl,rfl⟩ (λi s d hs=>?_) λs hs=>?_;.obtain⟨rfl,hd⟩:=hs;refine wp_mono (h i d) λr hr=>?_;subst hr;rw[show N - i=(N - (i+1))+1 by omega]at hd;simp only[OI]at hd;grind
 .obtain⟨rfl,hd⟩:=hs;refine wp_mono c λr hr=>?_;subst hr;rw[Nat.sub_self]at hd;rw[if_pos (show jT f N=0 from hd)]at b;omega
def lC{α ρ β a:Type}{l:List α}{f:α->Int}{enc:Nat->ρ}{oB:Int->β}{oE:a}{body:Nat->ρ->Option (ρ⊕β⊕a)}{Q:β⊕a->Prop} (h:∀i (d:i<l.length),Wp (λn=>body n (enc i)) λr=>r=if f l[i]=0 then .inl (enc (i+1))else .inr (.inl (oB (f l[i])))) (c:Wp (λn=>body n (enc l.length)) λr=>r= .inr (.inr oE)) (b:Q (if b9 f l=0 then .inr oE else .inl (oB (b9 f l)))):Wp (λn=>gr n (body n) (enc 0)) Q:=by
 refine nV (f:=λi=>match l[i]? with|some x=>f x|none=>0) (oB:=oB) (λi d=>?_) c b
 grind
def kI{α ρ β b:Type}{xs:List α}{p:α->Bool}{enc:Nat->ρ}{g:α->β}{e:b}{body:Nat->ρ->Option (ρ⊕β⊕b)}{Q:β⊕b->Prop} (h:∀(i:Nat) (a:i<xs.length),Wp (λn=>body n (enc i)) λr=>r=if p xs[i]then .inr (.inl (g xs[i]))else .inl (enc (i+1))) (c:Wp (λn=>body n (enc xs.length)) λr=>r= .inr (.inr e)) (d:Q (match xs.find? p with|some x=>.inl (g x)|none=>.inr e)):Wp (λn=>gr n (body n) (enc 0)) Q:=by
 refine aK (N:=xs.length) (I:=λi s=>s=enc i/\xs.find? p=(xs.drop i).find? p) ⟨rfl,by simp⟩ (λi s a hs=>?_) λs hs=>?_;.obtain⟨rfl,hd⟩:=hs;refine wp_mono (h i a) λr hr=>?_;rw[List.drop_eq_getElem_cons a,List.find?_cons]at hd;grind
 .obtain⟨rfl,hd⟩:=hs;refine wp_mono c λr hr=>?_;grind
end Go.Ev
namespace Go.Pl
open Go Go.Av Go.Ev
abbrev PFX:Type:=Int×(Int×Unit)
abbrev ue:Type:=Int×(List UInt8×(Int×(PFX×(Bool×Unit))))
abbrev sB:Type:=Int×(Int×(Int×(Int×(Int×Unit))))
abbrev r8:Type:=List UInt8×(List ue×(List sB×(Int×Unit)))
abbrev IS:Type:=List UInt8×(List r8×(Int×Unit))
abbrev Qj:Type:=Bool×(PFX×(Int×(Int×Unit)))
abbrev PLS:Type:=List UInt8×(List Qj×Unit)
abbrev XC:Type:=Bool×(List UInt8×Unit)
abbrev Z9:Type:=List UInt8×(List XC×Unit)
abbrev Qb:Type:=Bool×(Int×(Int×Unit))
abbrev CLS:Type:=List UInt8×(List Qb×Unit)
abbrev PS:Type:=List PLS×(List Z9×(List CLS×(List IS×Unit)))
abbrev yP:Ty:=pr [tW,tI]
abbrev yM:Ty:=pr [tI,tS,tI,yP,tB]
abbrev yA:Ty:=pr [tI,tI,tI,tW,tW]
abbrev yT:Ty:=pr [tS,.list yM,.list yA,tI]
abbrev yO:Ty:=pr [tS,.list yT,tI]
abbrev yR:Ty:=pr [tB,yP,tI,tI]
abbrev yL:Ty:=pr [tS,.list yR]
abbrev yH:Ty:=pr [tB,tS]
abbrev yG:Ty:=pr [tS,.list yH]
abbrev yC:Ty:=pr [tB,tI,tI]
abbrev yD:Ty:=pr [tS,.list yC]
abbrev yS:Ty:=pr [.list yL,.list yG,.list yD,.list yO]
def ua(p:PFX):Bool:=(decide (0<=p.2.1)&&decide (p.2.1<=32))&&(Q2 p.1 p.2.1==p.1)
def EN(c:UInt8):Bool:=(((decide ((c.toNat:Int)>=97)&&decide ((c.toNat:Int)<=122))||(decide ((c.toNat:Int)>=65)&&decide ((c.toNat:Int)<=90)))||(decide ((c.toNat:Int)>=48)&&decide ((c.toNat:Int)<=57)))||((c.toNat:Int)==45)
def nF(s:List UInt8):Bool:=s.all EN&&(decide (1<=s.length)&&decide (s.length<=32))
def iW(r:Qj):Int:=if ua r.2.1=false then 1 else if r.2.2.1<r.2.1.2.1\/r.2.2.2.1<r.2.2.1\/r.2.2.2.1>32 then 5 else 0
def ir(r:Qb):Int:=if r.2.1< -1\/r.2.1>65535\/r.2.2.1< -1\/r.2.2.1>65535 then 5 else 0
def tP(a b:List UInt8):Bool:=Op.bytesLess a b||a==b
def mc(l:List (List UInt8))(i:Nat):Int:=match l[i]? with
 |none=>0
 |some x=>if nF x=false then 1 else if 0<i/\tP x (l.getD (i - 1) [])=true then 16 else 0
def FN{α:Type}(nm:α->List UInt8)(sz:α->Nat)(ck:α->Int)(l:List α)(i:Nat):Int:=if mc (l.map nm) i≠0 then mc (l.map nm) i else match l[i]? with
 |none=>0
 |some x=>if sz x>64 then 4 else ck x
def fg{α:Type}(nm:α->List UInt8)(sz:α->Nat)(ck:α->Int)(l:List α):Int:=if l.length>64 then 4 else jT (FN nm sz ck l) l.length
def VS(k:Int):Int:=if k=4 then 1 else 0
def HQ(k:Int):Int:=if k=4 then 7 else if k=5 then 4294967295 else if k=6 then 16777216 else 2000
def Cc(s:PS)(k:Int)(n:List UInt8):Bool:=if k=1 then s.1.any (·.1==n)else if k=2 then s.2.1.any (·.1==n)else s.2.2.1.any (·.1==n)
def jX(s:PS)(m:ue):Int:=
 if m.1<1\/8<m.1 then 15
 else if(3<m.1/\m.2.1≠[])\/(¬(m.1=4\/m.1=5\/m.1=6\/m.1=8)/\m.2.2.1≠0)\/(m.1≠7/\(m.2.2.2.1.1≠0\/m.2.2.2.1.2.1≠0))then 1
 else if m.1<=3 then(if Cc s m.1 m.2.1 then 0 else 6)
 else if m.1=7 then(if ua m.2.2.2.1 then 0 else 1)
 else if m.2.2.1<VS m.1\/HQ m.1<m.2.2.1 then 5 else 0
def kB(a:sB):sB:=if a.1<=4 then(a.1,a.2.1,0,0,0,())else if a.1=5 then(a.1,0,0,0,a.2.2.2.2.1,())else if a.1<=7 then(a.1,0,0,a.2.2.2.1,0,())else(a.1,a.2.1,a.2.2.1,0,0,())
def ki(a:sB):Bool:=if a.1=3 then decide (0<=a.2.1)&&decide (a.2.1<=16777216)else if a.1<=4 then decide (0<=a.2.1)&&decide (a.2.1<=4294967295)else if a.1=5 then a.2.2.2.2.1 != 0
 else if a.1<=7 then true else(decide (1<=a.2.2.1)&&decide (a.2.2.1<=4294967295))&&(decide (1<=a.2.1)&&decide (a.2.1<=16))
def my(a:sB):Int:=if a.1<1\/8<a.1 then 15 else if ¬a=kB a then 1 else if ki a=false then 5 else 0
def QK(a b:sB):gI yA a b=true↔a=b:=by obtain⟨c,d,e,f,g,⟨⟩⟩:=a;obtain⟨h,j,k,l,n,⟨⟩⟩:=b;simp[gI]
def iS(s:PS)(a:List r8)(t:r8):Int:=
 if nF t.1=false then 1
 else if a.any (·.1==t.1)=true then 7
 else if t.2.1.length>64 then 4
 else if b9 (jX s) t.2.1≠0 then b9 (jX s) t.2.1
 else if t.2.2.1.length>64 then 4
 else if b9 my t.2.2.1≠0 then b9 my t.2.2.1
 else if t.2.2.2.1<1\/3<t.2.2.2.1 then 15 else 0
def rE(s:PS)(p:IS):Int:=
 if jT (λi=>match p.2.1[i]? with|some t=>iS s (p.2.1.take i) t|none=>0) p.2.1.length≠0 then jT (λi=>match p.2.1[i]? with|some t=>iS s (p.2.1.take i) t|none=>0) p.2.1.length
 else if p.2.2.1≠1/\p.2.2.1≠2 then 15 else 0
def wZ(pe:List UInt8->Int)(s:PS):Int:=
 if fg (·.1) (λl=>l.2.1.length) (λl=>b9 iW l.2.1) s.1≠0 then fg (·.1) (λl=>l.2.1.length) (λl=>b9 iW l.2.1) s.1
 else if fg (·.1) (λl=>l.2.1.length) (λl=>b9 (λr=>pe r.2.1) l.2.1) s.2.1≠0 then fg (·.1) (λl=>l.2.1.length) (λl=>b9 (λr=>pe r.2.1) l.2.1) s.2.1
 else if fg (·.1) (λl=>l.2.1.length) (λl=>b9 ir l.2.1) s.2.2.1≠0 then fg (·.1) (λl=>l.2.1.length) (λl=>b9 ir l.2.1) s.2.2.1
 else fg (·.1) (λp=>p.2.1.length) (rE s) s.2.2.2.1
def nE{s:PS}{k N a pl:Int}{nm:List UInt8}{nt:Bool}(h:k=1\/k=2\/k=3):jX s (k,nm,N,(a,pl,()),nt,())=if N≠0\/a≠0\/pl≠0 then 1 else if Cc s k nm then 0 else 6:=by unfold jX;grind
def Mv{s:PS}{N a pl:Int}{nm:List UInt8}{nt:Bool}:jX s (7,nm,N,(a,pl,()),nt,())=if nm≠[]\/N≠0 then 1 else if ua (a,pl,())then 0 else 1:=by unfold jX;simp
def Mw{s:PS}{k N a pl:Int}{nm:List UInt8}{nt:Bool}(h:k=4\/k=5\/k=6\/k=8):jX s (k,nm,N,(a,pl,()),nt,())=if nm≠[]\/a≠0\/pl≠0 then 1 else if N<VS k\/HQ k<N then 5 else 0:=by unfold jX;grind
theorem Mu{s:PS}{m:ue}(h:m.1<1\/8<m.1):jX s m=15:=by unfold jX;rw[if_pos h]
structure C4(s:PS):Prop where
 ok:okD yS s
 l1:s.1.length<=1048576
 l2:s.2.1.length<=1048576
 l3:s.2.2.1.length<=1048576
 l4:s.2.2.2.1.length<=1048576
 pt:∀l∈s.2.1,∀r∈l.2.1,r.2.1.length<=1048576
def Cw{α:Type}{nm:α->List UInt8}{sz:α->Nat}{ck:α->Int}{l:List α}(h:fg nm sz ck l=0):l.length<=64/\∀x∈l,nF (nm x)=true/\sz x<=64/\ck x=0:=by
 unfold fg at h;split at h;.omega
 rename_i hl;refine⟨by omega,λx c=>?_⟩;obtain⟨i,a,rfl⟩:=h_.1 c;have h1:=uy.1 h i a;unfold FN at h1;split at h1;.omega
 rename_i h2;rw[c_ a]at h1;simp only at h1;split at h1;.omega
 rename_i d;refine⟨?_,by omega,h1⟩;have b:mc (l.map nm) i=0:=b_ h2;unfold mc at b;grind
structure Qk(s:PS)(t:r8):Prop where
 nm:nF t.1=true
 ml:t.2.1.length<=64
 ma:∀m∈t.2.1,jX s m=0
 al:t.2.2.1.length<=64
 ac:∀a∈t.2.2.1,my a=0
 ve:1<=t.2.2.2.1/\t.2.2.2.1<=3
def Zi{s:PS}{b:List r8}{t:r8}(h:iS s b t=0):Qk s t:=by
 unfold iS at h;split at h;.omega
 rename_i c;split at h;.omega
 split at h;.omega
 rename_i h1;split at h;.omega
 rename_i h2;split at h;.omega
 rename_i d;split at h;.omega
 rename_i a;split at h;.omega
 rename_i e;refine⟨?_,by omega,iK.1 (b_ h2),by omega,iK.1 (b_ a),by omega⟩;grind
structure K2(s:PS)(p:IS):Prop where
 tl:p.2.1.length<=64
 tr:∀t∈p.2.1,Qk s t
 df:p.2.2.1=1\/p.2.2.1=2
structure UK(pe:List UInt8->Int)(s:PS):Prop where
 l1:s.1.length<=64
 r1:∀l∈s.1,l.2.1.length<=64/\∀r∈l.2.1,iW r=0
 l2:s.2.1.length<=64
 r2:∀l∈s.2.1,l.2.1.length<=64/\∀r∈l.2.1,pe r.2.1=0
 l3:s.2.2.1.length<=64
 r3:∀l∈s.2.2.1,l.2.1.length<=64/\∀r∈l.2.1,ir r=0
 l4:s.2.2.2.1.length<=64
 r4:∀p∈s.2.2.2.1,K2 s p
def Y0{s:PS}{p:IS}(hl:p.2.1.length<=64)(h:rE s p=0):K2 s p:=by
 unfold rE at h;split at h;.omega
 rename_i b;split at h;.omega
 rename_i h1;refine⟨hl,λt ht=>?_,by omega⟩;obtain⟨i,a,rfl⟩:=h_.1 ht;have h2:=uy.1 (b_ b) i a;rw[c_ a]at h2;exact Zi h2
def J7{pe:List UInt8->Int}{s:PS}(h:wZ pe s=0):UK pe s:=by
 unfold wZ at h;split at h;.omega
 rename_i h1;split at h;.omega
 rename_i h2;split at h;.omega
 rename_i e;have a:=Cw (b_ h1);have b:=Cw (b_ h2);have c:=Cw (b_ e);have d:=Cw h;exact⟨a.1,λl hl=>⟨(a.2 l hl).2.1,iK.1 (a.2 l hl).2.2⟩,b.1,λl hl=>⟨(b.2 l hl).2.1,λr hr=>iK.1 (b.2 l hl).2.2 r hr⟩,c.1,λl hl=>⟨(c.2 l hl).2.1,iK.1 (c.2 l hl).2.2⟩,d.1,λp hp=>Y0 (d.2 p hp).2.1 (d.2 p hp).2.2⟩
def Ei(s:PS)(n:List UInt8):Option IS:=s.2.2.2.1.find? (·.1==n)
def Ej{s:PS}{n:List UInt8}{p:IS}(h:Ei s n=some p):p∈s.2.2.2.1:=List.mem_of_find?_eq_some h
end Go.Pl
