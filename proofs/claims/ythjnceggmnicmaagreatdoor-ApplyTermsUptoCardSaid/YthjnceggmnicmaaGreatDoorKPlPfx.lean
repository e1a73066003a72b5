import Derived.Test.YthjnceggmnicmaaGreatDoorKL7
import Derived.Test.YthjnceggmnicmaaGreatDoorKL5
import Derived.Lib.ItoaNum
set_option linter.unusedVariables false
set_option linter.unusedSimpArgs false
open Bool renaming false_or->v_,and_eq_true->w_,true_and->A_,and_assoc->J_,or_assoc->K_
open Classical renaming byContradiction->d_
open Go.IntKind renaming bits->k_,wrap->N_
open List renaming getElem?_eq_getElem->a_,length_append->b_,getElem?_append_left->c_,getElem?_eq_some_iff->e_,mem_cons_self->f_,mem_cons_of_mem->g_,mem_append->h_,cons_append->i_,length_nil->j_,take_succ_eq_append_getElem->l_,mem_iff_getElem->m_,pairwise_append->n_,getD->r_,mem_singleton->s_,drop_eq_getElem_cons->t_,pairwise_iff_getElem->u_,length_cons->x_,pairwise_cons->B_,take_add_one->C_,countP_cons->D_,getElem_mem->E_,take_length->F_,all_append->G_,foldl_cons->H_,map_cons->L_,sum_cons->M_
open Nat renaming eq_of_testBit_eq->o_,le_refl->p_,zero_add->q_,testBit_mod_two_pow->y_,testBit_mul_two_pow->z_,strongRecOn->I_,le_trans->O_,zero_le->P_
namespace Go.Pl
open Go Go.Av Go.Ev
def BF(x n:Nat):Nat:=x>>>(32 - n) <<< (32 - n)
def BG(x n:Int):Int:=(BF x.toNat n.toNat:Int)
theorem DU(x n j:Nat):(BF x n).testBit j=(decide (32 - n<=j)&&x.testBit j):=by unfold BF;grind
theorem zdg(x n:Nat):BF x n<=x:=by unfold BF;rw[Nat.shiftLeft_eq,Nat.shiftRight_eq_div_pow];exact Nat.div_mul_le_self _ _
theorem VQ{x:Nat}(b:x<4294967296){j:Nat}(a:32<=j):x.testBit j=false:=Nat.testBit_lt_two_pow (Nat.lt_of_lt_of_le b (O_ (show 4294967296<=2^32 by simp) (Nat.pow_le_pow_right (by simp) a)))
theorem zbH{x n:Nat}(b:x<4294967296)(hn:n<=32):x&&&(4294967295*2^(32 - n)%4294967296)=BF x n:=by
 refine o_ λj=>?_;rw[Nat.testBit_and,DU];by_cases a:j<32
 ·have e:(4294967295*2^(32 - n)%4294967296).testBit j=decide (32 - n<=j):=by
   rw[show(4294967296:Nat)=2^32 from rfl,y_,decide_eq_true a,A_,z_];by_cases h:32 - n<=j;·rw[decide_eq_true (show j>=32 - n from h),A_,show(4294967295:Nat)=2^32 - 1 from rfl,Nat.testBit_two_pow_sub_one];grind
   grind
  grind
 ·rw[VQ b (by omega)];simp
theorem zbJ{x:Nat}(b:x<4294967296):BF x 0=0:=by
 refine o_ λj=>?_;rw[DU,Nat.zero_testBit];by_cases a:32<=j;·rw[VQ b a,Bool.and_false]
 grind
theorem zbI(x:Nat){i:Nat}(b:i<32):BF x (i+1)=BF x i|||(x/2^(31 - i)%2)*2^(31 - i):=by
 refine o_ λj=>?_;rw[Nat.testBit_or,DU,DU,z_];have a:∀k,(x/2^(31 - i)%2).testBit k=(decide (k=0)&&x.testBit (31 - i)):=λk=>by rw[show(2:Nat)=2^1 from rfl,y_];grind
 grind
theorem Ve{x y:Nat}(a:x<4294967296)(b:y<4294967296):rN .u32 .and (x:Int) (y:Int)=((x&&&y:Nat):Int):=by
 show N_ .u32 ((BitVec.ofInt (k_ .u32) (x:Int)&&&BitVec.ofInt (k_ .u32) (y:Int)).toNat:Int)=_;rw[wrap_u32,BitVec.toNat_and];have e:∀z:Nat,z<4294967296->(BitVec.ofInt (k_ .u32) (z:Int)).toNat=z:=λz c=>by rw[BitVec.toNat_ofInt];show(((z:Int)%((2^32:Nat):Int))).toNat=z;omega
 rw[e x a,e y b];have:x&&&y<=x:=Nat.and_le_left;omega
theorem zeS{x y:Nat}(a:x<4294967296)(b:y<4294967296):rN .u32 .or (x:Int) (y:Int)=((x|||y:Nat):Int):=by
 show N_ .u32 ((BitVec.ofInt (k_ .u32) (x:Int)|||BitVec.ofInt (k_ .u32) (y:Int)).toNat:Int)=_;rw[wrap_u32,BitVec.toNat_or];have e:∀z:Nat,z<4294967296->(BitVec.ofInt (k_ .u32) (z:Int)).toNat=z:=λz c=>by rw[BitVec.toNat_ofInt];show(((z:Int)%((2^32:Nat):Int))).toNat=z;omega
 rw[e x a,e y b];have:x|||y<2^32:=Nat.or_lt_two_pow (by omega) (by omega);omega
section
variable {α β σ τ:Type}
theorem JD [DecidableEq α]:∀(l u:List α),l.Nodup->(∀x∈l,x∈u)->l.length<=u.length
 |[],_,_,_=>P_ _
 |x::l,u,hn,hs=>by
  have b:=hs x (f_ ..);have a:=List.nodup_cons.1 hn;have h:=JD l (u.erase x) a.2 λy c=>by refine(List.mem_erase_of_ne ?_).2 (hs y (g_ _ c));rintro rfl;exact a.1 c
  have:=List.length_erase_of_mem b;have:=List.length_pos_of_mem b;simp only[x_];omega
theorem Ws{L a:List τ}(h:L<+:a){i:Nat}{x:τ}(b:L[i]? =some x):a[i]? =some x:=by obtain⟨t,rfl⟩:=h;rw[c_ (e_.1 b).1];exact b
section
variable {f:α->β->α} {s0:α} {ls:List β}
structure Ok(f:α->β->α)(s0:α)(ls:List β)(L:List α)(T:List (Nat×β)):Prop where
 nodup:L.Nodup
 len:L.length=T.length+1
 head:L[0]? =some s0
 link:∀k j c,T[k]? =some (j,c)->j<k+1/\c∈ls/\∃x,L[j]? =some x/\L[k+1]? =some (f x c)
theorem Ok.add{L:List α}{T:List (Nat×β)}(h:Ok f s0 ls L T){x:α}{i:Nat}{c:β}(J:L[i]? =some x)(hc:c∈ls)(hn:f x c∉L):Ok f s0 ls (L++[f x c]) (T++[(i,c)]):=by
 have hi:i<L.length:=(e_.1 J).1;have hl:=h.len;refine⟨?_,by simp[hl],?_,λk j N z=>?_⟩;·rw[List.nodup_append];exact⟨h.nodup,by simp,λa ha b I=>by simp at I;subst I;rintro rfl;exact hn ha⟩
 ·rw[c_ (by omega)];exact h.head
 ·by_cases E:k<T.length;·rw[c_ E]at z;obtain⟨R,U,y,Y,h4⟩:=h.link k j N z;exact⟨R,U,y,by rw[c_ (by omega)];exact Y,by rw[c_ (by omega)];exact h4⟩
  ·rw[List.getElem?_append_right (by omega)]at z;have H:k=T.length:=by have:=(e_.1 z).1;simp at this;omega
   subst H;simp at z;obtain⟨rfl,rfl⟩:=z;refine⟨by omega,hc,x,by rw[c_ hi];exact J,?_⟩;rw[show T.length+1=L.length by omega];simp
def Quiet(sp:List α->α->Bool)(L:List α):Prop:=∀k x,L[k+1]? =some x->sp (L.take (k+1)) x=false
theorem Quiet.add{sp:List α->α->Bool}{L:List α}{y:α}(h:Quiet sp L)(hs:sp L y=false):Quiet sp (L++[y]):=by
 intro k x z;by_cases H:k+1<L.length;·rw[c_ H]at z;rw[List.take_append_of_le_length (by omega)];exact h k x z
 ·have E:=(e_.1 z).1;simp at E;have:k+1=L.length:=by omega
  rw[this]at z⊢;simp at z;subst z;simpa using hs
theorem Ok.pre{L E:List α}{T I:List (Nat×β)}(h:Ok f s0 ls L T)(J:E<+:L)(hT:I<+:T)(hl:E.length=I.length+1):Ok f s0 ls E I:=by
 have z:∀k,k<E.length->E[k]? =L[k]? :=λk H=>by obtain⟨t,rfl⟩:=J;rw[c_ H]
 refine⟨h.nodup.sublist J.sublist,hl,by rw[z 0 (by omega)];exact h.head,λk j c H=>?_⟩;have el:=(e_.1 H).1;obtain⟨N,R,x,U,Y⟩:=h.link k j c (Ws hT H);exact⟨N,R,x,by rw[z j (by omega)];exact U,by rw[z (k+1) (by omega)];exact Y⟩
inductive Tr(T:List (Nat×β)):Nat->List β->Prop
 |zero:Tr T 0 []
 |step {k j:Nat} {c:β} {p:List β}:T[k]? =some (j,c)->Tr T j p->Tr T (k+1) (p++[c])
theorem Tr.mono{T z:List (Nat×β)}(hp:T<+:z){k:Nat}{p:List β}(h:Tr T k p):Tr z k p:=by induction h with|zero=>exact .zero|step E _ H=>exact .step (Ws hp E) H
theorem Ok.tr{L:List α}{T:List (Nat×β)}(h:Ok f s0 ls L T):∀k,k<L.length->∃p,Tr T k p:=by
 intro k;induction k using I_ with
 |ind k H=>
  intro I
  match k with|0=>exact⟨[],.zero⟩|k+1=>have z:=a_ (l:=T) (i:=k) (by have:=h.len;omega);obtain⟨E,_⟩:=h.link k _ _ z;obtain⟨p,hp⟩:=H _ E (by omega);exact⟨_,.step z hp⟩
theorem Tr.len{L:List α}{T:List (Nat×β)}(h:Ok f s0 ls L T){k:Nat}{p:List β}(E:Tr T k p):p.length<=k:=by induction E with|zero=>exact p_ _|step z _ H=>have:=(h.link _ _ _ z).1;simp only[b_,List.length_singleton];omega
end
variable [DecidableEq α]
variable (f:α->β->α) (s0:α) (ls:List β)
variable {f s0 ls}
end
open Go Go.Ev
theorem j6{P:Rx->Prop}(h:∀k lo a ks,(∀r∈ks,P r)->P (.mk k lo a ks)):∀r,P r:=λr=>Rx.rec (motive_1:=P) (motive_2:=λks=>∀r∈ks,P r) (λk lo a ks b=>h k lo a ks b) (λr hr=>by grind) (λr ks c d x e=>by grind) r
theorem cy(v:Rx):Rx.mk v.out.1 v.out.2.1 v.out.2.2.1 v.out.2.2.2.1=v:=by cases v;rfl
structure G where
 fi:List Nat
 la:List Nat
 em:Bool
 pr:List (Nat×Nat)
 sp:List (Int×Int)
def fW(a b:List Nat):List (Nat×Nat):=a.flatMap λp=>b.map λq=>(p,q)
theorem Rn{a b:List Nat}{p q:Nat}:(p,q)∈fW a b↔p∈a/\q∈b:=by unfold fW;simp
def qf(a x:G):G:=⟨if a.em then a.fi++x.fi else a.fi,if x.em then a.la++x.la else x.la,a.em&&x.em,a.pr++x.pr++fW a.la x.fi,a.sp++x.sp⟩
def BI(a x:G):G:=⟨a.fi++x.fi,a.la++x.la,a.em||x.em,a.pr++x.pr,a.sp++x.sp⟩
def wB(x:G):G:=⟨x.fi,x.la,x.em,x.pr++fW x.la x.fi,x.sp⟩
def emG(x:G):G:=⟨x.fi,x.la,true,x.pr,x.sp⟩
def g0(e:Bool):G:=⟨[],[],e,[],[]⟩
def Xy(o:Nat)(lo a:Int):G:=⟨[o],[o],false,[],[(lo,a)]⟩
mutual
def dn:Rx->Nat->G
 | .mk k lo a ks,o=>
  if k=1 then Xy o lo a else if k=2 then Xy o 0 4294967295
  else if k=3 then fj ks o (g0 true)else if k=4 then cC ks o (g0 false)
  else if k=5 then emG (wB (cC ks o (g0 false)))else if k=6 then wB (cC ks o (g0 false))
  else if k=7 then emG (cC ks o (g0 false))else g0 true
def fj:List Rx->Nat->G->G
 |[],_,a=>a
 |r::b,o,a=>fj b o (qf a (dn r (o+a.sp.length)))
def cC:List Rx->Nat->G->G
 |[],_,a=>a
 |r::b,o,a=>cC b o (BI a (dn r (o+a.sp.length)))
end
theorem VN(o:Nat):∀(l m:List Rx) (a:G),fj (l++m) o a=fj m o (fj l o a)
 |[],_,_=>by simp[fj]
 |r::l,m,a=>by simp only[i_,fj];exact VN o l m _
theorem VM(o:Nat):∀(l m:List Rx) (a:G),cC (l++m) o a=cC m o (cC l o a)
 |[],_,_=>by simp[cC]
 |r::l,m,a=>by simp only[i_,cC];exact VM o l m _
theorem Q5{o:Nat}{ks:List Rx}{i:Nat}(h:i<ks.length)(a:G):fj (ks.take (i+1)) o a=qf (fj (ks.take i) o a) (dn ks[i] (o+(fj (ks.take i) o a).sp.length)):=by rw[C_,a_ h,VN];simp[fj]
theorem Q4{o:Nat}{ks:List Rx}{i:Nat}(h:i<ks.length)(a:G):cC (ks.take (i+1)) o a=BI (cC (ks.take i) o a) (dn ks[i] (o+(cC (ks.take i) o a).sp.length)):=by rw[C_,a_ h,VM];simp[cC]
theorem ze5{P:Nat->G->Prop}(f:∀o e,P o (g0 e))(g:∀o lo c,P o (Xy o lo c))(hs:∀o a x,P o a->P (o+a.sp.length) x->P o (qf a x))(d:∀o a x,P o a->P (o+a.sp.length) x->P o (BI a x)) (hl:∀o a,P o a->P o (wB a)) (p:∀o a,P o a->P o (emG a)):∀(r:Rx) (o:Nat),P o (dn r o):=by
 intro r;refine j6 (P:=λr=>∀o,P o (dn r o)) (λk lo c ks b o=>?_) r;have j:∀(l:List Rx) (a:G),(∀r∈l,∀o,P o (dn r o))->P o a->P o (cC l o a):=by intro l;induction l with|nil=>intro a _ h;exact h|cons r l b=>intro a hl h;exact b _ (λr hr=>hl r (g_ _ hr)) (d o a _ h (hl r (f_ ..) _))
 have n:∀(l:List Rx) (a:G),(∀r∈l,∀o,P o (dn r o))->P o a->P o (fj l o a):=by intro l;induction l with|nil=>intro a _ h;exact h|cons r l b=>intro a hl h;exact b _ (λr hr=>hl r (g_ _ hr)) (hs o a _ h (hl r (f_ ..) _))
 unfold dn;split;·grind
 split;·grind
 split;·grind
 split;·grind
 split;·grind
 split;all_goals grind
structure Lie(o:Nat)(g:G):Prop where
 fi:∀p∈g.fi,o<=p/\p<o+g.sp.length
 la:∀p∈g.la,o<=p/\p<o+g.sp.length
 pr:∀p q,(p,q)∈g.pr->(o<=p/\p<o+g.sp.length)/\o<=q/\q<o+g.sp.length
 fl:g.fi.length<=g.sp.length
 ll:g.la.length<=g.sp.length
theorem zfe{o:Nat}{a x:G}(b:Lie o a)(c:Lie (o+a.sp.length) x):Lie o (qf a x):=by
 have d:=b.fl;have f:=b.ll;have e:=c.fl;have g:=c.ll;refine⟨λp hp=>?_,λp hp=>?_,λp q hp=>?_,?_,?_⟩
 ·simp only[qf,b_]at hp⊢;split at hp
  ·rcases h_.1 hp with h|h;·have:=b.fi p h;omega
   ·have:=c.fi p h;omega
  ·have:=b.fi p hp;omega
 ·simp only[qf,b_]at hp⊢;split at hp
  ·rcases h_.1 hp with h|h;·have:=b.la p h;omega
   ·have:=c.la p h;omega
  ·have:=c.la p hp;omega
 ·simp only[qf,b_,h_,Rn]at hp⊢;rcases hp with(h|h)|⟨h,h'⟩;·have:=b.pr p q h;omega
  ·have:=c.pr p q h;omega
  ·have:=b.la p h;have:=c.fi q h';omega
 ·simp only[qf,b_];grind
 ·simp only[qf,b_];grind
theorem zfd{o:Nat}{a x:G}(b:Lie o a)(c:Lie (o+a.sp.length) x):Lie o (BI a x):=by
 have d:=b.fl;have f:=b.ll;have e:=c.fl;have g:=c.ll;refine⟨λp hp=>?_,λp hp=>?_,λp q hp=>?_,?_,?_⟩
 ·simp only[BI,b_]at hp⊢;rcases h_.1 hp with h|h;·have:=b.fi p h;omega
  ·have:=c.fi p h;omega
 ·simp only[BI,b_]at hp⊢;rcases h_.1 hp with h|h;·have:=b.la p h;omega
  ·have:=c.la p h;omega
 ·simp only[BI,b_,h_]at hp⊢;rcases hp with h|h;·have:=b.pr p q h;omega
  ·have:=c.pr p q h;omega
 ·simp only[BI,b_];omega
 ·simp only[BI,b_];omega
theorem zdi{o:Nat}{x:G}(h:Lie o x):Lie o (wB x):=by
 refine⟨h.fi,h.la,λp q hp=>?_,h.fl,h.ll⟩;simp only[wB,h_,Rn]at hp⊢;rcases hp with hp|⟨a,b⟩;·exact h.pr p q hp
 ·exact⟨h.la p a,h.fi q b⟩
theorem zgc(o:Nat)(e:Bool):Lie o (g0 e):=⟨by simp[g0],by simp[g0],by simp[g0],by simp[g0],by simp[g0]⟩
theorem nv:∀(r:Rx) (o:Nat),Lie o (dn r o):=ze5 zgc (λo lo d=>⟨by simp[Xy],by simp[Xy],by simp[Xy],by simp[Xy],by simp[Xy]⟩) (λ_ _ _ b c=>zfe b c) (λ_ _ _ b c=>zfd b c) (λ_ _ h=>zdi h) (λo a h=>⟨h.fi,h.la,h.pr,h.fl,h.ll⟩)
def jt(k n:Int):Bool:=bif k==0||k==1||k==2 then n==0 else bif k==3 then decide (n>=2)else bif k==4 then n != 1 else bif k==5||k==6||k==7 then n==1 else false
def yu(k:Int):Bool:=k==0||k==1||k==2||k==3||k==4||k==5||k==6||k==7
def ir(k lo a n:Int):Int:=
 bif !yu k then 15 else bif k==1&&(decide (lo<0)||decide (lo>a)||decide (a>4294967295))then 5 else bif (k != 1&&(lo != 0||a != 0))|| !jt k n then 1 else 0
theorem knownB_iff{k:Int}:yu k=true↔k=0\/k=1\/k=2\/k=3\/k=4\/k=5\/k=6\/k=7:=by simp only[yu,Bool.or_eq_true,beq_iff_eq,or_assoc]
structure Node(k lo hi n:Int):Prop where
 known:k=0\/k=1\/k=2\/k=3\/k=4\/k=5\/k=6\/k=7
 rng:k=1->0<=lo/\lo<=hi/\hi<=4294967295
 zero:k≠1->lo=0/\hi=0
 leaf:k=0\/k=1\/k=2->n=0
 seq:k=3->2<=n
 alt:k=4->n≠1
 one:k=5\/k=6\/k=7->n=1
theorem nodeE_zero{k lo a n:Int}:ir k lo a n=0↔Node k lo a n:=by
 constructor
 ·intro h;unfold ir at h;cases d:yu k;·grind
  rw[d]at h;have g:=knownB_iff.1 d;simp only[Bool.not_true,cond_false]at h;cases f:(k==1&&(decide (lo<0)||decide (lo>a)||decide (a>4294967295)))
  ·rw[f]at h;simp only[cond_false]at h;cases c:((k != 1&&(lo != 0||a != 0))|| !jt k n)
   ·simp only[Bool.or_eq_false_iff,Bool.and_eq_false_iff,bne_eq_false_iff_eq,Bool.not_eq_false',beq_eq_false_iff_ne,decide_eq_false_iff_not]at f c;obtain⟨c,b⟩:=c;refine⟨g,λe=>?_,λe=>?_,λe=>?_,λe=>?_,λe=>?_,λe=>?_⟩;·omega
    ·omega
    ·rcases e with rfl|rfl|rfl<;>simpa[jt]using b
    ·subst e;simpa[jt]using b
    ·subst e;simpa[jt]using b
    ·rcases e with rfl|rfl|rfl<;>simpa[jt]using b
   grind
  grind
 ·intro h;have d:yu k=true:=knownB_iff.2 h.known;have f:(k==1&&(decide (lo<0)||decide (lo>a)||decide (a>4294967295)))=false:=by
   by_cases e:k=1;·have:=h.rng e;grind
   grind
  have c:(k != 1&&(lo != 0||a != 0))=false:=by
   by_cases e:k=1;·grind
   ·have:=h.zero e;grind
  have b:jt k n=true:=by
   rcases h.known with rfl|rfl|rfl|rfl|rfl|rfl|rfl|rfl;·simpa[jt]using h.leaf (by simp)
   ·simpa[jt]using h.leaf (by simp)
   ·simpa[jt]using h.leaf (by simp)
   ·simpa[jt]using h.seq rfl
   ·simpa[jt]using h.alt rfl
   ·simpa[jt]using h.one (by simp)
   ·simpa[jt]using h.one (by simp)
   ·simpa[jt]using h.one (by simp)
  unfold ir;grind
mutual
def sz:Rx->Nat
 | .mk _ _ _ ks=>1+BU ks
def BU:List Rx->Nat
 |[]=>0
 |r::a=>sz r+BU a
end
theorem vK:∀{ks:List Rx} {r:Rx},r∈ks->sz r<=BU ks
 |x::ks,r,h=>by
  simp only[BU];rcases List.mem_cons.1 h with rfl|h;·simp
  ·have:=vK h;omega
theorem zgF(r:Rx):0<sz r:=by cases r;simp only[sz];omega
theorem IB:∀ks:List Rx,ks.length<=BU ks
 |[]=>p_ _
 |r::ks=>by simp only[BU,x_];have:=IB ks;have:=zgF r;omega
theorem TH:∀l m:List Rx,BU (l++m)=BU l+BU m
 |[],m=>by simp[BU]
 |r::l,m=>by simp only[i_,BU,TH l m];omega
mutual
def dm:Rx->Bool
 | .mk k lo a ks=>ir k lo a ks.length==0&&wV ks
def wV:List Rx->Bool
 |[]=>true
 |r::a=>dm r&&wV a
end
theorem sg:∀ks:List Rx,wV ks=true↔∀r∈ks,dm r=true
 |[]=>by simp[wV]
 |r::ks=>by simp[wV,sg ks]
theorem well_iff{k lo a:Int}{ks:List Rx}:dm (.mk k lo a ks)=true↔Node k lo a ks.length/\∀r∈ks,dm r=true:=by simp only[dm,w_,beq_iff_eq,nodeE_zero,sg]
mutual
def B8:Rx->Int->Int->Int×Int
 | .mk k lo a ks,lv,c=>if lv>16 then(c,24)else if c>=64 then(c,4)else if ir k lo a ks.length≠0 then(c,ir k lo a ks.length)else jf ks (lv+1) (c+1)
def jf:List Rx->Int->Int->Int×Int
 |[],_,c=>(c,0)
 |r::a,lv,c=>if(B8 r lv c).2≠0 then B8 r lv c else jf a lv (B8 r lv c).1
end
mutual
def Wh:Rx->Bool
 | .mk k _ _ ks=>bif k==0||k==5||k==7 then true else bif k==3||k==6 then w9 ks else bif k==4 then BQ ks else false
def w9:List Rx->Bool
 |[]=>true
 |r::a=>Wh r&&w9 a
def BQ:List Rx->Bool
 |[]=>false
 |r::a=>Wh r||BQ a
end
theorem Wi:∀l m:List Rx,w9 (l++m)=(w9 l&&w9 m)
 |[],m=>by simp[w9]
 |r::l,m=>by simp only[i_,w9,Wi l m,J_]
theorem Wj:∀l m:List Rx,BQ (l++m)=(BQ l||BQ m)
 |[],m=>by simp[BQ]
 |r::l,m=>by simp only[i_,BQ,Wj l m,K_]
mutual
def cnt:Rx->Nat
 | .mk k _ _ ks=>(bif k==1||k==2 then 1 else 0)+cM ks
def cM:List Rx->Nat
 |[]=>0
 |r::a=>cnt r+cM a
end
theorem wo:∀l m:List Rx,cM (l++m)=cM l+cM m
 |[],m=>by simp[cM]
 |r::l,m=>by simp only[i_,cM,wo l m];omega
theorem XQ(r:Rx):cnt r<=sz r:=by
 refine j6 (P:=λr=>cnt r<=sz r) (λk lo c ks a=>?_) r;have:∀l:List Rx,(∀r∈l,cnt r<=sz r)->cM l<=BU l:=by intro l;induction l with|nil=>intro _;exact p_ _|cons r l b=>intro h;simp only[cM,BU];grind
 have:=this ks a;simp only[cnt,sz];grind
theorem len_nil{ks:List Rx}(h:(ks.length:Int)=0):ks=[]:=List.length_eq_zero_iff.1 (by omega)
theorem re{ks:List Rx}(h:(ks.length:Int)=1):∃r,ks=[r]:=List.length_eq_one_iff.1 (by omega)
theorem jZ:∀(r:Rx),dm r=true->∀o,(dn r o).sp.length=cnt r/\(dn r o).em=Wh r:=by
 refine j6 λk lo A ks s z o=>?_;obtain⟨hn,e⟩:=well_iff.1 z;have w:∀(l:List Rx) (a:G),(∀r∈l,r∈ks)->(cC l o a).sp.length=a.sp.length+cM l/\(cC l o a).em=(a.em||BQ l):=by intro l;induction l with|nil=>intro a _;simp[cC,cM,BQ]|cons r l c=>intro a hl;have hr:=hl r (f_ ..);obtain⟨f,g⟩:=s r hr (e r hr) (o+a.sp.length);obtain⟨j,n⟩:=c (BI a (dn r (o+a.sp.length))) λx p=>hl x (g_ _ p);simp only[cC,j,n,cM,BQ];simp only[BI,b_,f,g,K_];grind
 have y:∀(l:List Rx) (a:G),(∀r∈l,r∈ks)->(fj l o a).sp.length=a.sp.length+cM l/\(fj l o a).em=(a.em&&w9 l):=by intro l;induction l with|nil=>intro a _;simp[fj,cM,w9]|cons r l c=>intro a hl;have hr:=hl r (f_ ..);obtain⟨f,g⟩:=s r hr (e r hr) (o+a.sp.length);obtain⟨j,n⟩:=c (qf a (dn r (o+a.sp.length))) λx p=>hl x (g_ _ p);simp only[fj,j,n,cM,w9];simp only[qf,b_,f,g,J_];grind
 obtain⟨b,d⟩:=w ks (g0 false) λ_ h=>h;obtain⟨u,v⟩:=y ks (g0 true) λ_ h=>h;rcases hn.known with rfl|rfl|rfl|rfl|rfl|rfl|rfl|rfl;·have:=len_nil (hn.leaf (by simp));subst this;simp[dn,g0,cnt,cM,Wh]
 ·have:=len_nil (hn.leaf (by simp));subst this;simp[dn,Xy,cnt,cM,Wh]
 ·have:=len_nil (hn.leaf (by simp));subst this;simp[dn,Xy,cnt,cM,Wh]
 ·simp only[g0,j_,q_,A_]at u v;simp[dn,g0,u,v,cnt,Wh]
 ·simp only[g0,j_,q_,v_]at b d;simp[dn,g0,b,d,cnt,Wh]
 ·simp only[g0,j_,q_,v_]at b d;simp[dn,emG,wB,g0,b,cnt,Wh]
 ·obtain⟨x,rfl⟩:=re (hn.one (by simp));simp only[g0,j_,q_,v_]at b d;simp[dn,wB,g0,b,d,cnt,Wh,BQ,w9]
 ·simp only[g0,j_,q_,v_]at b d;simp[dn,emG,g0,b,cnt,Wh]
open Go Go.Ev Go.Lib
def MM(b:UInt8):Prop:=48<=b.toNat/\b.toNat<=57
instance (b:UInt8):Decidable (MM b):=inferInstanceAs (Decidable (_/\_))
def sf(l:List UInt8):Nat:=l.foldl (λn b=>10*n+(b.toNat - 48)) 0
theorem D8(l:List UInt8)(b:UInt8):sf (l++[b])=10*sf l+(b.toNat - 48):=by simp[sf,List.foldl_append]
theorem QX{n:Nat}(h:n<10):(UInt8.ofNat (48+n)).toNat=48+n:=by simp;omega
theorem DK:∀(n:Nat),(∀b∈decDigits n,MM b)/\sf (decDigits n)=n/\0<(decDigits n).length/\(1<(decDigits n).length->((decDigits n).getD 0 0).toNat≠48)/\(0<n->((decDigits n).getD 0 0).toNat≠48):=by
 intro n;induction n using I_ with
 |ind n d=>
  rw[decDigits];by_cases h:n<10
  ·rw[dif_pos h];have:=QX h;refine⟨λb a=>?_,?_,by simp,by simp,?_⟩;·simp only[s_]at a;subst a;unfold MM;omega
   ·show 10*0+((UInt8.ofNat (48+n)).toNat - 48)=n;omega
   grind
  ·rw[dif_neg h];obtain⟨e,c,f,g,j⟩:=d (n/10) (by omega);have hd:=QX (show n%10<10 by omega);have hg:(decDigits (n/10)++[UInt8.ofNat (48+n%10)]).getD 0 0=(decDigits (n/10)).getD 0 0:=by grind
   refine⟨λb a=>?_,?_,by simp,λ_=>?_,λ_=>?_⟩
   ·simp only[h_,s_]at a;rcases a with a|rfl;·grind
    ·unfold MM;omega
   ·rw[D8,c,hd];omega
   all_goals grind
theorem HA(n:Nat):∀b∈decDigits n,MM b:=(DK n).1
theorem HB(n:Nat):sf (decDigits n)=n:=(DK n).2.1
theorem Mf(n:Nat):0<(decDigits n).length:=(DK n).2.2.1
theorem zbx(n:Nat)(h:1<(decDigits n).length):((decDigits n).getD 0 0).toNat≠48:=(DK n).2.2.2.1 h
theorem Vp:∀(n k:Nat),n<10^(k+1)->(decDigits n).length<=k+1
 |n,0,h=>by rw[decDigits,dif_pos (by omega)];simp
 |n,k+1,h=>by
  rw[decDigits];split;·simp
  ·have:=Vp (n/10) k (by omega);grind
theorem pP{n:Nat}(h:n<=4294967295):(decDigits n).length<=10:=Vp n 9 (by omega)
theorem takeD{l:List UInt8}{k:Nat}(h:k<l.length):l.take (k+1)=l.take k++[l.getD k 0]:=by
 have e:l.getD k 0=l[k]:=by grind
 rw[l_ h,e]
theorem zhF(l:List UInt8):∀(d k:Nat),k+d=l.length->sf (l.take k)<=sf l
 |0,k,h=>by grind
 |d+1,k,h=>by have a:=zhF l d (k+1) (by omega);rw[takeD (by omega),D8]at a;omega
theorem J2{l:List UInt8}{k:Nat}(h:k<=l.length):sf (l.take k)<=sf l:=zhF l (l.length - k) k (by omega)
def ub(p:Int):Rx->Bool
 | .mk k _ _ ks=>bif k==4 then !ks.isEmpty else bif k==3 then p != 4 else(k==5||k==6||k==7)&&(p==5||p==6||p==7)
def Ao(w:Bool)(l:List UInt8):List UInt8:=bif w then 40::(l++[41])else l
def jn(sep:UInt8):List (List UInt8)->List UInt8
 |[]=>[]
 |[x]=>x
 |x::y::l=>x++sep::jn sep (y::l)
mutual
def jM:Rx->List UInt8
 | .mk k lo a ks=>
  if k=0 then [40,41]else if k=2 then [46]
  else if k=1 then(if lo=a then decDigits lo.toNat else 91::(decDigits lo.toNat++45::(decDigits a.toNat++[93])))
  else if k=5 then(Tm 5 ks).headD []++[42]else if k=6 then(Tm 6 ks).headD []++[43]else if k=7 then(Tm 7 ks).headD []++[63]
  else if k=4 then(if ks=[]then [33]else jn 124 (Tm 4 ks))else jn 32 (Tm 3 ks)
def Tm:Int->List Rx->List (List UInt8)
 |_,[]=>[]
 |p,r::a=>Ao (ub p r) (jM r)::Tm p a
end
def qd(p:Int)(r:Rx):List UInt8:=Ao (ub p r) (jM r)
theorem et(p:Int):∀ks:List Rx,Tm p ks=ks.map (qd p)
 |[]=>by simp[Tm]
 |r::a=>by simp[Tm,et p a,qd]
theorem S8(sep:UInt8):∀(l:List (List UInt8)) (x:List UInt8),jn sep (l++[x])=if l=[]then x else jn sep l++sep::x
 |[],x=>by simp[jn]
 |[y],x=>by simp[jn]
 |y::z::l,x=>by have:=S8 sep (z::l) x;simp only[i_,jn]at*;grind
theorem S7(sep:UInt8):∀(l:List (List UInt8)),(jn sep l).length<=(l.map λx=>x.length+1).sum
 |[]=>by simp[jn]
 |[x]=>by simp[jn]
 |x::y::l=>by have:=S7 sep (y::l);simp only[jn,b_,x_,L_,M_]at*;omega
theorem zaC(p:Int)(r:Rx):(qd p r).length<=(jM r).length+2:=by unfold qd Ao;cases ub p r<;>simp
theorem LK:∀(r:Rx),dm r=true->(jM r).length+3<=26*sz r:=by
 refine j6 λk lo d ks n g=>?_;obtain⟨hn,b⟩:=well_iff.1 g;have a:∀p:Int,∀l:List Rx,(∀r∈l,r∈ks)->((l.map (qd p)).map λx=>x.length+1).sum<=26*BU l:=by intro p l;induction l with|nil=>simp|cons r l u=>intro h;have c:=n r (h r (f_ ..)) (b r (h r (f_ ..)));have v:=u λx j=>h x (g_ _ j);have w:=zaC p r;simp only[L_,M_,BU]at*;omega
 have hd:∀p:Int,((ks.map (qd p)).headD []).length<=26*BU ks:=by intro p;have c:=a p ks λ_ h=>h;cases ks with|nil=>simp|cons r l=>grind
 have y:∀(p:Int) (s:UInt8),(jn s (ks.map (qd p))).length<=26*BU ks:=λp s=>O_ (S7 s _) (a p ks λ_ h=>h);have f:k=1->(decDigits lo.toNat).length<=10/\(decDigits d.toNat).length<=10:=λe=>by have:=hn.rng e;exact⟨pP (by omega),pP (by omega)⟩
 simp only[jM,et,sz];grind
end Go.Pl
namespace Go.Ev
open Go Go.RowKit Go.Av
def Pn(f:Nat->Int)(i:Nat):Nat->Int
 |0=>0
 |k+1=>if f i=0 then Pn f (i+1) k else f i
def lM(f:Nat->Int)(N:Nat):Int:=Pn f 0 N
theorem Q0{f:Nat->Int}:∀(k i:Nat),Pn f i k=0↔∀j,i<=j->j<i+k->f j=0
 |0,i=>by simp only[Pn,true_iff];omega
 |k+1,i=>by
  simp only[Pn];split;·rename_i h;rw[Q0 k (i+1)];grind
  grind
theorem errN_zero{f:Nat->Int}{N:Nat}:lM f N=0↔∀j,j<N->f j=0:=by unfold lM;rw[Q0];simp
theorem VG{f:Nat->Int}{c:Int}(h:∀j,f j=0\/f j=c):∀(k i:Nat),Pn f i k=0\/Pn f i k=c
 |0,_=>.inl rfl
 |k+1,i=>by
  simp only[Pn];split;·exact VG h k (i+1)
  grind
theorem zc5{f:Nat->Int}{c:Int}{N:Nat}(h:∀j,f j=0\/f j=c):lM f N=0\/lM f N=c:=VG h N 0
def cf{α:Type}(f:α->Int)(l:List α):Int:=lM (λi=>match l[i]? with|some x=>f x|none=>0) l.length
theorem errL_zero{α:Type}{f:α->Int}{l:List α}:cf f l=0↔∀x∈l,f x=0:=by
 unfold cf;rw[errN_zero];constructor;·intro h x a;obtain⟨i,b,rfl⟩:=m_.1 a;grind
 grind
theorem uG{ρ β a:Type}{N:Nat}{f:Nat->Int}{enc:Nat->ρ}{oB:Int->β}{oE:a}{body:Nat->ρ->Option (ρ⊕β⊕a)}{Q:β⊕a->Prop} (h:∀i,i<N->Wp (λn=>body n (enc i)) λr=>r=if f i=0 then .inl (enc (i+1))else .inr (.inl (oB (f i)))) (c:Wp (λn=>body n (enc N)) λr=>r= .inr (.inr oE)) (b:Q (if lM f N=0 then .inr oE else .inl (oB (lM f N)))):Wp (λn=>aL n (body n) (enc 0)) Q:=by
 refine aX (N:=N) (I:=λi s=>s=enc i/\lM f N=Pn f i (N - i)) ⟨rfl,rfl⟩ (λi s d hs=>?_) λs hs=>?_;·obtain⟨rfl,hd⟩:=hs;refine wp_mono (h i d) λr hr=>?_;subst hr;rw[show N - i=(N - (i+1))+1 by omega]at hd;simp only[Pn]at hd;grind
 ·obtain⟨rfl,hd⟩:=hs;refine wp_mono c λr hr=>?_;subst hr;rw[Nat.sub_self]at hd;rw[if_pos (show lM f N=0 from hd)]at b;omega
theorem tu{α ρ β a:Type}{l:List α}{f:α->Int}{enc:Nat->ρ}{oB:Int->β}{oE:a}{body:Nat->ρ->Option (ρ⊕β⊕a)}{Q:β⊕a->Prop} (h:∀i (d:i<l.length),Wp (λn=>body n (enc i)) λr=>r=if f l[i]=0 then .inl (enc (i+1))else .inr (.inl (oB (f l[i])))) (c:Wp (λn=>body n (enc l.length)) λr=>r= .inr (.inr oE)) (b:Q (if cf f l=0 then .inr oE else .inl (oB (cf f l)))):Wp (λn=>aL n (body n) (enc 0)) Q:=by
 refine uG (f:=λi=>match l[i]? with|some x=>f x|none=>0) (oB:=oB) (λi d=>?_) c b
 grind
theorem mU{α ρ β b:Type}{xs:List α}{p:α->Bool}{enc:Nat->ρ}{g:α->β}{e:b}{body:Nat->ρ->Option (ρ⊕β⊕b)}{Q:β⊕b->Prop} (h:∀(i:Nat) (a:i<xs.length),Wp (λn=>body n (enc i)) λr=>r=if p xs[i]then .inr (.inl (g xs[i]))else .inl (enc (i+1))) (c:Wp (λn=>body n (enc xs.length)) λr=>r= .inr (.inr e)) (d:Q (match xs.find? p with|some x=>.inl (g x)|none=>.inr e)):Wp (λn=>aL n (body n) (enc 0)) Q:=by
 refine aX (N:=xs.length) (I:=λi s=>s=enc i/\xs.find? p=(xs.drop i).find? p) ⟨rfl,by simp⟩ (λi s a hs=>?_) λs hs=>?_;·obtain⟨rfl,hd⟩:=hs;refine wp_mono (h i a) λr hr=>?_;rw[t_ a,List.find?_cons]at hd;grind
 ·obtain⟨rfl,hd⟩:=hs;refine wp_mono c λr hr=>?_;grind
end Go.Ev
namespace Go.Pl
open Go Go.Av Go.Ev
abbrev NZ:Type:=Int×(Int×Unit)
abbrev Uy:Type:=Int×(List UInt8×(Int×(NZ×(Bool×Unit))))
abbrev zJ:Type:=Int×(Int×(Int×(Int×(Int×Unit))))
abbrev y9:Type:=List UInt8×(List Uy×(List zJ×(Int×Unit)))
abbrev FM:Type:=List UInt8×(List y9×(Int×Unit))
abbrev PRU:Type:=Bool×(NZ×(Int×(Int×Unit)))
abbrev PLS:Type:=List UInt8×(List PRU×Unit)
abbrev HRU:Type:=Bool×(List UInt8×Unit)
abbrev HLS:Type:=List UInt8×(List HRU×Unit)
abbrev CRU:Type:=Bool×(Int×(Int×Unit))
abbrev CLS:Type:=List UInt8×(List CRU×Unit)
abbrev PS:Type:=List PLS×(List HLS×(List CLS×(List FM×Unit)))
abbrev yP:Ty:=pr [tW,tI]
abbrev yM:Ty:=pr [tI,tS,tI,yP,tB]
abbrev yA:Ty:=pr [tI,tI,tI,tW,tW]
abbrev yT:Ty:=pr [tS,.list yM,.list yA,tI]
abbrev yO:Ty:=pr [tS,.list yT,tI]
abbrev yR:Ty:=pr [tB,yP,tI,tI]
abbrev yL:Ty:=pr [tS,.list yR]
abbrev yH:Ty:=pr [tB,tS]
abbrev yG:Ty:=pr [tS,.list yH]
abbrev yC:Ty:=pr [tB,tI,tI]
abbrev yD:Ty:=pr [tS,.list yC]
abbrev yS:Ty:=pr [.list yL,.list yG,.list yD,.list yO]
def jr(p:NZ):Bool:=(decide (0<=p.2.1)&&decide (p.2.1<=32))&&(BG p.1 p.2.1==p.1)
def AD(c:UInt8):Bool:=(((decide ((c.toNat:Int)>=97)&&decide ((c.toNat:Int)<=122))||(decide ((c.toNat:Int)>=65)&&decide ((c.toNat:Int)<=90)))||(decide ((c.toNat:Int)>=48)&&decide ((c.toNat:Int)<=57)))||((c.toNat:Int)==45)
def mh(s:List UInt8):Bool:=s.all AD&&(decide (1<=s.length)&&decide (s.length<=32))
def mI(r:PRU):Int:=if jr r.2.1=false then 1 else if r.2.2.1<r.2.1.2.1\/r.2.2.2.1<r.2.2.1\/r.2.2.2.1>32 then 5 else 0
def ow(r:CRU):Int:=if r.2.1< -1\/r.2.1>65535\/r.2.2.1< -1\/r.2.2.1>65535 then 5 else 0
def AG(a b:List UInt8):Bool:=Op.bytesLess a b||a==b
def tR(l:List (List UInt8))(i:Nat):Int:=match l[i]? with
 |none=>0
 |some x=>if mh x=false then 1 else if 0<i/\AG x (l.getD (i - 1) [])=true then 16 else 0
def HT{α:Type}(nm:α->List UInt8)(sz:α->Nat)(ck:α->Int)(l:List α)(i:Nat):Int:=if tR (l.map nm) i≠0 then tR (l.map nm) i else match l[i]? with
 |none=>0
 |some x=>if sz x>64 then 4 else ck x
def gB{α:Type}(nm:α->List UInt8)(sz:α->Nat)(ck:α->Int)(l:List α):Int:=if l.length>64 then 4 else lM (HT nm sz ck l) l.length
def zfg(k:Int):Int:=if k=4 then 1 else 0
def VP(k:Int):Int:=if k=4 then 7 else if k=5 then 4294967295 else if k=6 then 16777216 else 2000
def K6(s:PS)(k:Int)(n:List UInt8):Bool:=if k=1 then s.1.any (·.1==n)else if k=2 then s.2.1.any (·.1==n)else s.2.2.1.any (·.1==n)
def gP(s:PS)(m:Uy):Int:=
 if m.1<1\/8<m.1 then 15
 else if(3<m.1/\m.2.1≠[])\/(¬(m.1=4\/m.1=5\/m.1=6\/m.1=8)/\m.2.2.1≠0)\/(m.1≠7/\(m.2.2.2.1.1≠0\/m.2.2.2.1.2.1≠0))then 1
 else if m.1<=3 then(if K6 s m.1 m.2.1 then 0 else 6)
 else if m.1=7 then(if jr m.2.2.2.1 then 0 else 1)
 else if m.2.2.1<zfg m.1\/VP m.1<m.2.2.1 then 5 else 0
def rh(a:zJ):zJ:=if a.1<=4 then(a.1,a.2.1,0,0,0,())else if a.1=5 then(a.1,0,0,0,a.2.2.2.2.1,())else if a.1<=7 then(a.1,0,0,a.2.2.2.1,0,())else(a.1,a.2.1,a.2.2.1,0,0,())
def mG(a:zJ):Bool:=if a.1=3 then decide (0<=a.2.1)&&decide (a.2.1<=16777216)else if a.1<=4 then decide (0<=a.2.1)&&decide (a.2.1<=4294967295)else if a.1=5 then a.2.2.2.2.1 != 0
 else if a.1<=7 then true else(decide (1<=a.2.2.1)&&decide (a.2.2.1<=4294967295))&&(decide (1<=a.2.1)&&decide (a.2.1<=16))
def iw(a:zJ):Int:=if a.1<1\/8<a.1 then 15 else if ¬a=rh a then 1 else if mG a=false then 5 else 0
theorem zeX(a b:zJ):uy yA a b=true↔a=b:=by obtain⟨c,d,e,f,g,⟨⟩⟩:=a;obtain⟨h,j,k,l,n,⟨⟩⟩:=b;simp[uy]
def gg(s:PS)(a:List y9)(t:y9):Int:=
 if mh t.1=false then 1
 else if a.any (·.1==t.1)=true then 7
 else if t.2.1.length>64 then 4
 else if cf (gP s) t.2.1≠0 then cf (gP s) t.2.1
 else if t.2.2.1.length>64 then 4
 else if cf iw t.2.2.1≠0 then cf iw t.2.2.1
 else if t.2.2.2.1<1\/3<t.2.2.2.1 then 15 else 0
def oH(s:PS)(p:FM):Int:=
 if lM (λi=>match p.2.1[i]? with|some t=>gg s (p.2.1.take i) t|none=>0) p.2.1.length≠0 then lM (λi=>match p.2.1[i]? with|some t=>gg s (p.2.1.take i) t|none=>0) p.2.1.length
 else if p.2.2.1≠1/\p.2.2.1≠2 then 15 else 0
def rG(pe:List UInt8->Int)(s:PS):Int:=
 if gB (·.1) (λl=>l.2.1.length) (λl=>cf mI l.2.1) s.1≠0 then gB (·.1) (λl=>l.2.1.length) (λl=>cf mI l.2.1) s.1
 else if gB (·.1) (λl=>l.2.1.length) (λl=>cf (λr=>pe r.2.1) l.2.1) s.2.1≠0 then gB (·.1) (λl=>l.2.1.length) (λl=>cf (λr=>pe r.2.1) l.2.1) s.2.1
 else if gB (·.1) (λl=>l.2.1.length) (λl=>cf ow l.2.1) s.2.2.1≠0 then gB (·.1) (λl=>l.2.1.length) (λl=>cf ow l.2.1) s.2.2.1
 else gB (·.1) (λp=>p.2.1.length) (oH s) s.2.2.2.1
theorem AB{s:PS}{k N a pl:Int}{nm:List UInt8}{b:Bool}(h:k=1\/k=2\/k=3):gP s (k,nm,N,(a,pl,()),b,())=if N≠0\/a≠0\/pl≠0 then 1 else if K6 s k nm then 0 else 6:=by unfold gP;grind
theorem V6{s:PS}{N a pl:Int}{nm:List UInt8}{b:Bool}:gP s (7,nm,N,(a,pl,()),b,())=if nm≠[]\/N≠0 then 1 else if jr (a,pl,())then 0 else 1:=by unfold gP;simp
theorem V7{s:PS}{k N a pl:Int}{nm:List UInt8}{b:Bool}(h:k=4\/k=5\/k=6\/k=8):gP s (k,nm,N,(a,pl,()),b,())=if nm≠[]\/a≠0\/pl≠0 then 1 else if N<zfg k\/VP k<N then 5 else 0:=by unfold gP;grind
theorem Ih{s:PS}{m:Uy}(h:m.1<1\/8<m.1):gP s m=15:=by unfold gP;rw[if_pos h]
structure SmP(s:PS):Prop where
 ok:okD yS s
 l1:s.1.length<=1048576
 l2:s.2.1.length<=1048576
 l3:s.2.2.1.length<=1048576
 l4:s.2.2.2.1.length<=1048576
 pt:∀l∈s.2.1,∀r∈l.2.1,r.2.1.length<=1048576
theorem LG{α:Type}{nm:α->List UInt8}{sz:α->Nat}{ck:α->Int}{l:List α}(h:gB nm sz ck l=0):l.length<=64/\∀x∈l,mh (nm x)=true/\sz x<=64/\ck x=0:=by
 unfold gB at h;split at h;·omega
 rename_i hl;refine⟨by omega,λx e=>?_⟩;obtain⟨i,b,rfl⟩:=m_.1 e;have a:=errN_zero.1 h i b;unfold HT at a;split at a;·omega
 rename_i c;rw[a_ b]at a;simp only at a;split at a;·omega
 rename_i f;refine⟨?_,by omega,a⟩;have d:tR (l.map nm) i=0:=d_ c;unfold tR at d;grind
structure TrmOk(s:PS)(t:y9):Prop where
 nm:mh t.1=true
 ml:t.2.1.length<=64
 ma:∀m∈t.2.1,gP s m=0
 al:t.2.2.1.length<=64
 ac:∀a∈t.2.2.1,iw a=0
 ve:1<=t.2.2.2.1/\t.2.2.2.1<=3
theorem zfz{s:PS}{b:List y9}{t:y9}(h:gg s b t=0):TrmOk s t:=by
 unfold gg at h;split at h;·omega
 rename_i d;split at h;·omega
 split at h;·omega
 rename_i e;split at h;·omega
 rename_i a;split at h;·omega
 rename_i f;split at h;·omega
 rename_i c;split at h;·omega
 rename_i g;refine⟨?_,by omega,errL_zero.1 (d_ a),by omega,errL_zero.1 (d_ c),by omega⟩;grind
structure PlcOk(s:PS)(p:FM):Prop where
 tl:p.2.1.length<=64
 tr:∀t∈p.2.1,TrmOk s t
 df:p.2.2.1=1\/p.2.2.1=2
structure PolOk(pe:List UInt8->Int)(s:PS):Prop where
 l1:s.1.length<=64
 r1:∀l∈s.1,l.2.1.length<=64/\∀r∈l.2.1,mI r=0
 l2:s.2.1.length<=64
 r2:∀l∈s.2.1,l.2.1.length<=64/\∀r∈l.2.1,pe r.2.1=0
 l3:s.2.2.1.length<=64
 r3:∀l∈s.2.2.1,l.2.1.length<=64/\∀r∈l.2.1,ow r=0
 l4:s.2.2.2.1.length<=64
 r4:∀p∈s.2.2.2.1,PlcOk s p
theorem zfl{s:PS}{p:FM}(hl:p.2.1.length<=64)(h:oH s p=0):PlcOk s p:=by
 unfold oH at h;split at h;·omega
 rename_i c;split at h;·omega
 rename_i e;refine⟨hl,λt d=>?_,by omega⟩;obtain⟨i,b,rfl⟩:=m_.1 d;have a:=errN_zero.1 (d_ c) i b;rw[a_ b]at a;exact zfz a
theorem Tp{pe:List UInt8->Int}{s:PS}(h:rG pe s=0):PolOk pe s:=by
 unfold rG at h;split at h;·omega
 rename_i e;split at h;·omega
 rename_i f;split at h;·omega
 rename_i g;have a:=LG (d_ e);have b:=LG (d_ f);have c:=LG (d_ g);have d:=LG h;exact⟨a.1,λl hl=>⟨(a.2 l hl).2.1,errL_zero.1 (a.2 l hl).2.2⟩,b.1,λl hl=>⟨(b.2 l hl).2.1,λr hr=>errL_zero.1 (b.2 l hl).2.2 r hr⟩,c.1,λl hl=>⟨(c.2 l hl).2.1,errL_zero.1 (c.2 l hl).2.2⟩,d.1,λp hp=>zfl (d.2 p hp).2.1 (d.2 p hp).2.2⟩
def Aq(s:PS)(n:List UInt8):Option FM:=s.2.2.2.1.find? (·.1==n)
theorem oD{s:PS}{n:List UInt8}{p:FM}(h:Aq s n=some p):p∈s.2.2.2.1:=List.mem_of_find?_eq_some h
end Go.Pl
namespace Go.Cm
def insGo(x:Int):List Int->Bool->List Int
 |[],d=>if d then []else [x]
 |y::r,d=>(if !d&&decide (x<=y)then [x]else [])++((if y != x then [y]else [])++insGo x r (d||decide (x<=y)))
abbrev ins(x:Int)(l:List Int):List Int:=insGo x l false
def asc(l:List Int):List Int:=l.foldl (λo x=>ins x o) []
abbrev Up(l:List Int):Prop:=l.Pairwise (·<·)
theorem JA(x z:Int):∀(l:List Int) (d:Bool),z∈insGo x l d↔(z∈l/\z≠x)\/(d=false/\z=x)
 |[],d=>by cases d<;>simp[insGo]
 |y::r,d=>by have:=JA x z r (d||decide (x<=y));grind [insGo]
theorem mem_ins(x z:Int)(l:List Int):z∈ins x l↔z∈l\/z=x:=by have:=JA x z l false;grind
theorem uniq:∀(a b:List Int),Up a->Up b->(∀z,z∈a↔z∈b)->a=b
 |[],[],_,_,_=>rfl
 |[],y::b,_,_,h=>by have:=h y;simp at this
 |y::b,[],_,_,h=>by have:=h y;simp at this
 |x::a,y::b,c,d,h=>by
  have f:=(h x).1 (by simp);have g:=(h y).2 (by simp);unfold Up at c d;rw[B_]at c d;have e:x=y:=by grind
  subst e;rw[uniq a b c.2 d.2];grind
theorem Rb(x:Int):∀(l:List Int) (d:Bool),(insGo x l d).length<=l.length+(if d then 0 else 1)
 |[],d=>by cases d<;>simp[insGo]
 |y::r,d=>by have:=Rb x r (d||decide (x<=y));grind [insGo]
theorem len_ins(x:Int)(l:List Int):(ins x l).length<=l.length+1:=Rb x l false
theorem Xf(x:Int):∀(l:List Int) (d:Bool),Up l->(d=true->∀z∈l,x<=z)->Up (insGo x l d)
 |[],d,_,_=>by cases d<;>simp[insGo]
 |y::r,d,hl,hd=>by unfold Up at hl⊢;rw[B_]at hl;have b:=Xf x r (d||decide (x<=y)) hl.2 (by grind);have a:=λz=>JA x z r (d||decide (x<=y));simp only[insGo,n_];grind [List.Pairwise.nil]
theorem up_ins(x:Int)(l:List Int)(h:Up l):Up (ins x l):=Xf x l false h (by simp)
theorem fold_ins:∀(l o:List Int),Up o->Up (l.foldl (λo x=>ins x o) o)/\(∀z,z∈l.foldl (λo x=>ins x o) o↔z∈o\/z∈l)/\(l.foldl (λo x=>ins x o) o).length<=o.length+l.length
 |[],o,h=>⟨h,by simp,by simp⟩
 |x::l,o,h=>by
  have⟨a,b,d⟩:=fold_ins l (ins x o) (up_ins x o h);have:=len_ins x o;have c:=λz=>mem_ins x z o;refine⟨a,λz=>?_,?_⟩;·rw[H_,b,c];grind
  ·rw[H_];grind
theorem up_asc(l:List Int):Up (asc l):=(fold_ins l [] List.Pairwise.nil).1
theorem zfi(l:List Int)(z:Int):z∈asc l↔z∈l:=by have:=(fold_ins l [] List.Pairwise.nil).2.1 z;simpa[asc]using this
theorem len_asc(l:List Int):(asc l).length<=l.length:=by have:=(fold_ins l [] List.Pairwise.nil).2.2;simpa[asc]using this
theorem zcP{l o:List Int}(h:Up o)(a:∀z,z∈o↔z∈l):o=asc l:=uniq _ _ h (up_asc l) (by grind [zfi])
theorem ze7(x:Int)(l:List Int):ins x (asc l)=asc (asc l++[x]):=zcP (up_ins x _ (up_asc l)) (by intro z;rw[mem_ins];simp)
theorem insGo_step(x:Int)(l:List Int)(k:Nat)(d:Bool)(h:k<l.length):insGo x (l.drop k) d=(if !d&&decide (x<=l.getD k 0)then [x]else [])++((if l.getD k 0 != x then [l.getD k 0]else [])++insGo x (l.drop (k+1)) (d||decide (x<=l.getD k 0))):=by
 have e:l.getD k 0=l[k]:=by simp[r_,a_ h]
 rw[e,t_ h];rfl
theorem wS{l:List Int}{k:Nat}(h:k<l.length):l.take (k+1)=l.take k++[l.getD k 0]:=by
 have e:l.getD k 0=l[k]:=by simp[r_,a_ h]
 rw[l_ h,e]
def left(l a:List Int):Nat:=l.countP λz=>a.all (λy=>decide (y<z))
theorem left_step{l a:List Int}{b:Int}(c:b∈l)(f:∀y∈a,y<b):left l (a++[b])+1<=left l a:=by
 unfold left;induction l with
 |nil=>simp at c|cons z l n=>
  rw[D_,D_];have j:l.countP (λz=>(a++[b]).all λy=>decide (y<z))<=l.countP (λz=>a.all λy=>decide (y<z)):=by apply List.countP_mono_left;intro z _ h;simp only[G_,w_]at h;exact h.1
  by_cases e:z=b
  ·subst e;have g:((a++[z]).all λy=>decide (y<z))=false:=by simp
   have k:(a.all λy=>decide (y<z))=true:=by simpa using f
   rw[g,k];simp only[Bool.false_eq_true,if_false,if_true];omega
  ·have d:b∈l:=by simp at c;rcases c with h|h;exact absurd h.symm e;exact h
   have p:=n d;have g:(if((a++[b]).all λy=>decide (y<z))=true then 1 else 0)<=(if(a.all λy=>decide (y<z))=true then 1 else 0):=by
    split;·rename_i h;simp only[G_,w_]at h;rw[if_pos h.1];exact p_ 1
    ·exact P_ _
   omega
structure Best(l out:List Int)(k:Nat)(found:Bool)(best:Int):Prop where
 yes:found=true->best∈l/\(∀y∈out,y<best)
 least:∀z∈l.take k,(∀y∈out,y<z)->found=true/\best<=z
structure Out(l out:List Int):Prop where
 up:Up out
 sub:∀z∈out,z∈l
 all:∀z∈l,z∈out\/∀y∈out,y<z
 len:out.length+left l out<=l.length
theorem Out.zero(l:List Int):Out l []:=⟨List.Pairwise.nil,by simp,by simp,by simp[left]⟩
theorem Out.step{l E:List Int}{b:Int}(h:Out l E)(J:Best l E l.length true b):Out l (E++[b]):=by
 obtain⟨R,U⟩:=J.yes rfl;have hl:=left_step R U;have H:=J.least;rw[F_]at H;refine⟨?_,?_,λz N=>?_,?_⟩;·have:=h.up;unfold Up at this⊢;rw[n_];grind
 ·have:=h.sub;grind
 ·rcases h.all z N with I|I;·grind
  ·have:=(H z N I).2;by_cases e:z=b;·left;simp[e]
   ·right;grind
 ·have:=h.len;simp;omega
theorem Out.outDone{l E:List Int}{b:Int}(h:Out l E)(N:Best l E l.length false b):E=asc l:=by
 refine zcP h.up λz=>⟨h.sub z,λJ=>?_⟩;have I:=N.least;rw[F_]at I;rcases h.all z J with H|H;·exact H
 ·have:=(I z J H).1;cases this
theorem last_gt{a:List Int}(h:Up a)(b:a≠[])(z:Int):(∀y∈a,y<z)↔a.getD (a.length - 1) 0<z:=by
 have hl:a.length - 1<a.length:=by have:=List.length_pos_iff.2 b;omega
 have e:a.getD (a.length - 1) 0=a[a.length - 1]:=by simp[r_,a_ hl]
 rw[e];refine⟨λh=>h _ (E_ hl),λf y d=>?_⟩;obtain⟨i,c,rfl⟩:=List.getElem_of_mem d;unfold Up at h;rw[u_]at h;by_cases e:i=a.length - 1;·subst e;exact f
 ·have:=h i (a.length - 1) c hl (by omega);omega
theorem Best.zero(l z:List Int)(b:Int):Best l z 0 false b:=⟨by simp,by simp⟩
theorem Best.take{l E:List Int}{k:Nat}{f:Bool}{b:Int}(h:Best l E k f b)(H:k<l.length)(I:∀y∈E,y<l.getD k 0)(R:f=false\/l.getD k 0<b):Best l E (k+1) true (l.getD k 0):=by
 have e:l.getD k 0=l[k]:=by simp[r_,a_ H]
 have J:l.getD k 0∈l:=by rw[e];exact E_ H
 refine⟨λ_=>⟨J,I⟩,λz N hg=>⟨rfl,?_⟩⟩;rw[wS H]at N;have:=h.least z;grind
theorem Best.skip{l E:List Int}{k:Nat}{f:Bool}{b:Int}(h:Best l E k f b)(H:k<l.length)(J:(∀y∈E,y<l.getD k 0)->f=true/\b<=l.getD k 0):Best l E (k+1) f b:=by refine⟨h.yes,λz I hg=>?_⟩;rw[wS H]at I;have:=h.least z;grind
theorem up_take{l:List Int}{k:Nat}(h:Up (l.take k))(j:k<l.length)(c:k=0\/l.getD (k - 1) 0<l.getD k 0):Up (l.take (k+1)):=by
 rw[wS j];by_cases e:l.take k=[];·rw[e];simp
 ·have:=(last_gt h e (l.getD k 0)).2 ?_;·unfold Up at h⊢;rw[n_];refine⟨h,by simp,λa g b f=>?_⟩;simp only[s_]at f;rw[f];exact this a g
  ·have d:k≠0:=by intro h;subst h;simp at e
   have:(l.take k).getD ((l.take k).length - 1) 0=l.getD (k - 1) 0:=by simp only[r_,List.length_take,List.getElem?_take];rw[show min k l.length=k by omega,if_pos (by omega)]
   rw[this];rcases c with c|c;·exact absurd c d
   ·exact c
theorem not_up{l:List Int}{k:Nat}(a:k<l.length)(d:0<k)(e:l.getD k 0<=l.getD (k - 1) 0):¬Up l:=by
 intro h;unfold Up at h;rw[u_]at h;have:=h (k - 1) k (by omega) a (by omega);have b:l.getD k 0=l[k]:=by simp[r_,a_ a]
 have c:l.getD (k - 1) 0=l[k - 1]:=by simp[r_,a_ (show k - 1<l.length by omega)]
 omega
def check(l:List Int):Int:=if 255<l.length then 4 else if Up l then 0 else 16
theorem check_long{l:List Int}(h:255<l.length):check l=4:=by unfold check;rw[if_pos h]
theorem check_up{l:List Int}(h:¬255<l.length)(a:Up l):check l=0:=by unfold check;rw[if_neg h,if_pos a]
theorem check_not{l:List Int}(h:¬255<l.length)(a:¬Up l):check l=16:=by unfold check;rw[if_neg h,if_neg a]
def add(l:List Int)(c:Int):List Int:=if 255<=(asc l).length/\c∉asc l then asc l else ins c (asc l)
def drop(l:List Int)(c:Int):List Int:=(asc l).filter (λx=>x != c)
theorem add_eq(l:List Int)(c:Int):ins c (asc l)=asc (asc l++[c]):=ze7 c l
end Go.Cm
namespace Go.Pl
open Go Go.Av Go.Ev
abbrev nM:Type:=NZ×(Int×(Int×(List Int×(List Int×(Int×(Int×(Int×(Int×Unit))))))))
abbrev Kc:Ty:=pr [yP,tI,tW,.list tI,.list tW,tI,tI,tI,tI]
abbrev zSub:nM:=((0,0,()),0,0,[],[],0,0,0,0,())
abbrev uA(x:Int):Prop:=0<=x/\x<=4294967295
def oQ(r:nM):Int:=
 if jr r.1=false then 1
 else if r.2.1<1\/7<r.2.1 then 5
 else if r.2.2.2.1.length>2000 then 4
 else if ¬∀v∈r.2.2.2.1,1<=v/\v<=4294967295 then 5
 else if Cm.check r.2.2.2.2.1≠0 then Cm.check r.2.2.2.2.1
 else if ¬(uA r.2.2.2.2.2.1/\uA r.2.2.2.2.2.2.1/\uA r.2.2.2.2.2.2.2.2.1)\/r.2.2.2.2.2.2.2.1<0\/16777216<r.2.2.2.2.2.2.2.1 then 5 else 0
def I3(a:zJ):nM->nM
 |(p,b,d,pt,cm,e,c,mt,f,u)=>
  if a.1=1 then(p,b,d,pt,cm,a.2.1,c,mt,f,u)
  else if a.1=2 then(p,b,d,pt,cm,e,a.2.1,mt,f,u)
  else if a.1=3 then(p,b,d,pt,cm,e,c,a.2.1,f,u)
  else if a.1=4 then(p,b,d,pt,cm,e,c,mt,a.2.1,u)
  else if a.1=5 then(p,b,a.2.2.2.2.1,pt,cm,e,c,mt,f,u)
  else if a.1=6 then(p,b,d,pt,Cm.add cm a.2.2.2.1,e,c,mt,f,u)
  else if a.1=7 then(p,b,d,pt,Cm.drop cm a.2.2.2.1,e,c,mt,f,u)
  else if(pt.length:Int)+a.2.1<=2000 then(p,b,d,List.replicate a.2.1.toNat a.2.2.1++pt,cm,e,c,mt,f,u)
  else(p,b,d,pt,cm,e,c,mt,f,u)
def Gb(a:zJ)(r:nM):nM:=if iw a=0 then I3 a r else r
def Ef(l:List zJ)(r:nM):nM:=l.foldl (λr a=>Gb a r) r
def jY(hold:y9->Bool):List y9->Nat->Int->List Int×List zJ×Int
 |[],_,d=>([],[],d)
 |t::l,i,d=>if hold t then(if t.2.2.2.1≠3 then([(i:Int)],t.2.2.1,t.2.2.2.1)else((i:Int)::(jY hold l (i+1) d).1,t.2.2.1++(jY hold l (i+1) d).2.1,(jY hold l (i+1) d).2.2))else jY hold l (i+1) d
structure SmR(k:Nat)(r:nM):Prop where
 pt:r.2.2.2.1.length<=100000
 cm:r.2.2.2.2.1.length<=k
theorem zfb(l:List Int)(c:Int):(Cm.add l c).length<=l.length+1:=by have a:=Cm.len_asc l;have b:=Cm.len_ins c (Cm.asc l);unfold Cm.add;grind
theorem V0(l:List Int)(c:Int):(Cm.drop l c).length<=l.length:=by have a:=Cm.len_asc l;unfold Cm.drop;grind
theorem zf4{a:zJ}(w:iw a=0){k:Nat}{r:nM}(h:SmR k r):SmR (k+1) (I3 a r):=by
 obtain⟨p,f,e,pt,cm,y,x,mt,z,u⟩:=r;obtain⟨j,l⟩:=h;simp only at j l;have s:=zfb cm a.2.2.2.1;have v:=V0 cm a.2.2.2.1;have n:(Cm.add cm a.2.2.2.1).length<=k+1:=by omega
 have g:∀(p:NZ) (f e:Int) (d c:List Int) (t:Int×Int×Int×Int×Unit),d.length<=100000->c.length<=k+1->SmR (k+1) (p,f,e,d,c,t):=λ_ _ _ _ _ _ a b=>⟨a,b⟩;simp only[I3];split;·grind
 split;·grind
 split;·grind
 split;·grind
 split;·grind
 split;·grind
 split;all_goals grind
theorem zeN{a:zJ}{k:Nat}{r:nM}(h:SmR k r):SmR (k+1) (Gb a r):=by
 unfold Gb;split;·rename_i b;exact zf4 b h
 ·exact⟨h.pt,by have:=h.cm;omega⟩
theorem Se{l:List zJ}:∀{k:Nat} {r:nM},SmR k r->SmR (k+l.length) (Ef l r):=by induction l with|nil=>intro k r h;exact h|cons a l b=>intro k r h;have:=b (zeN (a:=a) h);unfold Ef at this⊢;grind
theorem rZ{hold:y9->Bool}:∀{l:List y9} {i:Nat} {d:Int},(∀t∈l,t.2.2.1.length<=64)->(jY hold l i d).1.length<=l.length/\(jY hold l i d).2.1.length<=64*l.length
 |[],_,_,_=>⟨p_ _,p_ _⟩
 |t::l,i,d,h=>by have c:=rZ (hold:=hold) (l:=l) (i:=i+1) (d:=d) λx b=>h x (by grind);have a:=h t (by simp);unfold jY;grind
abbrev zej(a:zJ):PS:=([],[],[],[([112],[([116],[],[a],1,())],1,())],())
theorem zgD(pe:List UInt8->Int)(a:zJ):rG pe (zej a)=iw a:=by
 have g:∀s:PS,gg s [] (([116],[],[a],1,()):y9)=iw a:=λs=>by
  have b:cf (gP s) ([]:List Uy)=0:=rfl;have c:cf iw [a]=iw a:=by show(if iw a=0 then 0 else iw a)=iw a;omega
  unfold gg;rw[if_neg (by show ¬mh [116]=false;decide),if_neg (by simp),if_neg (by simp),b,if_neg (λh=>h rfl),if_neg (by simp),c];grind
 have f:∀s:PS,oH s (([112],[([116],[],[a],1,())],1,()):FM)=iw a:=λs=>by
  have e:lM (λi=>match([([116],[],[a],1,())]:List y9)[i]? with|some t=>gg s (([([116],[],[a],1,())]:List y9).take i) t|none=>0) 1=iw a:=by show(if gg s [] (([116],[],[a],1,()):y9)=0 then 0 else gg s [] (([116],[],[a],1,()):y9))=iw a;grind
  unfold oH;grind
 have l4:∀s:PS,gB (·.1) (λp=>p.2.1.length) (oH s) ([([112],[([116],[],[a],1,())],1,())]:List FM)=iw a:=λs=>by
  have d:HT (·.1) (λp=>p.2.1.length) (oH s) ([([112],[([116],[],[a],1,())],1,())]:List FM) 0=iw a:=by
   unfold HT;rw[if_neg (show ¬(tR (([([112],[([116],[],[a],1,())],1,())]:List FM).map (·.1)) 0≠0) by show ¬(tR [[112]] 0≠0);decide)]
   grind
  unfold gB;rw[if_neg (by simp)];show(if HT (·.1) (λp=>p.2.1.length) (oH s) ([([112],[([116],[],[a],1,())],1,())]:List FM) 0=0 then 0 else HT (·.1) (λp=>p.2.1.length) (oH s) ([([112],[([116],[],[a],1,())],1,())]:List FM) 0)=iw a;omega
 unfold rG;have j:∀{α:Type} (nm:α->List UInt8) (sz:α->Nat) (ck:α->Int),gB nm sz ck []=0:=λ_ _ _=>rfl;grind
end Go.Pl
