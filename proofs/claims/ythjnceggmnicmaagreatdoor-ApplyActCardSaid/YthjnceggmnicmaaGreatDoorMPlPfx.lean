import Derived.Test.YthjnceggmnicmaaGreatDoorML7
import Derived.Test.YthjnceggmnicmaaGreatDoorML5
import Derived.Lib.ItoaNum
set_option linter.unusedVariables false
set_option linter.unusedSimpArgs false
open Bool renaming false_and->f_,true_and->i_,and_eq_true->o_,and_eq_false_iff->t_,or_eq_false_iff->v_
open Go.IntKind renaming bits->g_,wrap->H_
open List renaming getElem?_append_left->a_,getElem?_eq_getElem->b_,getElem?_eq_some_iff->c_,length_append->d_,getD->e_,take_succ_eq_append_getElem->h_,pairwise_append->j_,mem_singleton->l_,pairwise_iff_getElem->m_,length_cons->p_,foldl_cons->s_,length_singleton->u_,map_cons->w_,sum_cons->x_,mem_cons_self->y_,pairwise_cons->z_,cons_append->A_,countP_cons->B_,getElem_mem->C_,take_length->D_,all_append->E_,mem_cons->G_
open Nat renaming eq_of_testBit_eq->k_,le_refl->n_,testBit_mod_two_pow->q_,testBit_mul_two_pow->r_,strongRecOn->F_,le_trans->I_,zero_le->J_
namespace Go.Pl
open Go Go.Av Go.Ev
def tp(x n:Nat):Nat:=x>>>(32 - n) <<< (32 - n)
def HG(x n:Int):Int:=(tp x.toNat n.toNat:Int)
theorem vT(x n j:Nat):(tp x n).testBit j=(decide (32 - n<=j)&&x.testBit j):=by
 unfold tp;rw[Nat.testBit_shiftLeft];by_cases h:32 - n<=j;·rw[decide_eq_true (show j>=32 - n from h),Nat.testBit_shiftRight];congr 2;omega
 ·rw[decide_eq_false (show ¬j>=32 - n from h),f_,f_]
theorem Rb(x n:Nat):tp x n<=x:=by unfold tp;rw[Nat.shiftLeft_eq,Nat.shiftRight_eq_div_pow];exact Nat.div_mul_le_self _ _
theorem Lf{x:Nat}(b:x<4294967296){j:Nat}(a:32<=j):x.testBit j=false:=Nat.testBit_lt_two_pow (Nat.lt_of_lt_of_le b (I_ (show 4294967296<=2^32 by decide) (Nat.pow_le_pow_right (by decide) a)))
theorem Pr{x n:Nat}(b:x<4294967296)(hn:n<=32):x&&&(4294967295*2^(32 - n)%4294967296)=tp x n:=by
 refine k_ λj=>?_;rw[Nat.testBit_and,vT];by_cases a:j<32
 ·have e:(4294967295*2^(32 - n)%4294967296).testBit j=decide (32 - n<=j):=by
   rw[show(4294967296:Nat)=2^32 from rfl,q_,decide_eq_true a,i_,r_];by_cases h:32 - n<=j;·rw[decide_eq_true (show j>=32 - n from h),i_,show(4294967295:Nat)=2^32 - 1 from rfl,Nat.testBit_two_pow_sub_one];exact decide_eq_true (by omega)
   ·rw[decide_eq_false (show ¬j>=32 - n from h)];rfl
  rw[e,Bool.and_comm]
 ·rw[Lf b (by omega)];simp
theorem Pt{x:Nat}(b:x<4294967296):tp x 0=0:=by
 refine k_ λj=>?_;rw[vT,Nat.zero_testBit];by_cases a:32<=j;·rw[Lf b a,Bool.and_false]
 ·rw[decide_eq_false (by omega),f_]
theorem Ps(x:Nat){i:Nat}(e:i<32):tp x (i+1)=tp x i|||(x/2^(31 - i)%2)*2^(31 - i):=by
 refine k_ λj=>?_;rw[Nat.testBit_or,vT,vT,r_];have c:∀k,(x/2^(31 - i)%2).testBit k=(decide (k=0)&&x.testBit (31 - i)):=λk=>by
  rw[show(2:Nat)=2^1 from rfl,q_];by_cases a:k=0;·subst a;rw[decide_eq_true (by omega),decide_eq_true rfl,i_,i_,Nat.testBit_div_two_pow,Nat.zero_add]
  ·rw[decide_eq_false (by omega),decide_eq_false a,f_,f_]
 rw[c];by_cases b:j=31 - i;·subst b;rw[decide_eq_true (by omega),decide_eq_false (by omega),decide_eq_true (by omega),decide_eq_true (by omega)];simp
 ·by_cases d:32 - i<=j;·rw[decide_eq_true (by omega),decide_eq_true (by omega)];simp only[i_];rw[decide_eq_false (show ¬j - (31 - i)=0 by omega)];simp
  ·rw[decide_eq_false (by omega),decide_eq_false (by omega),decide_eq_false (show ¬j>=31 - i by omega)];simp
theorem KB{x y:Nat}(a:x<4294967296)(b:y<4294967296):oN .u32 .and (x:Int) (y:Int)=((x&&&y:Nat):Int):=by
 show H_ .u32 ((BitVec.ofInt (g_ .u32) (x:Int)&&&BitVec.ofInt (g_ .u32) (y:Int)).toNat:Int)=_;rw[wrap_u32,BitVec.toNat_and];have e:∀z:Nat,z<4294967296->(BitVec.ofInt (g_ .u32) (z:Int)).toNat=z:=λz c=>by rw[BitVec.toNat_ofInt];show(((z:Int)%((2^32:Nat):Int))).toNat=z;omega
 rw[e x a,e y b];have:x&&&y<=x:=Nat.and_le_left;omega
theorem S4{x y:Nat}(a:x<4294967296)(b:y<4294967296):oN .u32 .or (x:Int) (y:Int)=((x|||y:Nat):Int):=by
 show H_ .u32 ((BitVec.ofInt (g_ .u32) (x:Int)|||BitVec.ofInt (g_ .u32) (y:Int)).toNat:Int)=_;rw[wrap_u32,BitVec.toNat_or];have e:∀z:Nat,z<4294967296->(BitVec.ofInt (g_ .u32) (z:Int)).toNat=z:=λz c=>by rw[BitVec.toNat_ofInt];show(((z:Int)%((2^32:Nat):Int))).toNat=z;omega
 rw[e x a,e y b];have:x|||y<2^32:=Nat.or_lt_two_pow (by omega) (by omega);omega
section
variable {α β σ τ:Type}
theorem LE{L a:List τ}(h:L<+:a){i:Nat}{x:τ}(b:L[i]? =some x):a[i]? =some x:=by obtain⟨t,rfl⟩:=h;rw[a_ (c_.1 b).1];exact b
section
variable {f:α->β->α} {s0:α} {ls:List β}
structure Ok(f:α->β->α)(s0:α)(ls:List β)(L:List α)(T:List (Nat×β)):Prop where
 nodup:L.Nodup
 len:L.length=T.length+1
 head:L[0]? =some s0
 link:∀k j c,T[k]? =some (j,c)->j<k+1/\c∈ls/\∃x,L[j]? =some x/\L[k+1]? =some (f x c)
theorem Ok.add{L:List α}{T:List (Nat×β)}(h:Ok f s0 ls L T){x:α}{i:Nat}{c:β}(J:L[i]? =some x)(hc:c∈ls)(hn:f x c∉L):Ok f s0 ls (L++[f x c]) (T++[(i,c)]):=by
 have hi:i<L.length:=(c_.1 J).1;have hl:=h.len;refine⟨?_,by simp[hl],?_,λk j N z=>?_⟩;·rw[List.nodup_append];exact⟨h.nodup,by simp,λa ha b I=>by simp at I;subst I;rintro rfl;exact hn ha⟩
 ·rw[a_ (by omega)];exact h.head
 ·by_cases E:k<T.length;·rw[a_ E]at z;obtain⟨R,U,y,Y,h4⟩:=h.link k j N z;exact⟨R,U,y,by rw[a_ (by omega)];exact Y,by rw[a_ (by omega)];exact h4⟩
  ·rw[List.getElem?_append_right (by omega)]at z;have H:k=T.length:=by have:=(c_.1 z).1;simp at this;omega
   subst H;simp at z;obtain⟨rfl,rfl⟩:=z;refine⟨by omega,hc,x,by rw[a_ hi];exact J,?_⟩;rw[show T.length+1=L.length by omega];simp
def Quiet(sp:List α->α->Bool)(L:List α):Prop:=∀k x,L[k+1]? =some x->sp (L.take (k+1)) x=false
theorem Quiet.add{sp:List α->α->Bool}{L:List α}{y:α}(h:Quiet sp L)(hs:sp L y=false):Quiet sp (L++[y]):=by
 intro k x z;by_cases H:k+1<L.length;·rw[a_ H]at z;rw[List.take_append_of_le_length (by omega)];exact h k x z
 ·have E:=(c_.1 z).1;simp at E;have:k+1=L.length:=by omega
  rw[this]at z⊢;simp at z;subst z;simpa using hs
theorem Ok.pre{L E:List α}{T I:List (Nat×β)}(h:Ok f s0 ls L T)(J:E<+:L)(hT:I<+:T)(hl:E.length=I.length+1):Ok f s0 ls E I:=by
 have z:∀k,k<E.length->E[k]? =L[k]? :=λk H=>by obtain⟨t,rfl⟩:=J;rw[a_ H]
 refine⟨h.nodup.sublist J.sublist,hl,by rw[z 0 (by omega)];exact h.head,λk j c H=>?_⟩;have el:=(c_.1 H).1;obtain⟨N,R,x,U,Y⟩:=h.link k j c (LE hT H);exact⟨N,R,x,by rw[z j (by omega)];exact U,by rw[z (k+1) (by omega)];exact Y⟩
inductive Tr(T:List (Nat×β)):Nat->List β->Prop
 |zero:Tr T 0 []
 |step {k j:Nat} {c:β} {p:List β}:T[k]? =some (j,c)->Tr T j p->Tr T (k+1) (p++[c])
theorem Tr.mono{T z:List (Nat×β)}(hp:T<+:z){k:Nat}{p:List β}(h:Tr T k p):Tr z k p:=by induction h with|zero=>exact .zero|step E _ H=>exact .step (LE hp E) H
theorem Ok.tr{L:List α}{T:List (Nat×β)}(h:Ok f s0 ls L T):∀k,k<L.length->∃p,Tr T k p:=by
 intro k;induction k using F_ with
 |ind k H=>
  intro I
  match k with|0=>exact⟨[],.zero⟩|k+1=>have z:=b_ (l:=T) (i:=k) (by have:=h.len;omega);obtain⟨E,_⟩:=h.link k _ _ z;obtain⟨p,hp⟩:=H _ E (by omega);exact⟨_,.step z hp⟩
theorem Tr.len{L:List α}{T:List (Nat×β)}(h:Ok f s0 ls L T){k:Nat}{p:List β}(E:Tr T k p):p.length<=k:=by induction E with|zero=>exact n_ _|step z _ H=>have:=(h.link _ _ _ z).1;simp only[d_,u_];omega
end
variable [DecidableEq α]
variable (f:α->β->α) (s0:α) (ls:List β)
variable {f s0 ls}
end
open Go Go.Ev
theorem vi{P:Rx->Prop}(h:∀k lo a ks,(∀r∈ks,P r)->P (.mk k lo a ks)):∀r,P r:=
 λr=>Rx.rec (motive_1:=P) (motive_2:=λks=>∀r∈ks,P r) (λk lo a ks e=>h k lo a ks e) (λr hr=>by cases hr) (λr ks c d x b=>by
  rcases G_.1 b with rfl|b;·exact c
  ·exact d x b) r
theorem sG(v:Rx):Rx.mk v.out.1 v.out.2.1 v.out.2.2.1 v.out.2.2.2.1=v:=by cases v;rfl
structure G where
 fi:List Nat
 la:List Nat
 em:Bool
 pr:List (Nat×Nat)
 sp:List (Int×Int)
def T1(a b:List Nat):List (Nat×Nat):=a.flatMap λp=>b.map λq=>(p,q)
def Wy(a x:G):G:=⟨if a.em then a.fi++x.fi else a.fi,if x.em then a.la++x.la else x.la,a.em&&x.em,a.pr++x.pr++T1 a.la x.fi,a.sp++x.sp⟩
def Wg(a x:G):G:=⟨a.fi++x.fi,a.la++x.la,a.em||x.em,a.pr++x.pr,a.sp++x.sp⟩
def T0(x:G):G:=⟨x.fi,x.la,x.em,x.pr++T1 x.la x.fi,x.sp⟩
def WK(x:G):G:=⟨x.fi,x.la,true,x.pr,x.sp⟩
def g0(e:Bool):G:=⟨[],[],e,[],[]⟩
def WL(o:Nat)(lo a:Int):G:=⟨[o],[o],false,[],[(lo,a)]⟩
mutual
def Wi:Rx->Nat->G
 | .mk k lo a ks,o=>
  if k=1 then WL o lo a else if k=2 then WL o 0 4294967295
  else if k=3 then VD ks o (g0 true)else if k=4 then Q4 ks o (g0 false)
  else if k=5 then WK (T0 (Q4 ks o (g0 false)))else if k=6 then T0 (Q4 ks o (g0 false))
  else if k=7 then WK (Q4 ks o (g0 false))else g0 true
def VD:List Rx->Nat->G->G
 |[],_,a=>a
 |r::b,o,a=>VD b o (Wy a (Wi r (o+a.sp.length)))
def Q4:List Rx->Nat->G->G
 |[],_,a=>a
 |r::b,o,a=>Q4 b o (Wg a (Wi r (o+a.sp.length)))
end
structure Lie(o:Nat)(g:G):Prop where
 fi:∀p∈g.fi,o<=p/\p<o+g.sp.length
 la:∀p∈g.la,o<=p/\p<o+g.sp.length
 pr:∀p q,(p,q)∈g.pr->(o<=p/\p<o+g.sp.length)/\o<=q/\q<o+g.sp.length
 fl:g.fi.length<=g.sp.length
 ll:g.la.length<=g.sp.length
def kZ(k n:Int):Bool:=bif k==0||k==1||k==2 then n==0 else bif k==3 then decide (n>=2)else bif k==4 then n != 1 else bif k==5||k==6||k==7 then n==1 else false
def uS(k:Int):Bool:=k==0||k==1||k==2||k==3||k==4||k==5||k==6||k==7
def rk(k lo a n:Int):Int:=
 bif !uS k then 15 else bif k==1&&(decide (lo<0)||decide (lo>a)||decide (a>4294967295))then 5 else bif (k != 1&&(lo != 0||a != 0))|| !kZ k n then 1 else 0
theorem knownB_iff{k:Int}:uS k=true↔k=0\/k=1\/k=2\/k=3\/k=4\/k=5\/k=6\/k=7:=by simp only[uS,Bool.or_eq_true,beq_iff_eq,or_assoc]
structure Node(k lo hi n:Int):Prop where
 known:k=0\/k=1\/k=2\/k=3\/k=4\/k=5\/k=6\/k=7
 rng:k=1->0<=lo/\lo<=hi/\hi<=4294967295
 zero:k≠1->lo=0/\hi=0
 leaf:k=0\/k=1\/k=2->n=0
 seq:k=3->2<=n
 alt:k=4->n≠1
 one:k=5\/k=6\/k=7->n=1
theorem nodeE_zero{k lo c n:Int}:rk k lo c n=0↔Node k lo c n:=by
 constructor
 ·intro h;unfold rk at h;cases f:uS k;·rw[f]at h;exact absurd h (by simp)
  rw[f]at h;have g:=knownB_iff.1 f;simp only[Bool.not_true,cond_false]at h;cases b:(k==1&&(decide (lo<0)||decide (lo>c)||decide (c>4294967295)))
  ·rw[b]at h;simp only[cond_false]at h;cases a:((k != 1&&(lo != 0||c != 0))|| !kZ k n)
   ·simp only[v_,t_,bne_eq_false_iff_eq,Bool.not_eq_false',beq_eq_false_iff_ne,decide_eq_false_iff_not]at b a;obtain⟨a,d⟩:=a;refine⟨g,λe=>?_,λe=>?_,λe=>?_,λe=>?_,λe=>?_,λe=>?_⟩
    ·rcases b with b|b;·exact absurd e b
     ·omega
    ·rcases a with a|a;·exact absurd a e
     ·exact a
    ·rcases e with rfl|rfl|rfl<;>simpa[kZ]using d
    ·subst e;simpa[kZ]using d
    ·subst e;simpa[kZ]using d
    ·rcases e with rfl|rfl|rfl<;>simpa[kZ]using d
   ·rw[a]at h;exact absurd h (by simp)
  ·rw[b]at h;exact absurd h (by simp)
 ·intro h;have f:uS k=true:=knownB_iff.2 h.known;have b:(k==1&&(decide (lo<0)||decide (lo>c)||decide (c>4294967295)))=false:=by
   by_cases e:k=1;·have:=h.rng e;simp only[t_,v_,decide_eq_false_iff_not];exact .inr ⟨⟨by omega,by omega⟩,by omega⟩
   ·simp[e]
  have a:(k != 1&&(lo != 0||c != 0))=false:=by
   by_cases e:k=1;·simp[e]
   ·have:=h.zero e;simp[this]
  have d:kZ k n=true:=by
   rcases h.known with rfl|rfl|rfl|rfl|rfl|rfl|rfl|rfl;·simpa[kZ]using h.leaf (by simp)
   ·simpa[kZ]using h.leaf (by simp)
   ·simpa[kZ]using h.leaf (by simp)
   ·simpa[kZ]using h.seq rfl
   ·simpa[kZ]using h.alt rfl
   ·simpa[kZ]using h.one (by simp)
   ·simpa[kZ]using h.one (by simp)
   ·simpa[kZ]using h.one (by simp)
  unfold rk;rw[f,b,a,d];rfl
mutual
def sz:Rx->Nat
 | .mk _ _ _ ks=>1+wx ks
def wx:List Rx->Nat
 |[]=>0
 |r::a=>sz r+wx a
end
theorem wa:∀{ks:List Rx} {r:Rx},r∈ks->sz r<=wx ks
 |x::ks,r,h=>by
  simp only[wx];rcases G_.1 h with rfl|h;·omega
  ·have:=wa h;omega
theorem Vd(r:Rx):0<sz r:=by cases r;simp only[sz];omega
theorem Dj:∀ks:List Rx,ks.length<=wx ks
 |[]=>n_ _
 |r::ks=>by simp only[wx,p_];have:=Dj ks;have:=Vd r;omega
theorem JF:∀l m:List Rx,wx (l++m)=wx l+wx m
 |[],m=>by simp[wx]
 |r::l,m=>by simp only[A_,wx,JF l m];omega
mutual
def iI:Rx->Bool
 | .mk k lo a ks=>rk k lo a ks.length==0&&Fi ks
def Fi:List Rx->Bool
 |[]=>true
 |r::a=>iI r&&Fi a
end
theorem Fj:∀ks:List Rx,Fi ks=true↔∀r∈ks,iI r=true
 |[]=>by simp[Fi]
 |r::ks=>by simp[Fi,Fj ks]
theorem well_iff{k lo a:Int}{ks:List Rx}:iI (.mk k lo a ks)=true↔Node k lo a ks.length/\∀r∈ks,iI r=true:=by simp only[iI,o_,beq_iff_eq,nodeE_zero,Fj]
mutual
def yt:Rx->Int->Int->Int×Int
 | .mk k lo a ks,lv,c=>if lv>16 then(c,24)else if c>=64 then(c,4)else if rk k lo a ks.length≠0 then(c,rk k lo a ks.length)else jo ks (lv+1) (c+1)
def jo:List Rx->Int->Int->Int×Int
 |[],_,c=>(c,0)
 |r::a,lv,c=>if(yt r lv c).2≠0 then yt r lv c else jo a lv (yt r lv c).1
end
theorem len_nil{ks:List Rx}(h:(ks.length:Int)=0):ks=[]:=List.length_eq_zero_iff.1 (by omega)
theorem Db{ks:List Rx}(h:(ks.length:Int)=1):∃r,ks=[r]:=List.length_eq_one_iff.1 (by omega)
open Go Go.Ev Go.Lib
def Eu(b:UInt8):Prop:=48<=b.toNat/\b.toNat<=57
instance (b:UInt8):Decidable (Eu b):=inferInstanceAs (Decidable (_/\_))
def vt(l:List UInt8):Nat:=l.foldl (λn b=>10*n+(b.toNat - 48)) 0
theorem BZ(l:List UInt8)(b:UInt8):vt (l++[b])=10*vt l+(b.toNat - 48):=by simp[vt,List.foldl_append]
theorem Hu{n:Nat}(h:n<10):(UInt8.ofNat (48+n)).toNat=48+n:=by simp;omega
theorem vN:∀(n:Nat),(∀b∈decDigits n,Eu b)/\vt (decDigits n)=n/\0<(decDigits n).length/\(1<(decDigits n).length->((decDigits n).getD 0 0).toNat≠48)/\(0<n->((decDigits n).getD 0 0).toNat≠48):=by
 intro n;induction n using F_ with
 |ind n g=>
  rw[decDigits];by_cases h:n<10
  ·rw[dif_pos h];have:=Hu h;refine⟨λb a=>?_,?_,by simp,by simp,?_⟩;·simp only[l_]at a;subst a;unfold Eu;omega
   ·show 10*0+((UInt8.ofNat (48+n)).toNat - 48)=n;omega
   ·intro j;show(UInt8.ofNat (48+n)).toNat≠48;omega
  ·rw[dif_neg h];obtain⟨d,e,f,k,c⟩:=g (n/10) (by omega);have hd:=Hu (show n%10<10 by omega);have hg:(decDigits (n/10)++[UInt8.ofNat (48+n%10)]).getD 0 0=(decDigits (n/10)).getD 0 0:=by simp only[e_,a_ f]
   refine⟨λb a=>?_,?_,by simp,λ_=>?_,λ_=>?_⟩
   ·simp only[List.mem_append,l_]at a;rcases a with a|rfl;·exact d b a
    ·unfold Eu;omega
   ·rw[BZ,e,hd];omega
   ·rw[hg];exact c (by omega)
   ·rw[hg];exact c (by omega)
theorem zo(n:Nat):∀b∈decDigits n,Eu b:=(vN n).1
theorem KT(n:Nat):vt (decDigits n)=n:=(vN n).2.1
theorem KS(n:Nat):0<(decDigits n).length:=(vN n).2.2.1
theorem Ph(n:Nat)(h:1<(decDigits n).length):((decDigits n).getD 0 0).toNat≠48:=(vN n).2.2.2.1 h
theorem KR:∀(n k:Nat),n<10^(k+1)->(decDigits n).length<=k+1
 |n,0,h=>by rw[decDigits,dif_pos (by omega)];simp
 |n,k+1,h=>by
  rw[decDigits];split;·simp
  ·have:=KR (n/10) k (by rw[Nat.pow_succ]at h;omega);simp only[d_,u_];omega
theorem r5{n:Nat}(h:n<=4294967295):(decDigits n).length<=10:=KR n 9 (by omega)
theorem takeD{l:List UInt8}{k:Nat}(h:k<l.length):l.take (k+1)=l.take k++[l.getD k 0]:=by
 have e:l.getD k 0=l[k]:=by simp[e_,b_ h]
 rw[h_ h,e]
theorem AP(l:List UInt8):∀(d k:Nat),k+d=l.length->vt (l.take k)<=vt l
 |0,k,h=>by rw[List.take_of_length_le (by omega)];exact n_ _
 |d+1,k,h=>by have a:=AP l d (k+1) (by omega);rw[takeD (by omega),BZ]at a;omega
theorem Ih{l:List UInt8}{k:Nat}(h:k<=l.length):vt (l.take k)<=vt l:=AP l (l.length - k) k (by omega)
def qA(p:Int):Rx->Bool
 | .mk k _ _ ks=>bif k==4 then !ks.isEmpty else bif k==3 then p != 4 else(k==5||k==6||k==7)&&(p==5||p==6||p==7)
def sr(w:Bool)(l:List UInt8):List UInt8:=bif w then 40::(l++[41])else l
def jn(sep:UInt8):List (List UInt8)->List UInt8
 |[]=>[]
 |[x]=>x
 |x::y::l=>x++sep::jn sep (y::l)
mutual
def ij:Rx->List UInt8
 | .mk k lo a ks=>
  if k=0 then [40,41]else if k=2 then [46]
  else if k=1 then(if lo=a then decDigits lo.toNat else 91::(decDigits lo.toNat++45::(decDigits a.toNat++[93])))
  else if k=5 then(Jt 5 ks).headD []++[42]else if k=6 then(Jt 6 ks).headD []++[43]else if k=7 then(Jt 7 ks).headD []++[63]
  else if k=4 then(if ks=[]then [33]else jn 124 (Jt 4 ks))else jn 32 (Jt 3 ks)
def Jt:Int->List Rx->List (List UInt8)
 |_,[]=>[]
 |p,r::a=>sr (qA p r) (ij r)::Jt p a
end
def kf(p:Int)(r:Rx):List UInt8:=sr (qA p r) (ij r)
theorem fO(p:Int):∀ks:List Rx,Jt p ks=ks.map (kf p)
 |[]=>by simp[Jt]
 |r::a=>by simp[Jt,fO p a,kf]
theorem Of(sep:UInt8):∀(l:List (List UInt8)) (x:List UInt8),jn sep (l++[x])=if l=[]then x else jn sep l++sep::x
 |[],x=>by simp[jn]
 |[y],x=>by simp[jn]
 |y::z::l,x=>by have:=Of sep (z::l) x;simp only[A_,jn]at*;rw[this];simp
theorem M4(sep:UInt8):∀(l:List (List UInt8)),(jn sep l).length<=(l.map λx=>x.length+1).sum
 |[]=>by simp[jn]
 |[x]=>by simp[jn]
 |x::y::l=>by have:=M4 sep (y::l);simp only[jn,d_,p_,w_,x_]at*;omega
theorem Oc(p:Int)(r:Rx):(kf p r).length<=(ij r).length+2:=by unfold kf sr;cases qA p r<;>simp
theorem Js:∀(r:Rx),iI r=true->(ij r).length+3<=26*sz r:=by
 refine vi λk lo g ks u j=>?_;obtain⟨hn,b⟩:=well_iff.1 j;have a:∀p:Int,∀l:List Rx,(∀r∈l,r∈ks)->((l.map (kf p)).map λx=>x.length+1).sum<=26*wx l:=by intro p l;induction l with|nil=>intro _;simp|cons r l v=>intro h;have f:=u r (h r (y_ ..)) (b r (h r (y_ ..)));have w:=v λx n=>h x (List.mem_cons_of_mem _ n);have y:=Oc p r;simp only[w_,x_,wx]at*;omega
 have hd:∀p:Int,((ks.map (kf p)).headD []).length<=26*wx ks:=by intro p;have f:=a p ks λ_ h=>h;cases ks with|nil=>simp|cons r l=>simp only[w_,List.headD_cons,x_]at*;omega
 have d:∀(p:Int) (s:UInt8),(jn s (ks.map (kf p))).length<=26*wx ks:=λp s=>I_ (M4 s _) (a p ks λ_ h=>h);have c:k=1->(decDigits lo.toNat).length<=10/\(decDigits g.toNat).length<=10:=λe=>by have:=hn.rng e;exact⟨r5 (by omega),r5 (by omega)⟩
 simp only[ij,fO,sz];split;·simp;omega
 split;·simp;omega
 split;·rename_i h;have:=c h;split<;>simp<;>omega
 split;·have:=hd 5;simp;simp at this;omega
 split;·have:=hd 6;simp;simp at this;omega
 split;·have:=hd 7;simp;simp at this;omega
 split
 ·split;·simp;omega
  ·have:=d 4 124;omega
 ·have:=d 3 32;omega
end Go.Pl
namespace Go.Ev
open Go Go.RowKit Go.Av
def GA(f:Nat->Int)(i:Nat):Nat->Int
 |0=>0
 |k+1=>if f i=0 then GA f (i+1) k else f i
def l8(f:Nat->Int)(N:Nat):Int:=GA f 0 N
theorem Hy{f:Nat->Int}:∀(k i:Nat),GA f i k=0↔∀j,i<=j->j<i+k->f j=0
 |0,i=>by simp only[GA,true_iff];intro j a b;omega
 |k+1,i=>by
  simp only[GA];split
  ·rename_i h;rw[Hy k (i+1)];constructor
   ·intro g j a b;by_cases e:j=i;·subst e;exact h
    ·exact g j (by omega) (by omega)
   ·intro g j a b;exact g j (by omega) (by omega)
  ·rename_i h;constructor;·intro g;exact absurd g h
   ·intro g;exact absurd (g i (n_ _) (by omega)) h
theorem errN_zero{f:Nat->Int}{N:Nat}:l8 f N=0↔∀j,j<N->f j=0:=by
 unfold l8;rw[Hy];constructor;·intro h j a;exact h j (J_ _) (by omega)
 ·intro h j _ a;exact h j (by omega)
theorem K7{f:Nat->Int}{c:Int}(h:∀j,f j=0\/f j=c):∀(k i:Nat),GA f i k=0\/GA f i k=c
 |0,_=>.inl rfl
 |k+1,i=>by
  simp only[GA];split;·exact K7 h k (i+1)
  ·exact h i
theorem QX{f:Nat->Int}{c:Int}{N:Nat}(h:∀j,f j=0\/f j=c):l8 f N=0\/l8 f N=c:=K7 h N 0
def ef{α:Type}(f:α->Int)(l:List α):Int:=l8 (λi=>match l[i]? with|some x=>f x|none=>0) l.length
theorem yo{ρ β b:Type}{N:Nat}{f:Nat->Int}{enc:Nat->ρ}{oB:Int->β}{oE:b}{body:Nat->ρ->Option (ρ⊕β⊕b)}{Q:β⊕b->Prop} (h:∀i,i<N->Wp (λn=>body n (enc i)) λr=>r=if f i=0 then .inl (enc (i+1))else .inr (.inl (oB (f i)))) (c:Wp (λn=>body n (enc N)) λr=>r= .inr (.inr oE)) (a:Q (if l8 f N=0 then .inr oE else .inl (oB (l8 f N)))):Wp (λn=>a8 n (body n) (enc 0)) Q:=by
 refine b9 (N:=N) (I:=λi s=>s=enc i/\l8 f N=GA f i (N - i)) ⟨rfl,rfl⟩ (λi s d hs=>?_) λs hs=>?_
 ·obtain⟨rfl,hd⟩:=hs;refine wp_mono (h i d) λr hr=>?_;subst hr;rw[show N - i=(N - (i+1))+1 by omega]at hd;simp only[GA]at hd;by_cases e:f i=0;·rw[if_pos e]at hd⊢;exact⟨rfl,hd⟩
  ·rw[if_neg e]at hd⊢;rw[hd,if_neg e]at a;exact a
 ·obtain⟨rfl,hd⟩:=hs;refine wp_mono c λr hr=>?_;subst hr;rw[Nat.sub_self]at hd;rw[if_pos (show l8 f N=0 from hd)]at a;exact a
theorem AR{α ρ β b:Type}{l:List α}{f:α->Int}{enc:Nat->ρ}{oB:Int->β}{oE:b}{body:Nat->ρ->Option (ρ⊕β⊕b)}{Q:β⊕b->Prop} (h:∀i (a:i<l.length),Wp (λn=>body n (enc i)) λr=>r=if f l[i]=0 then .inl (enc (i+1))else .inr (.inl (oB (f l[i])))) (d:Wp (λn=>body n (enc l.length)) λr=>r= .inr (.inr oE)) (c:Q (if ef f l=0 then .inr oE else .inl (oB (ef f l)))):Wp (λn=>a8 n (body n) (enc 0)) Q:=by
 refine yo (f:=λi=>match l[i]? with|some x=>f x|none=>0) (oB:=oB) (λi a=>?_) d c
 have:=h i a;simp only[b_ a];exact this
end Go.Ev
namespace Go.Pl
open Go Go.Av Go.Ev
abbrev OW:Type:=Int×(Int×Unit)
abbrev Ut:Type:=Int×(List UInt8×(Int×(OW×(Bool×Unit))))
abbrev yr:Type:=Int×(Int×(Int×(Int×(Int×Unit))))
abbrev Fw:Type:=List UInt8×(List Ut×(List yr×(Int×Unit)))
abbrev Mt:Type:=List UInt8×(List Fw×(Int×Unit))
abbrev Uu:Type:=Bool×(OW×(Int×(Int×Unit)))
abbrev V8:Type:=List UInt8×(List Uu×Unit)
abbrev V7:Type:=Bool×(List UInt8×Unit)
abbrev V6:Type:=List UInt8×(List V7×Unit)
abbrev Vm:Type:=Bool×(Int×(Int×Unit))
abbrev V5:Type:=List UInt8×(List Vm×Unit)
abbrev PS:Type:=List V8×(List V6×(List V5×(List Mt×Unit)))
abbrev yP:Ty:=pr [tW,tI]
abbrev yM:Ty:=pr [tI,tS,tI,yP,tB]
abbrev yA:Ty:=pr [tI,tI,tI,tW,tW]
abbrev yT:Ty:=pr [tS,.list yM,.list yA,tI]
abbrev yO:Ty:=pr [tS,.list yT,tI]
abbrev yR:Ty:=pr [tB,yP,tI,tI]
abbrev yL:Ty:=pr [tS,.list yR]
abbrev yH:Ty:=pr [tB,tS]
abbrev yG:Ty:=pr [tS,.list yH]
abbrev yC:Ty:=pr [tB,tI,tI]
abbrev yD:Ty:=pr [tS,.list yC]
abbrev yS:Ty:=pr [.list yL,.list yG,.list yD,.list yO]
def mq(p:OW):Bool:=(decide (0<=p.2.1)&&decide (p.2.1<=32))&&(HG p.1 p.2.1==p.1)
def EC(c:UInt8):Bool:=(((decide ((c.toNat:Int)>=97)&&decide ((c.toNat:Int)<=122))||(decide ((c.toNat:Int)>=65)&&decide ((c.toNat:Int)<=90)))||(decide ((c.toNat:Int)>=48)&&decide ((c.toNat:Int)<=57)))||((c.toNat:Int)==45)
def tq(s:List UInt8):Bool:=s.all EC&&(decide (1<=s.length)&&decide (s.length<=32))
def rp(r:Uu):Int:=if mq r.2.1=false then 1 else if r.2.2.1<r.2.1.2.1\/r.2.2.2.1<r.2.2.1\/r.2.2.2.1>32 then 5 else 0
def tD(r:Vm):Int:=if r.2.1< -1\/r.2.1>65535\/r.2.2.1< -1\/r.2.2.1>65535 then 5 else 0
def Na(a b:List UInt8):Bool:=Op.bytesLess a b||a==b
def qR(l:List (List UInt8))(i:Nat):Int:=match l[i]? with
 |none=>0
 |some x=>if tq x=false then 1 else if 0<i/\Na x (l.getD (i - 1) [])=true then 16 else 0
def MU{α:Type}(nm:α->List UInt8)(sz:α->Nat)(a:α->Int)(l:List α)(i:Nat):Int:=if qR (l.map nm) i≠0 then qR (l.map nm) i else match l[i]? with
 |none=>0
 |some x=>if sz x>64 then 4 else a x
def iW{α:Type}(nm:α->List UInt8)(sz:α->Nat)(a:α->Int)(l:List α):Int:=if l.length>64 then 4 else l8 (MU nm sz a l) l.length
def UJ(k:Int):Int:=if k=4 then 1 else 0
def Q6(k:Int):Int:=if k=4 then 7 else if k=5 then 4294967295 else if k=6 then 16777216 else 2000
def Q9(s:PS)(k:Int)(n:List UInt8):Bool:=if k=1 then s.1.any (·.1==n)else if k=2 then s.2.1.any (·.1==n)else s.2.2.1.any (·.1==n)
def uU(s:PS)(m:Ut):Int:=
 if m.1<1\/8<m.1 then 15
 else if(3<m.1/\m.2.1≠[])\/(¬(m.1=4\/m.1=5\/m.1=6\/m.1=8)/\m.2.2.1≠0)\/(m.1≠7/\(m.2.2.2.1.1≠0\/m.2.2.2.1.2.1≠0))then 1
 else if m.1<=3 then(if Q9 s m.1 m.2.1 then 0 else 6)
 else if m.1=7 then(if mq m.2.2.2.1 then 0 else 1)
 else if m.2.2.1<UJ m.1\/Q6 m.1<m.2.2.1 then 5 else 0
def lg(a:yr):yr:=if a.1<=4 then(a.1,a.2.1,0,0,0,())else if a.1=5 then(a.1,0,0,0,a.2.2.2.2.1,())else if a.1<=7 then(a.1,0,0,a.2.2.2.1,0,())else(a.1,a.2.1,a.2.2.1,0,0,())
def jc(a:yr):Bool:=if a.1=3 then decide (0<=a.2.1)&&decide (a.2.1<=16777216)else if a.1<=4 then decide (0<=a.2.1)&&decide (a.2.1<=4294967295)else if a.1=5 then a.2.2.2.2.1 != 0
 else if a.1<=7 then true else(decide (1<=a.2.2.1)&&decide (a.2.2.1<=4294967295))&&(decide (1<=a.2.1)&&decide (a.2.1<=16))
def eP(a:yr):Int:=if a.1<1\/8<a.1 then 15 else if ¬a=lg a then 1 else if jc a=false then 5 else 0
theorem S9(a b:yr):oR yA a b=true↔a=b:=by obtain⟨c,d,e,f,g,⟨⟩⟩:=a;obtain⟨h,j,k,l,n,⟨⟩⟩:=b;simp[oR]
def mj(s:PS)(a:List Fw)(t:Fw):Int:=
 if tq t.1=false then 1
 else if a.any (·.1==t.1)=true then 7
 else if t.2.1.length>64 then 4
 else if ef (uU s) t.2.1≠0 then ef (uU s) t.2.1
 else if t.2.2.1.length>64 then 4
 else if ef eP t.2.2.1≠0 then ef eP t.2.2.1
 else if t.2.2.2.1<1\/3<t.2.2.2.1 then 15 else 0
def sD(s:PS)(p:Mt):Int:=
 if l8 (λi=>match p.2.1[i]? with|some t=>mj s (p.2.1.take i) t|none=>0) p.2.1.length≠0 then l8 (λi=>match p.2.1[i]? with|some t=>mj s (p.2.1.take i) t|none=>0) p.2.1.length
 else if p.2.2.1≠1/\p.2.2.1≠2 then 15 else 0
def RN(pe:List UInt8->Int)(s:PS):Int:=
 if iW (·.1) (λl=>l.2.1.length) (λl=>ef rp l.2.1) s.1≠0 then iW (·.1) (λl=>l.2.1.length) (λl=>ef rp l.2.1) s.1
 else if iW (·.1) (λl=>l.2.1.length) (λl=>ef (λr=>pe r.2.1) l.2.1) s.2.1≠0 then iW (·.1) (λl=>l.2.1.length) (λl=>ef (λr=>pe r.2.1) l.2.1) s.2.1
 else if iW (·.1) (λl=>l.2.1.length) (λl=>ef tD l.2.1) s.2.2.1≠0 then iW (·.1) (λl=>l.2.1.length) (λl=>ef tD l.2.1) s.2.2.1
 else iW (·.1) (λp=>p.2.1.length) (sD s) s.2.2.2.1
theorem yc{s:PS}{k N a pl:Int}{nm:List UInt8}{c:Bool}(h:k=1\/k=2\/k=3):uU s (k,nm,N,(a,pl,()),c,())=if N≠0\/a≠0\/pl≠0 then 1 else if Q9 s k nm then 0 else 6:=by
 unfold uU;rw[if_neg (by show ¬(k<1\/8<k);omega)];by_cases e:N≠0\/a≠0\/pl≠0
 ·rw[if_pos e,if_pos];show(3<k/\nm≠[])\/(¬(k=4\/k=5\/k=6\/k=8)/\N≠0)\/(k≠7/\(a≠0\/pl≠0));rcases e with e|e;·exact .inr (.inl ⟨by omega,e⟩)
  ·exact .inr (.inr ⟨by omega,e⟩)
 ·rw[if_neg e,if_neg,if_pos (show k<=3 by omega)];show ¬((3<k/\nm≠[])\/(¬(k=4\/k=5\/k=6\/k=8)/\N≠0)\/(k≠7/\(a≠0\/pl≠0)));rintro(⟨b,_⟩|⟨_,b⟩|⟨_,b⟩);·omega
  ·exact e (.inl b)
  ·exact e (.inr b)
theorem Rl{s:PS}{N b pl:Int}{nm:List UInt8}{c:Bool}:uU s (7,nm,N,(b,pl,()),c,())=if nm≠[]\/N≠0 then 1 else if mq (b,pl,())then 0 else 1:=by
 unfold uU;rw[if_neg (by show ¬((7:Int)<1\/8<(7:Int));omega)];by_cases e:nm≠[]\/N≠0
 ·rw[if_pos e,if_pos];show(3<(7:Int)/\nm≠[])\/(¬((7:Int)=4\/(7:Int)=5\/(7:Int)=6\/(7:Int)=8)/\N≠0)\/((7:Int)≠7/\(b≠0\/pl≠0));rcases e with e|e;·exact .inl ⟨by omega,e⟩
  ·exact .inr (.inl ⟨by omega,e⟩)
 ·rw[if_neg e,if_neg,if_neg (show ¬(7:Int)<=3 by omega),if_pos (show(7:Int)=7 from rfl)];show ¬((3<(7:Int)/\nm≠[])\/(¬((7:Int)=4\/(7:Int)=5\/(7:Int)=6\/(7:Int)=8)/\N≠0)\/((7:Int)≠7/\(b≠0\/pl≠0)));rintro(⟨_,a⟩|⟨_,a⟩|⟨a,_⟩);·exact e (.inl a)
  ·exact e (.inr a)
  ·exact a rfl
theorem Rm{s:PS}{k N b pl:Int}{nm:List UInt8}{c:Bool}(h:k=4\/k=5\/k=6\/k=8):uU s (k,nm,N,(b,pl,()),c,())=if nm≠[]\/b≠0\/pl≠0 then 1 else if N<UJ k\/Q6 k<N then 5 else 0:=by
 unfold uU;rw[if_neg (by show ¬(k<1\/8<k);omega)];by_cases e:nm≠[]\/b≠0\/pl≠0
 ·rw[if_pos e,if_pos];show(3<k/\nm≠[])\/(¬(k=4\/k=5\/k=6\/k=8)/\N≠0)\/(k≠7/\(b≠0\/pl≠0));rcases e with e|e;·exact .inl ⟨by omega,e⟩
  ·exact .inr (.inr ⟨by omega,e⟩)
 ·rw[if_neg e,if_neg,if_neg (show ¬k<=3 by omega),if_neg (show ¬k=7 by omega)];show ¬((3<k/\nm≠[])\/(¬(k=4\/k=5\/k=6\/k=8)/\N≠0)\/(k≠7/\(b≠0\/pl≠0)));rintro(⟨_,a⟩|⟨a,_⟩|⟨_,a⟩);·exact e (.inl a)
  ·exact a h
  ·exact e (.inr a)
theorem Rk{s:PS}{m:Ut}(h:m.1<1\/8<m.1):uU s m=15:=by unfold uU;rw[if_pos h]
structure SmP(s:PS):Prop where
 ok:okD yS s
 l1:s.1.length<=1048576
 l2:s.2.1.length<=1048576
 l3:s.2.2.1.length<=1048576
 l4:s.2.2.2.1.length<=1048576
 pt:∀l∈s.2.1,∀r∈l.2.1,r.2.1.length<=1048576
structure TrmOk(s:PS)(t:Fw):Prop where
 nm:tq t.1=true
 ml:t.2.1.length<=64
 ma:∀m∈t.2.1,uU s m=0
 al:t.2.2.1.length<=64
 ac:∀a∈t.2.2.1,eP a=0
 ve:1<=t.2.2.2.1/\t.2.2.2.1<=3
structure PlcOk(s:PS)(p:Mt):Prop where
 tl:p.2.1.length<=64
 tr:∀t∈p.2.1,TrmOk s t
 df:p.2.2.1=1\/p.2.2.1=2
structure PolOk(pe:List UInt8->Int)(s:PS):Prop where
 l1:s.1.length<=64
 r1:∀l∈s.1,l.2.1.length<=64/\∀r∈l.2.1,rp r=0
 l2:s.2.1.length<=64
 r2:∀l∈s.2.1,l.2.1.length<=64/\∀r∈l.2.1,pe r.2.1=0
 l3:s.2.2.1.length<=64
 r3:∀l∈s.2.2.1,l.2.1.length<=64/\∀r∈l.2.1,tD r=0
 l4:s.2.2.2.1.length<=64
 r4:∀p∈s.2.2.2.1,PlcOk s p
end Go.Pl
namespace Go.Cm
def insGo(x:Int):List Int->Bool->List Int
 |[],d=>if d then []else [x]
 |y::r,d=>(if !d&&decide (x<=y)then [x]else [])++((if y != x then [y]else [])++insGo x r (d||decide (x<=y)))
abbrev ins(x:Int)(l:List Int):List Int:=insGo x l false
def asc(l:List Int):List Int:=l.foldl (λo x=>ins x o) []
abbrev Up(l:List Int):Prop:=l.Pairwise (·<·)
theorem BH(x z:Int):∀(l:List Int) (d:Bool),z∈insGo x l d↔(z∈l/\z≠x)\/(d=false/\z=x)
 |[],d=>by cases d<;>simp[insGo]
 |y::r,d=>by have:=BH x z r (d||decide (x<=y));grind [insGo]
theorem Ol(x z:Int)(l:List Int):z∈ins x l↔z∈l\/z=x:=by have:=BH x z l false;grind
theorem V0:∀(a b:List Int),Up a->Up b->(∀z,z∈a↔z∈b)->a=b
 |[],[],_,_,_=>rfl
 |[],y::b,_,_,h=>by have:=h y;simp at this
 |y::b,[],_,_,h=>by have:=h y;simp at this
 |x::a,y::b,c,d,h=>by
  have f:=(h x).1 (by simp);have g:=(h y).2 (by simp);unfold Up at c d;rw[z_]at c d;have e:x=y:=by grind
  subst e;rw[V0 a b c.2 d.2];grind
theorem HM(x:Int):∀(l:List Int) (d:Bool),(insGo x l d).length<=l.length+(if d then 0 else 1)
 |[],d=>by cases d<;>simp[insGo]
 |y::r,d=>by have:=HM x r (d||decide (x<=y));grind [insGo]
theorem len_ins(x:Int)(l:List Int):(ins x l).length<=l.length+1:=HM x l false
theorem Mg(x:Int):∀(l:List Int) (d:Bool),Up l->(d=true->∀z∈l,x<=z)->Up (insGo x l d)
 |[],d,_,_=>by cases d<;>simp[insGo]
 |y::r,d,hl,hd=>by unfold Up at hl⊢;rw[z_]at hl;have b:=Mg x r (d||decide (x<=y)) hl.2 (by grind);have a:=λz=>BH x z r (d||decide (x<=y));simp only[insGo,j_];grind [List.Pairwise.nil]
theorem SA(x:Int)(l:List Int)(h:Up l):Up (ins x l):=Mg x l false h (by simp)
theorem fold_ins:∀(l o:List Int),Up o->Up (l.foldl (λo x=>ins x o) o)/\(∀z,z∈l.foldl (λo x=>ins x o) o↔z∈o\/z∈l)/\(l.foldl (λo x=>ins x o) o).length<=o.length+l.length
 |[],o,h=>⟨h,by simp,by simp⟩
 |x::l,o,h=>by
  have⟨a,b,d⟩:=fold_ins l (ins x o) (SA x o h);have:=len_ins x o;have c:=λz=>Ol x z o;refine⟨a,λz=>?_,?_⟩;·rw[s_,b,c];grind
  ·rw[s_];grind
theorem Sz(l:List Int):Up (asc l):=(fold_ins l [] List.Pairwise.nil).1
theorem Ts(l:List Int)(z:Int):z∈asc l↔z∈l:=by have:=(fold_ins l [] List.Pairwise.nil).2.1 z;simpa[asc]using this
theorem len_asc(l:List Int):(asc l).length<=l.length:=by have:=(fold_ins l [] List.Pairwise.nil).2.2;simpa[asc]using this
theorem QG{l o:List Int}(h:Up o)(a:∀z,z∈o↔z∈l):o=asc l:=V0 _ _ h (Sz l) (by grind [Ts])
theorem Tk(x:Int)(l:List Int):ins x (asc l)=asc (asc l++[x]):=QG (SA x _ (Sz l)) (by intro z;rw[Ol];simp)
theorem insGo_step(x:Int)(l:List Int)(k:Nat)(d:Bool)(h:k<l.length):insGo x (l.drop k) d=(if !d&&decide (x<=l.getD k 0)then [x]else [])++((if l.getD k 0 != x then [l.getD k 0]else [])++insGo x (l.drop (k+1)) (d||decide (x<=l.getD k 0))):=by
 have e:l.getD k 0=l[k]:=by simp[e_,b_ h]
 rw[e,List.drop_eq_getElem_cons h];rfl
theorem pu{l:List Int}{k:Nat}(h:k<l.length):l.take (k+1)=l.take k++[l.getD k 0]:=by
 have e:l.getD k 0=l[k]:=by simp[e_,b_ h]
 rw[h_ h,e]
def left(l a:List Int):Nat:=l.countP λz=>a.all (λy=>decide (y<z))
theorem left_step{l a:List Int}{b:Int}(c:b∈l)(f:∀y∈a,y<b):left l (a++[b])+1<=left l a:=by
 unfold left;induction l with
 |nil=>simp at c|cons z l n=>
  rw[B_,B_];have j:l.countP (λz=>(a++[b]).all λy=>decide (y<z))<=l.countP (λz=>a.all λy=>decide (y<z)):=by apply List.countP_mono_left;intro z _ h;simp only[E_,o_]at h;exact h.1
  by_cases e:z=b
  ·subst e;have g:((a++[z]).all λy=>decide (y<z))=false:=by simp
   have k:(a.all λy=>decide (y<z))=true:=by simpa using f
   rw[g,k];simp only[Bool.false_eq_true,if_false,if_true];omega
  ·have d:b∈l:=by simp at c;rcases c with h|h;exact absurd h.symm e;exact h
   have p:=n d;have g:(if((a++[b]).all λy=>decide (y<z))=true then 1 else 0)<=(if(a.all λy=>decide (y<z))=true then 1 else 0):=by
    split;·rename_i h;simp only[E_,o_]at h;rw[if_pos h.1];exact n_ 1
    ·exact J_ _
   omega
structure Best(l out:List Int)(k:Nat)(found:Bool)(best:Int):Prop where
 yes:found=true->best∈l/\(∀y∈out,y<best)
 least:∀z∈l.take k,(∀y∈out,y<z)->found=true/\best<=z
structure Out(l out:List Int):Prop where
 up:Up out
 sub:∀z∈out,z∈l
 all:∀z∈l,z∈out\/∀y∈out,y<z
 len:out.length+left l out<=l.length
theorem Out.zero(l:List Int):Out l []:=⟨List.Pairwise.nil,by simp,by simp,by simp[left]⟩
theorem Out.step{l E:List Int}{b:Int}(h:Out l E)(J:Best l E l.length true b):Out l (E++[b]):=by
 obtain⟨R,U⟩:=J.yes rfl;have hl:=left_step R U;have H:=J.least;rw[D_]at H;refine⟨?_,?_,λz N=>?_,?_⟩;·have:=h.up;unfold Up at this⊢;rw[j_];grind
 ·have:=h.sub;grind
 ·rcases h.all z N with I|I;·grind
  ·have:=(H z N I).2;by_cases e:z=b;·left;simp[e]
   ·right;grind
 ·have:=h.len;simp;omega
theorem Out.outDone{l E:List Int}{b:Int}(h:Out l E)(N:Best l E l.length false b):E=asc l:=by
 refine QG h.up λz=>⟨h.sub z,λJ=>?_⟩;have I:=N.least;rw[D_]at I;rcases h.all z J with H|H;·exact H
 ·have:=(I z J H).1;cases this
theorem last_gt{a:List Int}(h:Up a)(b:a≠[])(z:Int):(∀y∈a,y<z)↔a.getD (a.length - 1) 0<z:=by
 have hl:a.length - 1<a.length:=by have:=List.length_pos_iff.2 b;omega
 have e:a.getD (a.length - 1) 0=a[a.length - 1]:=by simp[e_,b_ hl]
 rw[e];refine⟨λh=>h _ (C_ hl),λf y d=>?_⟩;obtain⟨i,c,rfl⟩:=List.getElem_of_mem d;unfold Up at h;rw[m_]at h;by_cases e:i=a.length - 1;·subst e;exact f
 ·have:=h i (a.length - 1) c hl (by omega);omega
theorem Best.zero(l z:List Int)(b:Int):Best l z 0 false b:=⟨by simp,by simp⟩
theorem Best.take{l E:List Int}{k:Nat}{f:Bool}{b:Int}(h:Best l E k f b)(H:k<l.length)(I:∀y∈E,y<l.getD k 0)(R:f=false\/l.getD k 0<b):Best l E (k+1) true (l.getD k 0):=by
 have e:l.getD k 0=l[k]:=by simp[e_,b_ H]
 have J:l.getD k 0∈l:=by rw[e];exact C_ H
 refine⟨λ_=>⟨J,I⟩,λz N hg=>⟨rfl,?_⟩⟩;rw[pu H]at N;have:=h.least z;grind
theorem Best.skip{l E:List Int}{k:Nat}{f:Bool}{b:Int}(h:Best l E k f b)(H:k<l.length)(J:(∀y∈E,y<l.getD k 0)->f=true/\b<=l.getD k 0):Best l E (k+1) f b:=by refine⟨h.yes,λz I hg=>?_⟩;rw[pu H]at I;have:=h.least z;grind
theorem up_take{l:List Int}{k:Nat}(h:Up (l.take k))(j:k<l.length)(c:k=0\/l.getD (k - 1) 0<l.getD k 0):Up (l.take (k+1)):=by
 rw[pu j];by_cases e:l.take k=[];·rw[e];simp
 ·have:=(last_gt h e (l.getD k 0)).2 ?_;·unfold Up at h⊢;rw[j_];refine⟨h,by simp,λa g b f=>?_⟩;simp only[l_]at f;rw[f];exact this a g
  ·have d:k≠0:=by intro h;subst h;simp at e
   have:(l.take k).getD ((l.take k).length - 1) 0=l.getD (k - 1) 0:=by simp only[e_,List.length_take,List.getElem?_take];rw[show min k l.length=k by omega,if_pos (by omega)]
   rw[this];rcases c with c|c;·exact absurd c d
   ·exact c
theorem not_up{l:List Int}{k:Nat}(a:k<l.length)(d:0<k)(e:l.getD k 0<=l.getD (k - 1) 0):¬Up l:=by
 intro h;unfold Up at h;rw[m_]at h;have:=h (k - 1) k (by omega) a (by omega);have b:l.getD k 0=l[k]:=by simp[e_,b_ a]
 have c:l.getD (k - 1) 0=l[k - 1]:=by simp[e_,b_ (show k - 1<l.length by omega)]
 omega
def check(l:List Int):Int:=if 255<l.length then 4 else if Up l then 0 else 16
theorem check_long{l:List Int}(h:255<l.length):check l=4:=by unfold check;rw[if_pos h]
theorem check_up{l:List Int}(h:¬255<l.length)(a:Up l):check l=0:=by unfold check;rw[if_neg h,if_pos a]
theorem check_not{l:List Int}(h:¬255<l.length)(a:¬Up l):check l=16:=by unfold check;rw[if_neg h,if_neg a]
def add(l:List Int)(c:Int):List Int:=if 255<=(asc l).length/\c∉asc l then asc l else ins c (asc l)
def drop(l:List Int)(c:Int):List Int:=(asc l).filter (λx=>x != c)
theorem add_eq(l:List Int)(c:Int):ins c (asc l)=asc (asc l++[c]):=Tk c l
end Go.Cm
namespace Go.Pl
open Go Go.Av Go.Ev
abbrev vH:Type:=OW×(Int×(Int×(List Int×(List Int×(Int×(Int×(Int×(Int×Unit))))))))
abbrev Mq:Ty:=pr [yP,tI,tW,.list tI,.list tW,tI,tI,tI,tI]
abbrev gH(x:Int):Prop:=0<=x/\x<=4294967295
def AD(r:vH):Int:=
 if mq r.1=false then 1
 else if r.2.1<1\/7<r.2.1 then 5
 else if r.2.2.2.1.length>2000 then 4
 else if ¬∀v∈r.2.2.2.1,1<=v/\v<=4294967295 then 5
 else if Cm.check r.2.2.2.2.1≠0 then Cm.check r.2.2.2.2.1
 else if ¬(gH r.2.2.2.2.2.1/\gH r.2.2.2.2.2.2.1/\gH r.2.2.2.2.2.2.2.2.1)\/r.2.2.2.2.2.2.2.1<0\/16777216<r.2.2.2.2.2.2.2.1 then 5 else 0
def CC(a:yr):vH->vH
 |(p,b,d,pt,cm,e,c,mt,f,u)=>
  if a.1=1 then(p,b,d,pt,cm,a.2.1,c,mt,f,u)
  else if a.1=2 then(p,b,d,pt,cm,e,a.2.1,mt,f,u)
  else if a.1=3 then(p,b,d,pt,cm,e,c,a.2.1,f,u)
  else if a.1=4 then(p,b,d,pt,cm,e,c,mt,a.2.1,u)
  else if a.1=5 then(p,b,a.2.2.2.2.1,pt,cm,e,c,mt,f,u)
  else if a.1=6 then(p,b,d,pt,Cm.add cm a.2.2.2.1,e,c,mt,f,u)
  else if a.1=7 then(p,b,d,pt,Cm.drop cm a.2.2.2.1,e,c,mt,f,u)
  else if(pt.length:Int)+a.2.1<=2000 then(p,b,d,List.replicate a.2.1.toNat a.2.2.1++pt,cm,e,c,mt,f,u)
  else(p,b,d,pt,cm,e,c,mt,f,u)
def DC(a:yr)(r:vH):vH:=if eP a=0 then CC a r else r
def Cz(l:List yr)(r:vH):vH:=l.foldl (λr a=>DC a r) r
def K8(a:Fw->Bool):List Fw->Nat->Int->List Int×List yr×Int
 |[],_,d=>([],[],d)
 |t::l,i,d=>if a t then(if t.2.2.2.1≠3 then([(i:Int)],t.2.2.1,t.2.2.2.1)else((i:Int)::(K8 a l (i+1) d).1,t.2.2.1++(K8 a l (i+1) d).2.1,(K8 a l (i+1) d).2.2))else K8 a l (i+1) d
structure SmR(k:Nat)(r:vH):Prop where
 pt:r.2.2.2.1.length<=100000
 cm:r.2.2.2.2.1.length<=k
theorem To(l:List Int)(c:Int):(Cm.add l c).length<=l.length+1:=by have a:=Cm.len_asc l;have b:=Cm.len_ins c (Cm.asc l);unfold Cm.add;split<;>omega
theorem Rc(l:List Int)(c:Int):(Cm.drop l c).length<=l.length:=by have a:=Cm.len_asc l;unfold Cm.drop;have:=List.length_filter_le (λx=>x != c) (Cm.asc l);omega
theorem UF{a:yr}(w:eP a=0){k:Nat}{r:vH}(h:SmR k r):SmR (k+1) (CC a r):=by
 obtain⟨p,l,j,pt,cm,y,x,mt,z,u⟩:=r;obtain⟨c,n⟩:=h;simp only at c n;have s:=To cm a.2.2.2.1;have v:=Rc cm a.2.2.2.1;have f:(Cm.add cm a.2.2.2.1).length<=k+1:=by omega
 have g:∀(p:OW) (l j:Int) (e d:List Int) (t:Int×Int×Int×Int×Unit),e.length<=100000->d.length<=k+1->SmR (k+1) (p,l,j,e,d,t):=λ_ _ _ _ _ _ a b=>⟨a,b⟩;simp only[CC];split;·exact g _ _ _ _ _ _ c (by omega)
 split;·exact g _ _ _ _ _ _ c (by omega)
 split;·exact g _ _ _ _ _ _ c (by omega)
 split;·exact g _ _ _ _ _ _ c (by omega)
 split;·exact g _ _ _ _ _ _ c (by omega)
 split;·exact g _ _ _ _ _ _ c f
 split;·exact g _ _ _ _ _ _ c (by omega)
 split;·rename_i h;exact g _ _ _ _ _ _ (by rw[d_,List.length_replicate];omega) (by omega)
 ·exact g _ _ _ _ _ _ c (by omega)
theorem SZ{a:yr}{k:Nat}{r:vH}(h:SmR k r):SmR (k+1) (DC a r):=by
 unfold DC;split;·rename_i b;exact UF b h
 ·exact⟨h.pt,by have:=h.cm;omega⟩
theorem ID{l:List yr}:∀{k:Nat} {r:vH},SmR k r->SmR (k+l.length) (Cz l r):=by induction l with|nil=>intro k r h;exact h|cons a l b=>intro k r h;have:=b (SZ (a:=a) h);unfold Cz at this⊢;rw[s_,p_];rwa [show k+(l.length+1)=k+1+l.length by omega]
abbrev OT(a:yr):PS:=([],[],[],[([112],[([116],[],[a],1,())],1,())],())
theorem Vb(pe:List UInt8->Int)(a:yr):RN pe (OT a)=eP a:=by
 have k:∀s:PS,mj s [] (([116],[],[a],1,()):Fw)=eP a:=λs=>by
  have f:ef (uU s) ([]:List Ut)=0:=rfl;have g:ef eP [a]=eP a:=by
   show(if eP a=0 then 0 else eP a)=eP a;split;·rename_i h;exact h.symm
   ·rfl
  unfold mj;rw[if_neg (by show ¬tq [116]=false;decide),if_neg (by show ¬false=true;decide),if_neg (by show ¬(0>64);decide),f,if_neg (λh=>h rfl),if_neg (by show ¬(1>64);decide),g];by_cases h:eP a=0;·rw[if_neg (not_not_intro h),h];rfl
  ·rw[if_pos h]
 have j:∀s:PS,sD s (([112],[([116],[],[a],1,())],1,()):Mt)=eP a:=λs=>by
  have e:l8 (λi=>match([([116],[],[a],1,())]:List Fw)[i]? with|some t=>mj s (([([116],[],[a],1,())]:List Fw).take i) t|none=>0) 1=eP a:=by
   show(if mj s [] (([116],[],[a],1,()):Fw)=0 then 0 else mj s [] (([116],[],[a],1,()):Fw))=eP a;rw[k];split;·rename_i h;exact h.symm
   ·rfl
  unfold sD;show(if l8 (λi=>match([([116],[],[a],1,())]:List Fw)[i]? with|some t=>mj s (([([116],[],[a],1,())]:List Fw).take i) t|none=>0) 1≠0 then l8 (λi=>match([([116],[],[a],1,())]:List Fw)[i]? with|some t=>mj s (([([116],[],[a],1,())]:List Fw).take i) t|none=>0) 1 else if(1:Int)≠1/\(1:Int)≠2 then 15 else 0)=eP a
  rw[e];by_cases h:eP a=0;·rw[if_neg (not_not_intro h),if_neg (by decide),h]
  ·rw[if_pos h]
 have l4:∀s:PS,iW (·.1) (λp=>p.2.1.length) (sD s) ([([112],[([116],[],[a],1,())],1,())]:List Mt)=eP a:=λs=>by
  have d:MU (·.1) (λp=>p.2.1.length) (sD s) ([([112],[([116],[],[a],1,())],1,())]:List Mt) 0=eP a:=by
   unfold MU;rw[if_neg (show ¬(qR (([([112],[([116],[],[a],1,())],1,())]:List Mt).map (·.1)) 0≠0) by show ¬(qR [[112]] 0≠0);decide)]
   show(if(1:Nat)>64 then 4 else sD s _)=eP a;rw[if_neg (by decide),j]
  unfold iW;rw[if_neg (by show ¬(1>64);decide)];show(if MU (·.1) (λp=>p.2.1.length) (sD s) ([([112],[([116],[],[a],1,())],1,())]:List Mt) 0=0 then 0 else MU (·.1) (λp=>p.2.1.length) (sD s) ([([112],[([116],[],[a],1,())],1,())]:List Mt) 0)=eP a;rw[d];split;·rename_i h;exact h.symm
  ·rfl
 unfold RN;have b:∀{α:Type} (nm:α->List UInt8) (sz:α->Nat) (c:α->Int),iW nm sz c []=0:=λ_ _ _=>rfl;show(if iW _ _ _ ([]:List V8)≠0 then _ else if iW _ _ _ ([]:List V6)≠0 then _ else if iW _ _ _ ([]:List V5)≠0 then _ else iW (·.1) (λp=>p.2.1.length) (sD (OT a)) ([([112],[([116],[],[a],1,())],1,())]:List Mt))=eP a;rw[if_neg (not_not_intro (b _ _ _)),if_neg (not_not_intro (b _ _ _)),if_neg (not_not_intro (b _ _ _)),l4]
end Go.Pl
