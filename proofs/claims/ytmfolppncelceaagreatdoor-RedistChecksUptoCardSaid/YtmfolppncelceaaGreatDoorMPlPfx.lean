import Derived.Test.YtmfolppncelceaaGreatDoorML7
import Derived.Test.YtmfolppncelceaaGreatDoorML5
import Derived.Lib.ItoaNum
set_option linter.unusedVariables false
set_option linter.unusedSimpArgs false
open Bool renaming false_and->e_,true_and->g_,and_eq_false_iff->m_,or_eq_false_iff->o_
open Classical renaming byContradiction->c_
open Go.IntKind renaming bits->f_,wrap->y_
open List renaming getElem?_append_left->a_,getElem?_eq_getElem->b_,getElem?_eq_some_iff->d_,mem_iff_getElem->h_,length_append->j_,length_singleton->n_,map_cons->q_,sum_cons->r_,mem_cons_self->s_,mem_singleton->t_,cons_append->u_,length_cons->v_,mem_cons->x_,getD->A_
open Nat renaming eq_of_testBit_eq->i_,testBit_mod_two_pow->k_,testBit_mul_two_pow->l_,le_refl->p_,strongRecOn->w_,le_trans->z_
namespace Go.Pl
open Go Go.Av Go.Ev
def uU(x n:Nat):Nat:=x>>>(32 - n) <<< (32 - n)
def L4(x n:Int):Int:=(uU x.toNat n.toNat:Int)
theorem xn(x n j:Nat):(uU x n).testBit j=(decide (32 - n<=j)&&x.testBit j):=by
 unfold uU
 rw[Nat.testBit_shiftLeft]
 by_cases h:32 - n<=j
 ·rw[decide_eq_true (show j>=32 - n from h),Nat.testBit_shiftRight]
  congr 2;omega
 ·rw[decide_eq_false (show ¬j>=32 - n from h),e_,e_]
theorem Sp(x n:Nat):uU x n<=x:=by
 unfold uU
 rw[Nat.shiftLeft_eq,Nat.shiftRight_eq_div_pow]
 exact Nat.div_mul_le_self _ _
theorem LW{x:Nat}(hx:x<4294967296){j:Nat}(hj:32<=j):x.testBit j=false:=
 Nat.testBit_lt_two_pow (Nat.lt_of_lt_of_le hx (z_ (show 4294967296<=2^32 by decide) (Nat.pow_le_pow_right (by decide) hj)))
theorem Qx{x n:Nat}(hx:x<4294967296)(hn:n<=32):x&&&(4294967295*2^(32 - n)%4294967296)=uU x n:=by
 refine i_ λj=>?_
 rw[Nat.testBit_and,xn]
 by_cases hj:j<32
 ·have e:(4294967295*2^(32 - n)%4294967296).testBit j=decide (32 - n<=j):=by
   rw[show(4294967296:Nat)=2^32 from rfl,k_,decide_eq_true hj,g_,l_]
   by_cases h:32 - n<=j
   ·rw[decide_eq_true (show j>=32 - n from h),g_,show(4294967295:Nat)=2^32 - 1 from rfl,Nat.testBit_two_pow_sub_one]
    exact decide_eq_true (by omega)
   ·rw[decide_eq_false (show ¬j>=32 - n from h)];rfl
  rw[e,Bool.and_comm]
 ·rw[LW hx (by omega)]
  simp
theorem Qz{x:Nat}(hx:x<4294967296):uU x 0=0:=by
 refine i_ λj=>?_
 rw[xn,Nat.zero_testBit]
 by_cases hj:32<=j
 ·rw[LW hx hj,Bool.and_false]
 ·rw[decide_eq_false (by omega),e_]
theorem Qy(x:Nat){i:Nat}(hi:i<32):uU x (i+1)=uU x i|||(x/2^(31 - i)%2)*2^(31 - i):=by
 refine i_ λj=>?_
 rw[Nat.testBit_or,xn,xn,l_]
 have h2:∀k,(x/2^(31 - i)%2).testBit k=(decide (k=0)&&x.testBit (31 - i)):=λk=>by
  rw[show(2:Nat)=2^1 from rfl,k_]
  by_cases hk:k=0
  ·subst hk
   rw[decide_eq_true (by omega),decide_eq_true rfl,g_,g_,Nat.testBit_div_two_pow,Nat.zero_add]
  ·rw[decide_eq_false (by omega),decide_eq_false hk,e_,e_]
 rw[h2]
 by_cases h1:j=31 - i
 ·subst h1
  rw[decide_eq_true (by omega),decide_eq_false (by omega),decide_eq_true (by omega),decide_eq_true (by omega)]
  simp
 ·by_cases h3:32 - i<=j
  ·rw[decide_eq_true (by omega),decide_eq_true (by omega)]
   simp only[g_]
   rw[decide_eq_false (show ¬j - (31 - i)=0 by omega)]
   simp
  ·rw[decide_eq_false (by omega),decide_eq_false (by omega),decide_eq_false (show ¬j>=31 - i by omega)]
   simp
theorem Lr{x y:Nat}(hx:x<4294967296)(hy:y<4294967296):rG .u32 .and (x:Int) (y:Int)=((x&&&y:Nat):Int):=by
 show y_ .u32 ((BitVec.ofInt (f_ .u32) (x:Int)&&&BitVec.ofInt (f_ .u32) (y:Int)).toNat:Int)=_
 rw[wrap_u32,BitVec.toNat_and]
 have e:∀z:Nat,z<4294967296->(BitVec.ofInt (f_ .u32) (z:Int)).toNat=z:=λz hz=>by
  rw[BitVec.toNat_ofInt]
  show(((z:Int)%((2^32:Nat):Int))).toNat=z
  omega
 rw[e x hx,e y hy]
 have:x&&&y<=x:=Nat.and_le_left
 omega
theorem T6{x y:Nat}(hx:x<4294967296)(hy:y<4294967296):rG .u32 .or (x:Int) (y:Int)=((x|||y:Nat):Int):=by
 show y_ .u32 ((BitVec.ofInt (f_ .u32) (x:Int)|||BitVec.ofInt (f_ .u32) (y:Int)).toNat:Int)=_
 rw[wrap_u32,BitVec.toNat_or]
 have e:∀z:Nat,z<4294967296->(BitVec.ofInt (f_ .u32) (z:Int)).toNat=z:=λz hz=>by
  rw[BitVec.toNat_ofInt]
  show(((z:Int)%((2^32:Nat):Int))).toNat=z
  omega
 rw[e x hx,e y hy]
 have:x|||y<2^32:=Nat.or_lt_two_pow (by omega) (by omega)
 omega
section
variable {α β σ τ:Type}
theorem Mt{L L':List τ}(h:L<+:L'){i:Nat}{x:τ}(hx:L[i]? =some x):L'[i]? =some x:=by
 obtain⟨t,rfl⟩:=h
 rw[a_ (d_.1 hx).1];exact hx
section
variable {f:α->β->α} {s0:α} {ls:List β}
structure Ok(f:α->β->α)(s0:α)(ls:List β)(L:List α)(T:List (Nat×β)):Prop where
 nodup:L.Nodup
 len:L.length=T.length+1
 head:L[0]? =some s0
 link:∀k j c,T[k]? =some (j,c)->j<k+1/\c∈ls/\∃x,L[j]? =some x/\L[k+1]? =some (f x c)
theorem Ok.add{L:List α}{T:List (Nat×β)}(h:Ok f s0 ls L T){x:α}{i:Nat}{c:β}(hx:L[i]? =some x)(hc:c∈ls)(hn:f x c∉L):Ok f s0 ls (L++[f x c]) (T++[(i,c)]):=by
 have hi:i<L.length:=(d_.1 hx).1
 have hl:=h.len
 refine⟨?_,by simp[hl],?_,λk j c' hk=>?_⟩
 ·rw[List.nodup_append]
  exact⟨h.nodup,by simp,λa ha b hb=>by simp at hb;subst hb;rintro rfl;exact hn ha⟩
 ·rw[a_ (by omega)];exact h.head
 ·by_cases hk2:k<T.length
  ·rw[a_ hk2]at hk
   obtain⟨h1,h2,y,h3,h4⟩:=h.link k j c' hk
   exact⟨h1,h2,y,by rw[a_ (by omega)];exact h3,by rw[a_ (by omega)];exact h4⟩
  ·rw[List.getElem?_append_right (by omega)]at hk
   have hk3:k=T.length:=by
    have:=(d_.1 hk).1
    simp at this;omega
   subst hk3
   simp at hk
   obtain⟨rfl,rfl⟩:=hk
   refine⟨by omega,hc,x,by rw[a_ hi];exact hx,?_⟩
   rw[show T.length+1=L.length by omega]
   simp
def Quiet(sp:List α->α->Bool)(L:List α):Prop:=∀k x,L[k+1]? =some x->sp (L.take (k+1)) x=false
theorem Quiet.add{sp:List α->α->Bool}{L:List α}{y:α}(h:Quiet sp L)(hs:sp L y=false):Quiet sp (L++[y]):=by
 intro k x hx
 by_cases hk:k+1<L.length
 ·rw[a_ hk]at hx
  rw[List.take_append_of_le_length (by omega)]
  exact h k x hx
 ·have hk2:=(d_.1 hx).1
  simp at hk2
  have:k+1=L.length:=by omega
  rw[this]at hx⊢
  simp at hx
  subst hx
  simpa using hs
theorem Ok.pre{L L':List α}{T T':List (Nat×β)}(h:Ok f s0 ls L T)(hL:L'<+:L)(hT:T'<+:T)(hl:L'.length=T'.length+1):Ok f s0 ls L' T':=by
 have hget:∀k,k<L'.length->L'[k]? =L[k]? :=λk hk=>by
  obtain⟨t,rfl⟩:=hL
  rw[a_ hk]
 refine⟨h.nodup.sublist hL.sublist,hl,by rw[hget 0 (by omega)];exact h.head,λk j c hk=>?_⟩
 have hk':=(d_.1 hk).1
 obtain⟨h1,h2,x,h3,h4⟩:=h.link k j c (Mt hT hk)
 exact⟨h1,h2,x,by rw[hget j (by omega)];exact h3,by rw[hget (k+1) (by omega)];exact h4⟩
inductive Tr(T:List (Nat×β)):Nat->List β->Prop
 |zero:Tr T 0 []
 |step {k j:Nat} {c:β} {p:List β}:T[k]? =some (j,c)->Tr T j p->Tr T (k+1) (p++[c])
theorem Tr.mono{T T':List (Nat×β)}(hp:T<+:T'){k:Nat}{p:List β}(h:Tr T k p):Tr T' k p:=by
 induction h with
 |zero=>exact .zero
 |step h1 _ ih=>exact .step (Mt hp h1) ih
theorem Ok.tr{L:List α}{T:List (Nat×β)}(h:Ok f s0 ls L T):∀k,k<L.length->∃p,Tr T k p:=by
 intro k
 induction k using w_ with
 |ind k ih=>
  intro hk
  match k with
  |0=>exact⟨[],.zero⟩
  |k+1=>
   have hT:=b_ (l:=T) (i:=k) (by have:=h.len;omega)
   obtain⟨h1,_⟩:=h.link k _ _ hT
   obtain⟨p,hp⟩:=ih _ h1 (by omega)
   exact⟨_,.step hT hp⟩
theorem Tr.len{L:List α}{T:List (Nat×β)}(h:Ok f s0 ls L T){k:Nat}{p:List β}(ht:Tr T k p):p.length<=k:=by
 induction ht with
 |zero=>exact p_ _
 |step h1 _ ih=>
  have:=(h.link _ _ _ h1).1
  simp only[j_,n_]
  omega
end
variable [DecidableEq α]
variable (f:α->β->α) (s0:α) (ls:List β)
variable {f s0 ls}
end
open Go Go.Ev
theorem sg{P:Rx->Prop}(h:∀k lo hi ks,(∀r∈ks,P r)->P (.mk k lo hi ks)):∀r,P r:=
 λr=>Rx.rec (motive_1:=P) (motive_2:=λks=>∀r∈ks,P r) (λk lo hi ks ih=>h k lo hi ks ih) (λr hr=>by cases hr) (λr ks ih1 ih2 x hx=>by
  rcases x_.1 hx with rfl|hx
  ·exact ih1
  ·exact ih2 x hx) r
theorem dG(v:Rx):Rx.mk v.out.1 v.out.2.1 v.out.2.2.1 v.out.2.2.2.1=v:=by cases v;rfl
structure G where
 fi:List Nat
 la:List Nat
 em:Bool
 pr:List (Nat×Nat)
 sp:List (Int×Int)
def g0(e:Bool):G:=⟨[],[],e,[],[]⟩
structure Lie(o:Nat)(g:G):Prop where
 fi:∀p∈g.fi,o<=p/\p<o+g.sp.length
 la:∀p∈g.la,o<=p/\p<o+g.sp.length
 pr:∀p q,(p,q)∈g.pr->(o<=p/\p<o+g.sp.length)/\o<=q/\q<o+g.sp.length
 fl:g.fi.length<=g.sp.length
 ll:g.la.length<=g.sp.length
def fQ(k n:Int):Bool:=bif k==0||k==1||k==2 then n==0 else bif k==3 then decide (n>=2)else bif k==4 then n != 1 else bif k==5||k==6||k==7 then n==1 else false
def qO(k:Int):Bool:=k==0||k==1||k==2||k==3||k==4||k==5||k==6||k==7
def lK(k lo hi n:Int):Int:=
 bif !qO k then 15 else bif k==1&&(decide (lo<0)||decide (lo>hi)||decide (hi>4294967295))then 5 else bif (k != 1&&(lo != 0||hi != 0))|| !fQ k n then 1 else 0
theorem knownB_iff{k:Int}:qO k=true↔k=0\/k=1\/k=2\/k=3\/k=4\/k=5\/k=6\/k=7:=by
 simp only[qO,Bool.or_eq_true,beq_iff_eq,or_assoc]
structure Node(k lo hi n:Int):Prop where
 known:k=0\/k=1\/k=2\/k=3\/k=4\/k=5\/k=6\/k=7
 rng:k=1->0<=lo/\lo<=hi/\hi<=4294967295
 zero:k≠1->lo=0/\hi=0
 leaf:k=0\/k=1\/k=2->n=0
 seq:k=3->2<=n
 alt:k=4->n≠1
 one:k=5\/k=6\/k=7->n=1
theorem nodeE_zero{k lo hi n:Int}:lK k lo hi n=0↔Node k lo hi n:=by
 constructor
 ·intro h
  unfold lK at h
  cases h1:qO k
  ·rw[h1]at h;exact absurd h (by simp)
  rw[h1]at h
  have hk:=knownB_iff.1 h1
  simp only[Bool.not_true,cond_false]at h
  cases h2:(k==1&&(decide (lo<0)||decide (lo>hi)||decide (hi>4294967295)))
  ·rw[h2]at h
   simp only[cond_false]at h
   cases h3:((k != 1&&(lo != 0||hi != 0))|| !fQ k n)
   ·simp only[o_,m_,bne_eq_false_iff_eq,Bool.not_eq_false',beq_eq_false_iff_ne,decide_eq_false_iff_not]at h2 h3
    obtain⟨h3,h4⟩:=h3
    refine⟨hk,λe=>?_,λe=>?_,λe=>?_,λe=>?_,λe=>?_,λe=>?_⟩
    ·rcases h2 with h2|h2
     ·exact absurd e h2
     ·omega
    ·rcases h3 with h3|h3
     ·exact absurd h3 e
     ·exact h3
    ·rcases e with rfl|rfl|rfl<;>simpa[fQ]using h4
    ·subst e;simpa[fQ]using h4
    ·subst e;simpa[fQ]using h4
    ·rcases e with rfl|rfl|rfl<;>simpa[fQ]using h4
   ·rw[h3]at h;exact absurd h (by simp)
  ·rw[h2]at h;exact absurd h (by simp)
 ·intro h
  have h1:qO k=true:=knownB_iff.2 h.known
  have h2:(k==1&&(decide (lo<0)||decide (lo>hi)||decide (hi>4294967295)))=false:=by
   by_cases e:k=1
   ·have:=h.rng e
    simp only[m_,o_,decide_eq_false_iff_not]
    exact .inr ⟨⟨by omega,by omega⟩,by omega⟩
   ·simp[e]
  have h3:(k != 1&&(lo != 0||hi != 0))=false:=by
   by_cases e:k=1
   ·simp[e]
   ·have:=h.zero e
    simp[this]
  have h4:fQ k n=true:=by
   rcases h.known with rfl|rfl|rfl|rfl|rfl|rfl|rfl|rfl
   ·simpa[fQ]using h.leaf (by simp)
   ·simpa[fQ]using h.leaf (by simp)
   ·simpa[fQ]using h.leaf (by simp)
   ·simpa[fQ]using h.seq rfl
   ·simpa[fQ]using h.alt rfl
   ·simpa[fQ]using h.one (by simp)
   ·simpa[fQ]using h.one (by simp)
   ·simpa[fQ]using h.one (by simp)
  unfold lK
  rw[h1,h2,h3,h4];rfl
mutual
def sz:Rx->Nat
 | .mk _ _ _ ks=>1+wE ks
def wE:List Rx->Nat
 |[]=>0
 |r::rs=>sz r+wE rs
end
theorem qt:∀{ks:List Rx} {r:Rx},r∈ks->sz r<=wE ks
 |x::ks,r,h=>by
  simp only[wE]
  rcases x_.1 h with rfl|h
  ·omega
  ·have:=qt h;omega
theorem V0(r:Rx):0<sz r:=by cases r;simp only[sz];omega
theorem BB:∀ks:List Rx,ks.length<=wE ks
 |[]=>p_ _
 |r::ks=>by
  simp only[wE,v_]
  have:=BB ks;have:=V0 r;omega
theorem Kz:∀l m:List Rx,wE (l++m)=wE l+wE m
 |[],m=>by simp[wE]
 |r::l,m=>by simp only[u_,wE,Kz l m];omega
mutual
def iw:Rx->Bool
 | .mk k lo hi ks=>lK k lo hi ks.length==0&&GE ks
def GE:List Rx->Bool
 |[]=>true
 |r::rs=>iw r&&GE rs
end
theorem GF:∀ks:List Rx,GE ks=true↔∀r∈ks,iw r=true
 |[]=>by simp[GE]
 |r::ks=>by simp[GE,GF ks]
theorem well_iff{k lo hi:Int}{ks:List Rx}:iw (.mk k lo hi ks)=true↔Node k lo hi ks.length/\∀r∈ks,iw r=true:=by
 simp only[iw,Bool.and_eq_true,beq_iff_eq,nodeE_zero,GF]
mutual
def s9:Rx->Int->Int->Int×Int
 | .mk k lo hi ks,lv,c=>if lv>16 then(c,24)else if c>=64 then(c,4)else if lK k lo hi ks.length≠0 then(c,lK k lo hi ks.length)else fD ks (lv+1) (c+1)
def fD:List Rx->Int->Int->Int×Int
 |[],_,c=>(c,0)
 |r::rs,lv,c=>if(s9 r lv c).2≠0 then s9 r lv c else fD rs lv (s9 r lv c).1
end
theorem len_nil{ks:List Rx}(h:(ks.length:Int)=0):ks=[]:=List.length_eq_zero_iff.1 (by omega)
theorem tZ{ks:List Rx}(h:(ks.length:Int)=1):∃r,ks=[r]:=List.length_eq_one_iff.1 (by omega)
open Go Go.Ev Go.Lib
def FM(b:UInt8):Prop:=48<=b.toNat/\b.toNat<=57
instance (b:UInt8):Decidable (FM b):=inferInstanceAs (Decidable (_/\_))
def nM(l:List UInt8):Nat:=l.foldl (λn b=>10*n+(b.toNat - 48)) 0
theorem xB(l:List UInt8)(b:UInt8):nM (l++[b])=10*nM l+(b.toNat - 48):=by simp[nM,List.foldl_append]
theorem IP{n:Nat}(h:n<10):(UInt8.ofNat (48+n)).toNat=48+n:=by simp;omega
theorem xg:∀(n:Nat),(∀b∈decDigits n,FM b)/\nM (decDigits n)=n/\0<(decDigits n).length/\(1<(decDigits n).length->((decDigits n).getD 0 0).toNat≠48)/\(0<n->((decDigits n).getD 0 0).toNat≠48):=by
 intro n
 induction n using w_ with
 |ind n ih=>
  rw[decDigits]
  by_cases h:n<10
  ·rw[dif_pos h]
   have:=IP h
   refine⟨λb hb=>?_,?_,by simp,by simp,?_⟩
   ·simp only[t_]at hb;subst hb;unfold FM;omega
   ·show 10*0+((UInt8.ofNat (48+n)).toNat - 48)=n;omega
   ·intro h0;show(UInt8.ofNat (48+n)).toNat≠48;omega
  ·rw[dif_neg h]
   obtain⟨h1,h2,h3,h4,h5⟩:=ih (n/10) (by omega)
   have hd:=IP (show n%10<10 by omega)
   have hg:(decDigits (n/10)++[UInt8.ofNat (48+n%10)]).getD 0 0=(decDigits (n/10)).getD 0 0:=by
    simp only[A_,a_ h3]
   refine⟨λb hb=>?_,?_,by simp,λ_=>?_,λ_=>?_⟩
   ·simp only[List.mem_append,t_]at hb
    rcases hb with hb|rfl
    ·exact h1 b hb
    ·unfold FM;omega
   ·rw[xB,h2,hd];omega
   ·rw[hg];exact h5 (by omega)
   ·rw[hg];exact h5 (by omega)
theorem AL(n:Nat):∀b∈decDigits n,FM b:=(xg n).1
theorem AM(n:Nat):nM (decDigits n)=n:=(xg n).2.1
theorem Fe(n:Nat):0<(decDigits n).length:=(xg n).2.2.1
theorem Qo(n:Nat)(h:1<(decDigits n).length):((decDigits n).getD 0 0).toNat≠48:=(xg n).2.2.2.1 h
theorem LC:∀(n k:Nat),n<10^(k+1)->(decDigits n).length<=k+1
 |n,0,h=>by
  rw[decDigits,dif_pos (by omega)]
  simp
 |n,k+1,h=>by
  rw[decDigits]
  split
  ·simp
  ·have:=LC (n/10) k (by rw[Nat.pow_succ]at h;omega)
   simp only[j_,n_]
   omega
theorem lg{n:Nat}(h:n<=4294967295):(decDigits n).length<=10:=LC n 9 (by omega)
theorem takeD{l:List UInt8}{k:Nat}(h:k<l.length):l.take (k+1)=l.take k++[l.getD k 0]:=by
 have e:l.getD k 0=l[k]:=by simp[A_,b_ h]
 rw[List.take_succ_eq_append_getElem h,e]
theorem BJ(l:List UInt8):∀(d k:Nat),k+d=l.length->nM (l.take k)<=nM l
 |0,k,h=>by rw[List.take_of_length_le (by omega)];exact p_ _
 |d+1,k,h=>by
  have h1:=BJ l d (k+1) (by omega)
  rw[takeD (by omega),xB]at h1
  omega
theorem CX{l:List UInt8}{k:Nat}(h:k<=l.length):nM (l.take k)<=nM l:=BJ l (l.length - k) k (by omega)
def pm(p:Int):Rx->Bool
 | .mk k _ _ ks=>bif k==4 then !ks.isEmpty else bif k==3 then p != 4 else(k==5||k==6||k==7)&&(p==5||p==6||p==7)
def tN(w:Bool)(l:List UInt8):List UInt8:=bif w then 40::(l++[41])else l
def jn(sep:UInt8):List (List UInt8)->List UInt8
 |[]=>[]
 |[x]=>x
 |x::y::l=>x++sep::jn sep (y::l)
mutual
def ff:Rx->List UInt8
 | .mk k lo hi ks=>
  if k=0 then [40,41]else if k=2 then [46]
  else if k=1 then(if lo=hi then decDigits lo.toNat else 91::(decDigits lo.toNat++45::(decDigits hi.toNat++[93])))
  else if k=5 then(Kl 5 ks).headD []++[42]else if k=6 then(Kl 6 ks).headD []++[43]else if k=7 then(Kl 7 ks).headD []++[63]
  else if k=4 then(if ks=[]then [33]else jn 124 (Kl 4 ks))else jn 32 (Kl 3 ks)
def Kl:Int->List Rx->List (List UInt8)
 |_,[]=>[]
 |p,r::rs=>tN (pm p r) (ff r)::Kl p rs
end
def iK(p:Int)(r:Rx):List UInt8:=tN (pm p r) (ff r)
theorem c9(p:Int):∀ks:List Rx,Kl p ks=ks.map (iK p)
 |[]=>by simp[Kl]
 |r::rs=>by simp[Kl,c9 p rs,iK]
theorem Kd(sep:UInt8):∀(l:List (List UInt8)) (x:List UInt8),jn sep (l++[x])=if l=[]then x else jn sep l++sep::x
 |[],x=>by simp[jn]
 |[y],x=>by simp[jn]
 |y::z::l,x=>by
  have:=Kd sep (z::l) x
  simp only[u_,jn]at*
  rw[this]
  simp
theorem Kc(sep:UInt8):∀(l:List (List UInt8)),(jn sep l).length<=(l.map λx=>x.length+1).sum
 |[]=>by simp[jn]
 |[x]=>by simp[jn]
 |x::y::l=>by
  have:=Kc sep (y::l)
  simp only[jn,j_,v_,q_,r_]at*
  omega
theorem Pi(p:Int)(r:Rx):(iK p r).length<=(ff r).length+2:=by
 unfold iK tN
 cases pm p r<;>simp
theorem EF:∀(r:Rx),iw r=true->(ff r).length+3<=26*sz r:=by
 refine sg λk lo hi ks ih hw=>?_
 obtain⟨hn,hks⟩:=well_iff.1 hw
 have hsum:∀p:Int,∀l:List Rx,(∀r∈l,r∈ks)->((l.map (iK p)).map λx=>x.length+1).sum<=26*wE l:=by
  intro p l
  induction l with
  |nil=>intro _;simp
  |cons r l il=>
   intro h
   have h1:=ih r (h r (s_ ..)) (hks r (h r (s_ ..)))
   have h2:=il λx hx=>h x (List.mem_cons_of_mem _ hx)
   have h3:=Pi p r
   simp only[q_,r_,wE]at*
   omega
 have hd:∀p:Int,((ks.map (iK p)).headD []).length<=26*wE ks:=by
  intro p
  have h1:=hsum p ks λ_ h=>h
  cases ks with
  |nil=>simp
  |cons r l=>simp only[q_,List.headD_cons,r_]at*;omega
 have hj:∀(p:Int) (s:UInt8),(jn s (ks.map (iK p))).length<=26*wE ks:=λp s=>z_ (Kc s _) (hsum p ks λ_ h=>h)
 have hlo:k=1->(decDigits lo.toNat).length<=10/\(decDigits hi.toNat).length<=10:=λe=>by
  have:=hn.rng e
  exact⟨lg (by omega),lg (by omega)⟩
 simp only[ff,c9,sz]
 split
 ·simp;omega
 split
 ·simp;omega
 split
 ·rename_i h
  have:=hlo h
  split<;>simp<;>omega
 split
 ·have:=hd 5;simp;simp at this;omega
 split
 ·have:=hd 6;simp;simp at this;omega
 split
 ·have:=hd 7;simp;simp at this;omega
 split
 ·split
  ·simp;omega
  ·have:=hj 4 124;omega
 ·have:=hj 3 32;omega
end Go.Pl
namespace Go.Ev
open Go Go.RowKit Go.Av
def NL(f:Nat->Int)(i:Nat):Nat->Int
 |0=>0
 |k+1=>if f i=0 then NL f (i+1) k else f i
def lP(f:Nat->Int)(N:Nat):Int:=NL f 0 N
theorem IS{f:Nat->Int}:∀(k i:Nat),NL f i k=0↔∀j,i<=j->j<i+k->f j=0
 |0,i=>by simp only[NL,true_iff];intro j h1 h2;omega
 |k+1,i=>by
  simp only[NL]
  split
  ·rename_i h
   rw[IS k (i+1)]
   constructor
   ·intro g j h1 h2
    by_cases e:j=i
    ·subst e;exact h
    ·exact g j (by omega) (by omega)
   ·intro g j h1 h2;exact g j (by omega) (by omega)
  ·rename_i h
   constructor
   ·intro g;exact absurd g h
   ·intro g;exact absurd (g i (p_ _) (by omega)) h
theorem errN_zero{f:Nat->Int}{N:Nat}:lP f N=0↔∀j,j<N->f j=0:=by
 unfold lP
 rw[IS]
 constructor
 ·intro h j hj;exact h j (Nat.zero_le _) (by omega)
 ·intro h j _ hj;exact h j (by omega)
def bR{α:Type}(f:α->Int)(l:List α):Int:=lP (λi=>match l[i]? with|some x=>f x|none=>0) l.length
theorem errL_zero{α:Type}{f:α->Int}{l:List α}:bR f l=0↔∀x∈l,f x=0:=by
 unfold bR
 rw[errN_zero]
 constructor
 ·intro h x hx
  obtain⟨i,hi,rfl⟩:=h_.1 hx
  have:=h i hi
  rw[b_ hi]at this
  exact this
 ·intro h i hi
  rw[b_ hi]
  exact h _ (List.getElem_mem hi)
theorem ra{ρ β γ:Type}{N:Nat}{f:Nat->Int}{enc:Nat->ρ}{oB:Int->β}{oE:γ}{body:Nat->ρ->Option (ρ⊕β⊕γ)}{Q:β⊕γ->Prop}
 (h:∀i,i<N->Wp (λn=>body n (enc i)) λr=>r=if f i=0 then .inl (enc (i+1))else .inr (.inl (oB (f i))))
 (he:Wp (λn=>body n (enc N)) λr=>r= .inr (.inr oE))
 (hQ:Q (if lP f N=0 then .inr oE else .inl (oB (lP f N)))):Wp (λn=>be n (body n) (enc 0)) Q:=by
 refine dI (N:=N) (I:=λi s=>s=enc i/\lP f N=NL f i (N - i)) ⟨rfl,rfl⟩ (λi s hi hs=>?_) λs hs=>?_
 ·obtain⟨rfl,hd⟩:=hs
  refine wp_mono (h i hi) λr hr=>?_
  subst hr
  rw[show N - i=(N - (i+1))+1 by omega]at hd
  simp only[NL]at hd
  by_cases e:f i=0
  ·rw[if_pos e]at hd⊢
   exact⟨rfl,hd⟩
  ·rw[if_neg e]at hd⊢
   rw[hd,if_neg e]at hQ
   exact hQ
 ·obtain⟨rfl,hd⟩:=hs
  refine wp_mono he λr hr=>?_
  subst hr
  rw[Nat.sub_self]at hd
  rw[if_pos (show lP f N=0 from hd)]at hQ
  exact hQ
theorem kV{α ρ β γ:Type}{l:List α}{f:α->Int}{enc:Nat->ρ}{oB:Int->β}{oE:γ}{body:Nat->ρ->Option (ρ⊕β⊕γ)}{Q:β⊕γ->Prop}
 (h:∀i (hi:i<l.length),Wp (λn=>body n (enc i)) λr=>r=if f l[i]=0 then .inl (enc (i+1))else .inr (.inl (oB (f l[i]))))
 (he:Wp (λn=>body n (enc l.length)) λr=>r= .inr (.inr oE))
 (hQ:Q (if bR f l=0 then .inr oE else .inl (oB (bR f l)))):Wp (λn=>be n (body n) (enc 0)) Q:=by
 refine ra (f:=λi=>match l[i]? with|some x=>f x|none=>0) (oB:=oB) (λi hi=>?_) he hQ
 have:=h i hi
 simp only[b_ hi]
 exact this
theorem s6{α ρ β γ:Type}{xs:List α}{p:α->Bool}{enc:Nat->ρ}{g:α->β}{e:γ}{body:Nat->ρ->Option (ρ⊕β⊕γ)}{Q:β⊕γ->Prop}
 (h:∀(i:Nat) (hi:i<xs.length),Wp (λn=>body n (enc i)) λr=>r=if p xs[i]then .inr (.inl (g xs[i]))else .inl (enc (i+1)))
 (he:Wp (λn=>body n (enc xs.length)) λr=>r= .inr (.inr e))
 (hQ:Q (match xs.find? p with|some x=>.inl (g x)|none=>.inr e)):Wp (λn=>be n (body n) (enc 0)) Q:=by
 refine dI (N:=xs.length) (I:=λi s=>s=enc i/\xs.find? p=(xs.drop i).find? p) ⟨rfl,by rw[List.drop_zero]⟩ (λi s hi hs=>?_) λs hs=>?_
 ·obtain⟨rfl,hd⟩:=hs
  refine wp_mono (h i hi) λr hr=>?_
  rw[List.drop_eq_getElem_cons hi,List.find?_cons]at hd
  subst hr
  cases hp:p xs[i]
  ·rw[hp]at hd
   simp only[Bool.false_eq_true,if_false]
   exact⟨trivial,hd⟩
  ·rw[hp]at hd
   simp only[if_true]
   rw[hd]at hQ
   exact hQ
 ·obtain⟨rfl,hd⟩:=hs
  refine wp_mono he λr hr=>?_
  subst hr
  rw[List.drop_length]at hd
  rw[hd]at hQ
  exact hQ
end Go.Ev
namespace Go.Pl
open Go Go.Av Go.Ev
abbrev TX:Type:=Int×(Int×Unit)
abbrev Wi:Type:=Int×(List UInt8×(Int×(TX×(Bool×Unit))))
abbrev Re:Type:=Int×(Int×(Int×(Int×(Int×Unit))))
abbrev TG:Type:=List UInt8×(List Wi×(List Re×(Int×Unit)))
abbrev RF:Type:=List UInt8×(List TG×(Int×Unit))
abbrev V9:Type:=Bool×(TX×(Int×(Int×Unit)))
abbrev V8:Type:=List UInt8×(List V9×Unit)
abbrev Wh:Type:=Bool×(List UInt8×Unit)
abbrev V7:Type:=List UInt8×(List Wh×Unit)
abbrev V6:Type:=Bool×(Int×(Int×Unit))
abbrev V5:Type:=List UInt8×(List V6×Unit)
abbrev PS:Type:=List V8×(List V7×(List V5×(List RF×Unit)))
abbrev yP:Ty:=pr [tW,tI]
abbrev yM:Ty:=pr [tI,tS,tI,yP,tB]
abbrev yA:Ty:=pr [tI,tI,tI,tW,tW]
abbrev yT:Ty:=pr [tS,.list yM,.list yA,tI]
abbrev yO:Ty:=pr [tS,.list yT,tI]
abbrev yR:Ty:=pr [tB,yP,tI,tI]
abbrev yL:Ty:=pr [tS,.list yR]
abbrev yH:Ty:=pr [tB,tS]
abbrev yG:Ty:=pr [tS,.list yH]
abbrev yC:Ty:=pr [tB,tI,tI]
abbrev yD:Ty:=pr [tS,.list yC]
abbrev yS:Ty:=pr [.list yL,.list yG,.list yD,.list yO]
def ut(p:TX):Bool:=(decide (0<=p.2.1)&&decide (p.2.1<=32))&&(L4 p.1 p.2.1==p.1)
def ua(c:UInt8):Bool:=(((decide ((c.toNat:Int)>=97)&&decide ((c.toNat:Int)<=122))||(decide ((c.toNat:Int)>=65)&&decide ((c.toNat:Int)<=90)))||(decide ((c.toNat:Int)>=48)&&decide ((c.toNat:Int)<=57)))||((c.toNat:Int)==45)
def ja(s:List UInt8):Bool:=s.all ua&&(decide (1<=s.length)&&decide (s.length<=32))
def jT(r:V9):Int:=if ut r.2.1=false then 1 else if r.2.2.1<r.2.1.2.1\/r.2.2.2.1<r.2.2.1\/r.2.2.2.1>32 then 5 else 0
def ky(r:V6):Int:=if r.2.1< -1\/r.2.1>65535\/r.2.2.1< -1\/r.2.2.1>65535 then 5 else 0
def sf(a b:List UInt8):Bool:=Op.bytesLess a b||a==b
def qS(l:List (List UInt8))(i:Nat):Int:=match l[i]? with
 |none=>0
 |some x=>if ja x=false then 1 else if 0<i/\sf x (l.getD (i - 1) [])=true then 16 else 0
def HS{α:Type}(nm:α->List UInt8)(sz:α->Nat)(ck:α->Int)(l:List α)(i:Nat):Int:=if qS (l.map nm) i≠0 then qS (l.map nm) i else match l[i]? with
 |none=>0
 |some x=>if sz x>64 then 4 else ck x
def fT{α:Type}(nm:α->List UInt8)(sz:α->Nat)(ck:α->Int)(l:List α):Int:=if l.length>64 then 4 else lP (HS nm sz ck l) l.length
def Us(k:Int):Int:=if k=4 then 1 else 0
def LV(k:Int):Int:=if k=4 then 7 else if k=5 then 4294967295 else if k=6 then 16777216 else 2000
def D7(s:PS)(k:Int)(n:List UInt8):Bool:=if k=1 then s.1.any (·.1==n)else if k=2 then s.2.1.any (·.1==n)else s.2.2.1.any (·.1==n)
def sO(s:PS)(m:Wi):Int:=
 if m.1<1\/8<m.1 then 15
 else if(3<m.1/\m.2.1≠[])\/(¬(m.1=4\/m.1=5\/m.1=6\/m.1=8)/\m.2.2.1≠0)\/(m.1≠7/\(m.2.2.2.1.1≠0\/m.2.2.2.1.2.1≠0))then 1
 else if m.1<=3 then(if D7 s m.1 m.2.1 then 0 else 6)
 else if m.1=7 then(if ut m.2.2.2.1 then 0 else 1)
 else if m.2.2.1<Us m.1\/LV m.1<m.2.2.1 then 5 else 0
def mO(a:Re):Re:=if a.1<=4 then(a.1,a.2.1,0,0,0,())else if a.1=5 then(a.1,0,0,0,a.2.2.2.2.1,())else if a.1<=7 then(a.1,0,0,a.2.2.2.1,0,())else(a.1,a.2.1,a.2.2.1,0,0,())
def mK(a:Re):Bool:=if a.1=3 then decide (0<=a.2.1)&&decide (a.2.1<=16777216)else if a.1<=4 then decide (0<=a.2.1)&&decide (a.2.1<=4294967295)else if a.1=5 then a.2.2.2.2.1 != 0
 else if a.1<=7 then true else(decide (1<=a.2.2.1)&&decide (a.2.2.1<=4294967295))&&(decide (1<=a.2.1)&&decide (a.2.1<=16))
def tq(a:Re):Int:=if a.1<1\/8<a.1 then 15 else if ¬a=mO a then 1 else if mK a=false then 5 else 0
theorem Ud(a b:Re):qc yA a b=true↔a=b:=by
 obtain⟨a1,a2,a3,a4,a5,⟨⟩⟩:=a
 obtain⟨b1,b2,b3,b4,b5,⟨⟩⟩:=b
 simp[qc]
def iv(s:PS)(before:List TG)(t:TG):Int:=
 if ja t.1=false then 1
 else if before.any (·.1==t.1)=true then 7
 else if t.2.1.length>64 then 4
 else if bR (sO s) t.2.1≠0 then bR (sO s) t.2.1
 else if t.2.2.1.length>64 then 4
 else if bR tq t.2.2.1≠0 then bR tq t.2.2.1
 else if t.2.2.2.1<1\/3<t.2.2.2.1 then 15 else 0
def ud(s:PS)(p:RF):Int:=
 if lP (λi=>match p.2.1[i]? with|some t=>iv s (p.2.1.take i) t|none=>0) p.2.1.length≠0 then lP (λi=>match p.2.1[i]? with|some t=>iv s (p.2.1.take i) t|none=>0) p.2.1.length
 else if p.2.2.1≠1/\p.2.2.1≠2 then 15 else 0
def Bp(pe:List UInt8->Int)(s:PS):Int:=
 if fT (·.1) (λl=>l.2.1.length) (λl=>bR jT l.2.1) s.1≠0 then fT (·.1) (λl=>l.2.1.length) (λl=>bR jT l.2.1) s.1
 else if fT (·.1) (λl=>l.2.1.length) (λl=>bR (λr=>pe r.2.1) l.2.1) s.2.1≠0 then fT (·.1) (λl=>l.2.1.length) (λl=>bR (λr=>pe r.2.1) l.2.1) s.2.1
 else if fT (·.1) (λl=>l.2.1.length) (λl=>bR ky l.2.1) s.2.2.1≠0 then fT (·.1) (λl=>l.2.1.length) (λl=>bR ky l.2.1) s.2.2.1
 else fT (·.1) (λp=>p.2.1.length) (ud s) s.2.2.2.1
theorem t7{s:PS}{k N pa pl:Int}{nm:List UInt8}{nt:Bool}(h:k=1\/k=2\/k=3):sO s (k,nm,N,(pa,pl,()),nt,())=if N≠0\/pa≠0\/pl≠0 then 1 else if D7 s k nm then 0 else 6:=by
 unfold sO
 rw[if_neg (by show ¬(k<1\/8<k);omega)]
 by_cases e:N≠0\/pa≠0\/pl≠0
 ·rw[if_pos e,if_pos]
  show(3<k/\nm≠[])\/(¬(k=4\/k=5\/k=6\/k=8)/\N≠0)\/(k≠7/\(pa≠0\/pl≠0))
  rcases e with e|e
  ·exact .inr (.inl ⟨by omega,e⟩)
  ·exact .inr (.inr ⟨by omega,e⟩)
 ·rw[if_neg e,if_neg,if_pos (show k<=3 by omega)]
  show ¬((3<k/\nm≠[])\/(¬(k=4\/k=5\/k=6\/k=8)/\N≠0)\/(k≠7/\(pa≠0\/pl≠0)))
  rintro(⟨e1,_⟩|⟨_,e1⟩|⟨_,e1⟩)
  ·omega
  ·exact e (.inl e1)
  ·exact e (.inr e1)
theorem Md{s:PS}{N pa pl:Int}{nm:List UInt8}{nt:Bool}:sO s (7,nm,N,(pa,pl,()),nt,())=if nm≠[]\/N≠0 then 1 else if ut (pa,pl,())then 0 else 1:=by
 unfold sO
 rw[if_neg (by show ¬((7:Int)<1\/8<(7:Int));omega)]
 by_cases e:nm≠[]\/N≠0
 ·rw[if_pos e,if_pos]
  show(3<(7:Int)/\nm≠[])\/(¬((7:Int)=4\/(7:Int)=5\/(7:Int)=6\/(7:Int)=8)/\N≠0)\/((7:Int)≠7/\(pa≠0\/pl≠0))
  rcases e with e|e
  ·exact .inl ⟨by omega,e⟩
  ·exact .inr (.inl ⟨by omega,e⟩)
 ·rw[if_neg e,if_neg,if_neg (show ¬(7:Int)<=3 by omega),if_pos (show(7:Int)=7 from rfl)]
  show ¬((3<(7:Int)/\nm≠[])\/(¬((7:Int)=4\/(7:Int)=5\/(7:Int)=6\/(7:Int)=8)/\N≠0)\/((7:Int)≠7/\(pa≠0\/pl≠0)))
  rintro(⟨_,e1⟩|⟨_,e1⟩|⟨e1,_⟩)
  ·exact e (.inl e1)
  ·exact e (.inr e1)
  ·exact e1 rfl
theorem Me{s:PS}{k N pa pl:Int}{nm:List UInt8}{nt:Bool}(h:k=4\/k=5\/k=6\/k=8):sO s (k,nm,N,(pa,pl,()),nt,())=if nm≠[]\/pa≠0\/pl≠0 then 1 else if N<Us k\/LV k<N then 5 else 0:=by
 unfold sO
 rw[if_neg (by show ¬(k<1\/8<k);omega)]
 by_cases e:nm≠[]\/pa≠0\/pl≠0
 ·rw[if_pos e,if_pos]
  show(3<k/\nm≠[])\/(¬(k=4\/k=5\/k=6\/k=8)/\N≠0)\/(k≠7/\(pa≠0\/pl≠0))
  rcases e with e|e
  ·exact .inl ⟨by omega,e⟩
  ·exact .inr (.inr ⟨by omega,e⟩)
 ·rw[if_neg e,if_neg,if_neg (show ¬k<=3 by omega),if_neg (show ¬k=7 by omega)]
  show ¬((3<k/\nm≠[])\/(¬(k=4\/k=5\/k=6\/k=8)/\N≠0)\/(k≠7/\(pa≠0\/pl≠0)))
  rintro(⟨_,e1⟩|⟨e1,_⟩|⟨_,e1⟩)
  ·exact e (.inl e1)
  ·exact e1 h
  ·exact e (.inr e1)
theorem Mc{s:PS}{m:Wi}(h:m.1<1\/8<m.1):sO s m=15:=by
 unfold sO
 rw[if_pos h]
structure SmP(s:PS):Prop where
 ok:okD yS s
 l1:s.1.length<=1048576
 l2:s.2.1.length<=1048576
 l3:s.2.2.1.length<=1048576
 l4:s.2.2.2.1.length<=1048576
 pt:∀l∈s.2.1,∀r∈l.2.1,r.2.1.length<=1048576
theorem EA{α:Type}{nm:α->List UInt8}{sz:α->Nat}{ck:α->Int}{l:List α}(h:fT nm sz ck l=0):l.length<=64/\∀x∈l,ja (nm x)=true/\sz x<=64/\ck x=0:=by
 unfold fT at h
 split at h
 ·cases h
 rename_i hl
 refine⟨by omega,λx hx=>?_⟩
 obtain⟨i,hi,rfl⟩:=h_.1 hx
 have h1:=errN_zero.1 h i hi
 unfold HS at h1
 split at h1
 ·rename_i h2;exact absurd h1 h2
 rename_i h2
 rw[b_ hi]at h1
 simp only at h1
 split at h1
 ·cases h1
 rename_i h3
 refine⟨?_,by omega,h1⟩
 have h4:qS (l.map nm) i=0:=c_ h2
 unfold qS at h4
 rw[List.getElem?_map,b_ hi]at h4
 simp only[Option.map_some]at h4
 split at h4
 ·cases h4
 rename_i h5
 cases e:ja (nm l[i])
 ·exact absurd e h5
 ·rfl
structure TrmOk(s:PS)(t:TG):Prop where
 nm:ja t.1=true
 ml:t.2.1.length<=64
 ma:∀m∈t.2.1,sO s m=0
 al:t.2.2.1.length<=64
 ac:∀a∈t.2.2.1,tq a=0
 ve:1<=t.2.2.2.1/\t.2.2.2.1<=3
theorem UM{s:PS}{b:List TG}{t:TG}(h:iv s b t=0):TrmOk s t:=by
 unfold iv at h
 split at h
 ·cases h
 rename_i h0
 split at h
 ·cases h
 split at h
 ·cases h
 rename_i h1
 split at h
 ·rename_i h2;exact absurd h h2
 rename_i h2
 split at h
 ·cases h
 rename_i h3
 split at h
 ·rename_i h4;exact absurd h h4
 rename_i h4
 split at h
 ·cases h
 rename_i h5
 refine⟨?_,by omega,errL_zero.1 (c_ h2),by omega,errL_zero.1 (c_ h4),by omega⟩
 cases e:ja t.1
 ·exact absurd e h0
 ·rfl
structure PlcOk(s:PS)(p:RF):Prop where
 tl:p.2.1.length<=64
 tr:∀t∈p.2.1,TrmOk s t
 df:p.2.2.1=1\/p.2.2.1=2
structure PolOk(pe:List UInt8->Int)(s:PS):Prop where
 l1:s.1.length<=64
 r1:∀l∈s.1,l.2.1.length<=64/\∀r∈l.2.1,jT r=0
 l2:s.2.1.length<=64
 r2:∀l∈s.2.1,l.2.1.length<=64/\∀r∈l.2.1,pe r.2.1=0
 l3:s.2.2.1.length<=64
 r3:∀l∈s.2.2.1,l.2.1.length<=64/\∀r∈l.2.1,ky r=0
 l4:s.2.2.2.1.length<=64
 r4:∀p∈s.2.2.2.1,PlcOk s p
theorem Ux{s:PS}{p:RF}(hl:p.2.1.length<=64)(h:ud s p=0):PlcOk s p:=by
 unfold ud at h
 split at h
 ·rename_i h0;exact absurd h h0
 rename_i h0
 split at h
 ·cases h
 rename_i h1
 refine⟨hl,λt ht=>?_,by omega⟩
 obtain⟨i,hi,rfl⟩:=h_.1 ht
 have h2:=errN_zero.1 (c_ h0) i hi
 rw[b_ hi]at h2
 exact UM h2
theorem PC{pe:List UInt8->Int}{s:PS}(h:Bp pe s=0):PolOk pe s:=by
 unfold Bp at h
 split at h
 ·rename_i h0;exact absurd h h0
 rename_i h1
 split at h
 ·rename_i h0;exact absurd h h0
 rename_i h2
 split at h
 ·rename_i h0;exact absurd h h0
 rename_i h3
 have k1:=EA (c_ h1)
 have k2:=EA (c_ h2)
 have k3:=EA (c_ h3)
 have k4:=EA h
 exact⟨k1.1,λl hl=>⟨(k1.2 l hl).2.1,errL_zero.1 (k1.2 l hl).2.2⟩,k2.1,λl hl=>⟨(k2.2 l hl).2.1,λr hr=>errL_zero.1 (k2.2 l hl).2.2 r hr⟩,k3.1,λl hl=>⟨(k3.2 l hl).2.1,errL_zero.1 (k3.2 l hl).2.2⟩,
  k4.1,λp hp=>Ux (k4.2 p hp).2.1 (k4.2 p hp).2.2⟩
def Cr(s:PS)(n:List UInt8):Option RF:=s.2.2.2.1.find? (·.1==n)
end Go.Pl
