import Derived.Test.YtmfolppncelceaaGreatDoorPL7
import Derived.Test.YtmfolppncelceaaGreatDoorPL5
import Derived.Lib.ItoaNum
set_option linter.unusedVariables false
set_option linter.unusedSimpArgs false
open Bool renaming false_and->e_,true_and->g_,and_eq_false_iff->l_,or_eq_false_iff->m_
open Classical renaming byContradiction->b_
open Go.IntKind renaming bits->f_,wrap->p_
open List renaming getElem?_append_left->a_,getElem?_eq_getElem->c_,getElem?_eq_some_iff->d_,mem_iff_getElem->h_,mem_cons->o_
open Nat renaming eq_of_testBit_eq->i_,testBit_mod_two_pow->j_,testBit_mul_two_pow->k_,le_refl->n_
namespace Go.Pl
open Go Go.Av Go.Ev
def mZ(x n:Nat):Nat:=x>>>(32 - n) <<< (32 - n)
def xT(x n:Int):Int:=(mZ x.toNat n.toNat:Int)
theorem oN(x n j:Nat):(mZ x n).testBit j=(decide (32 - n<=j)&&x.testBit j):=by
 unfold mZ
 rw[Nat.testBit_shiftLeft]
 by_cases h:32 - n<=j
 ·rw[decide_eq_true (show j>=32 - n from h),Nat.testBit_shiftRight]
  congr 2;omega
 ·rw[decide_eq_false (show ¬j>=32 - n from h),e_,e_]
theorem Hs(x n:Nat):mZ x n<=x:=by
 unfold mZ
 rw[Nat.shiftLeft_eq,Nat.shiftRight_eq_div_pow]
 exact Nat.div_mul_le_self _ _
theorem Bj{x:Nat}(hx:x<4294967296){j:Nat}(hj:32<=j):x.testBit j=false:=
 Nat.testBit_lt_two_pow (Nat.lt_of_lt_of_le hx (Nat.le_trans (show 4294967296<=2^32 by decide) (Nat.pow_le_pow_right (by decide) hj)))
theorem FR{x n:Nat}(hx:x<4294967296)(hn:n<=32):x&&&(4294967295*2^(32 - n)%4294967296)=mZ x n:=by
 refine i_ λj=>?_
 rw[Nat.testBit_and,oN]
 by_cases hj:j<32
 ·have e:(4294967295*2^(32 - n)%4294967296).testBit j=decide (32 - n<=j):=by
   rw[show(4294967296:Nat)=2^32 from rfl,j_,decide_eq_true hj,g_,k_]
   by_cases h:32 - n<=j
   ·rw[decide_eq_true (show j>=32 - n from h),g_,show(4294967295:Nat)=2^32 - 1 from rfl,Nat.testBit_two_pow_sub_one]
    exact decide_eq_true (by omega)
   ·rw[decide_eq_false (show ¬j>=32 - n from h)];rfl
  rw[e,Bool.and_comm]
 ·rw[Bj hx (by omega)]
  simp
theorem FT{x:Nat}(hx:x<4294967296):mZ x 0=0:=by
 refine i_ λj=>?_
 rw[oN,Nat.zero_testBit]
 by_cases hj:32<=j
 ·rw[Bj hx hj,Bool.and_false]
 ·rw[decide_eq_false (by omega),e_]
theorem zjh(x:Nat){i:Nat}(hi:i<32):mZ x (i+1)=mZ x i|||(x/2^(31 - i)%2)*2^(31 - i):=by
 refine i_ λj=>?_
 rw[Nat.testBit_or,oN,oN,k_]
 have h2:∀k,(x/2^(31 - i)%2).testBit k=(decide (k=0)&&x.testBit (31 - i)):=λk=>by
  rw[show(2:Nat)=2^1 from rfl,j_]
  by_cases hk:k=0
  ·subst hk
   rw[decide_eq_true (by omega),decide_eq_true rfl,g_,g_,Nat.testBit_div_two_pow,Nat.zero_add]
  ·rw[decide_eq_false (by omega),decide_eq_false hk,e_,e_]
 rw[h2]
 by_cases h1:j=31 - i
 ·subst h1
  rw[decide_eq_true (by omega),decide_eq_false (by omega),decide_eq_true (by omega),decide_eq_true (by omega)]
  simp
 ·by_cases h3:32 - i<=j
  ·rw[decide_eq_true (by omega),decide_eq_true (by omega)]
   simp only[g_]
   rw[decide_eq_false (show ¬j - (31 - i)=0 by omega)]
   simp
  ·rw[decide_eq_false (by omega),decide_eq_false (by omega),decide_eq_false (show ¬j>=31 - i by omega)]
   simp
theorem AM{x y:Nat}(hx:x<4294967296)(hy:y<4294967296):kf .u32 .and (x:Int) (y:Int)=((x&&&y:Nat):Int):=by
 show p_ .u32 ((BitVec.ofInt (f_ .u32) (x:Int)&&&BitVec.ofInt (f_ .u32) (y:Int)).toNat:Int)=_
 rw[wrap_u32,BitVec.toNat_and]
 have e:∀z:Nat,z<4294967296->(BitVec.ofInt (f_ .u32) (z:Int)).toNat=z:=λz hz=>by
  rw[BitVec.toNat_ofInt]
  show(((z:Int)%((2^32:Nat):Int))).toNat=z
  omega
 rw[e x hx,e y hy]
 have:x&&&y<=x:=Nat.and_le_left
 omega
theorem IZ{x y:Nat}(hx:x<4294967296)(hy:y<4294967296):kf .u32 .or (x:Int) (y:Int)=((x|||y:Nat):Int):=by
 show p_ .u32 ((BitVec.ofInt (f_ .u32) (x:Int)|||BitVec.ofInt (f_ .u32) (y:Int)).toNat:Int)=_
 rw[wrap_u32,BitVec.toNat_or]
 have e:∀z:Nat,z<4294967296->(BitVec.ofInt (f_ .u32) (z:Int)).toNat=z:=λz hz=>by
  rw[BitVec.toNat_ofInt]
  show(((z:Int)%((2^32:Nat):Int))).toNat=z
  omega
 rw[e x hx,e y hy]
 have:x|||y<2^32:=Nat.or_lt_two_pow (by omega) (by omega)
 omega
section
variable {α β σ τ:Type}
theorem BL{L L':List τ}(h:L<+:L'){i:Nat}{x:τ}(hx:L[i]? =some x):L'[i]? =some x:=by
 obtain⟨t,rfl⟩:=h
 rw[a_ (d_.1 hx).1];exact hx
section
variable {f:α->β->α} {s0:α} {ls:List β}
structure Ok(f:α->β->α)(s0:α)(ls:List β)(L:List α)(T:List (Nat×β)):Prop where
 nodup:L.Nodup
 len:L.length=T.length+1
 head:L[0]? =some s0
 link:∀k j c,T[k]? =some (j,c)->j<k+1/\c∈ls/\∃x,L[j]? =some x/\L[k+1]? =some (f x c)
theorem Ok.add{L:List α}{T:List (Nat×β)}(h:Ok f s0 ls L T){x:α}{i:Nat}{c:β}(hx:L[i]? =some x)(hc:c∈ls)(hn:f x c∉L):Ok f s0 ls (L++[f x c]) (T++[(i,c)]):=by
 have hi:i<L.length:=(d_.1 hx).1
 have hl:=h.len
 refine⟨?_,by simp[hl],?_,λk j c' hk=>?_⟩
 ·rw[List.nodup_append]
  exact⟨h.nodup,by simp,λa ha b hb=>by simp at hb;subst hb;rintro rfl;exact hn ha⟩
 ·rw[a_ (by omega)];exact h.head
 ·by_cases hk2:k<T.length
  ·rw[a_ hk2]at hk
   obtain⟨h1,h2,y,h3,h4⟩:=h.link k j c' hk
   exact⟨h1,h2,y,by rw[a_ (by omega)];exact h3,by rw[a_ (by omega)];exact h4⟩
  ·rw[List.getElem?_append_right (by omega)]at hk
   have hk3:k=T.length:=by
    have:=(d_.1 hk).1
    simp at this;omega
   subst hk3
   simp at hk
   obtain⟨rfl,rfl⟩:=hk
   refine⟨by omega,hc,x,by rw[a_ hi];exact hx,?_⟩
   rw[show T.length+1=L.length by omega]
   simp
def Quiet(sp:List α->α->Bool)(L:List α):Prop:=∀k x,L[k+1]? =some x->sp (L.take (k+1)) x=false
theorem Quiet.add{sp:List α->α->Bool}{L:List α}{y:α}(h:Quiet sp L)(hs:sp L y=false):Quiet sp (L++[y]):=by
 intro k x hx
 by_cases hk:k+1<L.length
 ·rw[a_ hk]at hx
  rw[List.take_append_of_le_length (by omega)]
  exact h k x hx
 ·have hk2:=(d_.1 hx).1
  simp at hk2
  have:k+1=L.length:=by omega
  rw[this]at hx⊢
  simp at hx
  subst hx
  simpa using hs
theorem Ok.pre{L L':List α}{T T':List (Nat×β)}(h:Ok f s0 ls L T)(hL:L'<+:L)(hT:T'<+:T)(hl:L'.length=T'.length+1):Ok f s0 ls L' T':=by
 have hget:∀k,k<L'.length->L'[k]? =L[k]? :=λk hk=>by
  obtain⟨t,rfl⟩:=hL
  rw[a_ hk]
 refine⟨h.nodup.sublist hL.sublist,hl,by rw[hget 0 (by omega)];exact h.head,λk j c hk=>?_⟩
 have hk':=(d_.1 hk).1
 obtain⟨h1,h2,x,h3,h4⟩:=h.link k j c (BL hT hk)
 exact⟨h1,h2,x,by rw[hget j (by omega)];exact h3,by rw[hget (k+1) (by omega)];exact h4⟩
inductive Tr(T:List (Nat×β)):Nat->List β->Prop
 |zero:Tr T 0 []
 |step {k j:Nat} {c:β} {p:List β}:T[k]? =some (j,c)->Tr T j p->Tr T (k+1) (p++[c])
theorem Tr.mono{T T':List (Nat×β)}(hp:T<+:T'){k:Nat}{p:List β}(h:Tr T k p):Tr T' k p:=by
 induction h with
 |zero=>exact .zero
 |step h1 _ ih=>exact .step (BL hp h1) ih
theorem Ok.tr{L:List α}{T:List (Nat×β)}(h:Ok f s0 ls L T):∀k,k<L.length->∃p,Tr T k p:=by
 intro k
 induction k using Nat.strongRecOn with
 |ind k ih=>
  intro hk
  match k with
  |0=>exact⟨[],.zero⟩
  |k+1=>
   have hT:=c_ (l:=T) (i:=k) (by have:=h.len;omega)
   obtain⟨h1,_⟩:=h.link k _ _ hT
   obtain⟨p,hp⟩:=ih _ h1 (by omega)
   exact⟨_,.step hT hp⟩
theorem Tr.len{L:List α}{T:List (Nat×β)}(h:Ok f s0 ls L T){k:Nat}{p:List β}(ht:Tr T k p):p.length<=k:=by
 induction ht with
 |zero=>exact n_ _
 |step h1 _ ih=>
  have:=(h.link _ _ _ h1).1
  simp only[List.length_append,List.length_singleton]
  omega
end
variable [DecidableEq α]
variable (f:α->β->α) (s0:α) (ls:List β)
variable {f s0 ls}
end
open Go Go.Ev
theorem zL{P:Rx->Prop}(h:∀k lo hi ks,(∀r∈ks,P r)->P (.mk k lo hi ks)):∀r,P r:=
 λr=>Rx.rec (motive_1:=P) (motive_2:=λks=>∀r∈ks,P r) (λk lo hi ks ih=>h k lo hi ks ih) (λr hr=>by cases hr) (λr ks ih1 ih2 x hx=>by
  rcases o_.1 hx with rfl|hx
  ·exact ih1
  ·exact ih2 x hx) r
structure G where
 fi:List Nat
 la:List Nat
 em:Bool
 pr:List (Nat×Nat)
 sp:List (Int×Int)
def J2(a b:List Nat):List (Nat×Nat):=a.flatMap λp=>b.map λq=>(p,q)
def Mz(a x:G):G:=⟨if a.em then a.fi++x.fi else a.fi,if x.em then a.la++x.la else x.la,a.em&&x.em,a.pr++x.pr++J2 a.la x.fi,a.sp++x.sp⟩
def Me(a x:G):G:=⟨a.fi++x.fi,a.la++x.la,a.em||x.em,a.pr++x.pr,a.sp++x.sp⟩
def J0(x:G):G:=⟨x.fi,x.la,x.em,x.pr++J2 x.la x.fi,x.sp⟩
def MN(x:G):G:=⟨x.fi,x.la,true,x.pr,x.sp⟩
def g0(e:Bool):G:=⟨[],[],e,[],[]⟩
def MO(o:Nat)(lo hi:Int):G:=⟨[o],[o],false,[],[(lo,hi)]⟩
mutual
def Mi:Rx->Nat->G
 | .mk k lo hi ks,o=>
  if k=1 then MO o lo hi else if k=2 then MO o 0 4294967295
  else if k=3 then Lt ks o (g0 true)else if k=4 then Hp ks o (g0 false)
  else if k=5 then MN (J0 (Hp ks o (g0 false)))else if k=6 then J0 (Hp ks o (g0 false))
  else if k=7 then MN (Hp ks o (g0 false))else g0 true
def Lt:List Rx->Nat->G->G
 |[],_,a=>a
 |r::rs,o,a=>Lt rs o (Mz a (Mi r (o+a.sp.length)))
def Hp:List Rx->Nat->G->G
 |[],_,a=>a
 |r::rs,o,a=>Hp rs o (Me a (Mi r (o+a.sp.length)))
end
structure Lie(o:Nat)(g:G):Prop where
 fi:∀p∈g.fi,o<=p/\p<o+g.sp.length
 la:∀p∈g.la,o<=p/\p<o+g.sp.length
 pr:∀p q,(p,q)∈g.pr->(o<=p/\p<o+g.sp.length)/\o<=q/\q<o+g.sp.length
 fl:g.fi.length<=g.sp.length
 ll:g.la.length<=g.sp.length
def kj(k n:Int):Bool:=bif k==0||k==1||k==2 then n==0 else bif k==3 then decide (n>=2)else bif k==4 then n != 1 else bif k==5||k==6||k==7 then n==1 else false
def vg(k:Int):Bool:=k==0||k==1||k==2||k==3||k==4||k==5||k==6||k==7
def vm(k lo hi n:Int):Int:=
 bif !vg k then 15 else bif k==1&&(decide (lo<0)||decide (lo>hi)||decide (hi>4294967295))then 5 else bif (k != 1&&(lo != 0||hi != 0))|| !kj k n then 1 else 0
theorem knownB_iff{k:Int}:vg k=true↔k=0\/k=1\/k=2\/k=3\/k=4\/k=5\/k=6\/k=7:=by
 simp only[vg,Bool.or_eq_true,beq_iff_eq,or_assoc]
structure Node(k lo hi n:Int):Prop where
 known:k=0\/k=1\/k=2\/k=3\/k=4\/k=5\/k=6\/k=7
 rng:k=1->0<=lo/\lo<=hi/\hi<=4294967295
 zero:k≠1->lo=0/\hi=0
 leaf:k=0\/k=1\/k=2->n=0
 seq:k=3->2<=n
 alt:k=4->n≠1
 one:k=5\/k=6\/k=7->n=1
theorem nodeE_zero{k lo hi n:Int}:vm k lo hi n=0↔Node k lo hi n:=by
 constructor
 ·intro h
  unfold vm at h
  cases h1:vg k
  ·rw[h1]at h;exact absurd h (by simp)
  rw[h1]at h
  have hk:=knownB_iff.1 h1
  simp only[Bool.not_true,cond_false]at h
  cases h2:(k==1&&(decide (lo<0)||decide (lo>hi)||decide (hi>4294967295)))
  ·rw[h2]at h
   simp only[cond_false]at h
   cases h3:((k != 1&&(lo != 0||hi != 0))|| !kj k n)
   ·simp only[m_,l_,bne_eq_false_iff_eq,Bool.not_eq_false',beq_eq_false_iff_ne,decide_eq_false_iff_not]at h2 h3
    obtain⟨h3,h4⟩:=h3
    refine⟨hk,λe=>?_,λe=>?_,λe=>?_,λe=>?_,λe=>?_,λe=>?_⟩
    ·rcases h2 with h2|h2
     ·exact absurd e h2
     ·omega
    ·rcases h3 with h3|h3
     ·exact absurd h3 e
     ·exact h3
    ·rcases e with rfl|rfl|rfl<;>simpa[kj]using h4
    ·subst e;simpa[kj]using h4
    ·subst e;simpa[kj]using h4
    ·rcases e with rfl|rfl|rfl<;>simpa[kj]using h4
   ·rw[h3]at h;exact absurd h (by simp)
  ·rw[h2]at h;exact absurd h (by simp)
 ·intro h
  have h1:vg k=true:=knownB_iff.2 h.known
  have h2:(k==1&&(decide (lo<0)||decide (lo>hi)||decide (hi>4294967295)))=false:=by
   by_cases e:k=1
   ·have:=h.rng e
    simp only[l_,m_,decide_eq_false_iff_not]
    exact .inr ⟨⟨by omega,by omega⟩,by omega⟩
   ·simp[e]
  have h3:(k != 1&&(lo != 0||hi != 0))=false:=by
   by_cases e:k=1
   ·simp[e]
   ·have:=h.zero e
    simp[this]
  have h4:kj k n=true:=by
   rcases h.known with rfl|rfl|rfl|rfl|rfl|rfl|rfl|rfl
   ·simpa[kj]using h.leaf (by simp)
   ·simpa[kj]using h.leaf (by simp)
   ·simpa[kj]using h.leaf (by simp)
   ·simpa[kj]using h.seq rfl
   ·simpa[kj]using h.alt rfl
   ·simpa[kj]using h.one (by simp)
   ·simpa[kj]using h.one (by simp)
   ·simpa[kj]using h.one (by simp)
  unfold vm
  rw[h1,h2,h3,h4];rfl
mutual
def sz:Rx->Nat
 | .mk _ _ _ ks=>1+JK ks
def JK:List Rx->Nat
 |[]=>0
 |r::rs=>sz r+JK rs
end
theorem Fh:∀{ks:List Rx} {r:Rx},r∈ks->sz r<=JK ks
 |x::ks,r,h=>by
  simp only[JK]
  rcases o_.1 h with rfl|h
  ·omega
  ·have:=Fh h;omega
theorem La(r:Rx):0<sz r:=by cases r;simp only[sz];omega
theorem Fg:∀ks:List Rx,ks.length<=JK ks
 |[]=>n_ _
 |r::ks=>by
  simp only[JK,List.length_cons]
  have:=Fg ks;have:=La r;omega
mutual
def pR:Rx->Bool
 | .mk k lo hi ks=>vm k lo hi ks.length==0&&wc ks
def wc:List Rx->Bool
 |[]=>true
 |r::rs=>pR r&&wc rs
end
theorem wd:∀ks:List Rx,wc ks=true↔∀r∈ks,pR r=true
 |[]=>by simp[wc]
 |r::ks=>by simp[wc,wd ks]
theorem well_iff{k lo hi:Int}{ks:List Rx}:pR (.mk k lo hi ks)=true↔Node k lo hi ks.length/\∀r∈ks,pR r=true:=by
 simp only[pR,Bool.and_eq_true,beq_iff_eq,nodeE_zero,wd]
mutual
def En:Rx->Int->Int->Int×Int
 | .mk k lo hi ks,lv,c=>if lv>16 then(c,24)else if c>=64 then(c,4)else if vm k lo hi ks.length≠0 then(c,vm k lo hi ks.length)else uF ks (lv+1) (c+1)
def uF:List Rx->Int->Int->Int×Int
 |[],_,c=>(c,0)
 |r::rs,lv,c=>if(En r lv c).2≠0 then En r lv c else uF rs lv (En r lv c).1
end
open Go Go.Ev Go.Lib
def Ml(b:UInt8):Prop:=48<=b.toNat/\b.toNat<=57
instance (b:UInt8):Decidable (Ml b):=inferInstanceAs (Decidable (_/\_))
def LW(p:Int):Rx->Bool
 | .mk k _ _ ks=>bif k==4 then !ks.isEmpty else bif k==3 then p != 4 else(k==5||k==6||k==7)&&(p==5||p==6||p==7)
def Mg(w:Bool)(l:List UInt8):List UInt8:=bif w then 40::(l++[41])else l
def jn(sep:UInt8):List (List UInt8)->List UInt8
 |[]=>[]
 |[x]=>x
 |x::y::l=>x++sep::jn sep (y::l)
mutual
def LF:Rx->List UInt8
 | .mk k lo hi ks=>
  if k=0 then [40,41]else if k=2 then [46]
  else if k=1 then(if lo=hi then decDigits lo.toNat else 91::(decDigits lo.toNat++45::(decDigits hi.toNat++[93])))
  else if k=5 then(F7 5 ks).headD []++[42]else if k=6 then(F7 6 ks).headD []++[43]else if k=7 then(F7 7 ks).headD []++[63]
  else if k=4 then(if ks=[]then [33]else jn 124 (F7 4 ks))else jn 32 (F7 3 ks)
def F7:Int->List Rx->List (List UInt8)
 |_,[]=>[]
 |p,r::rs=>Mg (LW p r) (LF r)::F7 p rs
end
end Go.Pl
namespace Go.Ev
open Go Go.RowKit Go.Av
def C5(f:Nat->Int)(i:Nat):Nat->Int
 |0=>0
 |k+1=>if f i=0 then C5 f (i+1) k else f i
def pg(f:Nat->Int)(N:Nat):Int:=C5 f 0 N
theorem xJ{f:Nat->Int}:∀(k i:Nat),C5 f i k=0↔∀j,i<=j->j<i+k->f j=0
 |0,i=>by simp only[C5,true_iff];intro j h1 h2;omega
 |k+1,i=>by
  simp only[C5]
  split
  ·rename_i h
   rw[xJ k (i+1)]
   constructor
   ·intro g j h1 h2
    by_cases e:j=i
    ·subst e;exact h
    ·exact g j (by omega) (by omega)
   ·intro g j h1 h2;exact g j (by omega) (by omega)
  ·rename_i h
   constructor
   ·intro g;exact absurd g h
   ·intro g;exact absurd (g i (n_ _) (by omega)) h
theorem errN_zero{f:Nat->Int}{N:Nat}:pg f N=0↔∀j,j<N->f j=0:=by
 unfold pg
 rw[xJ]
 constructor
 ·intro h j hj;exact h j (Nat.zero_le _) (by omega)
 ·intro h j _ hj;exact h j (by omega)
def mw{α:Type}(f:α->Int)(l:List α):Int:=pg (λi=>match l[i]? with|some x=>f x|none=>0) l.length
theorem errL_zero{α:Type}{f:α->Int}{l:List α}:mw f l=0↔∀x∈l,f x=0:=by
 unfold mw
 rw[errN_zero]
 constructor
 ·intro h x hx
  obtain⟨i,hi,rfl⟩:=h_.1 hx
  have:=h i hi
  rw[c_ hi]at this
  exact this
 ·intro h i hi
  rw[c_ hi]
  exact h _ (List.getElem_mem hi)
theorem we{ρ β γ:Type}{N:Nat}{f:Nat->Int}{enc:Nat->ρ}{oB:Int->β}{oE:γ}{body:Nat->ρ->Option (ρ⊕β⊕γ)}{Q:β⊕γ->Prop}
 (h:∀i,i<N->Wp (λn=>body n (enc i)) λr=>r=if f i=0 then .inl (enc (i+1))else .inr (.inl (oB (f i))))
 (he:Wp (λn=>body n (enc N)) λr=>r= .inr (.inr oE))
 (hQ:Q (if pg f N=0 then .inr oE else .inl (oB (pg f N)))):Wp (λn=>bR n (body n) (enc 0)) Q:=by
 refine cP (N:=N) (I:=λi s=>s=enc i/\pg f N=C5 f i (N - i)) ⟨rfl,rfl⟩ (λi s hi hs=>?_) λs hs=>?_
 ·obtain⟨rfl,hd⟩:=hs
  refine wp_mono (h i hi) λr hr=>?_
  subst hr
  rw[show N - i=(N - (i+1))+1 by omega]at hd
  simp only[C5]at hd
  by_cases e:f i=0
  ·rw[if_pos e]at hd⊢
   exact⟨rfl,hd⟩
  ·rw[if_neg e]at hd⊢
   rw[hd,if_neg e]at hQ
   exact hQ
 ·obtain⟨rfl,hd⟩:=hs
  refine wp_mono he λr hr=>?_
  subst hr
  rw[Nat.sub_self]at hd
  rw[if_pos (show pg f N=0 from hd)]at hQ
  exact hQ
theorem Fi{α ρ β γ:Type}{l:List α}{f:α->Int}{enc:Nat->ρ}{oB:Int->β}{oE:γ}{body:Nat->ρ->Option (ρ⊕β⊕γ)}{Q:β⊕γ->Prop}
 (h:∀i (hi:i<l.length),Wp (λn=>body n (enc i)) λr=>r=if f l[i]=0 then .inl (enc (i+1))else .inr (.inl (oB (f l[i]))))
 (he:Wp (λn=>body n (enc l.length)) λr=>r= .inr (.inr oE))
 (hQ:Q (if mw f l=0 then .inr oE else .inl (oB (mw f l)))):Wp (λn=>bR n (body n) (enc 0)) Q:=by
 refine we (f:=λi=>match l[i]? with|some x=>f x|none=>0) (oB:=oB) (λi hi=>?_) he hQ
 have:=h i hi
 simp only[c_ hi]
 exact this
theorem Cl{α ρ β γ:Type}{xs:List α}{p:α->Bool}{enc:Nat->ρ}{g:α->β}{e:γ}{body:Nat->ρ->Option (ρ⊕β⊕γ)}{Q:β⊕γ->Prop}
 (h:∀(i:Nat) (hi:i<xs.length),Wp (λn=>body n (enc i)) λr=>r=if p xs[i]then .inr (.inl (g xs[i]))else .inl (enc (i+1)))
 (he:Wp (λn=>body n (enc xs.length)) λr=>r= .inr (.inr e))
 (hQ:Q (match xs.find? p with|some x=>.inl (g x)|none=>.inr e)):Wp (λn=>bR n (body n) (enc 0)) Q:=by
 refine cP (N:=xs.length) (I:=λi s=>s=enc i/\xs.find? p=(xs.drop i).find? p) ⟨rfl,by rw[List.drop_zero]⟩ (λi s hi hs=>?_) λs hs=>?_
 ·obtain⟨rfl,hd⟩:=hs
  refine wp_mono (h i hi) λr hr=>?_
  rw[List.drop_eq_getElem_cons hi,List.find?_cons]at hd
  subst hr
  cases hp:p xs[i]
  ·rw[hp]at hd
   simp only[Bool.false_eq_true,if_false]
   exact⟨trivial,hd⟩
  ·rw[hp]at hd
   simp only[if_true]
   rw[hd]at hQ
   exact hQ
 ·obtain⟨rfl,hd⟩:=hs
  refine wp_mono he λr hr=>?_
  subst hr
  rw[List.drop_length]at hd
  rw[hd]at hQ
  exact hQ
end Go.Ev
namespace Go.Pl
open Go Go.Av Go.Ev
abbrev sZ:Type:=Int×(Int×Unit)
abbrev L3:Type:=Int×(List UInt8×(Int×(sZ×(Bool×Unit))))
abbrev JP:Type:=Int×(Int×(Int×(Int×(Int×Unit))))
abbrev IQ:Type:=List UInt8×(List L3×(List JP×(Int×Unit)))
abbrev Kd:Type:=List UInt8×(List IQ×(Int×Unit))
abbrev L4:Type:=Bool×(sZ×(Int×(Int×Unit)))
abbrev MJ:Type:=List UInt8×(List L4×Unit)
abbrev MI:Type:=Bool×(List UInt8×Unit)
abbrev MH:Type:=List UInt8×(List MI×Unit)
abbrev MF:Type:=Bool×(Int×(Int×Unit))
abbrev ME:Type:=List UInt8×(List MF×Unit)
abbrev PS:Type:=List MJ×(List MH×(List ME×(List Kd×Unit)))
abbrev yP:Ty:=pr [tW,tI]
abbrev yM:Ty:=pr [tI,tS,tI,yP,tB]
abbrev yA:Ty:=pr [tI,tI,tI,tW,tW]
abbrev yT:Ty:=pr [tS,.list yM,.list yA,tI]
abbrev yO:Ty:=pr [tS,.list yT,tI]
abbrev yR:Ty:=pr [tB,yP,tI,tI]
abbrev yL:Ty:=pr [tS,.list yR]
abbrev yH:Ty:=pr [tB,tS]
abbrev yG:Ty:=pr [tS,.list yH]
abbrev yC:Ty:=pr [tB,tI,tI]
abbrev yD:Ty:=pr [tS,.list yC]
abbrev yS:Ty:=pr [.list yL,.list yG,.list yD,.list yO]
def dW(p:sZ):Bool:=(decide (0<=p.2.1)&&decide (p.2.1<=32))&&(xT p.1 p.2.1==p.1)
def KE(c:UInt8):Bool:=(((decide ((c.toNat:Int)>=97)&&decide ((c.toNat:Int)<=122))||(decide ((c.toNat:Int)>=65)&&decide ((c.toNat:Int)<=90)))||(decide ((c.toNat:Int)>=48)&&decide ((c.toNat:Int)<=57)))||((c.toNat:Int)==45)
def x9(s:List UInt8):Bool:=s.all KE&&(decide (1<=s.length)&&decide (s.length<=32))
def Jt(r:L4):Int:=if dW r.2.1=false then 1 else if r.2.2.1<r.2.1.2.1\/r.2.2.2.1<r.2.2.1\/r.2.2.2.1>32 then 5 else 0
def Kp(r:MF):Int:=if r.2.1< -1\/r.2.1>65535\/r.2.2.1< -1\/r.2.2.1>65535 then 5 else 0
def KI(a b:List UInt8):Bool:=Op.bytesLess a b||a==b
def Jo(l:List (List UInt8))(i:Nat):Int:=match l[i]? with
 |none=>0
 |some x=>if x9 x=false then 1 else if 0<i/\KI x (l.getD (i - 1) [])=true then 16 else 0
def MM{α:Type}(nm:α->List UInt8)(sz:α->Nat)(ck:α->Int)(l:List α)(i:Nat):Int:=if Jo (l.map nm) i≠0 then Jo (l.map nm) i else match l[i]? with
 |none=>0
 |some x=>if sz x>64 then 4 else ck x
def zA{α:Type}(nm:α->List UInt8)(sz:α->Nat)(ck:α->Int)(l:List α):Int:=if l.length>64 then 4 else pg (MM nm sz ck l) l.length
def Mn(k:Int):Int:=if k=4 then 1 else 0
def Lu(k:Int):Int:=if k=4 then 7 else if k=5 then 4294967295 else if k=6 then 16777216 else 2000
def Mm(s:PS)(k:Int)(n:List UInt8):Bool:=if k=1 then s.1.any (·.1==n)else if k=2 then s.2.1.any (·.1==n)else s.2.2.1.any (·.1==n)
def KA(s:PS)(m:L3):Int:=
 if m.1<1\/8<m.1 then 15
 else if(3<m.1/\m.2.1≠[])\/(¬(m.1=4\/m.1=5\/m.1=6\/m.1=8)/\m.2.2.1≠0)\/(m.1≠7/\(m.2.2.2.1.1≠0\/m.2.2.2.1.2.1≠0))then 1
 else if m.1<=3 then(if Mm s m.1 m.2.1 then 0 else 6)
 else if m.1=7 then(if dW m.2.2.2.1 then 0 else 1)
 else if m.2.2.1<Mn m.1\/Lu m.1<m.2.2.1 then 5 else 0
def LC(a:JP):JP:=if a.1<=4 then(a.1,a.2.1,0,0,0,())else if a.1=5 then(a.1,0,0,0,a.2.2.2.2.1,())else if a.1<=7 then(a.1,0,0,a.2.2.2.1,0,())else(a.1,a.2.1,a.2.2.1,0,0,())
def Ls(a:JP):Bool:=if a.1=3 then decide (0<=a.2.1)&&decide (a.2.1<=16777216)else if a.1<=4 then decide (0<=a.2.1)&&decide (a.2.1<=4294967295)else if a.1=5 then a.2.2.2.2.1 != 0
 else if a.1<=7 then true else(decide (1<=a.2.2.1)&&decide (a.2.2.1<=4294967295))&&(decide (1<=a.2.1)&&decide (a.2.1<=16))
def Ki(a:JP):Int:=if a.1<1\/8<a.1 then 15 else if ¬a=LC a then 1 else if Ls a=false then 5 else 0
def JL(s:PS)(before:List IQ)(t:IQ):Int:=
 if x9 t.1=false then 1
 else if before.any (·.1==t.1)=true then 7
 else if t.2.1.length>64 then 4
 else if mw (KA s) t.2.1≠0 then mw (KA s) t.2.1
 else if t.2.2.1.length>64 then 4
 else if mw Ki t.2.2.1≠0 then mw Ki t.2.2.1
 else if t.2.2.2.1<1\/3<t.2.2.2.1 then 15 else 0
def KS(s:PS)(p:Kd):Int:=
 if pg (λi=>match p.2.1[i]? with|some t=>JL s (p.2.1.take i) t|none=>0) p.2.1.length≠0 then pg (λi=>match p.2.1[i]? with|some t=>JL s (p.2.1.take i) t|none=>0) p.2.1.length
 else if p.2.2.1≠1/\p.2.2.1≠2 then 15 else 0
def tM(pe:List UInt8->Int)(s:PS):Int:=
 if zA (·.1) (λl=>l.2.1.length) (λl=>mw Jt l.2.1) s.1≠0 then zA (·.1) (λl=>l.2.1.length) (λl=>mw Jt l.2.1) s.1
 else if zA (·.1) (λl=>l.2.1.length) (λl=>mw (λr=>pe r.2.1) l.2.1) s.2.1≠0 then zA (·.1) (λl=>l.2.1.length) (λl=>mw (λr=>pe r.2.1) l.2.1) s.2.1
 else if zA (·.1) (λl=>l.2.1.length) (λl=>mw Kp l.2.1) s.2.2.1≠0 then zA (·.1) (λl=>l.2.1.length) (λl=>mw Kp l.2.1) s.2.2.1
 else zA (·.1) (λp=>p.2.1.length) (KS s) s.2.2.2.1
structure SmP(s:PS):Prop where
 ok:okD yS s
 l1:s.1.length<=1048576
 l2:s.2.1.length<=1048576
 l3:s.2.2.1.length<=1048576
 l4:s.2.2.2.1.length<=1048576
 pt:∀l∈s.2.1,∀r∈l.2.1,r.2.1.length<=1048576
theorem tZ{α:Type}{nm:α->List UInt8}{sz:α->Nat}{ck:α->Int}{l:List α}(h:zA nm sz ck l=0):l.length<=64/\∀x∈l,x9 (nm x)=true/\sz x<=64/\ck x=0:=by
 unfold zA at h
 split at h
 ·cases h
 rename_i hl
 refine⟨by omega,λx hx=>?_⟩
 obtain⟨i,hi,rfl⟩:=h_.1 hx
 have h1:=errN_zero.1 h i hi
 unfold MM at h1
 split at h1
 ·rename_i h2;exact absurd h1 h2
 rename_i h2
 rw[c_ hi]at h1
 simp only at h1
 split at h1
 ·cases h1
 rename_i h3
 refine⟨?_,by omega,h1⟩
 have h4:Jo (l.map nm) i=0:=b_ h2
 unfold Jo at h4
 rw[List.getElem?_map,c_ hi]at h4
 simp only[Option.map_some]at h4
 split at h4
 ·cases h4
 rename_i h5
 cases e:x9 (nm l[i])
 ·exact absurd e h5
 ·rfl
structure TrmOk(s:PS)(t:IQ):Prop where
 nm:x9 t.1=true
 ml:t.2.1.length<=64
 ma:∀m∈t.2.1,KA s m=0
 al:t.2.2.1.length<=64
 ac:∀a∈t.2.2.1,Ki a=0
 ve:1<=t.2.2.2.1/\t.2.2.2.1<=3
theorem JM{s:PS}{b:List IQ}{t:IQ}(h:JL s b t=0):TrmOk s t:=by
 unfold JL at h
 split at h
 ·cases h
 rename_i h0
 split at h
 ·cases h
 split at h
 ·cases h
 rename_i h1
 split at h
 ·rename_i h2;exact absurd h h2
 rename_i h2
 split at h
 ·cases h
 rename_i h3
 split at h
 ·rename_i h4;exact absurd h h4
 rename_i h4
 split at h
 ·cases h
 rename_i h5
 refine⟨?_,by omega,errL_zero.1 (b_ h2),by omega,errL_zero.1 (b_ h4),by omega⟩
 cases e:x9 t.1
 ·exact absurd e h0
 ·rfl
structure PlcOk(s:PS)(p:Kd):Prop where
 tl:p.2.1.length<=64
 tr:∀t∈p.2.1,TrmOk s t
 df:p.2.2.1=1\/p.2.2.1=2
structure PolOk(pe:List UInt8->Int)(s:PS):Prop where
 l1:s.1.length<=64
 r1:∀l∈s.1,l.2.1.length<=64/\∀r∈l.2.1,Jt r=0
 l2:s.2.1.length<=64
 r2:∀l∈s.2.1,l.2.1.length<=64/\∀r∈l.2.1,pe r.2.1=0
 l3:s.2.2.1.length<=64
 r3:∀l∈s.2.2.1,l.2.1.length<=64/\∀r∈l.2.1,Kp r=0
 l4:s.2.2.2.1.length<=64
 r4:∀p∈s.2.2.2.1,PlcOk s p
theorem Js{s:PS}{p:Kd}(hl:p.2.1.length<=64)(h:KS s p=0):PlcOk s p:=by
 unfold KS at h
 split at h
 ·rename_i h0;exact absurd h h0
 rename_i h0
 split at h
 ·cases h
 rename_i h1
 refine⟨hl,λt ht=>?_,by omega⟩
 obtain⟨i,hi,rfl⟩:=h_.1 ht
 have h2:=errN_zero.1 (b_ h0) i hi
 rw[c_ hi]at h2
 exact JM h2
theorem ER{pe:List UInt8->Int}{s:PS}(h:tM pe s=0):PolOk pe s:=by
 unfold tM at h
 split at h
 ·rename_i h0;exact absurd h h0
 rename_i h1
 split at h
 ·rename_i h0;exact absurd h h0
 rename_i h2
 split at h
 ·rename_i h0;exact absurd h h0
 rename_i h3
 have k1:=tZ (b_ h1)
 have k2:=tZ (b_ h2)
 have k3:=tZ (b_ h3)
 have k4:=tZ h
 exact⟨k1.1,λl hl=>⟨(k1.2 l hl).2.1,errL_zero.1 (k1.2 l hl).2.2⟩,k2.1,λl hl=>⟨(k2.2 l hl).2.1,λr hr=>errL_zero.1 (k2.2 l hl).2.2 r hr⟩,k3.1,λl hl=>⟨(k3.2 l hl).2.1,errL_zero.1 (k3.2 l hl).2.2⟩,
  k4.1,λp hp=>Js (k4.2 p hp).2.1 (k4.2 p hp).2.2⟩
def sf(s:PS)(n:List UInt8):Option Kd:=s.2.2.2.1.find? (·.1==n)
end Go.Pl
