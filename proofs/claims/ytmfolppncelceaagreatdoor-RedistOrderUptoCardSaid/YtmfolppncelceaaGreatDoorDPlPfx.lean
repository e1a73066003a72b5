import Derived.Test.YtmfolppncelceaaGreatDoorDL7
import Derived.Test.YtmfolppncelceaaGreatDoorDL5
import Derived.Lib.ItoaNum
set_option linter.unusedVariables false
set_option linter.unusedSimpArgs false
open Bool renaming false_or->n_,and_eq_false_iff->o_,or_eq_false_iff->q_,true_and->r_,false_and->z_
open Classical renaming byContradiction->d_
open Go.IntKind renaming bits->v_,wrap->D_
open List renaming length_append->a_,getElem?_eq_getElem->b_,getElem?_append_left->c_,getElem?_eq_some_iff->e_,mem_cons_self->f_,mem_cons_of_mem->g_,mem_append->h_,cons_append->i_,length_nil->j_,mem_iff_getElem->k_,length_singleton->p_,map_cons->s_,sum_cons->t_,mem_singleton->u_,take_add_one->w_,length_cons->x_,mem_cons->A_,getD->C_
open Nat renaming zero_add->l_,le_refl->m_,strongRecOn->y_,le_trans->B_
namespace Go.Pl
open Go Go.Av Go.Ev
def IB(x n:Nat):Nat:=x>>>(32 - n) <<< (32 - n)
def FK(x n:Int):Int:=(IB x.toNat n.toNat:Int)
theorem QF(x n j:Nat):(IB x n).testBit j=(decide (32 - n<=j)&&x.testBit j):=by
 unfold IB
 rw[Nat.testBit_shiftLeft]
 by_cases h:32 - n<=j
 ·rw[decide_eq_true (show j>=32 - n from h),Nat.testBit_shiftRight]
  congr 2;omega
 ·rw[decide_eq_false (show ¬j>=32 - n from h),z_,z_]
theorem SS{x:Nat}(hx:x<4294967296){j:Nat}(hj:32<=j):x.testBit j=false:=
 Nat.testBit_lt_two_pow (Nat.lt_of_lt_of_le hx (B_ (show 4294967296<=2^32 by decide) (Nat.pow_le_pow_right (by decide) hj)))
theorem QG{x n:Nat}(hx:x<4294967296)(hn:n<=32):x&&&(4294967295*2^(32 - n)%4294967296)=IB x n:=by
 refine Nat.eq_of_testBit_eq λj=>?_
 rw[Nat.testBit_and,QF]
 by_cases hj:j<32
 ·have e:(4294967295*2^(32 - n)%4294967296).testBit j=decide (32 - n<=j):=by
   rw[show(4294967296:Nat)=2^32 from rfl,Nat.testBit_mod_two_pow,decide_eq_true hj,r_,Nat.testBit_mul_two_pow]
   by_cases h:32 - n<=j
   ·rw[decide_eq_true (show j>=32 - n from h),r_,show(4294967295:Nat)=2^32 - 1 from rfl,Nat.testBit_two_pow_sub_one]
    exact decide_eq_true (by omega)
   ·rw[decide_eq_false (show ¬j>=32 - n from h)];rfl
  rw[e,Bool.and_comm]
 ·rw[SS hx (by omega)]
  simp
theorem Sm{x y:Nat}(hx:x<4294967296)(hy:y<4294967296):sy .u32 .and (x:Int) (y:Int)=((x&&&y:Nat):Int):=by
 show D_ .u32 ((BitVec.ofInt (v_ .u32) (x:Int)&&&BitVec.ofInt (v_ .u32) (y:Int)).toNat:Int)=_
 rw[wrap_u32,BitVec.toNat_and]
 have e:∀z:Nat,z<4294967296->(BitVec.ofInt (v_ .u32) (z:Int)).toNat=z:=λz hz=>by
  rw[BitVec.toNat_ofInt]
  show(((z:Int)%((2^32:Nat):Int))).toNat=z
  omega
 rw[e x hx,e y hy]
 have:x&&&y<=x:=Nat.and_le_left
 omega
section
variable {α β σ τ:Type}
theorem L8{L L':List τ}(h:L<+:L'){i:Nat}{x:τ}(hx:L[i]? =some x):L'[i]? =some x:=by
 obtain⟨t,rfl⟩:=h
 rw[c_ (e_.1 hx).1];exact hx
section
variable {f:α->β->α} {s0:α} {ls:List β}
structure Ok(f:α->β->α)(s0:α)(ls:List β)(L:List α)(T:List (Nat×β)):Prop where
 nodup:L.Nodup
 len:L.length=T.length+1
 head:L[0]? =some s0
 link:∀k j c,T[k]? =some (j,c)->j<k+1/\c∈ls/\∃x,L[j]? =some x/\L[k+1]? =some (f x c)
theorem Ok.add{L:List α}{T:List (Nat×β)}(h:Ok f s0 ls L T){x:α}{i:Nat}{c:β}(hx:L[i]? =some x)(hc:c∈ls)(hn:f x c∉L):Ok f s0 ls (L++[f x c]) (T++[(i,c)]):=by
 have hi:i<L.length:=(e_.1 hx).1
 have hl:=h.len
 refine⟨?_,by simp[hl],?_,λk j c' hk=>?_⟩
 ·rw[List.nodup_append]
  exact⟨h.nodup,by simp,λa ha b hb=>by simp at hb;subst hb;rintro rfl;exact hn ha⟩
 ·rw[c_ (by omega)];exact h.head
 ·by_cases hk2:k<T.length
  ·rw[c_ hk2]at hk
   obtain⟨h1,h2,y,h3,h4⟩:=h.link k j c' hk
   exact⟨h1,h2,y,by rw[c_ (by omega)];exact h3,by rw[c_ (by omega)];exact h4⟩
  ·rw[List.getElem?_append_right (by omega)]at hk
   have hk3:k=T.length:=by
    have:=(e_.1 hk).1
    simp at this;omega
   subst hk3
   simp at hk
   obtain⟨rfl,rfl⟩:=hk
   refine⟨by omega,hc,x,by rw[c_ hi];exact hx,?_⟩
   rw[show T.length+1=L.length by omega]
   simp
def Quiet(sp:List α->α->Bool)(L:List α):Prop:=∀k x,L[k+1]? =some x->sp (L.take (k+1)) x=false
theorem Quiet.add{sp:List α->α->Bool}{L:List α}{y:α}(h:Quiet sp L)(hs:sp L y=false):Quiet sp (L++[y]):=by
 intro k x hx
 by_cases hk:k+1<L.length
 ·rw[c_ hk]at hx
  rw[List.take_append_of_le_length (by omega)]
  exact h k x hx
 ·have hk2:=(e_.1 hx).1
  simp at hk2
  have:k+1=L.length:=by omega
  rw[this]at hx⊢
  simp at hx
  subst hx
  simpa using hs
theorem Ok.pre{L L':List α}{T T':List (Nat×β)}(h:Ok f s0 ls L T)(hL:L'<+:L)(hT:T'<+:T)(hl:L'.length=T'.length+1):Ok f s0 ls L' T':=by
 have hget:∀k,k<L'.length->L'[k]? =L[k]? :=λk hk=>by
  obtain⟨t,rfl⟩:=hL
  rw[c_ hk]
 refine⟨h.nodup.sublist hL.sublist,hl,by rw[hget 0 (by omega)];exact h.head,λk j c hk=>?_⟩
 have hk':=(e_.1 hk).1
 obtain⟨h1,h2,x,h3,h4⟩:=h.link k j c (L8 hT hk)
 exact⟨h1,h2,x,by rw[hget j (by omega)];exact h3,by rw[hget (k+1) (by omega)];exact h4⟩
inductive Tr(T:List (Nat×β)):Nat->List β->Prop
 |zero:Tr T 0 []
 |step {k j:Nat} {c:β} {p:List β}:T[k]? =some (j,c)->Tr T j p->Tr T (k+1) (p++[c])
theorem Tr.mono{T T':List (Nat×β)}(hp:T<+:T'){k:Nat}{p:List β}(h:Tr T k p):Tr T' k p:=by
 induction h with
 |zero=>exact .zero
 |step h1 _ ih=>exact .step (L8 hp h1) ih
theorem Ok.tr{L:List α}{T:List (Nat×β)}(h:Ok f s0 ls L T):∀k,k<L.length->∃p,Tr T k p:=by
 intro k
 induction k using y_ with
 |ind k ih=>
  intro hk
  match k with
  |0=>exact⟨[],.zero⟩
  |k+1=>
   have hT:=b_ (l:=T) (i:=k) (by have:=h.len;omega)
   obtain⟨h1,_⟩:=h.link k _ _ hT
   obtain⟨p,hp⟩:=ih _ h1 (by omega)
   exact⟨_,.step hT hp⟩
theorem Tr.len{L:List α}{T:List (Nat×β)}(h:Ok f s0 ls L T){k:Nat}{p:List β}(ht:Tr T k p):p.length<=k:=by
 induction ht with
 |zero=>exact m_ _
 |step h1 _ ih=>
  have:=(h.link _ _ _ h1).1
  simp only[a_,p_]
  omega
end
variable [DecidableEq α]
variable (f:α->β->α) (s0:α) (ls:List β)
variable {f s0 ls}
end
open Go Go.Ev
theorem mN{P:Rx->Prop}(h:∀k lo hi ks,(∀r∈ks,P r)->P (.mk k lo hi ks)):∀r,P r:=
 λr=>Rx.rec (motive_1:=P) (motive_2:=λks=>∀r∈ks,P r) (λk lo hi ks ih=>h k lo hi ks ih) (λr hr=>by cases hr) (λr ks ih1 ih2 x hx=>by
  rcases A_.1 hx with rfl|hx
  ·exact ih1
  ·exact ih2 x hx) r
theorem od(v:Rx):Rx.mk v.out.1 v.out.2.1 v.out.2.2.1 v.out.2.2.2.1=v:=by cases v;rfl
structure G where
 fi:List Nat
 la:List Nat
 em:Bool
 pr:List (Nat×Nat)
 sp:List (Int×Int)
def m4(a b:List Nat):List (Nat×Nat):=a.flatMap λp=>b.map λq=>(p,q)
theorem IU{a b:List Nat}{p q:Nat}:(p,q)∈m4 a b↔p∈a/\q∈b:=by
 unfold m4
 simp only[List.mem_flatMap,List.mem_map,Prod.mk.injEq]
 constructor
 ·rintro⟨x,hx,y,hy,rfl,rfl⟩;exact⟨hx,hy⟩
 ·rintro⟨hp,hq⟩;exact⟨p,hp,q,hq,rfl,rfl⟩
def tP(a x:G):G:=⟨if a.em then a.fi++x.fi else a.fi,if x.em then a.la++x.la else x.la,a.em&&x.em,a.pr++x.pr++m4 a.la x.fi,a.sp++x.sp⟩
def AB(a x:G):G:=⟨a.fi++x.fi,a.la++x.la,a.em||x.em,a.pr++x.pr,a.sp++x.sp⟩
def tF(x:G):G:=⟨x.fi,x.la,x.em,x.pr++m4 x.la x.fi,x.sp⟩
def SC(x:G):G:=⟨x.fi,x.la,true,x.pr,x.sp⟩
def g0(e:Bool):G:=⟨[],[],e,[],[]⟩
def O8(o:Nat)(lo hi:Int):G:=⟨[o],[o],false,[],[(lo,hi)]⟩
mutual
def iG:Rx->Nat->G
 | .mk k lo hi ks,o=>
  if k=1 then O8 o lo hi else if k=2 then O8 o 0 4294967295
  else if k=3 then lR ks o (g0 true)else if k=4 then jH ks o (g0 false)
  else if k=5 then SC (tF (jH ks o (g0 false)))else if k=6 then tF (jH ks o (g0 false))
  else if k=7 then SC (jH ks o (g0 false))else g0 true
def lR:List Rx->Nat->G->G
 |[],_,a=>a
 |r::rs,o,a=>lR rs o (tP a (iG r (o+a.sp.length)))
def jH:List Rx->Nat->G->G
 |[],_,a=>a
 |r::rs,o,a=>jH rs o (AB a (iG r (o+a.sp.length)))
end
theorem Ly(o:Nat):∀(l m:List Rx) (a:G),lR (l++m) o a=lR m o (lR l o a)
 |[],_,_=>by simp[lR]
 |r::l,m,a=>by simp only[i_,lR];exact Ly o l m _
theorem Lx(o:Nat):∀(l m:List Rx) (a:G),jH (l++m) o a=jH m o (jH l o a)
 |[],_,_=>by simp[jH]
 |r::l,m,a=>by simp only[i_,jH];exact Lx o l m _
theorem QC{o:Nat}{ks:List Rx}{i:Nat}(h:i<ks.length)(a:G):lR (ks.take (i+1)) o a=tP (lR (ks.take i) o a) (iG ks[i] (o+(lR (ks.take i) o a).sp.length)):=by
 rw[w_,b_ h,Ly];simp[lR]
theorem QB{o:Nat}{ks:List Rx}{i:Nat}(h:i<ks.length)(a:G):jH (ks.take (i+1)) o a=AB (jH (ks.take i) o a) (iG ks[i] (o+(jH (ks.take i) o a).sp.length)):=by
 rw[w_,b_ h,Lx];simp[jH]
theorem Vj{P:Nat->G->Prop}(h0:∀o e,P o (g0 e))(h1:∀o lo hi,P o (O8 o lo hi))(hs:∀o a x,P o a->P (o+a.sp.length) x->P o (tP a x))(ha:∀o a x,P o a->P (o+a.sp.length) x->P o (AB a x))
 (hl:∀o a,P o a->P o (tF a)) (he:∀o a,P o a->P o (SC a)):∀(r:Rx) (o:Nat),P o (iG r o):=by
 intro r
 refine mN (P:=λr=>∀o,P o (iG r o)) (λk lo hi ks ih o=>?_) r
 have hA:∀(l:List Rx) (a:G),(∀r∈l,∀o,P o (iG r o))->P o a->P o (jH l o a):=by
  intro l
  induction l with
  |nil=>intro a _ h;exact h
  |cons r l ih=>intro a hl h;exact ih _ (λr hr=>hl r (g_ _ hr)) (ha o a _ h (hl r (f_ ..) _))
 have hS:∀(l:List Rx) (a:G),(∀r∈l,∀o,P o (iG r o))->P o a->P o (lR l o a):=by
  intro l
  induction l with
  |nil=>intro a _ h;exact h
  |cons r l ih=>intro a hl h;exact ih _ (λr hr=>hl r (g_ _ hr)) (hs o a _ h (hl r (f_ ..) _))
 unfold iG
 split
 ·exact h1 _ _ _
 split
 ·exact h1 _ _ _
 split
 ·exact hS _ _ ih (h0 _ _)
 split
 ·exact hA _ _ ih (h0 _ _)
 split
 ·exact he _ _ (hl _ _ (hA _ _ ih (h0 _ _)))
 split
 ·exact hl _ _ (hA _ _ ih (h0 _ _))
 split
 ·exact he _ _ (hA _ _ ih (h0 _ _))
 ·exact h0 _ _
structure Lie(o:Nat)(g:G):Prop where
 fi:∀p∈g.fi,o<=p/\p<o+g.sp.length
 la:∀p∈g.la,o<=p/\p<o+g.sp.length
 pr:∀p q,(p,q)∈g.pr->(o<=p/\p<o+g.sp.length)/\o<=q/\q<o+g.sp.length
 fl:g.fi.length<=g.sp.length
 ll:g.la.length<=g.sp.length
theorem Vs{o:Nat}{a x:G}(ha:Lie o a)(hx:Lie (o+a.sp.length) x):Lie o (tP a x):=by
 have hfl:=ha.fl;have hll:=ha.ll;have hfx:=hx.fl;have hlx:=hx.ll
 refine⟨λp hp=>?_,λp hp=>?_,λp q hp=>?_,?_,?_⟩
 ·simp only[tP,a_]at hp⊢
  split at hp
  ·rcases h_.1 hp with h|h
   ·have:=ha.fi p h;omega
   ·have:=hx.fi p h;omega
  ·have:=ha.fi p hp;omega
 ·simp only[tP,a_]at hp⊢
  split at hp
  ·rcases h_.1 hp with h|h
   ·have:=ha.la p h;omega
   ·have:=hx.la p h;omega
  ·have:=hx.la p hp;omega
 ·simp only[tP,a_,h_,IU]at hp⊢
  rcases hp with(h|h)|⟨h,h'⟩
  ·have:=ha.pr p q h;omega
  ·have:=hx.pr p q h;omega
  ·have:=ha.la p h;have:=hx.fi q h';omega
 ·simp only[tP,a_]
  split
  ·rw[a_];omega
  ·omega
 ·simp only[tP,a_]
  split
  ·rw[a_];omega
  ·omega
theorem Vr{o:Nat}{a x:G}(ha:Lie o a)(hx:Lie (o+a.sp.length) x):Lie o (AB a x):=by
 have hfl:=ha.fl;have hll:=ha.ll;have hfx:=hx.fl;have hlx:=hx.ll
 refine⟨λp hp=>?_,λp hp=>?_,λp q hp=>?_,?_,?_⟩
 ·simp only[AB,a_]at hp⊢
  rcases h_.1 hp with h|h
  ·have:=ha.fi p h;omega
  ·have:=hx.fi p h;omega
 ·simp only[AB,a_]at hp⊢
  rcases h_.1 hp with h|h
  ·have:=ha.la p h;omega
  ·have:=hx.la p h;omega
 ·simp only[AB,a_,h_]at hp⊢
  rcases hp with h|h
  ·have:=ha.pr p q h;omega
  ·have:=hx.pr p q h;omega
 ·simp only[AB,a_];omega
 ·simp only[AB,a_];omega
theorem S5{o:Nat}{x:G}(h:Lie o x):Lie o (tF x):=by
 refine⟨h.fi,h.la,λp q hp=>?_,h.fl,h.ll⟩
 simp only[tF,h_,IU]at hp⊢
 rcases hp with hp|⟨h1,h2⟩
 ·exact h.pr p q hp
 ·exact⟨h.la p h1,h.fi q h2⟩
theorem WM(o:Nat)(e:Bool):Lie o (g0 e):=⟨by simp[g0],by simp[g0],by simp[g0],by simp[g0],by simp[g0]⟩
theorem uE:∀(r:Rx) (o:Nat),Lie o (iG r o):=
 Vj WM (λo lo hi=>⟨by simp[O8],by simp[O8],by simp[O8],by simp[O8],by simp[O8]⟩) (λ_ _ _ ha hx=>Vs ha hx) (λ_ _ _ ha hx=>Vr ha hx) (λ_ _ h=>S5 h) (λo a h=>⟨h.fi,h.la,h.pr,h.fl,h.ll⟩)
def nS(k n:Int):Bool:=bif k==0||k==1||k==2 then n==0 else bif k==3 then decide (n>=2)else bif k==4 then n != 1 else bif k==5||k==6||k==7 then n==1 else false
def wO(k:Int):Bool:=k==0||k==1||k==2||k==3||k==4||k==5||k==6||k==7
def oz(k lo hi n:Int):Int:=
 bif !wO k then 15 else bif k==1&&(decide (lo<0)||decide (lo>hi)||decide (hi>4294967295))then 5 else bif (k != 1&&(lo != 0||hi != 0))|| !nS k n then 1 else 0
theorem knownB_iff{k:Int}:wO k=true↔k=0\/k=1\/k=2\/k=3\/k=4\/k=5\/k=6\/k=7:=by
 simp only[wO,Bool.or_eq_true,beq_iff_eq,or_assoc]
structure Node(k lo hi n:Int):Prop where
 known:k=0\/k=1\/k=2\/k=3\/k=4\/k=5\/k=6\/k=7
 rng:k=1->0<=lo/\lo<=hi/\hi<=4294967295
 zero:k≠1->lo=0/\hi=0
 leaf:k=0\/k=1\/k=2->n=0
 seq:k=3->2<=n
 alt:k=4->n≠1
 one:k=5\/k=6\/k=7->n=1
theorem nodeE_zero{k lo hi n:Int}:oz k lo hi n=0↔Node k lo hi n:=by
 constructor
 ·intro h
  unfold oz at h
  cases h1:wO k
  ·rw[h1]at h;exact absurd h (by simp)
  rw[h1]at h
  have hk:=knownB_iff.1 h1
  simp only[Bool.not_true,cond_false]at h
  cases h2:(k==1&&(decide (lo<0)||decide (lo>hi)||decide (hi>4294967295)))
  ·rw[h2]at h
   simp only[cond_false]at h
   cases h3:((k != 1&&(lo != 0||hi != 0))|| !nS k n)
   ·simp only[q_,o_,bne_eq_false_iff_eq,Bool.not_eq_false',beq_eq_false_iff_ne,decide_eq_false_iff_not]at h2 h3
    obtain⟨h3,h4⟩:=h3
    refine⟨hk,λe=>?_,λe=>?_,λe=>?_,λe=>?_,λe=>?_,λe=>?_⟩
    ·rcases h2 with h2|h2
     ·exact absurd e h2
     ·omega
    ·rcases h3 with h3|h3
     ·exact absurd h3 e
     ·exact h3
    ·rcases e with rfl|rfl|rfl<;>simpa[nS]using h4
    ·subst e;simpa[nS]using h4
    ·subst e;simpa[nS]using h4
    ·rcases e with rfl|rfl|rfl<;>simpa[nS]using h4
   ·rw[h3]at h;exact absurd h (by simp)
  ·rw[h2]at h;exact absurd h (by simp)
 ·intro h
  have h1:wO k=true:=knownB_iff.2 h.known
  have h2:(k==1&&(decide (lo<0)||decide (lo>hi)||decide (hi>4294967295)))=false:=by
   by_cases e:k=1
   ·have:=h.rng e
    simp only[o_,q_,decide_eq_false_iff_not]
    exact .inr ⟨⟨by omega,by omega⟩,by omega⟩
   ·simp[e]
  have h3:(k != 1&&(lo != 0||hi != 0))=false:=by
   by_cases e:k=1
   ·simp[e]
   ·have:=h.zero e
    simp[this]
  have h4:nS k n=true:=by
   rcases h.known with rfl|rfl|rfl|rfl|rfl|rfl|rfl|rfl
   ·simpa[nS]using h.leaf (by simp)
   ·simpa[nS]using h.leaf (by simp)
   ·simpa[nS]using h.leaf (by simp)
   ·simpa[nS]using h.seq rfl
   ·simpa[nS]using h.alt rfl
   ·simpa[nS]using h.one (by simp)
   ·simpa[nS]using h.one (by simp)
   ·simpa[nS]using h.one (by simp)
  unfold oz
  rw[h1,h2,h3,h4];rfl
mutual
def sz:Rx->Nat
 | .mk _ _ _ ks=>1+wZ ks
def wZ:List Rx->Nat
 |[]=>0
 |r::rs=>sz r+wZ rs
end
theorem xP:∀{ks:List Rx} {r:Rx},r∈ks->sz r<=wZ ks
 |x::ks,r,h=>by
  simp only[wZ]
  rcases A_.1 h with rfl|h
  ·omega
  ·have:=xP h;omega
theorem Xp(r:Rx):0<sz r:=by cases r;simp only[sz];omega
theorem EJ:∀ks:List Rx,ks.length<=wZ ks
 |[]=>m_ _
 |r::ks=>by
  simp only[wZ,x_]
  have:=EJ ks;have:=Xp r;omega
theorem Kg:∀l m:List Rx,wZ (l++m)=wZ l+wZ m
 |[],m=>by simp[wZ]
 |r::l,m=>by simp only[i_,wZ,Kg l m];omega
mutual
def dq:Rx->Bool
 | .mk k lo hi ks=>oz k lo hi ks.length==0&&xk ks
def xk:List Rx->Bool
 |[]=>true
 |r::rs=>dq r&&xk rs
end
theorem u4:∀ks:List Rx,xk ks=true↔∀r∈ks,dq r=true
 |[]=>by simp[xk]
 |r::ks=>by simp[xk,u4 ks]
theorem well_iff{k lo hi:Int}{ks:List Rx}:dq (.mk k lo hi ks)=true↔Node k lo hi ks.length/\∀r∈ks,dq r=true:=by
 simp only[dq,Bool.and_eq_true,beq_iff_eq,nodeE_zero,u4]
mutual
def Am:Rx->Int->Int->Int×Int
 | .mk k lo hi ks,lv,c=>if lv>16 then(c,24)else if c>=64 then(c,4)else if oz k lo hi ks.length≠0 then(c,oz k lo hi ks.length)else lD ks (lv+1) (c+1)
def lD:List Rx->Int->Int->Int×Int
 |[],_,c=>(c,0)
 |r::rs,lv,c=>if(Am r lv c).2≠0 then Am r lv c else lD rs lv (Am r lv c).1
end
mutual
def Tm:Rx->Bool
 | .mk k _ _ ks=>bif k==0||k==5||k==7 then true else bif k==3||k==6 then QT ks else bif k==4 then QU ks else false
def QT:List Rx->Bool
 |[]=>true
 |r::rs=>Tm r&&QT rs
def QU:List Rx->Bool
 |[]=>false
 |r::rs=>Tm r||QU rs
end
mutual
def cnt:Rx->Nat
 | .mk k _ _ ks=>(bif k==1||k==2 then 1 else 0)+d6 ks
def d6:List Rx->Nat
 |[]=>0
 |r::rs=>cnt r+d6 rs
end
theorem ww:∀l m:List Rx,d6 (l++m)=d6 l+d6 m
 |[],m=>by simp[d6]
 |r::l,m=>by simp only[i_,d6,ww l m];omega
theorem Sx(r:Rx):cnt r<=sz r:=by
 refine mN (P:=λr=>cnt r<=sz r) (λk lo hi ks ih=>?_) r
 have:∀l:List Rx,(∀r∈l,cnt r<=sz r)->d6 l<=wZ l:=by
  intro l
  induction l with
  |nil=>intro _;exact m_ _
  |cons r l ih2=>
   intro h
   simp only[d6,wZ]
   have:=h r (f_ ..)
   have:=ih2 λr hr=>h r (g_ _ hr)
   omega
 have:=this ks ih
 simp only[cnt,sz]
 cases(k==1||k==2)<;>simp<;>omega
theorem len_nil{ks:List Rx}(h:(ks.length:Int)=0):ks=[]:=List.length_eq_zero_iff.1 (by omega)
theorem sM{ks:List Rx}(h:(ks.length:Int)=1):∃r,ks=[r]:=List.length_eq_one_iff.1 (by omega)
theorem rD:∀(r:Rx),dq r=true->∀o,(iG r o).sp.length=cnt r/\(iG r o).em=Tm r:=by
 refine mN λk lo hi ks ih hw o=>?_
 obtain⟨hn,hks⟩:=well_iff.1 hw
 have hA:∀(l:List Rx) (a:G),(∀r∈l,r∈ks)->(jH l o a).sp.length=a.sp.length+d6 l/\(jH l o a).em=(a.em||QU l):=by
  intro l
  induction l with
  |nil=>intro a _;simp[jH,d6,QU]
  |cons r l ihl=>
   intro a hl
   have hr:=hl r (f_ ..)
   obtain⟨h1,h2⟩:=ih r hr (hks r hr) (o+a.sp.length)
   obtain⟨h3,h4⟩:=ihl (AB a (iG r (o+a.sp.length))) λx hx=>hl x (g_ _ hx)
   simp only[jH,h3,h4,d6,QU]
   simp only[AB,a_,h1,h2,Bool.or_assoc]
   exact⟨by omega,trivial⟩
 have hS:∀(l:List Rx) (a:G),(∀r∈l,r∈ks)->(lR l o a).sp.length=a.sp.length+d6 l/\(lR l o a).em=(a.em&&QT l):=by
  intro l
  induction l with
  |nil=>intro a _;simp[lR,d6,QT]
  |cons r l ihl=>
   intro a hl
   have hr:=hl r (f_ ..)
   obtain⟨h1,h2⟩:=ih r hr (hks r hr) (o+a.sp.length)
   obtain⟨h3,h4⟩:=ihl (tP a (iG r (o+a.sp.length))) λx hx=>hl x (g_ _ hx)
   simp only[lR,h3,h4,d6,QT]
   simp only[tP,a_,h1,h2,Bool.and_assoc]
   exact⟨by omega,trivial⟩
 obtain⟨a1,a2⟩:=hA ks (g0 false) λ_ h=>h
 obtain⟨s1,s2⟩:=hS ks (g0 true) λ_ h=>h
 rcases hn.known with rfl|rfl|rfl|rfl|rfl|rfl|rfl|rfl
 ·have:=len_nil (hn.leaf (by simp));subst this;simp[iG,g0,cnt,d6,Tm]
 ·have:=len_nil (hn.leaf (by simp));subst this;simp[iG,O8,cnt,d6,Tm]
 ·have:=len_nil (hn.leaf (by simp));subst this;simp[iG,O8,cnt,d6,Tm]
 ·simp only[g0,j_,l_,r_]at s1 s2
  simp[iG,g0,s1,s2,cnt,Tm]
 ·simp only[g0,j_,l_,n_]at a1 a2
  simp[iG,g0,a1,a2,cnt,Tm]
 ·simp only[g0,j_,l_,n_]at a1 a2
  simp[iG,SC,tF,g0,a1,cnt,Tm]
 ·obtain⟨x,rfl⟩:=sM (hn.one (by simp))
  simp only[g0,j_,l_,n_]at a1 a2
  simp[iG,tF,g0,a1,a2,cnt,Tm,QU,QT]
 ·simp only[g0,j_,l_,n_]at a1 a2
  simp[iG,SC,g0,a1,cnt,Tm]
open Go Go.Ev Go.Lib
def FJ(b:UInt8):Prop:=48<=b.toNat/\b.toNat<=57
instance (b:UInt8):Decidable (FJ b):=inferInstanceAs (Decidable (_/\_))
def xj(l:List UInt8):Nat:=l.foldl (λn b=>10*n+(b.toNat - 48)) 0
theorem CX(l:List UInt8)(b:UInt8):xj (l++[b])=10*xj l+(b.toNat - 48):=by simp[xj,List.foldl_append]
theorem Ip{n:Nat}(h:n<10):(UInt8.ofNat (48+n)).toNat=48+n:=by simp;omega
theorem xD:∀(n:Nat),(∀b∈decDigits n,FJ b)/\xj (decDigits n)=n/\0<(decDigits n).length/\(1<(decDigits n).length->((decDigits n).getD 0 0).toNat≠48)/\(0<n->((decDigits n).getD 0 0).toNat≠48):=by
 intro n
 induction n using y_ with
 |ind n ih=>
  rw[decDigits]
  by_cases h:n<10
  ·rw[dif_pos h]
   have:=Ip h
   refine⟨λb hb=>?_,?_,by simp,by simp,?_⟩
   ·simp only[u_]at hb;subst hb;unfold FJ;omega
   ·show 10*0+((UInt8.ofNat (48+n)).toNat - 48)=n;omega
   ·intro h0;show(UInt8.ofNat (48+n)).toNat≠48;omega
  ·rw[dif_neg h]
   obtain⟨h1,h2,h3,h4,h5⟩:=ih (n/10) (by omega)
   have hd:=Ip (show n%10<10 by omega)
   have hg:(decDigits (n/10)++[UInt8.ofNat (48+n%10)]).getD 0 0=(decDigits (n/10)).getD 0 0:=by
    simp only[C_,c_ h3]
   refine⟨λb hb=>?_,?_,by simp,λ_=>?_,λ_=>?_⟩
   ·simp only[h_,u_]at hb
    rcases hb with hb|rfl
    ·exact h1 b hb
    ·unfold FJ;omega
   ·rw[CX,h2,hd];omega
   ·rw[hg];exact h5 (by omega)
   ·rw[hg];exact h5 (by omega)
theorem AO(n:Nat):∀b∈decDigits n,FJ b:=(xD n).1
theorem Lf(n:Nat):xj (decDigits n)=n:=(xD n).2.1
theorem Le(n:Nat):0<(decDigits n).length:=(xD n).2.2.1
theorem Qr(n:Nat)(h:1<(decDigits n).length):((decDigits n).getD 0 0).toNat≠48:=(xD n).2.2.2.1 h
theorem Ld:∀(n k:Nat),n<10^(k+1)->(decDigits n).length<=k+1
 |n,0,h=>by
  rw[decDigits,dif_pos (by omega)]
  simp
 |n,k+1,h=>by
  rw[decDigits]
  split
  ·simp
  ·have:=Ld (n/10) k (by rw[Nat.pow_succ]at h;omega)
   simp only[a_,p_]
   omega
theorem uq{n:Nat}(h:n<=4294967295):(decDigits n).length<=10:=Ld n 9 (by omega)
theorem takeD{l:List UInt8}{k:Nat}(h:k<l.length):l.take (k+1)=l.take k++[l.getD k 0]:=by
 have e:l.getD k 0=l[k]:=by simp[C_,b_ h]
 rw[List.take_succ_eq_append_getElem h,e]
theorem BJ(l:List UInt8):∀(d k:Nat),k+d=l.length->xj (l.take k)<=xj l
 |0,k,h=>by rw[List.take_of_length_le (by omega)];exact m_ _
 |d+1,k,h=>by
  have h1:=BJ l d (k+1) (by omega)
  rw[takeD (by omega),CX]at h1
  omega
theorem Jb{l:List UInt8}{k:Nat}(h:k<=l.length):xj (l.take k)<=xj l:=BJ l (l.length - k) k (by omega)
def sR(p:Int):Rx->Bool
 | .mk k _ _ ks=>bif k==4 then !ks.isEmpty else bif k==3 then p != 4 else(k==5||k==6||k==7)&&(p==5||p==6||p==7)
def uC(w:Bool)(l:List UInt8):List UInt8:=bif w then 40::(l++[41])else l
def jn(sep:UInt8):List (List UInt8)->List UInt8
 |[]=>[]
 |[x]=>x
 |x::y::l=>x++sep::jn sep (y::l)
mutual
def j4:Rx->List UInt8
 | .mk k lo hi ks=>
  if k=0 then [40,41]else if k=2 then [46]
  else if k=1 then(if lo=hi then decDigits lo.toNat else 91::(decDigits lo.toNat++45::(decDigits hi.toNat++[93])))
  else if k=5 then(J1 5 ks).headD []++[42]else if k=6 then(J1 6 ks).headD []++[43]else if k=7 then(J1 7 ks).headD []++[63]
  else if k=4 then(if ks=[]then [33]else jn 124 (J1 4 ks))else jn 32 (J1 3 ks)
def J1:Int->List Rx->List (List UInt8)
 |_,[]=>[]
 |p,r::rs=>uC (sR p r) (j4 r)::J1 p rs
end
def na(p:Int)(r:Rx):List UInt8:=uC (sR p r) (j4 r)
theorem iy(p:Int):∀ks:List Rx,J1 p ks=ks.map (na p)
 |[]=>by simp[J1]
 |r::rs=>by simp[J1,iy p rs,na]
theorem Pi(sep:UInt8):∀(l:List (List UInt8)) (x:List UInt8),jn sep (l++[x])=if l=[]then x else jn sep l++sep::x
 |[],x=>by simp[jn]
 |[y],x=>by simp[jn]
 |y::z::l,x=>by
  have:=Pi sep (z::l) x
  simp only[i_,jn]at*
  rw[this]
  simp
theorem NG(sep:UInt8):∀(l:List (List UInt8)),(jn sep l).length<=(l.map λx=>x.length+1).sum
 |[]=>by simp[jn]
 |[x]=>by simp[jn]
 |x::y::l=>by
  have:=NG sep (y::l)
  simp only[jn,a_,x_,s_,t_]at*
  omega
theorem Pd(p:Int)(r:Rx):(na p r).length<=(j4 r).length+2:=by
 unfold na uC
 cases sR p r<;>simp
theorem J0:∀(r:Rx),dq r=true->(j4 r).length+3<=26*sz r:=by
 refine mN λk lo hi ks ih hw=>?_
 obtain⟨hn,hks⟩:=well_iff.1 hw
 have hsum:∀p:Int,∀l:List Rx,(∀r∈l,r∈ks)->((l.map (na p)).map λx=>x.length+1).sum<=26*wZ l:=by
  intro p l
  induction l with
  |nil=>intro _;simp
  |cons r l il=>
   intro h
   have h1:=ih r (h r (f_ ..)) (hks r (h r (f_ ..)))
   have h2:=il λx hx=>h x (g_ _ hx)
   have h3:=Pd p r
   simp only[s_,t_,wZ]at*
   omega
 have hd:∀p:Int,((ks.map (na p)).headD []).length<=26*wZ ks:=by
  intro p
  have h1:=hsum p ks λ_ h=>h
  cases ks with
  |nil=>simp
  |cons r l=>simp only[s_,List.headD_cons,t_]at*;omega
 have hj:∀(p:Int) (s:UInt8),(jn s (ks.map (na p))).length<=26*wZ ks:=λp s=>B_ (NG s _) (hsum p ks λ_ h=>h)
 have hlo:k=1->(decDigits lo.toNat).length<=10/\(decDigits hi.toNat).length<=10:=λe=>by
  have:=hn.rng e
  exact⟨uq (by omega),uq (by omega)⟩
 simp only[j4,iy,sz]
 split
 ·simp;omega
 split
 ·simp;omega
 split
 ·rename_i h
  have:=hlo h
  split<;>simp<;>omega
 split
 ·have:=hd 5;simp;simp at this;omega
 split
 ·have:=hd 6;simp;simp at this;omega
 split
 ·have:=hd 7;simp;simp at this;omega
 split
 ·split
  ·simp;omega
  ·have:=hj 4 124;omega
 ·have:=hj 3 32;omega
end Go.Pl
namespace Go.Ev
open Go Go.RowKit Go.Av
def Ho(f:Nat->Int)(i:Nat):Nat->Int
 |0=>0
 |k+1=>if f i=0 then Ho f (i+1) k else f i
def mL(f:Nat->Int)(N:Nat):Int:=Ho f 0 N
theorem Is{f:Nat->Int}:∀(k i:Nat),Ho f i k=0↔∀j,i<=j->j<i+k->f j=0
 |0,i=>by simp only[Ho,true_iff];intro j h1 h2;omega
 |k+1,i=>by
  simp only[Ho]
  split
  ·rename_i h
   rw[Is k (i+1)]
   constructor
   ·intro g j h1 h2
    by_cases e:j=i
    ·subst e;exact h
    ·exact g j (by omega) (by omega)
   ·intro g j h1 h2;exact g j (by omega) (by omega)
  ·rename_i h
   constructor
   ·intro g;exact absurd g h
   ·intro g;exact absurd (g i (m_ _) (by omega)) h
theorem errN_zero{f:Nat->Int}{N:Nat}:mL f N=0↔∀j,j<N->f j=0:=by
 unfold mL
 rw[Is]
 constructor
 ·intro h j hj;exact h j (Nat.zero_le _) (by omega)
 ·intro h j _ hj;exact h j (by omega)
theorem Lq{f:Nat->Int}{c:Int}(h:∀j,f j=0\/f j=c):∀(k i:Nat),Ho f i k=0\/Ho f i k=c
 |0,_=>.inl rfl
 |k+1,i=>by
  simp only[Ho]
  split
  ·exact Lq h k (i+1)
  ·exact h i
theorem SI{f:Nat->Int}{c:Int}{N:Nat}(h:∀j,f j=0\/f j=c):mL f N=0\/mL f N=c:=Lq h N 0
def dH{α:Type}(f:α->Int)(l:List α):Int:=mL (λi=>match l[i]? with|some x=>f x|none=>0) l.length
theorem errL_zero{α:Type}{f:α->Int}{l:List α}:dH f l=0↔∀x∈l,f x=0:=by
 unfold dH
 rw[errN_zero]
 constructor
 ·intro h x hx
  obtain⟨i,hi,rfl⟩:=k_.1 hx
  have:=h i hi
  rw[b_ hi]at this
  exact this
 ·intro h i hi
  rw[b_ hi]
  exact h _ (List.getElem_mem hi)
theorem u5{ρ β γ:Type}{N:Nat}{f:Nat->Int}{enc:Nat->ρ}{oB:Int->β}{oE:γ}{body:Nat->ρ->Option (ρ⊕β⊕γ)}{Q:β⊕γ->Prop}
 (h:∀i,i<N->Wp (λn=>body n (enc i)) λr=>r=if f i=0 then .inl (enc (i+1))else .inr (.inl (oB (f i))))
 (he:Wp (λn=>body n (enc N)) λr=>r= .inr (.inr oE))
 (hQ:Q (if mL f N=0 then .inr oE else .inl (oB (mL f N)))):Wp (λn=>aS n (body n) (enc 0)) Q:=by
 refine bc (N:=N) (I:=λi s=>s=enc i/\mL f N=Ho f i (N - i)) ⟨rfl,rfl⟩ (λi s hi hs=>?_) λs hs=>?_
 ·obtain⟨rfl,hd⟩:=hs
  refine wp_mono (h i hi) λr hr=>?_
  subst hr
  rw[show N - i=(N - (i+1))+1 by omega]at hd
  simp only[Ho]at hd
  by_cases e:f i=0
  ·rw[if_pos e]at hd⊢
   exact⟨rfl,hd⟩
  ·rw[if_neg e]at hd⊢
   rw[hd,if_neg e]at hQ
   exact hQ
 ·obtain⟨rfl,hd⟩:=hs
  refine wp_mono he λr hr=>?_
  subst hr
  rw[Nat.sub_self]at hd
  rw[if_pos (show mL f N=0 from hd)]at hQ
  exact hQ
theorem u6{α ρ β γ:Type}{l:List α}{f:α->Int}{enc:Nat->ρ}{oB:Int->β}{oE:γ}{body:Nat->ρ->Option (ρ⊕β⊕γ)}{Q:β⊕γ->Prop}
 (h:∀i (hi:i<l.length),Wp (λn=>body n (enc i)) λr=>r=if f l[i]=0 then .inl (enc (i+1))else .inr (.inl (oB (f l[i]))))
 (he:Wp (λn=>body n (enc l.length)) λr=>r= .inr (.inr oE))
 (hQ:Q (if dH f l=0 then .inr oE else .inl (oB (dH f l)))):Wp (λn=>aS n (body n) (enc 0)) Q:=by
 refine u5 (f:=λi=>match l[i]? with|some x=>f x|none=>0) (oB:=oB) (λi hi=>?_) he hQ
 have:=h i hi
 simp only[b_ hi]
 exact this
theorem xm{α ρ β γ:Type}{xs:List α}{p:α->Bool}{enc:Nat->ρ}{g:α->β}{e:γ}{body:Nat->ρ->Option (ρ⊕β⊕γ)}{Q:β⊕γ->Prop}
 (h:∀(i:Nat) (hi:i<xs.length),Wp (λn=>body n (enc i)) λr=>r=if p xs[i]then .inr (.inl (g xs[i]))else .inl (enc (i+1)))
 (he:Wp (λn=>body n (enc xs.length)) λr=>r= .inr (.inr e))
 (hQ:Q (match xs.find? p with|some x=>.inl (g x)|none=>.inr e)):Wp (λn=>aS n (body n) (enc 0)) Q:=by
 refine bc (N:=xs.length) (I:=λi s=>s=enc i/\xs.find? p=(xs.drop i).find? p) ⟨rfl,by rw[List.drop_zero]⟩ (λi s hi hs=>?_) λs hs=>?_
 ·obtain⟨rfl,hd⟩:=hs
  refine wp_mono (h i hi) λr hr=>?_
  rw[List.drop_eq_getElem_cons hi,List.find?_cons]at hd
  subst hr
  cases hp:p xs[i]
  ·rw[hp]at hd
   simp only[Bool.false_eq_true,if_false]
   exact⟨trivial,hd⟩
  ·rw[hp]at hd
   simp only[if_true]
   rw[hd]at hQ
   exact hQ
 ·obtain⟨rfl,hd⟩:=hs
  refine wp_mono he λr hr=>?_
  subst hr
  rw[List.drop_length]at hd
  rw[hd]at hQ
  exact hQ
end Go.Ev
namespace Go.Pl
open Go Go.Av Go.Ev
abbrev xX:Type:=Int×(Int×Unit)
abbrev Uw:Type:=Int×(List UInt8×(Int×(xX×(Bool×Unit))))
abbrev B0:Type:=Int×(Int×(Int×(Int×(Int×Unit))))
abbrev zB:Type:=List UInt8×(List Uw×(List B0×(Int×Unit)))
abbrev De:Type:=List UInt8×(List zB×(Int×Unit))
abbrev UQ:Type:=Bool×(xX×(Int×(Int×Unit)))
abbrev Xx:Type:=List UInt8×(List UQ×Unit)
abbrev XD:Type:=Bool×(List UInt8×Unit)
abbrev Xw:Type:=List UInt8×(List XD×Unit)
abbrev XC:Type:=Bool×(Int×(Int×Unit))
abbrev Xv:Type:=List UInt8×(List XC×Unit)
abbrev PS:Type:=List Xx×(List Xw×(List Xv×(List De×Unit)))
abbrev yP:Ty:=pr [tW,tI]
abbrev yM:Ty:=pr [tI,tS,tI,yP,tB]
abbrev yA:Ty:=pr [tI,tI,tI,tW,tW]
abbrev yT:Ty:=pr [tS,.list yM,.list yA,tI]
abbrev yO:Ty:=pr [tS,.list yT,tI]
abbrev yR:Ty:=pr [tB,yP,tI,tI]
abbrev yL:Ty:=pr [tS,.list yR]
abbrev yH:Ty:=pr [tB,tS]
abbrev yG:Ty:=pr [tS,.list yH]
abbrev yC:Ty:=pr [tB,tI,tI]
abbrev yD:Ty:=pr [tS,.list yC]
abbrev yS:Ty:=pr [.list yL,.list yG,.list yD,.list yO]
def gW(p:xX):Bool:=(decide (0<=p.2.1)&&decide (p.2.1<=32))&&(FK p.1 p.2.1==p.1)
def FU(c:UInt8):Bool:=(((decide ((c.toNat:Int)>=97)&&decide ((c.toNat:Int)<=122))||(decide ((c.toNat:Int)>=65)&&decide ((c.toNat:Int)<=90)))||(decide ((c.toNat:Int)>=48)&&decide ((c.toNat:Int)<=57)))||((c.toNat:Int)==45)
def rI(s:List UInt8):Bool:=s.all FU&&(decide (1<=s.length)&&decide (s.length<=32))
def tM(r:UQ):Int:=if gW r.2.1=false then 1 else if r.2.2.1<r.2.1.2.1\/r.2.2.2.1<r.2.2.1\/r.2.2.2.1>32 then 5 else 0
def vF(r:XC):Int:=if r.2.1< -1\/r.2.1>65535\/r.2.2.1< -1\/r.2.2.1>65535 then 5 else 0
def NO(a b:List UInt8):Bool:=Op.bytesLess a b||a==b
def rH(l:List (List UInt8))(i:Nat):Int:=match l[i]? with
 |none=>0
 |some x=>if rI x=false then 1 else if 0<i/\NO x (l.getD (i - 1) [])=true then 16 else 0
def MY{α:Type}(nm:α->List UInt8)(sz:α->Nat)(ck:α->Int)(l:List α)(i:Nat):Int:=if rH (l.map nm) i≠0 then rH (l.map nm) i else match l[i]? with
 |none=>0
 |some x=>if sz x>64 then 4 else ck x
def j3{α:Type}(nm:α->List UInt8)(sz:α->Nat)(ck:α->Int)(l:List α):Int:=if l.length>64 then 4 else mL (MY nm sz ck l) l.length
def WN(k:Int):Int:=if k=4 then 1 else 0
def SR(k:Int):Int:=if k=4 then 7 else if k=5 then 4294967295 else if k=6 then 16777216 else 2000
def SY(s:PS)(k:Int)(n:List UInt8):Bool:=if k=1 then s.1.any (·.1==n)else if k=2 then s.2.1.any (·.1==n)else s.2.2.1.any (·.1==n)
def vO(s:PS)(m:Uw):Int:=
 if m.1<1\/8<m.1 then 15
 else if(3<m.1/\m.2.1≠[])\/(¬(m.1=4\/m.1=5\/m.1=6\/m.1=8)/\m.2.2.1≠0)\/(m.1≠7/\(m.2.2.2.1.1≠0\/m.2.2.2.1.2.1≠0))then 1
 else if m.1<=3 then(if SY s m.1 m.2.1 then 0 else 6)
 else if m.1=7 then(if gW m.2.2.2.1 then 0 else 1)
 else if m.2.2.1<WN m.1\/SR m.1<m.2.2.1 then 5 else 0
def zr(a:B0):B0:=if a.1<=4 then(a.1,a.2.1,0,0,0,())else if a.1=5 then(a.1,0,0,0,a.2.2.2.2.1,())else if a.1<=7 then(a.1,0,0,a.2.2.2.1,0,())else(a.1,a.2.1,a.2.2.1,0,0,())
def tE(a:B0):Bool:=if a.1=3 then decide (0<=a.2.1)&&decide (a.2.1<=16777216)else if a.1<=4 then decide (0<=a.2.1)&&decide (a.2.1<=4294967295)else if a.1=5 then a.2.2.2.2.1 != 0
 else if a.1<=7 then true else(decide (1<=a.2.2.1)&&decide (a.2.2.1<=4294967295))&&(decide (1<=a.2.1)&&decide (a.2.1<=16))
def jk(a:B0):Int:=if a.1<1\/8<a.1 then 15 else if ¬a=zr a then 1 else if tE a=false then 5 else 0
theorem U8(a b:B0):m8 yA a b=true↔a=b:=by
 obtain⟨a1,a2,a3,a4,a5,⟨⟩⟩:=a
 obtain⟨b1,b2,b3,b4,b5,⟨⟩⟩:=b
 simp[m8]
def oj(s:PS)(before:List zB)(t:zB):Int:=
 if rI t.1=false then 1
 else if before.any (·.1==t.1)=true then 7
 else if t.2.1.length>64 then 4
 else if dH (vO s) t.2.1≠0 then dH (vO s) t.2.1
 else if t.2.2.1.length>64 then 4
 else if dH jk t.2.2.1≠0 then dH jk t.2.2.1
 else if t.2.2.2.1<1\/3<t.2.2.2.1 then 15 else 0
def s5(s:PS)(p:De):Int:=
 if mL (λi=>match p.2.1[i]? with|some t=>oj s (p.2.1.take i) t|none=>0) p.2.1.length≠0 then mL (λi=>match p.2.1[i]? with|some t=>oj s (p.2.1.take i) t|none=>0) p.2.1.length
 else if p.2.2.1≠1/\p.2.2.1≠2 then 15 else 0
def vP(pe:List UInt8->Int)(s:PS):Int:=
 if j3 (·.1) (λl=>l.2.1.length) (λl=>dH tM l.2.1) s.1≠0 then j3 (·.1) (λl=>l.2.1.length) (λl=>dH tM l.2.1) s.1
 else if j3 (·.1) (λl=>l.2.1.length) (λl=>dH (λr=>pe r.2.1) l.2.1) s.2.1≠0 then j3 (·.1) (λl=>l.2.1.length) (λl=>dH (λr=>pe r.2.1) l.2.1) s.2.1
 else if j3 (·.1) (λl=>l.2.1.length) (λl=>dH vF l.2.1) s.2.2.1≠0 then j3 (·.1) (λl=>l.2.1.length) (λl=>dH vF l.2.1) s.2.2.1
 else j3 (·.1) (λp=>p.2.1.length) (s5 s) s.2.2.2.1
theorem zU{s:PS}{k N pa pl:Int}{nm:List UInt8}{nt:Bool}(h:k=1\/k=2\/k=3):vO s (k,nm,N,(pa,pl,()),nt,())=if N≠0\/pa≠0\/pl≠0 then 1 else if SY s k nm then 0 else 6:=by
 unfold vO
 rw[if_neg (by show ¬(k<1\/8<k);omega)]
 by_cases e:N≠0\/pa≠0\/pl≠0
 ·rw[if_pos e,if_pos]
  show(3<k/\nm≠[])\/(¬(k=4\/k=5\/k=6\/k=8)/\N≠0)\/(k≠7/\(pa≠0\/pl≠0))
  rcases e with e|e
  ·exact .inr (.inl ⟨by omega,e⟩)
  ·exact .inr (.inr ⟨by omega,e⟩)
 ·rw[if_neg e,if_neg,if_pos (show k<=3 by omega)]
  show ¬((3<k/\nm≠[])\/(¬(k=4\/k=5\/k=6\/k=8)/\N≠0)\/(k≠7/\(pa≠0\/pl≠0)))
  rintro(⟨e1,_⟩|⟨_,e1⟩|⟨_,e1⟩)
  ·omega
  ·exact e (.inl e1)
  ·exact e (.inr e1)
theorem Tb{s:PS}{N pa pl:Int}{nm:List UInt8}{nt:Bool}:vO s (7,nm,N,(pa,pl,()),nt,())=if nm≠[]\/N≠0 then 1 else if gW (pa,pl,())then 0 else 1:=by
 unfold vO
 rw[if_neg (by show ¬((7:Int)<1\/8<(7:Int));omega)]
 by_cases e:nm≠[]\/N≠0
 ·rw[if_pos e,if_pos]
  show(3<(7:Int)/\nm≠[])\/(¬((7:Int)=4\/(7:Int)=5\/(7:Int)=6\/(7:Int)=8)/\N≠0)\/((7:Int)≠7/\(pa≠0\/pl≠0))
  rcases e with e|e
  ·exact .inl ⟨by omega,e⟩
  ·exact .inr (.inl ⟨by omega,e⟩)
 ·rw[if_neg e,if_neg,if_neg (show ¬(7:Int)<=3 by omega),if_pos (show(7:Int)=7 from rfl)]
  show ¬((3<(7:Int)/\nm≠[])\/(¬((7:Int)=4\/(7:Int)=5\/(7:Int)=6\/(7:Int)=8)/\N≠0)\/((7:Int)≠7/\(pa≠0\/pl≠0)))
  rintro(⟨_,e1⟩|⟨_,e1⟩|⟨e1,_⟩)
  ·exact e (.inl e1)
  ·exact e (.inr e1)
  ·exact e1 rfl
theorem Tc{s:PS}{k N pa pl:Int}{nm:List UInt8}{nt:Bool}(h:k=4\/k=5\/k=6\/k=8):vO s (k,nm,N,(pa,pl,()),nt,())=if nm≠[]\/pa≠0\/pl≠0 then 1 else if N<WN k\/SR k<N then 5 else 0:=by
 unfold vO
 rw[if_neg (by show ¬(k<1\/8<k);omega)]
 by_cases e:nm≠[]\/pa≠0\/pl≠0
 ·rw[if_pos e,if_pos]
  show(3<k/\nm≠[])\/(¬(k=4\/k=5\/k=6\/k=8)/\N≠0)\/(k≠7/\(pa≠0\/pl≠0))
  rcases e with e|e
  ·exact .inl ⟨by omega,e⟩
  ·exact .inr (.inr ⟨by omega,e⟩)
 ·rw[if_neg e,if_neg,if_neg (show ¬k<=3 by omega),if_neg (show ¬k=7 by omega)]
  show ¬((3<k/\nm≠[])\/(¬(k=4\/k=5\/k=6\/k=8)/\N≠0)\/(k≠7/\(pa≠0\/pl≠0)))
  rintro(⟨_,e1⟩|⟨e1,_⟩|⟨_,e1⟩)
  ·exact e (.inl e1)
  ·exact e1 h
  ·exact e (.inr e1)
theorem LO{s:PS}{m:Uw}(h:m.1<1\/8<m.1):vO s m=15:=by
 unfold vO
 rw[if_pos h]
structure SmP(s:PS):Prop where
 ok:okD yS s
 l1:s.1.length<=1048576
 l2:s.2.1.length<=1048576
 l3:s.2.2.1.length<=1048576
 l4:s.2.2.2.1.length<=1048576
 pt:∀l∈s.2.1,∀r∈l.2.1,r.2.1.length<=1048576
theorem ED{α:Type}{nm:α->List UInt8}{sz:α->Nat}{ck:α->Int}{l:List α}(h:j3 nm sz ck l=0):l.length<=64/\∀x∈l,rI (nm x)=true/\sz x<=64/\ck x=0:=by
 unfold j3 at h
 split at h
 ·cases h
 rename_i hl
 refine⟨by omega,λx hx=>?_⟩
 obtain⟨i,hi,rfl⟩:=k_.1 hx
 have h1:=errN_zero.1 h i hi
 unfold MY at h1
 split at h1
 ·rename_i h2;exact absurd h1 h2
 rename_i h2
 rw[b_ hi]at h1
 simp only at h1
 split at h1
 ·cases h1
 rename_i h3
 refine⟨?_,by omega,h1⟩
 have h4:rH (l.map nm) i=0:=d_ h2
 unfold rH at h4
 rw[List.getElem?_map,b_ hi]at h4
 simp only[Option.map_some]at h4
 split at h4
 ·cases h4
 rename_i h5
 cases e:rI (nm l[i])
 ·exact absurd e h5
 ·rfl
structure TrmOk(s:PS)(t:zB):Prop where
 nm:rI t.1=true
 ml:t.2.1.length<=64
 ma:∀m∈t.2.1,vO s m=0
 al:t.2.2.1.length<=64
 ac:∀a∈t.2.2.1,jk a=0
 ve:1<=t.2.2.2.1/\t.2.2.2.1<=3
theorem VX{s:PS}{b:List zB}{t:zB}(h:oj s b t=0):TrmOk s t:=by
 unfold oj at h
 split at h
 ·cases h
 rename_i h0
 split at h
 ·cases h
 split at h
 ·cases h
 rename_i h1
 split at h
 ·rename_i h2;exact absurd h h2
 rename_i h2
 split at h
 ·cases h
 rename_i h3
 split at h
 ·rename_i h4;exact absurd h h4
 rename_i h4
 split at h
 ·cases h
 rename_i h5
 refine⟨?_,by omega,errL_zero.1 (d_ h2),by omega,errL_zero.1 (d_ h4),by omega⟩
 cases e:rI t.1
 ·exact absurd e h0
 ·rfl
structure PlcOk(s:PS)(p:De):Prop where
 tl:p.2.1.length<=64
 tr:∀t∈p.2.1,TrmOk s t
 df:p.2.2.1=1\/p.2.2.1=2
structure PolOk(pe:List UInt8->Int)(s:PS):Prop where
 l1:s.1.length<=64
 r1:∀l∈s.1,l.2.1.length<=64/\∀r∈l.2.1,tM r=0
 l2:s.2.1.length<=64
 r2:∀l∈s.2.1,l.2.1.length<=64/\∀r∈l.2.1,pe r.2.1=0
 l3:s.2.2.1.length<=64
 r3:∀l∈s.2.2.1,l.2.1.length<=64/\∀r∈l.2.1,vF r=0
 l4:s.2.2.2.1.length<=64
 r4:∀p∈s.2.2.2.1,PlcOk s p
theorem VF{s:PS}{p:De}(hl:p.2.1.length<=64)(h:s5 s p=0):PlcOk s p:=by
 unfold s5 at h
 split at h
 ·rename_i h0;exact absurd h h0
 rename_i h0
 split at h
 ·cases h
 rename_i h1
 refine⟨hl,λt ht=>?_,by omega⟩
 obtain⟨i,hi,rfl⟩:=k_.1 ht
 have h2:=errN_zero.1 (d_ h0) i hi
 rw[b_ hi]at h2
 exact VX h2
theorem J3{pe:List UInt8->Int}{s:PS}(h:vP pe s=0):PolOk pe s:=by
 unfold vP at h
 split at h
 ·rename_i h0;exact absurd h h0
 rename_i h1
 split at h
 ·rename_i h0;exact absurd h h0
 rename_i h2
 split at h
 ·rename_i h0;exact absurd h h0
 rename_i h3
 have k1:=ED (d_ h1)
 have k2:=ED (d_ h2)
 have k3:=ED (d_ h3)
 have k4:=ED h
 exact⟨k1.1,λl hl=>⟨(k1.2 l hl).2.1,errL_zero.1 (k1.2 l hl).2.2⟩,k2.1,λl hl=>⟨(k2.2 l hl).2.1,λr hr=>errL_zero.1 (k2.2 l hl).2.2 r hr⟩,k3.1,λl hl=>⟨(k3.2 l hl).2.1,errL_zero.1 (k3.2 l hl).2.2⟩,
  k4.1,λp hp=>VF (k4.2 p hp).2.1 (k4.2 p hp).2.2⟩
def vM(s:PS)(n:List UInt8):Option De:=s.2.2.2.1.find? (·.1==n)
theorem FE{s:PS}{n:List UInt8}{p:De}(h:vM s n=some p):p∈s.2.2.2.1:=List.mem_of_find?_eq_some h
end Go.Pl
