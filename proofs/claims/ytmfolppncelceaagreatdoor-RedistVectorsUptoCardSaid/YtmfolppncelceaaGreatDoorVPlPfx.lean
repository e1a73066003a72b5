import Derived.Test.YtmfolppncelceaaGreatDoorVL7
import Derived.Test.YtmfolppncelceaaGreatDoorVL5
import Derived.Lib.ItoaNum
set_option linter.unusedVariables false
set_option linter.unusedSimpArgs false
open Bool renaming false_or->o_,true_and->r_,and_assoc->x_,or_assoc->y_
open Classical renaming byContradiction->c_
open Go.IntKind renaming bits->k_,wrap->B_
open List renaming length_append->a_,getElem?_append_left->b_,getElem?_eq_some_iff->d_,getElem?_eq_getElem->e_,mem_append->f_,cons_append->g_,mem_cons_self->h_,mem_cons_of_mem->i_,length_nil->j_,mem_iff_getElem->l_,mem_singleton->s_,take_add_one->t_,length_cons->u_,map_cons->z_,sum_cons->A_
open Nat renaming eq_of_testBit_eq->m_,zero_add->n_,testBit_mod_two_pow->p_,testBit_mul_two_pow->q_,le_refl->v_,strongRecOn->w_,le_trans->C_
namespace Go.Pl
open Go Go.Av Go.Ev
def CO(x n:Nat):Nat:=x>>>(32 - n) <<< (32 - n)
def CP(x n:Int):Int:=(CO x.toNat n.toNat:Int)
theorem Fa(x n j:Nat):(CO x n).testBit j=(decide (32 - n<=j)&&x.testBit j):=by unfold CO;grind
theorem zd9(x n:Nat):CO x n<=x:=by unfold CO;rw[Nat.shiftLeft_eq,Nat.shiftRight_eq_div_pow];exact Nat.div_mul_le_self _ _
theorem V0{x:Nat}(b:x<4294967296){j:Nat}(a:32<=j):x.testBit j=false:=Nat.testBit_lt_two_pow (Nat.lt_of_lt_of_le b (C_ (show 4294967296<=2^32 by simp) (Nat.pow_le_pow_right (by simp) a)))
theorem zcq{x n:Nat}(b:x<4294967296)(hn:n<=32):x&&&(4294967295*2^(32 - n)%4294967296)=CO x n:=by
 refine m_ λj=>?_;rw[Nat.testBit_and,Fa];by_cases a:j<32
 ·have e:(4294967295*2^(32 - n)%4294967296).testBit j=decide (32 - n<=j):=by
   rw[show(4294967296:Nat)=2^32 from rfl,p_,decide_eq_true a,r_,q_];by_cases h:32 - n<=j;·rw[decide_eq_true (show j>=32 - n from h),r_,show(4294967295:Nat)=2^32 - 1 from rfl,Nat.testBit_two_pow_sub_one];grind
   grind
  grind
 ·rw[V0 b (by omega)];simp
theorem zcs{x:Nat}(b:x<4294967296):CO x 0=0:=by
 refine m_ λj=>?_;rw[Fa,Nat.zero_testBit];by_cases a:32<=j;·rw[V0 b a,Bool.and_false]
 grind
theorem zcr(x:Nat){i:Nat}(b:i<32):CO x (i+1)=CO x i|||(x/2^(31 - i)%2)*2^(31 - i):=by
 refine m_ λj=>?_;rw[Nat.testBit_or,Fa,Fa,q_];have a:∀k,(x/2^(31 - i)%2).testBit k=(decide (k=0)&&x.testBit (31 - i)):=λk=>by rw[show(2:Nat)=2^1 from rfl,p_];grind
 grind
theorem Vj{x y:Nat}(a:x<4294967296)(b:y<4294967296):r6 .u32 .and (x:Int) (y:Int)=((x&&&y:Nat):Int):=by
 show B_ .u32 ((BitVec.ofInt (k_ .u32) (x:Int)&&&BitVec.ofInt (k_ .u32) (y:Int)).toNat:Int)=_;rw[wrap_u32,BitVec.toNat_and];have e:∀z:Nat,z<4294967296->(BitVec.ofInt (k_ .u32) (z:Int)).toNat=z:=λz c=>by rw[BitVec.toNat_ofInt];show(((z:Int)%((2^32:Nat):Int))).toNat=z;omega
 rw[e x a,e y b];have:x&&&y<=x:=Nat.and_le_left;omega
theorem zfV{x y:Nat}(a:x<4294967296)(b:y<4294967296):r6 .u32 .or (x:Int) (y:Int)=((x|||y:Nat):Int):=by
 show B_ .u32 ((BitVec.ofInt (k_ .u32) (x:Int)|||BitVec.ofInt (k_ .u32) (y:Int)).toNat:Int)=_;rw[wrap_u32,BitVec.toNat_or];have e:∀z:Nat,z<4294967296->(BitVec.ofInt (k_ .u32) (z:Int)).toNat=z:=λz c=>by rw[BitVec.toNat_ofInt];show(((z:Int)%((2^32:Nat):Int))).toNat=z;omega
 rw[e x a,e y b];have:x|||y<2^32:=Nat.or_lt_two_pow (by omega) (by omega);omega
section
variable {α β σ τ:Type}
theorem WH{L a:List τ}(h:L<+:a){i:Nat}{x:τ}(b:L[i]? =some x):a[i]? =some x:=by obtain⟨t,rfl⟩:=h;rw[b_ (d_.1 b).1];exact b
section
variable {f:α->β->α} {s0:α} {ls:List β}
structure Ok(f:α->β->α)(s0:α)(ls:List β)(L:List α)(T:List (Nat×β)):Prop where
 nodup:L.Nodup
 len:L.length=T.length+1
 head:L[0]? =some s0
 link:∀k j c,T[k]? =some (j,c)->j<k+1/\c∈ls/\∃x,L[j]? =some x/\L[k+1]? =some (f x c)
theorem Ok.add{L:List α}{T:List (Nat×β)}(h:Ok f s0 ls L T){x:α}{i:Nat}{c:β}(J:L[i]? =some x)(hc:c∈ls)(hn:f x c∉L):Ok f s0 ls (L++[f x c]) (T++[(i,c)]):=by
 have hi:i<L.length:=(d_.1 J).1;have hl:=h.len;refine⟨?_,by simp[hl],?_,λk j N z=>?_⟩;·rw[List.nodup_append];exact⟨h.nodup,by simp,λa ha b I=>by simp at I;subst I;rintro rfl;exact hn ha⟩
 ·rw[b_ (by omega)];exact h.head
 ·by_cases E:k<T.length;·rw[b_ E]at z;obtain⟨R,U,y,Y,h4⟩:=h.link k j N z;exact⟨R,U,y,by rw[b_ (by omega)];exact Y,by rw[b_ (by omega)];exact h4⟩
  ·rw[List.getElem?_append_right (by omega)]at z;have H:k=T.length:=by have:=(d_.1 z).1;simp at this;omega
   subst H;simp at z;obtain⟨rfl,rfl⟩:=z;refine⟨by omega,hc,x,by rw[b_ hi];exact J,?_⟩;rw[show T.length+1=L.length by omega];simp
def Quiet(sp:List α->α->Bool)(L:List α):Prop:=∀k x,L[k+1]? =some x->sp (L.take (k+1)) x=false
theorem Quiet.add{sp:List α->α->Bool}{L:List α}{y:α}(h:Quiet sp L)(hs:sp L y=false):Quiet sp (L++[y]):=by
 intro k x z;by_cases H:k+1<L.length;·rw[b_ H]at z;rw[List.take_append_of_le_length (by omega)];exact h k x z
 ·have E:=(d_.1 z).1;simp at E;have:k+1=L.length:=by omega
  rw[this]at z⊢;simp at z;subst z;simpa using hs
theorem Ok.pre{L E:List α}{T I:List (Nat×β)}(h:Ok f s0 ls L T)(J:E<+:L)(hT:I<+:T)(hl:E.length=I.length+1):Ok f s0 ls E I:=by
 have z:∀k,k<E.length->E[k]? =L[k]? :=λk H=>by obtain⟨t,rfl⟩:=J;rw[b_ H]
 refine⟨h.nodup.sublist J.sublist,hl,by rw[z 0 (by omega)];exact h.head,λk j c H=>?_⟩;have el:=(d_.1 H).1;obtain⟨N,R,x,U,Y⟩:=h.link k j c (WH hT H);exact⟨N,R,x,by rw[z j (by omega)];exact U,by rw[z (k+1) (by omega)];exact Y⟩
inductive Tr(T:List (Nat×β)):Nat->List β->Prop
 |zero:Tr T 0 []
 |step {k j:Nat} {c:β} {p:List β}:T[k]? =some (j,c)->Tr T j p->Tr T (k+1) (p++[c])
theorem Tr.mono{T z:List (Nat×β)}(hp:T<+:z){k:Nat}{p:List β}(h:Tr T k p):Tr z k p:=by induction h with|zero=>exact .zero|step E _ H=>exact .step (WH hp E) H
theorem Ok.tr{L:List α}{T:List (Nat×β)}(h:Ok f s0 ls L T):∀k,k<L.length->∃p,Tr T k p:=by
 intro k;induction k using w_ with
 |ind k H=>
  intro I
  match k with|0=>exact⟨[],.zero⟩|k+1=>have z:=e_ (l:=T) (i:=k) (by have:=h.len;omega);obtain⟨E,_⟩:=h.link k _ _ z;obtain⟨p,hp⟩:=H _ E (by omega);exact⟨_,.step z hp⟩
theorem Tr.len{L:List α}{T:List (Nat×β)}(h:Ok f s0 ls L T){k:Nat}{p:List β}(E:Tr T k p):p.length<=k:=by induction E with|zero=>exact v_ _|step z _ H=>have:=(h.link _ _ _ z).1;simp only[a_,List.length_singleton];omega
end
variable [DecidableEq α]
variable (f:α->β->α) (s0:α) (ls:List β)
variable {f s0 ls}
end
open Go Go.Ev
theorem lT{P:Rx->Prop}(h:∀k lo a ks,(∀r∈ks,P r)->P (.mk k lo a ks)):∀r,P r:=λr=>Rx.rec (motive_1:=P) (motive_2:=λks=>∀r∈ks,P r) (λk lo a ks b=>h k lo a ks b) (λr hr=>by grind) (λr ks c d x e=>by grind) r
theorem cT(v:Rx):Rx.mk v.out.1 v.out.2.1 v.out.2.2.1 v.out.2.2.2.1=v:=by cases v;rfl
structure G where
 fi:List Nat
 la:List Nat
 em:Bool
 pr:List (Nat×Nat)
 sp:List (Int×Int)
def qj(a b:List Nat):List (Nat×Nat):=a.flatMap λp=>b.map λq=>(p,q)
theorem R0{a b:List Nat}{p q:Nat}:(p,q)∈qj a b↔p∈a/\q∈b:=by unfold qj;simp
def AL(a x:G):G:=⟨if a.em then a.fi++x.fi else a.fi,if x.em then a.la++x.la else x.la,a.em&&x.em,a.pr++x.pr++qj a.la x.fi,a.sp++x.sp⟩
def H8(a x:G):G:=⟨a.fi++x.fi,a.la++x.la,a.em||x.em,a.pr++x.pr,a.sp++x.sp⟩
def AB(x:G):G:=⟨x.fi,x.la,x.em,x.pr++qj x.la x.fi,x.sp⟩
def emG(x:G):G:=⟨x.fi,x.la,true,x.pr,x.sp⟩
def g0(e:Bool):G:=⟨[],[],e,[],[]⟩
def gAt(o:Nat)(lo a:Int):G:=⟨[o],[o],false,[],[(lo,a)]⟩
mutual
def oT:Rx->Nat->G
 | .mk k lo a ks,o=>
  if k=1 then gAt o lo a else if k=2 then gAt o 0 4294967295
  else if k=3 then pZ ks o (g0 true)else if k=4 then mi ks o (g0 false)
  else if k=5 then emG (AB (mi ks o (g0 false)))else if k=6 then AB (mi ks o (g0 false))
  else if k=7 then emG (mi ks o (g0 false))else g0 true
def pZ:List Rx->Nat->G->G
 |[],_,a=>a
 |r::b,o,a=>pZ b o (AL a (oT r (o+a.sp.length)))
def mi:List Rx->Nat->G->G
 |[],_,a=>a
 |r::b,o,a=>mi b o (H8 a (oT r (o+a.sp.length)))
end
theorem VX(o:Nat):∀(l m:List Rx) (a:G),pZ (l++m) o a=pZ m o (pZ l o a)
 |[],_,_=>by simp[pZ]
 |r::l,m,a=>by simp only[g_,pZ];exact VX o l m _
theorem VW(o:Nat):∀(l m:List Rx) (a:G),mi (l++m) o a=mi m o (mi l o a)
 |[],_,_=>by simp[mi]
 |r::l,m,a=>by simp only[g_,mi];exact VW o l m _
theorem zco{o:Nat}{ks:List Rx}{i:Nat}(h:i<ks.length)(a:G):pZ (ks.take (i+1)) o a=AL (pZ (ks.take i) o a) (oT ks[i] (o+(pZ (ks.take i) o a).sp.length)):=by rw[t_,e_ h,VX];simp[pZ]
theorem zcn{o:Nat}{ks:List Rx}{i:Nat}(h:i<ks.length)(a:G):mi (ks.take (i+1)) o a=H8 (mi (ks.take i) o a) (oT ks[i] (o+(mi (ks.take i) o a).sp.length)):=by rw[t_,e_ h,VW];simp[mi]
theorem zgd{P:Nat->G->Prop}(f:∀o e,P o (g0 e))(g:∀o lo c,P o (gAt o lo c))(hs:∀o a x,P o a->P (o+a.sp.length) x->P o (AL a x))(d:∀o a x,P o a->P (o+a.sp.length) x->P o (H8 a x)) (hl:∀o a,P o a->P o (AB a)) (p:∀o a,P o a->P o (emG a)):∀(r:Rx) (o:Nat),P o (oT r o):=by
 intro r;refine lT (P:=λr=>∀o,P o (oT r o)) (λk lo c ks b o=>?_) r;have j:∀(l:List Rx) (a:G),(∀r∈l,∀o,P o (oT r o))->P o a->P o (mi l o a):=by intro l;induction l with|nil=>intro a _ h;exact h|cons r l b=>intro a hl h;exact b _ (λr hr=>hl r (i_ _ hr)) (d o a _ h (hl r (h_ ..) _))
 have n:∀(l:List Rx) (a:G),(∀r∈l,∀o,P o (oT r o))->P o a->P o (pZ l o a):=by intro l;induction l with|nil=>intro a _ h;exact h|cons r l b=>intro a hl h;exact b _ (λr hr=>hl r (i_ _ hr)) (hs o a _ h (hl r (h_ ..) _))
 unfold oT;split;·grind
 split;·grind
 split;·grind
 split;·grind
 split;·grind
 split;all_goals grind
structure Lie(o:Nat)(g:G):Prop where
 fi:∀p∈g.fi,o<=p/\p<o+g.sp.length
 la:∀p∈g.la,o<=p/\p<o+g.sp.length
 pr:∀p q,(p,q)∈g.pr->(o<=p/\p<o+g.sp.length)/\o<=q/\q<o+g.sp.length
 fl:g.fi.length<=g.sp.length
 ll:g.la.length<=g.sp.length
theorem zgm{o:Nat}{a x:G}(b:Lie o a)(c:Lie (o+a.sp.length) x):Lie o (AL a x):=by
 have d:=b.fl;have f:=b.ll;have e:=c.fl;have g:=c.ll;refine⟨λp hp=>?_,λp hp=>?_,λp q hp=>?_,?_,?_⟩
 ·simp only[AL,a_]at hp⊢;split at hp
  ·rcases f_.1 hp with h|h;·have:=b.fi p h;omega
   ·have:=c.fi p h;omega
  ·have:=b.fi p hp;omega
 ·simp only[AL,a_]at hp⊢;split at hp
  ·rcases f_.1 hp with h|h;·have:=b.la p h;omega
   ·have:=c.la p h;omega
  ·have:=c.la p hp;omega
 ·simp only[AL,a_,f_,R0]at hp⊢;rcases hp with(h|h)|⟨h,h'⟩;·have:=b.pr p q h;omega
  ·have:=c.pr p q h;omega
  ·have:=b.la p h;have:=c.fi q h';omega
 ·simp only[AL,a_];grind
 ·simp only[AL,a_];grind
theorem zgl{o:Nat}{a x:G}(b:Lie o a)(c:Lie (o+a.sp.length) x):Lie o (H8 a x):=by
 have d:=b.fl;have f:=b.ll;have e:=c.fl;have g:=c.ll;refine⟨λp hp=>?_,λp hp=>?_,λp q hp=>?_,?_,?_⟩
 ·simp only[H8,a_]at hp⊢;rcases f_.1 hp with h|h;·have:=b.fi p h;omega
  ·have:=c.fi p h;omega
 ·simp only[H8,a_]at hp⊢;rcases f_.1 hp with h|h;·have:=b.la p h;omega
  ·have:=c.la p h;omega
 ·simp only[H8,a_,f_]at hp⊢;rcases hp with h|h;·have:=b.pr p q h;omega
  ·have:=c.pr p q h;omega
 ·simp only[H8,a_];omega
 ·simp only[H8,a_];omega
theorem zef{o:Nat}{x:G}(h:Lie o x):Lie o (AB x):=by
 refine⟨h.fi,h.la,λp q hp=>?_,h.fl,h.ll⟩;simp only[AB,f_,R0]at hp⊢;rcases hp with hp|⟨a,b⟩;·exact h.pr p q hp
 ·exact⟨h.la p a,h.fi q b⟩
theorem zhz(o:Nat)(e:Bool):Lie o (g0 e):=⟨by simp[g0],by simp[g0],by simp[g0],by simp[g0],by simp[g0]⟩
theorem BM:∀(r:Rx) (o:Nat),Lie o (oT r o):=zgd zhz (λo lo d=>⟨by simp[gAt],by simp[gAt],by simp[gAt],by simp[gAt],by simp[gAt]⟩) (λ_ _ _ b c=>zgm b c) (λ_ _ _ b c=>zgl b c) (λ_ _ h=>zef h) (λo a h=>⟨h.fi,h.la,h.pr,h.fl,h.ll⟩)
def jk(k n:Int):Bool:=bif k==0||k==1||k==2 then n==0 else bif k==3 then decide (n>=2)else bif k==4 then n != 1 else bif k==5||k==6||k==7 then n==1 else false
def zO(k:Int):Bool:=k==0||k==1||k==2||k==3||k==4||k==5||k==6||k==7
def hZ(k lo a n:Int):Int:=
 bif !zO k then 15 else bif k==1&&(decide (lo<0)||decide (lo>a)||decide (a>4294967295))then 5 else bif (k != 1&&(lo != 0||a != 0))|| !jk k n then 1 else 0
theorem knownB_iff{k:Int}:zO k=true↔k=0\/k=1\/k=2\/k=3\/k=4\/k=5\/k=6\/k=7:=by simp only[zO,Bool.or_eq_true,beq_iff_eq,or_assoc]
structure Node(k lo hi n:Int):Prop where
 known:k=0\/k=1\/k=2\/k=3\/k=4\/k=5\/k=6\/k=7
 rng:k=1->0<=lo/\lo<=hi/\hi<=4294967295
 zero:k≠1->lo=0/\hi=0
 leaf:k=0\/k=1\/k=2->n=0
 seq:k=3->2<=n
 alt:k=4->n≠1
 one:k=5\/k=6\/k=7->n=1
theorem nodeE_zero{k lo a n:Int}:hZ k lo a n=0↔Node k lo a n:=by
 constructor
 ·intro h;unfold hZ at h;cases d:zO k;·grind
  rw[d]at h;have g:=knownB_iff.1 d;simp only[Bool.not_true,cond_false]at h;cases f:(k==1&&(decide (lo<0)||decide (lo>a)||decide (a>4294967295)))
  ·rw[f]at h;simp only[cond_false]at h;cases c:((k != 1&&(lo != 0||a != 0))|| !jk k n)
   ·simp only[Bool.or_eq_false_iff,Bool.and_eq_false_iff,bne_eq_false_iff_eq,Bool.not_eq_false',beq_eq_false_iff_ne,decide_eq_false_iff_not]at f c;obtain⟨c,b⟩:=c;refine⟨g,λe=>?_,λe=>?_,λe=>?_,λe=>?_,λe=>?_,λe=>?_⟩;·omega
    ·omega
    ·rcases e with rfl|rfl|rfl<;>simpa[jk]using b
    ·subst e;simpa[jk]using b
    ·subst e;simpa[jk]using b
    ·rcases e with rfl|rfl|rfl<;>simpa[jk]using b
   grind
  grind
 ·intro h;have d:zO k=true:=knownB_iff.2 h.known;have f:(k==1&&(decide (lo<0)||decide (lo>a)||decide (a>4294967295)))=false:=by
   by_cases e:k=1;·have:=h.rng e;grind
   grind
  have c:(k != 1&&(lo != 0||a != 0))=false:=by
   by_cases e:k=1;·grind
   ·have:=h.zero e;grind
  have b:jk k n=true:=by
   rcases h.known with rfl|rfl|rfl|rfl|rfl|rfl|rfl|rfl;·simpa[jk]using h.leaf (by simp)
   ·simpa[jk]using h.leaf (by simp)
   ·simpa[jk]using h.leaf (by simp)
   ·simpa[jk]using h.seq rfl
   ·simpa[jk]using h.alt rfl
   ·simpa[jk]using h.one (by simp)
   ·simpa[jk]using h.one (by simp)
   ·simpa[jk]using h.one (by simp)
  unfold hZ;grind
mutual
def sz:Rx->Nat
 | .mk _ _ _ ks=>1+C8 ks
def C8:List Rx->Nat
 |[]=>0
 |r::a=>sz r+C8 a
end
theorem we:∀{ks:List Rx} {r:Rx},r∈ks->sz r<=C8 ks
 |x::ks,r,h=>by
  simp only[C8];rcases List.mem_cons.1 h with rfl|h;·simp
  ·have:=we h;omega
theorem zh4(r:Rx):0<sz r:=by cases r;simp only[sz];omega
theorem I9:∀ks:List Rx,ks.length<=C8 ks
 |[]=>v_ _
 |r::ks=>by simp only[C8,u_];have:=I9 ks;have:=zh4 r;omega
theorem TU:∀l m:List Rx,C8 (l++m)=C8 l+C8 m
 |[],m=>by simp[C8]
 |r::l,m=>by simp only[g_,C8,TU l m];omega
mutual
def dF:Rx->Bool
 | .mk k lo a ks=>hZ k lo a ks.length==0&&xz ks
def xz:List Rx->Bool
 |[]=>true
 |r::a=>dF r&&xz a
end
theorem s5:∀ks:List Rx,xz ks=true↔∀r∈ks,dF r=true
 |[]=>by simp[xz]
 |r::ks=>by simp[xz,s5 ks]
theorem well_iff{k lo a:Int}{ks:List Rx}:dF (.mk k lo a ks)=true↔Node k lo a ks.length/\∀r∈ks,dF r=true:=by simp only[dF,Bool.and_eq_true,beq_iff_eq,nodeE_zero,s5]
mutual
def Di:Rx->Int->Int->Int×Int
 | .mk k lo a ks,lv,c=>if lv>16 then(c,24)else if c>=64 then(c,4)else if hZ k lo a ks.length≠0 then(c,hZ k lo a ks.length)else iY ks (lv+1) (c+1)
def iY:List Rx->Int->Int->Int×Int
 |[],_,c=>(c,0)
 |r::a,lv,c=>if(Di r lv c).2≠0 then Di r lv c else iY a lv (Di r lv c).1
end
mutual
def Wu:Rx->Bool
 | .mk k _ _ ks=>bif k==0||k==5||k==7 then true else bif k==3||k==6 then C4 ks else bif k==4 then C5 ks else false
def C4:List Rx->Bool
 |[]=>true
 |r::a=>Wu r&&C4 a
def C5:List Rx->Bool
 |[]=>false
 |r::a=>Wu r||C5 a
end
theorem Wv:∀l m:List Rx,C4 (l++m)=(C4 l&&C4 m)
 |[],m=>by simp[C4]
 |r::l,m=>by simp only[g_,C4,Wv l m,x_]
theorem Ww:∀l m:List Rx,C5 (l++m)=(C5 l||C5 m)
 |[],m=>by simp[C5]
 |r::l,m=>by simp only[g_,C5,Ww l m,y_]
mutual
def cnt:Rx->Nat
 | .mk k _ _ ks=>(bif k==1||k==2 then 1 else 0)+fC ks
def fC:List Rx->Nat
 |[]=>0
 |r::a=>cnt r+fC a
end
theorem DW:∀l m:List Rx,fC (l++m)=fC l+fC m
 |[],m=>by simp[fC]
 |r::l,m=>by simp only[g_,fC,DW l m];omega
theorem zdM(r:Rx):cnt r<=sz r:=by
 refine lT (P:=λr=>cnt r<=sz r) (λk lo c ks a=>?_) r;have:∀l:List Rx,(∀r∈l,cnt r<=sz r)->fC l<=C8 l:=by intro l;induction l with|nil=>intro _;exact v_ _|cons r l b=>intro h;simp only[fC,C8];grind
 have:=this ks a;simp only[cnt,sz];grind
theorem len_nil{ks:List Rx}(h:(ks.length:Int)=0):ks=[]:=List.length_eq_zero_iff.1 (by omega)
theorem rE{ks:List Rx}(h:(ks.length:Int)=1):∃r,ks=[r]:=List.length_eq_one_iff.1 (by omega)
theorem ua:∀(r:Rx),dF r=true->∀o,(oT r o).sp.length=cnt r/\(oT r o).em=Wu r:=by
 refine lT λk lo A ks s z o=>?_;obtain⟨hn,e⟩:=well_iff.1 z;have w:∀(l:List Rx) (a:G),(∀r∈l,r∈ks)->(mi l o a).sp.length=a.sp.length+fC l/\(mi l o a).em=(a.em||C5 l):=by intro l;induction l with|nil=>intro a _;simp[mi,fC,C5]|cons r l c=>intro a hl;have hr:=hl r (h_ ..);obtain⟨f,g⟩:=s r hr (e r hr) (o+a.sp.length);obtain⟨j,n⟩:=c (H8 a (oT r (o+a.sp.length))) λx p=>hl x (i_ _ p);simp only[mi,j,n,fC,C5];simp only[H8,a_,f,g,y_];grind
 have y:∀(l:List Rx) (a:G),(∀r∈l,r∈ks)->(pZ l o a).sp.length=a.sp.length+fC l/\(pZ l o a).em=(a.em&&C4 l):=by intro l;induction l with|nil=>intro a _;simp[pZ,fC,C4]|cons r l c=>intro a hl;have hr:=hl r (h_ ..);obtain⟨f,g⟩:=s r hr (e r hr) (o+a.sp.length);obtain⟨j,n⟩:=c (AL a (oT r (o+a.sp.length))) λx p=>hl x (i_ _ p);simp only[pZ,j,n,fC,C4];simp only[AL,a_,f,g,x_];grind
 obtain⟨b,d⟩:=w ks (g0 false) λ_ h=>h;obtain⟨u,v⟩:=y ks (g0 true) λ_ h=>h;rcases hn.known with rfl|rfl|rfl|rfl|rfl|rfl|rfl|rfl;·have:=len_nil (hn.leaf (by simp));subst this;simp[oT,g0,cnt,fC,Wu]
 ·have:=len_nil (hn.leaf (by simp));subst this;simp[oT,gAt,cnt,fC,Wu]
 ·have:=len_nil (hn.leaf (by simp));subst this;simp[oT,gAt,cnt,fC,Wu]
 ·simp only[g0,j_,n_,r_]at u v;simp[oT,g0,u,v,cnt,Wu]
 ·simp only[g0,j_,n_,o_]at b d;simp[oT,g0,b,d,cnt,Wu]
 ·simp only[g0,j_,n_,o_]at b d;simp[oT,emG,AB,g0,b,cnt,Wu]
 ·obtain⟨x,rfl⟩:=rE (hn.one (by simp));simp only[g0,j_,n_,o_]at b d;simp[oT,AB,g0,b,d,cnt,Wu,C5,C4]
 ·simp only[g0,j_,n_,o_]at b d;simp[oT,emG,g0,b,cnt,Wu]
open Go Go.Ev Go.Lib
def NM(b:UInt8):Prop:=48<=b.toNat/\b.toNat<=57
instance (b:UInt8):Decidable (NM b):=inferInstanceAs (Decidable (_/\_))
def s4(l:List UInt8):Nat:=l.foldl (λn b=>10*n+(b.toNat - 48)) 0
theorem Fo(l:List UInt8)(b:UInt8):s4 (l++[b])=10*s4 l+(b.toNat - 48):=by simp[s4,List.foldl_append]
theorem Rr{n:Nat}(h:n<10):(UInt8.ofNat (48+n)).toNat=48+n:=by simp;omega
theorem E0:∀(n:Nat),(∀b∈decDigits n,NM b)/\s4 (decDigits n)=n/\0<(decDigits n).length/\(1<(decDigits n).length->((decDigits n).getD 0 0).toNat≠48)/\(0<n->((decDigits n).getD 0 0).toNat≠48):=by
 intro n;induction n using w_ with
 |ind n d=>
  rw[decDigits];by_cases h:n<10
  ·rw[dif_pos h];have:=Rr h;refine⟨λb a=>?_,?_,by simp,by simp,?_⟩;·simp only[s_]at a;subst a;unfold NM;omega
   ·show 10*0+((UInt8.ofNat (48+n)).toNat - 48)=n;omega
   grind
  ·rw[dif_neg h];obtain⟨e,c,f,g,j⟩:=d (n/10) (by omega);have hd:=Rr (show n%10<10 by omega);have hg:(decDigits (n/10)++[UInt8.ofNat (48+n%10)]).getD 0 0=(decDigits (n/10)).getD 0 0:=by grind
   refine⟨λb a=>?_,?_,by simp,λ_=>?_,λ_=>?_⟩
   ·simp only[f_,s_]at a;rcases a with a|rfl;·grind
    ·unfold NM;omega
   ·rw[Fo,c,hd];omega
   all_goals grind
theorem Im(n:Nat):∀b∈decDigits n,NM b:=(E0 n).1
theorem Io(n:Nat):s4 (decDigits n)=n:=(E0 n).2.1
theorem Nb(n:Nat):0<(decDigits n).length:=(E0 n).2.2.1
theorem zcd(n:Nat)(h:1<(decDigits n).length):((decDigits n).getD 0 0).toNat≠48:=(E0 n).2.2.2.1 h
theorem Vv:∀(n k:Nat),n<10^(k+1)->(decDigits n).length<=k+1
 |n,0,h=>by rw[decDigits,dif_pos (by omega)];simp
 |n,k+1,h=>by
  rw[decDigits];split;·simp
  ·have:=Vv (n/10) k (by omega);grind
theorem pT{n:Nat}(h:n<=4294967295):(decDigits n).length<=10:=Vv n 9 (by omega)
theorem takeD{l:List UInt8}{k:Nat}(h:k<l.length):l.take (k+1)=l.take k++[l.getD k 0]:=by
 have e:l.getD k 0=l[k]:=by grind
 rw[List.take_succ_eq_append_getElem h,e]
theorem Jp(l:List UInt8):∀(d k:Nat),k+d=l.length->s4 (l.take k)<=s4 l
 |0,k,h=>by grind
 |d+1,k,h=>by have a:=Jp l d (k+1) (by omega);rw[takeD (by omega),Fo]at a;omega
theorem KG{l:List UInt8}{k:Nat}(h:k<=l.length):s4 (l.take k)<=s4 l:=Jp l (l.length - k) k (by omega)
def ux(p:Int):Rx->Bool
 | .mk k _ _ ks=>bif k==4 then !ks.isEmpty else bif k==3 then p != 4 else(k==5||k==6||k==7)&&(p==5||p==6||p==7)
def Br(w:Bool)(l:List UInt8):List UInt8:=bif w then 40::(l++[41])else l
def jn(sep:UInt8):List (List UInt8)->List UInt8
 |[]=>[]
 |[x]=>x
 |x::y::l=>x++sep::jn sep (y::l)
mutual
def jv:Rx->List UInt8
 | .mk k lo a ks=>
  if k=0 then [40,41]else if k=2 then [46]
  else if k=1 then(if lo=a then decDigits lo.toNat else 91::(decDigits lo.toNat++45::(decDigits a.toNat++[93])))
  else if k=5 then(TE 5 ks).headD []++[42]else if k=6 then(TE 6 ks).headD []++[43]else if k=7 then(TE 7 ks).headD []++[63]
  else if k=4 then(if ks=[]then [33]else jn 124 (TE 4 ks))else jn 32 (TE 3 ks)
def TE:Int->List Rx->List (List UInt8)
 |_,[]=>[]
 |p,r::a=>Br (ux p r) (jv r)::TE p a
end
def qp(p:Int)(r:Rx):List UInt8:=Br (ux p r) (jv r)
theorem ez(p:Int):∀ks:List Rx,TE p ks=ks.map (qp p)
 |[]=>by simp[TE]
 |r::a=>by simp[TE,ez p a,qp]
theorem Tq(sep:UInt8):∀(l:List (List UInt8)) (x:List UInt8),jn sep (l++[x])=if l=[]then x else jn sep l++sep::x
 |[],x=>by simp[jn]
 |[y],x=>by simp[jn]
 |y::z::l,x=>by have:=Tq sep (z::l) x;simp only[g_,jn]at*;grind
theorem Tp(sep:UInt8):∀(l:List (List UInt8)),(jn sep l).length<=(l.map λx=>x.length+1).sum
 |[]=>by simp[jn]
 |[x]=>by simp[jn]
 |x::y::l=>by have:=Tp sep (y::l);simp only[jn,a_,u_,z_,A_]at*;omega
theorem zbb(p:Int)(r:Rx):(qp p r).length<=(jv r).length+2:=by unfold qp Br;cases ux p r<;>simp
theorem MA:∀(r:Rx),dF r=true->(jv r).length+3<=26*sz r:=by
 refine lT λk lo d ks n g=>?_;obtain⟨hn,b⟩:=well_iff.1 g;have a:∀p:Int,∀l:List Rx,(∀r∈l,r∈ks)->((l.map (qp p)).map λx=>x.length+1).sum<=26*C8 l:=by intro p l;induction l with|nil=>simp|cons r l u=>intro h;have c:=n r (h r (h_ ..)) (b r (h r (h_ ..)));have v:=u λx j=>h x (i_ _ j);have w:=zbb p r;simp only[z_,A_,C8]at*;omega
 have hd:∀p:Int,((ks.map (qp p)).headD []).length<=26*C8 ks:=by intro p;have c:=a p ks λ_ h=>h;cases ks with|nil=>simp|cons r l=>grind
 have y:∀(p:Int) (s:UInt8),(jn s (ks.map (qp p))).length<=26*C8 ks:=λp s=>C_ (Tp s _) (a p ks λ_ h=>h);have f:k=1->(decDigits lo.toNat).length<=10/\(decDigits d.toNat).length<=10:=λe=>by have:=hn.rng e;exact⟨pT (by omega),pT (by omega)⟩
 simp only[jv,ez,sz];grind
end Go.Pl
namespace Go.Ev
open Go Go.RowKit Go.Av
def Qm(f:Nat->Int)(i:Nat):Nat->Int
 |0=>0
 |k+1=>if f i=0 then Qm f (i+1) k else f i
def jR(f:Nat->Int)(N:Nat):Int:=Qm f 0 N
theorem Rv{f:Nat->Int}:∀(k i:Nat),Qm f i k=0↔∀j,i<=j->j<i+k->f j=0
 |0,i=>by simp only[Qm,true_iff];omega
 |k+1,i=>by
  simp only[Qm];split;·rename_i h;rw[Rv k (i+1)];grind
  grind
theorem errN_zero{f:Nat->Int}{N:Nat}:jR f N=0↔∀j,j<N->f j=0:=by unfold jR;rw[Rv];simp
theorem VP{f:Nat->Int}{c:Int}(h:∀j,f j=0\/f j=c):∀(k i:Nat),Qm f i k=0\/Qm f i k=c
 |0,_=>.inl rfl
 |k+1,i=>by
  simp only[Qm];split;·exact VP h k (i+1)
  grind
theorem zdW{f:Nat->Int}{c:Int}{N:Nat}(h:∀j,f j=0\/f j=c):jR f N=0\/jR f N=c:=VP h N 0
def bS{α:Type}(f:α->Int)(l:List α):Int:=jR (λi=>match l[i]? with|some x=>f x|none=>0) l.length
theorem errL_zero{α:Type}{f:α->Int}{l:List α}:bS f l=0↔∀x∈l,f x=0:=by
 unfold bS;rw[errN_zero];constructor;·intro h x a;obtain⟨i,b,rfl⟩:=l_.1 a;grind
 grind
theorem ot{ρ β a:Type}{N:Nat}{f:Nat->Int}{enc:Nat->ρ}{oB:Int->β}{oE:a}{body:Nat->ρ->Option (ρ⊕β⊕a)}{Q:β⊕a->Prop} (h:∀i,i<N->Wp (λn=>body n (enc i)) λr=>r=if f i=0 then .inl (enc (i+1))else .inr (.inl (oB (f i)))) (c:Wp (λn=>body n (enc N)) λr=>r= .inr (.inr oE)) (b:Q (if jR f N=0 then .inr oE else .inl (oB (jR f N)))):Wp (λn=>aL n (body n) (enc 0)) Q:=by
 refine a8 (N:=N) (I:=λi s=>s=enc i/\jR f N=Qm f i (N - i)) ⟨rfl,rfl⟩ (λi s d hs=>?_) λs hs=>?_;·obtain⟨rfl,hd⟩:=hs;refine wp_mono (h i d) λr hr=>?_;subst hr;rw[show N - i=(N - (i+1))+1 by omega]at hd;simp only[Qm]at hd;grind
 ·obtain⟨rfl,hd⟩:=hs;refine wp_mono c λr hr=>?_;subst hr;rw[Nat.sub_self]at hd;rw[if_pos (show jR f N=0 from hd)]at b;omega
theorem mg{α ρ β a:Type}{l:List α}{f:α->Int}{enc:Nat->ρ}{oB:Int->β}{oE:a}{body:Nat->ρ->Option (ρ⊕β⊕a)}{Q:β⊕a->Prop} (h:∀i (d:i<l.length),Wp (λn=>body n (enc i)) λr=>r=if f l[i]=0 then .inl (enc (i+1))else .inr (.inl (oB (f l[i])))) (c:Wp (λn=>body n (enc l.length)) λr=>r= .inr (.inr oE)) (b:Q (if bS f l=0 then .inr oE else .inl (oB (bS f l)))):Wp (λn=>aL n (body n) (enc 0)) Q:=by
 refine ot (f:=λi=>match l[i]? with|some x=>f x|none=>0) (oB:=oB) (λi d=>?_) c b
 grind
theorem m8{α ρ β b:Type}{xs:List α}{p:α->Bool}{enc:Nat->ρ}{g:α->β}{e:b}{body:Nat->ρ->Option (ρ⊕β⊕b)}{Q:β⊕b->Prop} (h:∀(i:Nat) (a:i<xs.length),Wp (λn=>body n (enc i)) λr=>r=if p xs[i]then .inr (.inl (g xs[i]))else .inl (enc (i+1))) (c:Wp (λn=>body n (enc xs.length)) λr=>r= .inr (.inr e)) (d:Q (match xs.find? p with|some x=>.inl (g x)|none=>.inr e)):Wp (λn=>aL n (body n) (enc 0)) Q:=by
 refine a8 (N:=xs.length) (I:=λi s=>s=enc i/\xs.find? p=(xs.drop i).find? p) ⟨rfl,by simp⟩ (λi s a hs=>?_) λs hs=>?_;·obtain⟨rfl,hd⟩:=hs;refine wp_mono (h i a) λr hr=>?_;rw[List.drop_eq_getElem_cons a,List.find?_cons]at hd;grind
 ·obtain⟨rfl,hd⟩:=hs;refine wp_mono c λr hr=>?_;grind
end Go.Ev
namespace Go.Pl
open Go Go.Av Go.Ev
abbrev G2:Type:=Int×(Int×Unit)
abbrev MAT:Type:=Int×(List UInt8×(Int×(G2×(Bool×Unit))))
abbrev Dj:Type:=Int×(Int×(Int×(Int×(Int×Unit))))
abbrev GL:Type:=List UInt8×(List MAT×(List Dj×(Int×Unit)))
abbrev K1:Type:=List UInt8×(List GL×(Int×Unit))
abbrev PRU:Type:=Bool×(G2×(Int×(Int×Unit)))
abbrev PLS:Type:=List UInt8×(List PRU×Unit)
abbrev HRU:Type:=Bool×(List UInt8×Unit)
abbrev HLS:Type:=List UInt8×(List HRU×Unit)
abbrev CRU:Type:=Bool×(Int×(Int×Unit))
abbrev CLS:Type:=List UInt8×(List CRU×Unit)
abbrev PS:Type:=List PLS×(List HLS×(List CLS×(List K1×Unit)))
abbrev yP:Ty:=pr [tW,tI]
abbrev yM:Ty:=pr [tI,tS,tI,yP,tB]
abbrev yA:Ty:=pr [tI,tI,tI,tW,tW]
abbrev yT:Ty:=pr [tS,.list yM,.list yA,tI]
abbrev yO:Ty:=pr [tS,.list yT,tI]
abbrev yR:Ty:=pr [tB,yP,tI,tI]
abbrev yL:Ty:=pr [tS,.list yR]
abbrev yH:Ty:=pr [tB,tS]
abbrev yG:Ty:=pr [tS,.list yH]
abbrev yC:Ty:=pr [tB,tI,tI]
abbrev yD:Ty:=pr [tS,.list yC]
abbrev yS:Ty:=pr [.list yL,.list yG,.list yD,.list yO]
def dE(p:G2):Bool:=(decide (0<=p.2.1)&&decide (p.2.1<=32))&&(CP p.1 p.2.1==p.1)
def BX(c:UInt8):Bool:=(((decide ((c.toNat:Int)>=97)&&decide ((c.toNat:Int)<=122))||(decide ((c.toNat:Int)>=65)&&decide ((c.toNat:Int)<=90)))||(decide ((c.toNat:Int)>=48)&&decide ((c.toNat:Int)<=57)))||((c.toNat:Int)==45)
def mQ(s:List UInt8):Bool:=s.all BX&&(decide (1<=s.length)&&decide (s.length<=32))
def mR(r:PRU):Int:=if dE r.2.1=false then 1 else if r.2.2.1<r.2.1.2.1\/r.2.2.2.1<r.2.2.1\/r.2.2.2.1>32 then 5 else 0
def oO(r:CRU):Int:=if r.2.1< -1\/r.2.1>65535\/r.2.2.1< -1\/r.2.2.1>65535 then 5 else 0
def B0(a b:List UInt8):Bool:=Op.bytesLess a b||a==b
def wb(l:List (List UInt8))(i:Nat):Int:=match l[i]? with
 |none=>0
 |some x=>if mQ x=false then 1 else if 0<i/\B0 x (l.getD (i - 1) [])=true then 16 else 0
def LY{α:Type}(nm:α->List UInt8)(sz:α->Nat)(ck:α->Int)(l:List α)(i:Nat):Int:=if wb (l.map nm) i≠0 then wb (l.map nm) i else match l[i]? with
 |none=>0
 |some x=>if sz x>64 then 4 else ck x
def gW{α:Type}(nm:α->List UInt8)(sz:α->Nat)(ck:α->Int)(l:List α):Int:=if l.length>64 then 4 else jR (LY nm sz ck l) l.length
def zgo(k:Int):Int:=if k=4 then 1 else 0
def VZ(k:Int):Int:=if k=4 then 7 else if k=5 then 4294967295 else if k=6 then 16777216 else 2000
def L2(s:PS)(k:Int)(n:List UInt8):Bool:=if k=1 then s.1.any (·.1==n)else if k=2 then s.2.1.any (·.1==n)else s.2.2.1.any (·.1==n)
def xD(s:PS)(m:MAT):Int:=
 if m.1<1\/8<m.1 then 15
 else if(3<m.1/\m.2.1≠[])\/(¬(m.1=4\/m.1=5\/m.1=6\/m.1=8)/\m.2.2.1≠0)\/(m.1≠7/\(m.2.2.2.1.1≠0\/m.2.2.2.1.2.1≠0))then 1
 else if m.1<=3 then(if L2 s m.1 m.2.1 then 0 else 6)
 else if m.1=7 then(if dE m.2.2.2.1 then 0 else 1)
 else if m.2.2.1<zgo m.1\/VZ m.1<m.2.2.1 then 5 else 0
def rG(a:Dj):Dj:=if a.1<=4 then(a.1,a.2.1,0,0,0,())else if a.1=5 then(a.1,0,0,0,a.2.2.2.2.1,())else if a.1<=7 then(a.1,0,0,a.2.2.2.1,0,())else(a.1,a.2.1,a.2.2.1,0,0,())
def oR(a:Dj):Bool:=if a.1=3 then decide (0<=a.2.1)&&decide (a.2.1<=16777216)else if a.1<=4 then decide (0<=a.2.1)&&decide (a.2.1<=4294967295)else if a.1=5 then a.2.2.2.2.1 != 0
 else if a.1<=7 then true else(decide (1<=a.2.2.1)&&decide (a.2.2.1<=4294967295))&&(decide (1<=a.2.1)&&decide (a.2.1<=16))
def jl(a:Dj):Int:=if a.1<1\/8<a.1 then 15 else if ¬a=rG a then 1 else if oR a=false then 5 else 0
theorem zf3(a b:Dj):nH yA a b=true↔a=b:=by obtain⟨c,d,e,f,g,⟨⟩⟩:=a;obtain⟨h,j,k,l,n,⟨⟩⟩:=b;simp[nH]
def jg(s:PS)(a:List GL)(t:GL):Int:=
 if mQ t.1=false then 1
 else if a.any (·.1==t.1)=true then 7
 else if t.2.1.length>64 then 4
 else if bS (xD s) t.2.1≠0 then bS (xD s) t.2.1
 else if t.2.2.1.length>64 then 4
 else if bS jl t.2.2.1≠0 then bS jl t.2.2.1
 else if t.2.2.2.1<1\/3<t.2.2.2.1 then 15 else 0
def vn(s:PS)(p:K1):Int:=
 if jR (λi=>match p.2.1[i]? with|some t=>jg s (p.2.1.take i) t|none=>0) p.2.1.length≠0 then jR (λi=>match p.2.1[i]? with|some t=>jg s (p.2.1.take i) t|none=>0) p.2.1.length
 else if p.2.2.1≠1/\p.2.2.1≠2 then 15 else 0
def sU(pe:List UInt8->Int)(s:PS):Int:=
 if gW (·.1) (λl=>l.2.1.length) (λl=>bS mR l.2.1) s.1≠0 then gW (·.1) (λl=>l.2.1.length) (λl=>bS mR l.2.1) s.1
 else if gW (·.1) (λl=>l.2.1.length) (λl=>bS (λr=>pe r.2.1) l.2.1) s.2.1≠0 then gW (·.1) (λl=>l.2.1.length) (λl=>bS (λr=>pe r.2.1) l.2.1) s.2.1
 else if gW (·.1) (λl=>l.2.1.length) (λl=>bS oO l.2.1) s.2.2.1≠0 then gW (·.1) (λl=>l.2.1.length) (λl=>bS oO l.2.1) s.2.2.1
 else gW (·.1) (λp=>p.2.1.length) (vn s) s.2.2.2.1
theorem BW{s:PS}{k N a pl:Int}{nm:List UInt8}{b:Bool}(h:k=1\/k=2\/k=3):xD s (k,nm,N,(a,pl,()),b,())=if N≠0\/a≠0\/pl≠0 then 1 else if L2 s k nm then 0 else 6:=by unfold xD;grind
theorem Wi{s:PS}{N a pl:Int}{nm:List UInt8}{b:Bool}:xD s (7,nm,N,(a,pl,()),b,())=if nm≠[]\/N≠0 then 1 else if dE (a,pl,())then 0 else 1:=by unfold xD;simp
theorem Wj{s:PS}{k N a pl:Int}{nm:List UInt8}{b:Bool}(h:k=4\/k=5\/k=6\/k=8):xD s (k,nm,N,(a,pl,()),b,())=if nm≠[]\/a≠0\/pl≠0 then 1 else if N<zgo k\/VZ k<N then 5 else 0:=by unfold xD;grind
theorem NW{s:PS}{m:MAT}(h:m.1<1\/8<m.1):xD s m=15:=by unfold xD;rw[if_pos h]
structure SmP(s:PS):Prop where
 ok:okD yS s
 l1:s.1.length<=1048576
 l2:s.2.1.length<=1048576
 l3:s.2.2.1.length<=1048576
 l4:s.2.2.2.1.length<=1048576
 pt:∀l∈s.2.1,∀r∈l.2.1,r.2.1.length<=1048576
theorem Mw{α:Type}{nm:α->List UInt8}{sz:α->Nat}{ck:α->Int}{l:List α}(h:gW nm sz ck l=0):l.length<=64/\∀x∈l,mQ (nm x)=true/\sz x<=64/\ck x=0:=by
 unfold gW at h;split at h;·omega
 rename_i hl;refine⟨by omega,λx e=>?_⟩;obtain⟨i,b,rfl⟩:=l_.1 e;have a:=errN_zero.1 h i b;unfold LY at a;split at a;·omega
 rename_i c;rw[e_ b]at a;simp only at a;split at a;·omega
 rename_i f;refine⟨?_,by omega,a⟩;have d:wb (l.map nm) i=0:=c_ c;unfold wb at d;grind
structure TrmOk(s:PS)(t:GL):Prop where
 nm:mQ t.1=true
 ml:t.2.1.length<=64
 ma:∀m∈t.2.1,xD s m=0
 al:t.2.2.1.length<=64
 ac:∀a∈t.2.2.1,jl a=0
 ve:1<=t.2.2.2.1/\t.2.2.2.1<=3
theorem zgL{s:PS}{b:List GL}{t:GL}(h:jg s b t=0):TrmOk s t:=by
 unfold jg at h;split at h;·omega
 rename_i d;split at h;·omega
 split at h;·omega
 rename_i e;split at h;·omega
 rename_i a;split at h;·omega
 rename_i f;split at h;·omega
 rename_i c;split at h;·omega
 rename_i g;refine⟨?_,by omega,errL_zero.1 (c_ a),by omega,errL_zero.1 (c_ c),by omega⟩;grind
structure PlcOk(s:PS)(p:K1):Prop where
 tl:p.2.1.length<=64
 tr:∀t∈p.2.1,TrmOk s t
 df:p.2.2.1=1\/p.2.2.1=2
structure PolOk(pe:List UInt8->Int)(s:PS):Prop where
 l1:s.1.length<=64
 r1:∀l∈s.1,l.2.1.length<=64/\∀r∈l.2.1,mR r=0
 l2:s.2.1.length<=64
 r2:∀l∈s.2.1,l.2.1.length<=64/\∀r∈l.2.1,pe r.2.1=0
 l3:s.2.2.1.length<=64
 r3:∀l∈s.2.2.1,l.2.1.length<=64/\∀r∈l.2.1,oO r=0
 l4:s.2.2.2.1.length<=64
 r4:∀p∈s.2.2.2.1,PlcOk s p
theorem zgt{s:PS}{p:K1}(hl:p.2.1.length<=64)(h:vn s p=0):PlcOk s p:=by
 unfold vn at h;split at h;·omega
 rename_i c;split at h;·omega
 rename_i e;refine⟨hl,λt d=>?_,by omega⟩;obtain⟨i,b,rfl⟩:=l_.1 d;have a:=errN_zero.1 (c_ c) i b;rw[e_ b]at a;exact zgL a
theorem IY{pe:List UInt8->Int}{s:PS}(h:sU pe s=0):PolOk pe s:=by
 unfold sU at h;split at h;·omega
 rename_i e;split at h;·omega
 rename_i f;split at h;·omega
 rename_i g;have a:=Mw (c_ e);have b:=Mw (c_ f);have c:=Mw (c_ g);have d:=Mw h;exact⟨a.1,λl hl=>⟨(a.2 l hl).2.1,errL_zero.1 (a.2 l hl).2.2⟩,b.1,λl hl=>⟨(b.2 l hl).2.1,λr hr=>errL_zero.1 (b.2 l hl).2.2 r hr⟩,c.1,λl hl=>⟨(c.2 l hl).2.1,errL_zero.1 (c.2 l hl).2.2⟩,d.1,λp hp=>zgt (d.2 p hp).2.1 (d.2 p hp).2.2⟩
def vj(s:PS)(n:List UInt8):Option K1:=s.2.2.2.1.find? (·.1==n)
theorem xc{s:PS}{n:List UInt8}{p:K1}(h:vj s n=some p):p∈s.2.2.2.1:=List.mem_of_find?_eq_some h
end Go.Pl
