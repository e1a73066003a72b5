import Derived.Test.YthjnceggmnicmaaGreatDoorHL7
import Derived.Test.YthjnceggmnicmaaGreatDoorHL5
import Derived.Lib.ItoaNum
set_option linter.unusedVariables false
set_option linter.unusedSimpArgs false
open Bool renaming false_or->t_,and_eq_true->u_,true_and->v_
open Classical renaming byContradiction->d_
open Go.IntKind renaming bits->x_,wrap->I_
open List renaming getElem?_eq_getElem->a_,length_append->b_,getElem?_append_left->c_,getElem?_eq_some_iff->e_,mem_append->f_,mem_cons_self->g_,mem_cons_of_mem->h_,cons_append->i_,length_nil->j_,take_succ_eq_append_getElem->k_,mem_iff_getElem->l_,pairwise_append->m_,getD->p_,mem_singleton->q_,drop_eq_getElem_cons->r_,pairwise_iff_getElem->s_,pairwise_cons->w_,take_add_one->y_,countP_cons->z_,getElem_mem->A_,length_cons->B_,all_append->C_,foldl_cons->D_,map_cons->F_,sum_cons->G_
open Nat renaming le_refl->n_,zero_add->o_,strongRecOn->E_,le_trans->H_
namespace Go.Pl
open Go Go.Av Go.Ev
def Jm(x n:Nat):Nat:=x>>>(32 - n) <<< (32 - n)
def Gg(x n:Int):Int:=(Jm x.toNat n.toNat:Int)
theorem RE(x n j:Nat):(Jm x n).testBit j=(decide (32 - n<=j)&&x.testBit j):=by unfold Jm;grind
theorem TO{x:Nat}(b:x<4294967296){j:Nat}(a:32<=j):x.testBit j=false:=Nat.testBit_lt_two_pow (Nat.lt_of_lt_of_le b (H_ (show 4294967296<=2^32 by simp) (Nat.pow_le_pow_right (by simp) a)))
theorem RF{x n:Nat}(b:x<4294967296)(hn:n<=32):x&&&(4294967295*2^(32 - n)%4294967296)=Jm x n:=by
 refine Nat.eq_of_testBit_eq λj=>?_;rw[Nat.testBit_and,RE];by_cases a:j<32
 ·have e:(4294967295*2^(32 - n)%4294967296).testBit j=decide (32 - n<=j):=by
   rw[show(4294967296:Nat)=2^32 from rfl,Nat.testBit_mod_two_pow,decide_eq_true a,v_,Nat.testBit_mul_two_pow];by_cases h:32 - n<=j;·rw[decide_eq_true (show j>=32 - n from h),v_,show(4294967295:Nat)=2^32 - 1 from rfl,Nat.testBit_two_pow_sub_one];grind
   grind
  grind
 ·rw[TO b (by omega)];simp
theorem Tj{x y:Nat}(a:x<4294967296)(b:y<4294967296):rG .u32 .and (x:Int) (y:Int)=((x&&&y:Nat):Int):=by
 show I_ .u32 ((BitVec.ofInt (x_ .u32) (x:Int)&&&BitVec.ofInt (x_ .u32) (y:Int)).toNat:Int)=_;rw[wrap_u32,BitVec.toNat_and];have e:∀z:Nat,z<4294967296->(BitVec.ofInt (x_ .u32) (z:Int)).toNat=z:=λz c=>by rw[BitVec.toNat_ofInt];show(((z:Int)%((2^32:Nat):Int))).toNat=z;omega
 rw[e x a,e y b];have:x&&&y<=x:=Nat.and_le_left;omega
section
variable {α β σ τ:Type}
theorem Ns{L a:List τ}(h:L<+:a){i:Nat}{x:τ}(b:L[i]? =some x):a[i]? =some x:=by obtain⟨t,rfl⟩:=h;rw[c_ (e_.1 b).1];exact b
section
variable {f:α->β->α} {s0:α} {ls:List β}
structure Ok(f:α->β->α)(s0:α)(ls:List β)(L:List α)(T:List (Nat×β)):Prop where
 nodup:L.Nodup
 len:L.length=T.length+1
 head:L[0]? =some s0
 link:∀k j c,T[k]? =some (j,c)->j<k+1/\c∈ls/\∃x,L[j]? =some x/\L[k+1]? =some (f x c)
theorem Ok.add{L:List α}{T:List (Nat×β)}(h:Ok f s0 ls L T){x:α}{i:Nat}{c:β}(J:L[i]? =some x)(hc:c∈ls)(hn:f x c∉L):Ok f s0 ls (L++[f x c]) (T++[(i,c)]):=by
 have hi:i<L.length:=(e_.1 J).1;have hl:=h.len;refine⟨?_,by simp[hl],?_,λk j N z=>?_⟩;·rw[List.nodup_append];exact⟨h.nodup,by simp,λa ha b I=>by simp at I;subst I;rintro rfl;exact hn ha⟩
 ·rw[c_ (by omega)];exact h.head
 ·by_cases E:k<T.length;·rw[c_ E]at z;obtain⟨R,U,y,Y,h4⟩:=h.link k j N z;exact⟨R,U,y,by rw[c_ (by omega)];exact Y,by rw[c_ (by omega)];exact h4⟩
  ·rw[List.getElem?_append_right (by omega)]at z;have H:k=T.length:=by have:=(e_.1 z).1;simp at this;omega
   subst H;simp at z;obtain⟨rfl,rfl⟩:=z;refine⟨by omega,hc,x,by rw[c_ hi];exact J,?_⟩;rw[show T.length+1=L.length by omega];simp
def Quiet(sp:List α->α->Bool)(L:List α):Prop:=∀k x,L[k+1]? =some x->sp (L.take (k+1)) x=false
theorem Quiet.add{sp:List α->α->Bool}{L:List α}{y:α}(h:Quiet sp L)(hs:sp L y=false):Quiet sp (L++[y]):=by
 intro k x z;by_cases H:k+1<L.length;·rw[c_ H]at z;rw[List.take_append_of_le_length (by omega)];exact h k x z
 ·have E:=(e_.1 z).1;simp at E;have:k+1=L.length:=by omega
  rw[this]at z⊢;simp at z;subst z;simpa using hs
theorem Ok.pre{L E:List α}{T I:List (Nat×β)}(h:Ok f s0 ls L T)(J:E<+:L)(hT:I<+:T)(hl:E.length=I.length+1):Ok f s0 ls E I:=by
 have z:∀k,k<E.length->E[k]? =L[k]? :=λk H=>by obtain⟨t,rfl⟩:=J;rw[c_ H]
 refine⟨h.nodup.sublist J.sublist,hl,by rw[z 0 (by omega)];exact h.head,λk j c H=>?_⟩;have el:=(e_.1 H).1;obtain⟨N,R,x,U,Y⟩:=h.link k j c (Ns hT H);exact⟨N,R,x,by rw[z j (by omega)];exact U,by rw[z (k+1) (by omega)];exact Y⟩
inductive Tr(T:List (Nat×β)):Nat->List β->Prop
 |zero:Tr T 0 []
 |step {k j:Nat} {c:β} {p:List β}:T[k]? =some (j,c)->Tr T j p->Tr T (k+1) (p++[c])
theorem Tr.mono{T z:List (Nat×β)}(hp:T<+:z){k:Nat}{p:List β}(h:Tr T k p):Tr z k p:=by induction h with|zero=>exact .zero|step E _ H=>exact .step (Ns hp E) H
theorem Ok.tr{L:List α}{T:List (Nat×β)}(h:Ok f s0 ls L T):∀k,k<L.length->∃p,Tr T k p:=by
 intro k;induction k using E_ with
 |ind k H=>
  intro I
  match k with|0=>exact⟨[],.zero⟩|k+1=>have z:=a_ (l:=T) (i:=k) (by have:=h.len;omega);obtain⟨E,_⟩:=h.link k _ _ z;obtain⟨p,hp⟩:=H _ E (by omega);exact⟨_,.step z hp⟩
theorem Tr.len{L:List α}{T:List (Nat×β)}(h:Ok f s0 ls L T){k:Nat}{p:List β}(E:Tr T k p):p.length<=k:=by induction E with|zero=>exact n_ _|step z _ H=>have:=(h.link _ _ _ z).1;simp only[b_,List.length_singleton];omega
end
variable [DecidableEq α]
variable (f:α->β->α) (s0:α) (ls:List β)
variable {f s0 ls}
end
open Go Go.Ev
theorem lz{P:Rx->Prop}(h:∀k lo a ks,(∀r∈ks,P r)->P (.mk k lo a ks)):∀r,P r:=λr=>Rx.rec (motive_1:=P) (motive_2:=λks=>∀r∈ks,P r) (λk lo a ks b=>h k lo a ks b) (λr hr=>by grind) (λr ks c d x e=>by grind) r
theorem mV(v:Rx):Rx.mk v.out.1 v.out.2.1 v.out.2.2.1 v.out.2.2.2.1=v:=by cases v;rfl
structure G where
 fi:List Nat
 la:List Nat
 em:Bool
 pr:List (Nat×Nat)
 sp:List (Int×Int)
def lQ(a b:List Nat):List (Nat×Nat):=a.flatMap λp=>b.map λq=>(p,q)
theorem JC{a b:List Nat}{p q:Nat}:(p,q)∈lQ a b↔p∈a/\q∈b:=by unfold lQ;simp
def s3(a x:G):G:=⟨if a.em then a.fi++x.fi else a.fi,if x.em then a.la++x.la else x.la,a.em&&x.em,a.pr++x.pr++lQ a.la x.fi,a.sp++x.sp⟩
def AR(a x:G):G:=⟨a.fi++x.fi,a.la++x.la,a.em||x.em,a.pr++x.pr,a.sp++x.sp⟩
def sR(x:G):G:=⟨x.fi,x.la,x.em,x.pr++lQ x.la x.fi,x.sp⟩
def Tv(x:G):G:=⟨x.fi,x.la,true,x.pr,x.sp⟩
def g0(e:Bool):G:=⟨[],[],e,[],[]⟩
def Qm(o:Nat)(lo a:Int):G:=⟨[o],[o],false,[],[(lo,a)]⟩
mutual
def gL:Rx->Nat->G
 | .mk k lo a ks,o=>
  if k=1 then Qm o lo a else if k=2 then Qm o 0 4294967295
  else if k=3 then kB ks o (g0 true)else if k=4 then iK ks o (g0 false)
  else if k=5 then Tv (sR (iK ks o (g0 false)))else if k=6 then sR (iK ks o (g0 false))
  else if k=7 then Tv (iK ks o (g0 false))else g0 true
def kB:List Rx->Nat->G->G
 |[],_,a=>a
 |r::b,o,a=>kB b o (s3 a (gL r (o+a.sp.length)))
def iK:List Rx->Nat->G->G
 |[],_,a=>a
 |r::b,o,a=>iK b o (AR a (gL r (o+a.sp.length)))
end
theorem MV(o:Nat):∀(l m:List Rx) (a:G),kB (l++m) o a=kB m o (kB l o a)
 |[],_,_=>by simp[kB]
 |r::l,m,a=>by simp only[i_,kB];exact MV o l m _
theorem MU(o:Nat):∀(l m:List Rx) (a:G),iK (l++m) o a=iK m o (iK l o a)
 |[],_,_=>by simp[iK]
 |r::l,m,a=>by simp only[i_,iK];exact MU o l m _
theorem RA{o:Nat}{ks:List Rx}{i:Nat}(h:i<ks.length)(a:G):kB (ks.take (i+1)) o a=s3 (kB (ks.take i) o a) (gL ks[i] (o+(kB (ks.take i) o a).sp.length)):=by rw[y_,a_ h,MV];simp[kB]
theorem Rz{o:Nat}{ks:List Rx}{i:Nat}(h:i<ks.length)(a:G):iK (ks.take (i+1)) o a=AR (iK (ks.take i) o a) (gL ks[i] (o+(iK (ks.take i) o a).sp.length)):=by rw[y_,a_ h,MU];simp[iK]
theorem Wk{P:Nat->G->Prop}(f:∀o e,P o (g0 e))(g:∀o lo c,P o (Qm o lo c))(hs:∀o a x,P o a->P (o+a.sp.length) x->P o (s3 a x))(d:∀o a x,P o a->P (o+a.sp.length) x->P o (AR a x)) (hl:∀o a,P o a->P o (sR a)) (p:∀o a,P o a->P o (Tv a)):∀(r:Rx) (o:Nat),P o (gL r o):=by
 intro r;refine lz (P:=λr=>∀o,P o (gL r o)) (λk lo c ks b o=>?_) r;have j:∀(l:List Rx) (a:G),(∀r∈l,∀o,P o (gL r o))->P o a->P o (iK l o a):=by intro l;induction l with|nil=>intro a _ h;exact h|cons r l b=>intro a hl h;exact b _ (λr hr=>hl r (h_ _ hr)) (d o a _ h (hl r (g_ ..) _))
 have n:∀(l:List Rx) (a:G),(∀r∈l,∀o,P o (gL r o))->P o a->P o (kB l o a):=by intro l;induction l with|nil=>intro a _ h;exact h|cons r l b=>intro a hl h;exact b _ (λr hr=>hl r (h_ _ hr)) (hs o a _ h (hl r (g_ ..) _))
 unfold gL;split;·grind
 split;·grind
 split;·grind
 split;·grind
 split;·grind
 split;all_goals grind
structure Lie(o:Nat)(g:G):Prop where
 fi:∀p∈g.fi,o<=p/\p<o+g.sp.length
 la:∀p∈g.la,o<=p/\p<o+g.sp.length
 pr:∀p q,(p,q)∈g.pr->(o<=p/\p<o+g.sp.length)/\o<=q/\q<o+g.sp.length
 fl:g.fi.length<=g.sp.length
 ll:g.la.length<=g.sp.length
theorem Wt{o:Nat}{a x:G}(b:Lie o a)(c:Lie (o+a.sp.length) x):Lie o (s3 a x):=by
 have d:=b.fl;have f:=b.ll;have e:=c.fl;have g:=c.ll;refine⟨λp hp=>?_,λp hp=>?_,λp q hp=>?_,?_,?_⟩
 ·simp only[s3,b_]at hp⊢;split at hp
  ·rcases f_.1 hp with h|h;·have:=b.fi p h;omega
   ·have:=c.fi p h;omega
  ·have:=b.fi p hp;omega
 ·simp only[s3,b_]at hp⊢;split at hp
  ·rcases f_.1 hp with h|h;·have:=b.la p h;omega
   ·have:=c.la p h;omega
  ·have:=c.la p hp;omega
 ·simp only[s3,b_,f_,JC]at hp⊢;rcases hp with(h|h)|⟨h,h'⟩;·have:=b.pr p q h;omega
  ·have:=c.pr p q h;omega
  ·have:=b.la p h;have:=c.fi q h';omega
 ·simp only[s3,b_];grind
 ·simp only[s3,b_];grind
theorem Ws{o:Nat}{a x:G}(b:Lie o a)(c:Lie (o+a.sp.length) x):Lie o (AR a x):=by
 have d:=b.fl;have f:=b.ll;have e:=c.fl;have g:=c.ll;refine⟨λp hp=>?_,λp hp=>?_,λp q hp=>?_,?_,?_⟩
 ·simp only[AR,b_]at hp⊢;rcases f_.1 hp with h|h;·have:=b.fi p h;omega
  ·have:=c.fi p h;omega
 ·simp only[AR,b_]at hp⊢;rcases f_.1 hp with h|h;·have:=b.la p h;omega
  ·have:=c.la p h;omega
 ·simp only[AR,b_,f_]at hp⊢;rcases hp with h|h;·have:=b.pr p q h;omega
  ·have:=c.pr p q h;omega
 ·simp only[AR,b_];omega
 ·simp only[AR,b_];omega
theorem TU{o:Nat}{x:G}(h:Lie o x):Lie o (sR x):=by
 refine⟨h.fi,h.la,λp q hp=>?_,h.fl,h.ll⟩;simp only[sR,f_,JC]at hp⊢;rcases hp with hp|⟨a,b⟩;·exact h.pr p q hp
 ·exact⟨h.la p a,h.fi q b⟩
theorem Xr(o:Nat)(e:Bool):Lie o (g0 e):=⟨by simp[g0],by simp[g0],by simp[g0],by simp[g0],by simp[g0]⟩
theorem ud:∀(r:Rx) (o:Nat),Lie o (gL r o):=Wk Xr (λo lo d=>⟨by simp[Qm],by simp[Qm],by simp[Qm],by simp[Qm],by simp[Qm]⟩) (λ_ _ _ b c=>Wt b c) (λ_ _ _ b c=>Ws b c) (λ_ _ h=>TU h) (λo a h=>⟨h.fi,h.la,h.pr,h.fl,h.ll⟩)
def mH(k n:Int):Bool:=bif k==0||k==1||k==2 then n==0 else bif k==3 then decide (n>=2)else bif k==4 then n != 1 else bif k==5||k==6||k==7 then n==1 else false
def wy(k:Int):Bool:=k==0||k==1||k==2||k==3||k==4||k==5||k==6||k==7
def nf(k lo a n:Int):Int:=
 bif !wy k then 15 else bif k==1&&(decide (lo<0)||decide (lo>a)||decide (a>4294967295))then 5 else bif (k != 1&&(lo != 0||a != 0))|| !mH k n then 1 else 0
theorem knownB_iff{k:Int}:wy k=true↔k=0\/k=1\/k=2\/k=3\/k=4\/k=5\/k=6\/k=7:=by simp only[wy,Bool.or_eq_true,beq_iff_eq,or_assoc]
structure Node(k lo hi n:Int):Prop where
 known:k=0\/k=1\/k=2\/k=3\/k=4\/k=5\/k=6\/k=7
 rng:k=1->0<=lo/\lo<=hi/\hi<=4294967295
 zero:k≠1->lo=0/\hi=0
 leaf:k=0\/k=1\/k=2->n=0
 seq:k=3->2<=n
 alt:k=4->n≠1
 one:k=5\/k=6\/k=7->n=1
theorem nodeE_zero{k lo a n:Int}:nf k lo a n=0↔Node k lo a n:=by
 constructor
 ·intro h;unfold nf at h;cases d:wy k;·grind
  rw[d]at h;have g:=knownB_iff.1 d;simp only[Bool.not_true,cond_false]at h;cases f:(k==1&&(decide (lo<0)||decide (lo>a)||decide (a>4294967295)))
  ·rw[f]at h;simp only[cond_false]at h;cases c:((k != 1&&(lo != 0||a != 0))|| !mH k n)
   ·simp only[Bool.or_eq_false_iff,Bool.and_eq_false_iff,bne_eq_false_iff_eq,Bool.not_eq_false',beq_eq_false_iff_ne,decide_eq_false_iff_not]at f c;obtain⟨c,b⟩:=c;refine⟨g,λe=>?_,λe=>?_,λe=>?_,λe=>?_,λe=>?_,λe=>?_⟩;·omega
    ·omega
    ·rcases e with rfl|rfl|rfl<;>simpa[mH]using b
    ·subst e;simpa[mH]using b
    ·subst e;simpa[mH]using b
    ·rcases e with rfl|rfl|rfl<;>simpa[mH]using b
   grind
  grind
 ·intro h;have d:wy k=true:=knownB_iff.2 h.known;have f:(k==1&&(decide (lo<0)||decide (lo>a)||decide (a>4294967295)))=false:=by
   by_cases e:k=1;·have:=h.rng e;grind
   grind
  have c:(k != 1&&(lo != 0||a != 0))=false:=by
   by_cases e:k=1;·grind
   ·have:=h.zero e;grind
  have b:mH k n=true:=by
   rcases h.known with rfl|rfl|rfl|rfl|rfl|rfl|rfl|rfl;·simpa[mH]using h.leaf (by simp)
   ·simpa[mH]using h.leaf (by simp)
   ·simpa[mH]using h.leaf (by simp)
   ·simpa[mH]using h.seq rfl
   ·simpa[mH]using h.alt rfl
   ·simpa[mH]using h.one (by simp)
   ·simpa[mH]using h.one (by simp)
   ·simpa[mH]using h.one (by simp)
  unfold nf;grind
mutual
def sz:Rx->Nat
 | .mk _ _ _ ks=>1+wQ ks
def wQ:List Rx->Nat
 |[]=>0
 |r::a=>sz r+wQ a
end
theorem xE:∀{ks:List Rx} {r:Rx},r∈ks->sz r<=wQ ks
 |x::ks,r,h=>by
  simp only[wQ];rcases List.mem_cons.1 h with rfl|h;·simp
  ·have:=xE h;omega
theorem XY(r:Rx):0<sz r:=by cases r;simp only[sz];omega
theorem EZ:∀ks:List Rx,ks.length<=wQ ks
 |[]=>n_ _
 |r::ks=>by simp only[wQ,B_];have:=EZ ks;have:=XY r;omega
theorem Lv:∀l m:List Rx,wQ (l++m)=wQ l+wQ m
 |[],m=>by simp[wQ]
 |r::l,m=>by simp only[i_,wQ,Lv l m];omega
mutual
def dR:Rx->Bool
 | .mk k lo a ks=>nf k lo a ks.length==0&&w8 ks
def w8:List Rx->Bool
 |[]=>true
 |r::a=>dR r&&w8 a
end
theorem uD:∀ks:List Rx,w8 ks=true↔∀r∈ks,dR r=true
 |[]=>by simp[w8]
 |r::ks=>by simp[w8,uD ks]
theorem well_iff{k lo a:Int}{ks:List Rx}:dR (.mk k lo a ks)=true↔Node k lo a ks.length/\∀r∈ks,dR r=true:=by simp only[dR,u_,beq_iff_eq,nodeE_zero,uD]
mutual
def CR:Rx->Int->Int->Int×Int
 | .mk k lo a ks,lv,c=>if lv>16 then(c,24)else if c>=64 then(c,4)else if nf k lo a ks.length≠0 then(c,nf k lo a ks.length)else ku ks (lv+1) (c+1)
def ku:List Rx->Int->Int->Int×Int
 |[],_,c=>(c,0)
 |r::a,lv,c=>if(CR r lv c).2≠0 then CR r lv c else ku a lv (CR r lv c).1
end
mutual
def Us:Rx->Bool
 | .mk k _ _ ks=>bif k==0||k==5||k==7 then true else bif k==3||k==6 then R0 ks else bif k==4 then R1 ks else false
def R0:List Rx->Bool
 |[]=>true
 |r::a=>Us r&&R0 a
def R1:List Rx->Bool
 |[]=>false
 |r::a=>Us r||R1 a
end
mutual
def cnt:Rx->Nat
 | .mk k _ _ ks=>(bif k==1||k==2 then 1 else 0)+d7 ks
def d7:List Rx->Nat
 |[]=>0
 |r::a=>cnt r+d7 a
end
theorem vU:∀l m:List Rx,d7 (l++m)=d7 l+d7 m
 |[],m=>by simp[d7]
 |r::l,m=>by simp only[i_,d7,vU l m];omega
theorem Tp(r:Rx):cnt r<=sz r:=by
 refine lz (P:=λr=>cnt r<=sz r) (λk lo c ks a=>?_) r;have:∀l:List Rx,(∀r∈l,cnt r<=sz r)->d7 l<=wQ l:=by intro l;induction l with|nil=>intro _;exact n_ _|cons r l b=>intro h;simp only[d7,wQ];grind
 have:=this ks a;simp only[cnt,sz];grind
theorem len_nil{ks:List Rx}(h:(ks.length:Int)=0):ks=[]:=List.length_eq_zero_iff.1 (by omega)
theorem rX{ks:List Rx}(h:(ks.length:Int)=1):∃r,ks=[r]:=List.length_eq_one_iff.1 (by omega)
theorem qF:∀(r:Rx),dR r=true->∀o,(gL r o).sp.length=cnt r/\(gL r o).em=Us r:=by
 refine lz λk lo A ks s z o=>?_;obtain⟨hn,e⟩:=well_iff.1 z;have w:∀(l:List Rx) (a:G),(∀r∈l,r∈ks)->(iK l o a).sp.length=a.sp.length+d7 l/\(iK l o a).em=(a.em||R1 l):=by intro l;induction l with|nil=>intro a _;simp[iK,d7,R1]|cons r l c=>intro a hl;have hr:=hl r (g_ ..);obtain⟨f,g⟩:=s r hr (e r hr) (o+a.sp.length);obtain⟨j,n⟩:=c (AR a (gL r (o+a.sp.length))) λx p=>hl x (h_ _ p);simp only[iK,j,n,d7,R1];simp only[AR,b_,f,g,Bool.or_assoc];grind
 have y:∀(l:List Rx) (a:G),(∀r∈l,r∈ks)->(kB l o a).sp.length=a.sp.length+d7 l/\(kB l o a).em=(a.em&&R0 l):=by intro l;induction l with|nil=>intro a _;simp[kB,d7,R0]|cons r l c=>intro a hl;have hr:=hl r (g_ ..);obtain⟨f,g⟩:=s r hr (e r hr) (o+a.sp.length);obtain⟨j,n⟩:=c (s3 a (gL r (o+a.sp.length))) λx p=>hl x (h_ _ p);simp only[kB,j,n,d7,R0];simp only[s3,b_,f,g,Bool.and_assoc];grind
 obtain⟨b,d⟩:=w ks (g0 false) λ_ h=>h;obtain⟨u,v⟩:=y ks (g0 true) λ_ h=>h;rcases hn.known with rfl|rfl|rfl|rfl|rfl|rfl|rfl|rfl;·have:=len_nil (hn.leaf (by simp));subst this;simp[gL,g0,cnt,d7,Us]
 ·have:=len_nil (hn.leaf (by simp));subst this;simp[gL,Qm,cnt,d7,Us]
 ·have:=len_nil (hn.leaf (by simp));subst this;simp[gL,Qm,cnt,d7,Us]
 ·simp only[g0,j_,o_,v_]at u v;simp[gL,g0,u,v,cnt,Us]
 ·simp only[g0,j_,o_,t_]at b d;simp[gL,g0,b,d,cnt,Us]
 ·simp only[g0,j_,o_,t_]at b d;simp[gL,Tv,sR,g0,b,cnt,Us]
 ·obtain⟨x,rfl⟩:=rX (hn.one (by simp));simp only[g0,j_,o_,t_]at b d;simp[gL,sR,g0,b,d,cnt,Us,R1,R0]
 ·simp only[g0,j_,o_,t_]at b d;simp[gL,Tv,g0,b,cnt,Us]
open Go Go.Ev Go.Lib
def Gf(b:UInt8):Prop:=48<=b.toNat/\b.toNat<=57
instance (b:UInt8):Decidable (Gf b):=inferInstanceAs (Decidable (_/\_))
def wZ(l:List UInt8):Nat:=l.foldl (λn b=>10*n+(b.toNat - 48)) 0
theorem Dt(l:List UInt8)(b:UInt8):wZ (l++[b])=10*wZ l+(b.toNat - 48):=by simp[wZ,List.foldl_append]
theorem Jd{n:Nat}(h:n<10):(UInt8.ofNat (48+n)).toNat=48+n:=by simp;omega
theorem xq:∀(n:Nat),(∀b∈decDigits n,Gf b)/\wZ (decDigits n)=n/\0<(decDigits n).length/\(1<(decDigits n).length->((decDigits n).getD 0 0).toNat≠48)/\(0<n->((decDigits n).getD 0 0).toNat≠48):=by
 intro n;induction n using E_ with
 |ind n d=>
  rw[decDigits];by_cases h:n<10
  ·rw[dif_pos h];have:=Jd h;refine⟨λb a=>?_,?_,by simp,by simp,?_⟩;·simp only[q_]at a;subst a;unfold Gf;omega
   ·show 10*0+((UInt8.ofNat (48+n)).toNat - 48)=n;omega
   grind
  ·rw[dif_neg h];obtain⟨e,c,f,g,j⟩:=d (n/10) (by omega);have hd:=Jd (show n%10<10 by omega);have hg:(decDigits (n/10)++[UInt8.ofNat (48+n%10)]).getD 0 0=(decDigits (n/10)).getD 0 0:=by grind
   refine⟨λb a=>?_,?_,by simp,λ_=>?_,λ_=>?_⟩
   ·simp only[f_,q_]at a;rcases a with a|rfl;·grind
    ·unfold Gf;omega
   ·rw[Dt,c,hd];omega
   all_goals grind
theorem Bb(n:Nat):∀b∈decDigits n,Gf b:=(xq n).1
theorem MD(n:Nat):wZ (decDigits n)=n:=(xq n).2.1
theorem MC(n:Nat):0<(decDigits n).length:=(xq n).2.2.1
theorem Rp(n:Nat)(h:1<(decDigits n).length):((decDigits n).getD 0 0).toNat≠48:=(xq n).2.2.2.1 h
theorem MB:∀(n k:Nat),n<10^(k+1)->(decDigits n).length<=k+1
 |n,0,h=>by rw[decDigits,dif_pos (by omega)];simp
 |n,k+1,h=>by
  rw[decDigits];split;·simp
  ·have:=MB (n/10) k (by omega);grind
theorem tK{n:Nat}(h:n<=4294967295):(decDigits n).length<=10:=MB n 9 (by omega)
theorem takeD{l:List UInt8}{k:Nat}(h:k<l.length):l.take (k+1)=l.take k++[l.getD k 0]:=by
 have e:l.getD k 0=l[k]:=by grind
 rw[k_ h,e]
theorem Cs(l:List UInt8):∀(d k:Nat),k+d=l.length->wZ (l.take k)<=wZ l
 |0,k,h=>by grind
 |d+1,k,h=>by have a:=Cs l d (k+1) (by omega);rw[takeD (by omega),Dt]at a;omega
theorem JW{l:List UInt8}{k:Nat}(h:k<=l.length):wZ (l.take k)<=wZ l:=Cs l (l.length - k) k (by omega)
def se(p:Int):Rx->Bool
 | .mk k _ _ ks=>bif k==4 then !ks.isEmpty else bif k==3 then p != 4 else(k==5||k==6||k==7)&&(p==5||p==6||p==7)
def ub(w:Bool)(l:List UInt8):List UInt8:=bif w then 40::(l++[41])else l
def jn(sep:UInt8):List (List UInt8)->List UInt8
 |[]=>[]
 |[x]=>x
 |x::y::l=>x++sep::jn sep (y::l)
mutual
def kf:Rx->List UInt8
 | .mk k lo a ks=>
  if k=0 then [40,41]else if k=2 then [46]
  else if k=1 then(if lo=a then decDigits lo.toNat else 91::(decDigits lo.toNat++45::(decDigits a.toNat++[93])))
  else if k=5 then(Lg 5 ks).headD []++[42]else if k=6 then(Lg 6 ks).headD []++[43]else if k=7 then(Lg 7 ks).headD []++[63]
  else if k=4 then(if ks=[]then [33]else jn 124 (Lg 4 ks))else jn 32 (Lg 3 ks)
def Lg:Int->List Rx->List (List UInt8)
 |_,[]=>[]
 |p,r::a=>ub (se p r) (kf r)::Lg p a
end
def pK(p:Int)(r:Rx):List UInt8:=ub (se p r) (kf r)
theorem gE(p:Int):∀ks:List Rx,Lg p ks=ks.map (pK p)
 |[]=>by simp[Lg]
 |r::a=>by simp[Lg,gE p a,pK]
theorem Qs(sep:UInt8):∀(l:List (List UInt8)) (x:List UInt8),jn sep (l++[x])=if l=[]then x else jn sep l++sep::x
 |[],x=>by simp[jn]
 |[y],x=>by simp[jn]
 |y::z::l,x=>by have:=Qs sep (z::l) x;simp only[i_,jn]at*;grind
theorem OS(sep:UInt8):∀(l:List (List UInt8)),(jn sep l).length<=(l.map λx=>x.length+1).sum
 |[]=>by simp[jn]
 |[x]=>by simp[jn]
 |x::y::l=>by have:=OS sep (y::l);simp only[jn,b_,B_,F_,G_]at*;omega
theorem Qp(p:Int)(r:Rx):(pK p r).length<=(kf r).length+2:=by unfold pK ub;cases se p r<;>simp
theorem Lf:∀(r:Rx),dR r=true->(kf r).length+3<=26*sz r:=by
 refine lz λk lo d ks n g=>?_;obtain⟨hn,b⟩:=well_iff.1 g;have a:∀p:Int,∀l:List Rx,(∀r∈l,r∈ks)->((l.map (pK p)).map λx=>x.length+1).sum<=26*wQ l:=by intro p l;induction l with|nil=>simp|cons r l u=>intro h;have c:=n r (h r (g_ ..)) (b r (h r (g_ ..)));have v:=u λx j=>h x (h_ _ j);have w:=Qp p r;simp only[F_,G_,wQ]at*;omega
 have hd:∀p:Int,((ks.map (pK p)).headD []).length<=26*wQ ks:=by intro p;have c:=a p ks λ_ h=>h;cases ks with|nil=>simp|cons r l=>grind
 have y:∀(p:Int) (s:UInt8),(jn s (ks.map (pK p))).length<=26*wQ ks:=λp s=>H_ (OS s _) (a p ks λ_ h=>h);have f:k=1->(decDigits lo.toNat).length<=10/\(decDigits d.toNat).length<=10:=λe=>by have:=hn.rng e;exact⟨tK (by omega),tK (by omega)⟩
 simp only[kf,gE,sz];grind
end Go.Pl
namespace Go.Ev
open Go Go.RowKit Go.Av
def Ih(f:Nat->Int)(i:Nat):Nat->Int
 |0=>0
 |k+1=>if f i=0 then Ih f (i+1) k else f i
def oD(f:Nat->Int)(N:Nat):Int:=Ih f 0 N
theorem Jg{f:Nat->Int}:∀(k i:Nat),Ih f i k=0↔∀j,i<=j->j<i+k->f j=0
 |0,i=>by simp only[Ih,true_iff];omega
 |k+1,i=>by
  simp only[Ih];split;·rename_i h;rw[Jg k (i+1)];grind
  grind
theorem errN_zero{f:Nat->Int}{N:Nat}:oD f N=0↔∀j,j<N->f j=0:=by unfold oD;rw[Jg];simp
theorem MO{f:Nat->Int}{c:Int}(h:∀j,f j=0\/f j=c):∀(k i:Nat),Ih f i k=0\/Ih f i k=c
 |0,_=>.inl rfl
 |k+1,i=>by
  simp only[Ih];split;·exact MO h k (i+1)
  grind
theorem TE{f:Nat->Int}{c:Int}{N:Nat}(h:∀j,f j=0\/f j=c):oD f N=0\/oD f N=c:=MO h N 0
def d9{α:Type}(f:α->Int)(l:List α):Int:=oD (λi=>match l[i]? with|some x=>f x|none=>0) l.length
theorem errL_zero{α:Type}{f:α->Int}{l:List α}:d9 f l=0↔∀x∈l,f x=0:=by
 unfold d9;rw[errN_zero];constructor;·intro h x a;obtain⟨i,b,rfl⟩:=l_.1 a;grind
 grind
theorem Ao{ρ β a:Type}{N:Nat}{f:Nat->Int}{enc:Nat->ρ}{oB:Int->β}{oE:a}{body:Nat->ρ->Option (ρ⊕β⊕a)}{Q:β⊕a->Prop} (h:∀i,i<N->Wp (λn=>body n (enc i)) λr=>r=if f i=0 then .inl (enc (i+1))else .inr (.inl (oB (f i)))) (c:Wp (λn=>body n (enc N)) λr=>r= .inr (.inr oE)) (b:Q (if oD f N=0 then .inr oE else .inl (oB (oD f N)))):Wp (λn=>aS n (body n) (enc 0)) Q:=by
 refine a8 (N:=N) (I:=λi s=>s=enc i/\oD f N=Ih f i (N - i)) ⟨rfl,rfl⟩ (λi s d hs=>?_) λs hs=>?_;·obtain⟨rfl,hd⟩:=hs;refine wp_mono (h i d) λr hr=>?_;subst hr;rw[show N - i=(N - (i+1))+1 by omega]at hd;simp only[Ih]at hd;grind
 ·obtain⟨rfl,hd⟩:=hs;refine wp_mono c λr hr=>?_;subst hr;rw[Nat.sub_self]at hd;rw[if_pos (show oD f N=0 from hd)]at b;omega
theorem Ct{α ρ β a:Type}{l:List α}{f:α->Int}{enc:Nat->ρ}{oB:Int->β}{oE:a}{body:Nat->ρ->Option (ρ⊕β⊕a)}{Q:β⊕a->Prop} (h:∀i (d:i<l.length),Wp (λn=>body n (enc i)) λr=>r=if f l[i]=0 then .inl (enc (i+1))else .inr (.inl (oB (f l[i])))) (c:Wp (λn=>body n (enc l.length)) λr=>r= .inr (.inr oE)) (b:Q (if d9 f l=0 then .inr oE else .inl (oB (d9 f l)))):Wp (λn=>aS n (body n) (enc 0)) Q:=by
 refine Ao (f:=λi=>match l[i]? with|some x=>f x|none=>0) (oB:=oB) (λi d=>?_) c b
 grind
theorem tf{α ρ β b:Type}{xs:List α}{p:α->Bool}{enc:Nat->ρ}{g:α->β}{e:b}{body:Nat->ρ->Option (ρ⊕β⊕b)}{Q:β⊕b->Prop} (h:∀(i:Nat) (a:i<xs.length),Wp (λn=>body n (enc i)) λr=>r=if p xs[i]then .inr (.inl (g xs[i]))else .inl (enc (i+1))) (c:Wp (λn=>body n (enc xs.length)) λr=>r= .inr (.inr e)) (d:Q (match xs.find? p with|some x=>.inl (g x)|none=>.inr e)):Wp (λn=>aS n (body n) (enc 0)) Q:=by
 refine a8 (N:=xs.length) (I:=λi s=>s=enc i/\xs.find? p=(xs.drop i).find? p) ⟨rfl,by simp⟩ (λi s a hs=>?_) λs hs=>?_;·obtain⟨rfl,hd⟩:=hs;refine wp_mono (h i a) λr hr=>?_;rw[r_ a,List.find?_cons]at hd;grind
 ·obtain⟨rfl,hd⟩:=hs;refine wp_mono c λr hr=>?_;grind
end Go.Ev
namespace Go.Pl
open Go Go.Av Go.Ev
abbrev L6:Type:=Int×(Int×Unit)
abbrev VC:Type:=Int×(List UInt8×(Int×(L6×(Bool×Unit))))
abbrev Au:Type:=Int×(Int×(Int×(Int×(Int×Unit))))
abbrev tn:Type:=List UInt8×(List VC×(List Au×(Int×Unit)))
abbrev pG:Type:=List UInt8×(List tn×(Int×Unit))
abbrev VT:Type:=Bool×(L6×(Int×(Int×Unit)))
abbrev X4:Type:=List UInt8×(List VT×Unit)
abbrev Yg:Type:=Bool×(List UInt8×Unit)
abbrev X3:Type:=List UInt8×(List Yg×Unit)
abbrev Yf:Type:=Bool×(Int×(Int×Unit))
abbrev X2:Type:=List UInt8×(List Yf×Unit)
abbrev PS:Type:=List X4×(List X3×(List X2×(List pG×Unit)))
abbrev yP:Ty:=pr [tW,tI]
abbrev yM:Ty:=pr [tI,tS,tI,yP,tB]
abbrev yA:Ty:=pr [tI,tI,tI,tW,tW]
abbrev yT:Ty:=pr [tS,.list yM,.list yA,tI]
abbrev yO:Ty:=pr [tS,.list yT,tI]
abbrev yR:Ty:=pr [tB,yP,tI,tI]
abbrev yL:Ty:=pr [tS,.list yR]
abbrev yH:Ty:=pr [tB,tS]
abbrev yG:Ty:=pr [tS,.list yH]
abbrev yC:Ty:=pr [tB,tI,tI]
abbrev yD:Ty:=pr [tS,.list yC]
abbrev yS:Ty:=pr [.list yL,.list yG,.list yD,.list yO]
def lD(p:L6):Bool:=(decide (0<=p.2.1)&&decide (p.2.1<=32))&&(Gg p.1 p.2.1==p.1)
def Gp(c:UInt8):Bool:=(((decide ((c.toNat:Int)>=97)&&decide ((c.toNat:Int)<=122))||(decide ((c.toNat:Int)>=65)&&decide ((c.toNat:Int)<=90)))||(decide ((c.toNat:Int)>=48)&&decide ((c.toNat:Int)<=57)))||((c.toNat:Int)==45)
def nb(s:List UInt8):Bool:=s.all Gp&&(decide (1<=s.length)&&decide (s.length<=32))
def sV(r:VT):Int:=if lD r.2.1=false then 1 else if r.2.2.1<r.2.1.2.1\/r.2.2.2.1<r.2.2.1\/r.2.2.2.1>32 then 5 else 0
def vg(r:Yf):Int:=if r.2.1< -1\/r.2.1>65535\/r.2.2.1< -1\/r.2.2.1>65535 then 5 else 0
def O4(a b:List UInt8):Bool:=Op.bytesLess a b||a==b
def qK(l:List (List UInt8))(i:Nat):Int:=match l[i]? with
 |none=>0
 |some x=>if nb x=false then 1 else if 0<i/\O4 x (l.getD (i - 1) [])=true then 16 else 0
def LV{α:Type}(nm:α->List UInt8)(sz:α->Nat)(a:α->Int)(l:List α)(i:Nat):Int:=if qK (l.map nm) i≠0 then qK (l.map nm) i else match l[i]? with
 |none=>0
 |some x=>if sz x>64 then 4 else a x
def jq{α:Type}(nm:α->List UInt8)(sz:α->Nat)(a:α->Int)(l:List α):Int:=if l.length>64 then 4 else oD (LV nm sz a l) l.length
def Xu(k:Int):Int:=if k=4 then 1 else 0
def TN(k:Int):Int:=if k=4 then 7 else if k=5 then 4294967295 else if k=6 then 16777216 else 2000
def TR(s:PS)(k:Int)(n:List UInt8):Bool:=if k=1 then s.1.any (·.1==n)else if k=2 then s.2.1.any (·.1==n)else s.2.2.1.any (·.1==n)
def vo(s:PS)(m:VC):Int:=
 if m.1<1\/8<m.1 then 15
 else if(3<m.1/\m.2.1≠[])\/(¬(m.1=4\/m.1=5\/m.1=6\/m.1=8)/\m.2.2.1≠0)\/(m.1≠7/\(m.2.2.2.1.1≠0\/m.2.2.2.1.2.1≠0))then 1
 else if m.1<=3 then(if TR s m.1 m.2.1 then 0 else 6)
 else if m.1=7 then(if lD m.2.2.2.1 then 0 else 1)
 else if m.2.2.1<Xu m.1\/TN m.1<m.2.2.1 then 5 else 0
def zo(a:Au):Au:=if a.1<=4 then(a.1,a.2.1,0,0,0,())else if a.1=5 then(a.1,0,0,0,a.2.2.2.2.1,())else if a.1<=7 then(a.1,0,0,a.2.2.2.1,0,())else(a.1,a.2.1,a.2.2.1,0,0,())
def rT(a:Au):Bool:=if a.1=3 then decide (0<=a.2.1)&&decide (a.2.1<=16777216)else if a.1<=4 then decide (0<=a.2.1)&&decide (a.2.1<=4294967295)else if a.1=5 then a.2.2.2.2.1 != 0
 else if a.1<=7 then true else(decide (1<=a.2.2.1)&&decide (a.2.2.1<=4294967295))&&(decide (1<=a.2.1)&&decide (a.2.1<=16))
def jb(a:Au):Int:=if a.1<1\/8<a.1 then 15 else if ¬a=zo a then 1 else if rT a=false then 5 else 0
theorem Wa(a b:Au):rJ yA a b=true↔a=b:=by obtain⟨c,d,e,f,g,⟨⟩⟩:=a;obtain⟨h,j,k,l,n,⟨⟩⟩:=b;simp[rJ]
def jB(s:PS)(a:List tn)(t:tn):Int:=
 if nb t.1=false then 1
 else if a.any (·.1==t.1)=true then 7
 else if t.2.1.length>64 then 4
 else if d9 (vo s) t.2.1≠0 then d9 (vo s) t.2.1
 else if t.2.2.1.length>64 then 4
 else if d9 jb t.2.2.1≠0 then d9 jb t.2.2.1
 else if t.2.2.2.1<1\/3<t.2.2.2.1 then 15 else 0
def mM(s:PS)(p:pG):Int:=
 if oD (λi=>match p.2.1[i]? with|some t=>jB s (p.2.1.take i) t|none=>0) p.2.1.length≠0 then oD (λi=>match p.2.1[i]? with|some t=>jB s (p.2.1.take i) t|none=>0) p.2.1.length
 else if p.2.2.1≠1/\p.2.2.1≠2 then 15 else 0
def re(pe:List UInt8->Int)(s:PS):Int:=
 if jq (·.1) (λl=>l.2.1.length) (λl=>d9 sV l.2.1) s.1≠0 then jq (·.1) (λl=>l.2.1.length) (λl=>d9 sV l.2.1) s.1
 else if jq (·.1) (λl=>l.2.1.length) (λl=>d9 (λr=>pe r.2.1) l.2.1) s.2.1≠0 then jq (·.1) (λl=>l.2.1.length) (λl=>d9 (λr=>pe r.2.1) l.2.1) s.2.1
 else if jq (·.1) (λl=>l.2.1.length) (λl=>d9 vg l.2.1) s.2.2.1≠0 then jq (·.1) (λl=>l.2.1.length) (λl=>d9 vg l.2.1) s.2.2.1
 else jq (·.1) (λp=>p.2.1.length) (mM s) s.2.2.2.1
theorem z8{s:PS}{k N a pl:Int}{nm:List UInt8}{b:Bool}(h:k=1\/k=2\/k=3):vo s (k,nm,N,(a,pl,()),b,())=if N≠0\/a≠0\/pl≠0 then 1 else if TR s k nm then 0 else 6:=by unfold vo;grind
theorem T4{s:PS}{N a pl:Int}{nm:List UInt8}{b:Bool}:vo s (7,nm,N,(a,pl,()),b,())=if nm≠[]\/N≠0 then 1 else if lD (a,pl,())then 0 else 1:=by unfold vo;simp
theorem T5{s:PS}{k N a pl:Int}{nm:List UInt8}{b:Bool}(h:k=4\/k=5\/k=6\/k=8):vo s (k,nm,N,(a,pl,()),b,())=if nm≠[]\/a≠0\/pl≠0 then 1 else if N<Xu k\/TN k<N then 5 else 0:=by unfold vo;grind
theorem Nc{s:PS}{m:VC}(h:m.1<1\/8<m.1):vo s m=15:=by unfold vo;rw[if_pos h]
structure SmP(s:PS):Prop where
 ok:okD yS s
 l1:s.1.length<=1048576
 l2:s.2.1.length<=1048576
 l3:s.2.2.1.length<=1048576
 l4:s.2.2.2.1.length<=1048576
 pt:∀l∈s.2.1,∀r∈l.2.1,r.2.1.length<=1048576
theorem BO{α:Type}{nm:α->List UInt8}{sz:α->Nat}{b:α->Int}{l:List α}(h:jq nm sz b l=0):l.length<=64/\∀x∈l,nb (nm x)=true/\sz x<=64/\b x=0:=by
 unfold jq at h;split at h;·omega
 rename_i hl;refine⟨by omega,λx f=>?_⟩;obtain⟨i,c,rfl⟩:=l_.1 f;have a:=errN_zero.1 h i c;unfold LV at a;split at a;·omega
 rename_i d;rw[a_ c]at a;simp only at a;split at a;·omega
 rename_i g;refine⟨?_,by omega,a⟩;have e:qK (l.map nm) i=0:=d_ d;unfold qK at e;grind
structure TrmOk(s:PS)(t:tn):Prop where
 nm:nb t.1=true
 ml:t.2.1.length<=64
 ma:∀m∈t.2.1,vo s m=0
 al:t.2.2.1.length<=64
 ac:∀a∈t.2.2.1,jb a=0
 ve:1<=t.2.2.2.1/\t.2.2.2.1<=3
theorem WQ{s:PS}{b:List tn}{t:tn}(h:jB s b t=0):TrmOk s t:=by
 unfold jB at h;split at h;·omega
 rename_i d;split at h;·omega
 split at h;·omega
 rename_i e;split at h;·omega
 rename_i a;split at h;·omega
 rename_i f;split at h;·omega
 rename_i c;split at h;·omega
 rename_i g;refine⟨?_,by omega,errL_zero.1 (d_ a),by omega,errL_zero.1 (d_ c),by omega⟩;grind
structure PlcOk(s:PS)(p:pG):Prop where
 tl:p.2.1.length<=64
 tr:∀t∈p.2.1,TrmOk s t
 df:p.2.2.1=1\/p.2.2.1=2
structure PolOk(pe:List UInt8->Int)(s:PS):Prop where
 l1:s.1.length<=64
 r1:∀l∈s.1,l.2.1.length<=64/\∀r∈l.2.1,sV r=0
 l2:s.2.1.length<=64
 r2:∀l∈s.2.1,l.2.1.length<=64/\∀r∈l.2.1,pe r.2.1=0
 l3:s.2.2.1.length<=64
 r3:∀l∈s.2.2.1,l.2.1.length<=64/\∀r∈l.2.1,vg r=0
 l4:s.2.2.2.1.length<=64
 r4:∀p∈s.2.2.2.1,PlcOk s p
theorem WB{s:PS}{p:pG}(hl:p.2.1.length<=64)(h:mM s p=0):PlcOk s p:=by
 unfold mM at h;split at h;·omega
 rename_i c;split at h;·omega
 rename_i e;refine⟨hl,λt d=>?_,by omega⟩;obtain⟨i,b,rfl⟩:=l_.1 d;have a:=errN_zero.1 (d_ c) i b;rw[a_ b]at a;exact WQ a
theorem Li{pe:List UInt8->Int}{s:PS}(h:re pe s=0):PolOk pe s:=by
 unfold re at h;split at h;·omega
 rename_i e;split at h;·omega
 rename_i f;split at h;·omega
 rename_i g;have a:=BO (d_ e);have b:=BO (d_ f);have c:=BO (d_ g);have d:=BO h;exact⟨a.1,λl hl=>⟨(a.2 l hl).2.1,errL_zero.1 (a.2 l hl).2.2⟩,b.1,λl hl=>⟨(b.2 l hl).2.1,λr hr=>errL_zero.1 (b.2 l hl).2.2 r hr⟩,c.1,λl hl=>⟨(c.2 l hl).2.1,errL_zero.1 (c.2 l hl).2.2⟩,d.1,λp hp=>WB (d.2 p hp).2.1 (d.2 p hp).2.2⟩
def vn(s:PS)(n:List UInt8):Option pG:=s.2.2.2.1.find? (·.1==n)
theorem sQ{s:PS}{n:List UInt8}{p:pG}(h:vn s n=some p):p∈s.2.2.2.1:=List.mem_of_find?_eq_some h
end Go.Pl
namespace Go.Cm
def insGo(x:Int):List Int->Bool->List Int
 |[],d=>if d then []else [x]
 |y::r,d=>(if !d&&decide (x<=y)then [x]else [])++((if y != x then [y]else [])++insGo x r (d||decide (x<=y)))
abbrev ins(x:Int)(l:List Int):List Int:=insGo x l false
def asc(l:List Int):List Int:=l.foldl (λo x=>ins x o) []
abbrev Up(l:List Int):Prop:=l.Pairwise (·<·)
theorem Db(x z:Int):∀(l:List Int) (d:Bool),z∈insGo x l d↔(z∈l/\z≠x)\/(d=false/\z=x)
 |[],d=>by cases d<;>simp[insGo]
 |y::r,d=>by have:=Db x z r (d||decide (x<=y));grind [insGo]
theorem mem_ins(x z:Int)(l:List Int):z∈ins x l↔z∈l\/z=x:=by have:=Db x z l false;grind
theorem uniq:∀(a b:List Int),Up a->Up b->(∀z,z∈a↔z∈b)->a=b
 |[],[],_,_,_=>rfl
 |[],y::b,_,_,h=>by have:=h y;simp at this
 |y::b,[],_,_,h=>by have:=h y;simp at this
 |x::a,y::b,c,d,h=>by
  have f:=(h x).1 (by simp);have g:=(h y).2 (by simp);unfold Up at c d;rw[w_]at c d;have e:x=y:=by grind
  subst e;rw[uniq a b c.2 d.2];grind
theorem Jr(x:Int):∀(l:List Int) (d:Bool),(insGo x l d).length<=l.length+(if d then 0 else 1)
 |[],d=>by cases d<;>simp[insGo]
 |y::r,d=>by have:=Jr x r (d||decide (x<=y));grind [insGo]
theorem len_ins(x:Int)(l:List Int):(ins x l).length<=l.length+1:=Jr x l false
theorem N5(x:Int):∀(l:List Int) (d:Bool),Up l->(d=true->∀z∈l,x<=z)->Up (insGo x l d)
 |[],d,_,_=>by cases d<;>simp[insGo]
 |y::r,d,hl,hd=>by unfold Up at hl⊢;rw[w_]at hl;have b:=N5 x r (d||decide (x<=y)) hl.2 (by grind);have a:=λz=>Db x z r (d||decide (x<=y));simp only[insGo,m_];grind [List.Pairwise.nil]
theorem up_ins(x:Int)(l:List Int)(h:Up l):Up (ins x l):=N5 x l false h (by simp)
theorem fold_ins:∀(l o:List Int),Up o->Up (l.foldl (λo x=>ins x o) o)/\(∀z,z∈l.foldl (λo x=>ins x o) o↔z∈o\/z∈l)/\(l.foldl (λo x=>ins x o) o).length<=o.length+l.length
 |[],o,h=>⟨h,by simp,by simp⟩
 |x::l,o,h=>by
  have⟨a,b,d⟩:=fold_ins l (ins x o) (up_ins x o h);have:=len_ins x o;have c:=λz=>mem_ins x z o;refine⟨a,λz=>?_,?_⟩;·rw[D_,b,c];grind
  ·rw[D_];grind
theorem up_asc(l:List Int):Up (asc l):=(fold_ins l [] List.Pairwise.nil).1
theorem len_asc(l:List Int):(asc l).length<=l.length:=by have:=(fold_ins l [] List.Pairwise.nil).2.2;simpa[asc]using this
theorem insGo_step(x:Int)(l:List Int)(k:Nat)(d:Bool)(h:k<l.length):insGo x (l.drop k) d=(if !d&&decide (x<=l.getD k 0)then [x]else [])++((if l.getD k 0 != x then [l.getD k 0]else [])++insGo x (l.drop (k+1)) (d||decide (x<=l.getD k 0))):=by
 have e:l.getD k 0=l[k]:=by simp[p_,a_ h]
 rw[e,r_ h];rfl
theorem qZ{l:List Int}{k:Nat}(h:k<l.length):l.take (k+1)=l.take k++[l.getD k 0]:=by
 have e:l.getD k 0=l[k]:=by simp[p_,a_ h]
 rw[k_ h,e]
def left(l a:List Int):Nat:=l.countP λz=>a.all (λy=>decide (y<z))
theorem left_step{l a:List Int}{b:Int}(c:b∈l)(f:∀y∈a,y<b):left l (a++[b])+1<=left l a:=by
 unfold left;induction l with
 |nil=>simp at c|cons z l n=>
  rw[z_,z_];have j:l.countP (λz=>(a++[b]).all λy=>decide (y<z))<=l.countP (λz=>a.all λy=>decide (y<z)):=by apply List.countP_mono_left;intro z _ h;simp only[C_,u_]at h;exact h.1
  by_cases e:z=b
  ·subst e;have g:((a++[z]).all λy=>decide (y<z))=false:=by simp
   have k:(a.all λy=>decide (y<z))=true:=by simpa using f
   rw[g,k];simp only[Bool.false_eq_true,if_false,if_true];omega
  ·have d:b∈l:=by simp at c;rcases c with h|h;exact absurd h.symm e;exact h
   have p:=n d;have g:(if((a++[b]).all λy=>decide (y<z))=true then 1 else 0)<=(if(a.all λy=>decide (y<z))=true then 1 else 0):=by
    split;·rename_i h;simp only[C_,u_]at h;rw[if_pos h.1];exact n_ 1
    ·exact Nat.zero_le _
   omega
structure Best(l out:List Int)(k:Nat)(found:Bool)(best:Int):Prop where
 yes:found=true->best∈l/\(∀y∈out,y<best)
 least:∀z∈l.take k,(∀y∈out,y<z)->found=true/\best<=z
structure Out(l out:List Int):Prop where
 up:Up out
 sub:∀z∈out,z∈l
 all:∀z∈l,z∈out\/∀y∈out,y<z
 len:out.length+left l out<=l.length
theorem Out.zero(l:List Int):Out l []:=⟨List.Pairwise.nil,by simp,by simp,by simp[left]⟩
theorem Out.step{l E:List Int}{b:Int}(h:Out l E)(J:Best l E l.length true b):Out l (E++[b]):=by
 obtain⟨R,U⟩:=J.yes rfl;have hl:=left_step R U;have H:=J.least;rw[List.take_length]at H;refine⟨?_,?_,λz N=>?_,?_⟩;·have:=h.up;unfold Up at this⊢;rw[m_];grind
 ·have:=h.sub;grind
 ·rcases h.all z N with I|I;·grind
  ·have:=(H z N I).2;by_cases e:z=b;·left;simp[e]
   ·right;grind
 ·have:=h.len;simp;omega
theorem Wo{a:List Int}(h:Up a)(b:a≠[])(z:Int):(∀y∈a,y<z)↔a.getD (a.length - 1) 0<z:=by
 have hl:a.length - 1<a.length:=by have:=List.length_pos_iff.2 b;omega
 have e:a.getD (a.length - 1) 0=a[a.length - 1]:=by simp[p_,a_ hl]
 rw[e];refine⟨λh=>h _ (A_ hl),λf y d=>?_⟩;obtain⟨i,c,rfl⟩:=List.getElem_of_mem d;unfold Up at h;rw[s_]at h;by_cases e:i=a.length - 1;·subst e;exact f
 ·have:=h i (a.length - 1) c hl (by omega);omega
theorem Best.zero(l z:List Int)(b:Int):Best l z 0 false b:=⟨by simp,by simp⟩
theorem Best.take{l E:List Int}{k:Nat}{f:Bool}{b:Int}(h:Best l E k f b)(H:k<l.length)(I:∀y∈E,y<l.getD k 0)(R:f=false\/l.getD k 0<b):Best l E (k+1) true (l.getD k 0):=by
 have e:l.getD k 0=l[k]:=by simp[p_,a_ H]
 have J:l.getD k 0∈l:=by rw[e];exact A_ H
 refine⟨λ_=>⟨J,I⟩,λz N hg=>⟨rfl,?_⟩⟩;rw[qZ H]at N;have:=h.least z;grind
theorem Best.skip{l E:List Int}{k:Nat}{f:Bool}{b:Int}(h:Best l E k f b)(H:k<l.length)(J:(∀y∈E,y<l.getD k 0)->f=true/\b<=l.getD k 0):Best l E (k+1) f b:=by refine⟨h.yes,λz I hg=>?_⟩;rw[qZ H]at I;have:=h.least z;grind
theorem up_take{l:List Int}{k:Nat}(h:Up (l.take k))(j:k<l.length)(c:k=0\/l.getD (k - 1) 0<l.getD k 0):Up (l.take (k+1)):=by
 rw[qZ j];by_cases e:l.take k=[];·rw[e];simp
 ·have:=(Wo h e (l.getD k 0)).2 ?_;·unfold Up at h⊢;rw[m_];refine⟨h,by simp,λa g b f=>?_⟩;simp only[q_]at f;rw[f];exact this a g
  ·have d:k≠0:=by intro h;subst h;simp at e
   have:(l.take k).getD ((l.take k).length - 1) 0=l.getD (k - 1) 0:=by simp only[p_,List.length_take,List.getElem?_take];rw[show min k l.length=k by omega,if_pos (by omega)]
   rw[this];rcases c with c|c;·exact absurd c d
   ·exact c
theorem not_up{l:List Int}{k:Nat}(a:k<l.length)(d:0<k)(e:l.getD k 0<=l.getD (k - 1) 0):¬Up l:=by
 intro h;unfold Up at h;rw[s_]at h;have:=h (k - 1) k (by omega) a (by omega);have b:l.getD k 0=l[k]:=by simp[p_,a_ a]
 have c:l.getD (k - 1) 0=l[k - 1]:=by simp[p_,a_ (show k - 1<l.length by omega)]
 omega
def check(l:List Int):Int:=if 255<l.length then 4 else if Up l then 0 else 16
theorem check_long{l:List Int}(h:255<l.length):check l=4:=by unfold check;rw[if_pos h]
theorem check_up{l:List Int}(h:¬255<l.length)(a:Up l):check l=0:=by unfold check;rw[if_neg h,if_pos a]
theorem check_not{l:List Int}(h:¬255<l.length)(a:¬Up l):check l=16:=by unfold check;rw[if_neg h,if_neg a]
def add(l:List Int)(c:Int):List Int:=if 255<=(asc l).length/\c∉asc l then asc l else ins c (asc l)
def drop(l:List Int)(c:Int):List Int:=(asc l).filter (λx=>x != c)
end Go.Cm
namespace Go.Pl
open Go Go.Av Go.Ev
abbrev ly:Type:=L6×(Int×(Int×(List Int×(List Int×(Int×(Int×(Int×(Int×Unit))))))))
abbrev Q1:Ty:=pr [yP,tI,tW,.list tI,.list tW,tI,tI,tI,tI]
abbrev PW:ly:=((0,0,()),0,0,[],[],0,0,0,0,())
abbrev pj(x:Int):Prop:=0<=x/\x<=4294967295
def rf(r:ly):Int:=
 if lD r.1=false then 1
 else if r.2.1<1\/7<r.2.1 then 5
 else if r.2.2.2.1.length>2000 then 4
 else if ¬∀v∈r.2.2.2.1,1<=v/\v<=4294967295 then 5
 else if Cm.check r.2.2.2.2.1≠0 then Cm.check r.2.2.2.2.1
 else if ¬(pj r.2.2.2.2.2.1/\pj r.2.2.2.2.2.2.1/\pj r.2.2.2.2.2.2.2.2.1)\/r.2.2.2.2.2.2.2.1<0\/16777216<r.2.2.2.2.2.2.2.1 then 5 else 0
def DN(a:Au):ly->ly
 |(p,b,d,pt,cm,e,c,mt,f,u)=>
  if a.1=1 then(p,b,d,pt,cm,a.2.1,c,mt,f,u)
  else if a.1=2 then(p,b,d,pt,cm,e,a.2.1,mt,f,u)
  else if a.1=3 then(p,b,d,pt,cm,e,c,a.2.1,f,u)
  else if a.1=4 then(p,b,d,pt,cm,e,c,mt,a.2.1,u)
  else if a.1=5 then(p,b,a.2.2.2.2.1,pt,cm,e,c,mt,f,u)
  else if a.1=6 then(p,b,d,pt,Cm.add cm a.2.2.2.1,e,c,mt,f,u)
  else if a.1=7 then(p,b,d,pt,Cm.drop cm a.2.2.2.1,e,c,mt,f,u)
  else if(pt.length:Int)+a.2.1<=2000 then(p,b,d,List.replicate a.2.1.toNat a.2.2.1++pt,cm,e,c,mt,f,u)
  else(p,b,d,pt,cm,e,c,mt,f,u)
def Ma(a:Au)(r:ly):ly:=if jb a=0 then DN a r else r
def Kh(l:List Au)(r:ly):ly:=l.foldl (λr a=>Ma a r) r
def ez(hold:tn->Bool):List tn->Nat->Int->List Int×List Au×Int
 |[],_,d=>([],[],d)
 |t::l,i,d=>if hold t then(if t.2.2.2.1≠3 then([(i:Int)],t.2.2.1,t.2.2.2.1)else((i:Int)::(ez hold l (i+1) d).1,t.2.2.1++(ez hold l (i+1) d).2.1,(ez hold l (i+1) d).2.2))else ez hold l (i+1) d
structure SmR(k:Nat)(r:ly):Prop where
 pt:r.2.2.2.1.length<=100000
 cm:r.2.2.2.2.1.length<=k
theorem Wr(l:List Int)(c:Int):(Cm.add l c).length<=l.length+1:=by have a:=Cm.len_asc l;have b:=Cm.len_ins c (Cm.asc l);unfold Cm.add;grind
theorem M5(l:List Int)(c:Int):(Cm.drop l c).length<=l.length:=by have a:=Cm.len_asc l;unfold Cm.drop;grind
theorem Xm{a:Au}(w:jb a=0){k:Nat}{r:ly}(h:SmR k r):SmR (k+1) (DN a r):=by
 obtain⟨p,f,e,pt,cm,y,x,mt,z,u⟩:=r;obtain⟨j,l⟩:=h;simp only at j l;have s:=Wr cm a.2.2.2.1;have v:=M5 cm a.2.2.2.1;have n:(Cm.add cm a.2.2.2.1).length<=k+1:=by omega
 have g:∀(p:L6) (f e:Int) (d c:List Int) (t:Int×Int×Int×Int×Unit),d.length<=100000->c.length<=k+1->SmR (k+1) (p,f,e,d,c,t):=λ_ _ _ _ _ _ a b=>⟨a,b⟩;simp only[DN];split;·grind
 split;·grind
 split;·grind
 split;·grind
 split;·grind
 split;·grind
 split;all_goals grind
theorem VZ{a:Au}{k:Nat}{r:ly}(h:SmR k r):SmR (k+1) (Ma a r):=by
 unfold Ma;split;·rename_i b;exact Xm b h
 ·exact⟨h.pt,by have:=h.cm;omega⟩
theorem PZ{l:List Au}:∀{k:Nat} {r:ly},SmR k r->SmR (k+l.length) (Kh l r):=by induction l with|nil=>intro k r h;exact h|cons a l b=>intro k r h;have:=b (VZ (a:=a) h);unfold Kh at this⊢;grind
theorem xv{hold:tn->Bool}:∀{l:List tn} {i:Nat} {d:Int},(∀t∈l,t.2.2.1.length<=64)->(ez hold l i d).1.length<=l.length/\(ez hold l i d).2.1.length<=64*l.length
 |[],_,_,_=>⟨n_ _,n_ _⟩
 |t::l,i,d,h=>by have c:=xv (hold:=hold) (l:=l) (i:=i+1) (d:=d) λx b=>h x (by grind);have a:=h t (by simp);unfold ez;grind
abbrev Vo(a:Au):PS:=([],[],[],[([112],[([116],[],[a],1,())],1,())],())
theorem XX(pe:List UInt8->Int)(a:Au):re pe (Vo a)=jb a:=by
 have j:∀s:PS,jB s [] (([116],[],[a],1,()):tn)=jb a:=λs=>by
  have c:d9 (vo s) ([]:List VC)=0:=rfl;have d:d9 jb [a]=jb a:=by show(if jb a=0 then 0 else jb a)=jb a;omega
  unfold jB;rw[if_neg (by show ¬nb [116]=false;decide),if_neg (by simp),if_neg (by simp),c,if_neg (λh=>h rfl),if_neg (by simp),d];grind
 have g:∀s:PS,mM s (([112],[([116],[],[a],1,())],1,()):pG)=jb a:=λs=>by
  have e:oD (λi=>match([([116],[],[a],1,())]:List tn)[i]? with|some t=>jB s (([([116],[],[a],1,())]:List tn).take i) t|none=>0) 1=jb a:=by show(if jB s [] (([116],[],[a],1,()):tn)=0 then 0 else jB s [] (([116],[],[a],1,()):tn))=jb a;grind
  unfold mM;grind
 have l4:∀s:PS,jq (·.1) (λp=>p.2.1.length) (mM s) ([([112],[([116],[],[a],1,())],1,())]:List pG)=jb a:=λs=>by
  have f:LV (·.1) (λp=>p.2.1.length) (mM s) ([([112],[([116],[],[a],1,())],1,())]:List pG) 0=jb a:=by
   unfold LV;rw[if_neg (show ¬(qK (([([112],[([116],[],[a],1,())],1,())]:List pG).map (·.1)) 0≠0) by show ¬(qK [[112]] 0≠0);decide)]
   grind
  unfold jq;rw[if_neg (by simp)];show(if LV (·.1) (λp=>p.2.1.length) (mM s) ([([112],[([116],[],[a],1,())],1,())]:List pG) 0=0 then 0 else LV (·.1) (λp=>p.2.1.length) (mM s) ([([112],[([116],[],[a],1,())],1,())]:List pG) 0)=jb a;omega
 unfold re;have k:∀{α:Type} (nm:α->List UInt8) (sz:α->Nat) (b:α->Int),jq nm sz b []=0:=λ_ _ _=>rfl;grind
end Go.Pl
