import Derived.Test.YtdgiglmmpbndmaaGreatDoorML7
import Derived.Test.YtdgiglmmpbndmaaGreatDoorML5
import Derived.Lib.ItoaNum
set_option linter.unusedVariables false
set_option linter.unusedSimpArgs false
open Bool renaming eq_iff_iff->d_,and_eq_true->m_,true_and->C_
open Go.IntKind renaming bits->e_,wrap->F_
open List renaming getElem?_eq_getElem->a_,getElem?_append_left->b_,getElem?_eq_some_iff->c_,take_succ_eq_append_getElem->f_,pairwise_append->g_,getD->i_,mem_singleton->j_,drop_eq_getElem_cons->k_,pairwise_iff_getElem->l_,getElem?_eq_none->q_,length_append->s_,mem_cons_self->t_,pairwise_cons->u_,cons_append->v_,countP_cons->w_,getElem_mem->x_,length_cons->y_,take_length->z_,all_append->A_,foldl_cons->B_,map_cons->D_,sum_cons->E_
open Nat renaming eq_of_testBit_eq->h_,testBit_mod_two_pow->n_,testBit_mul_two_pow->o_,strongRecOn->p_,le_refl->r_,le_trans->G_
open Option.some renaming injEq->H_
namespace Go.Pl
open Go Go.Av Go.Ev
def EN(x n:Nat):Nat:=x>>>(32 - n) <<< (32 - n)
def EO(x n:Int):Int:=(EN x.toNat n.toNat:Int)
theorem HC(x n j:Nat):(EN x n).testBit j=(decide (32 - n<=j)&&x.testBit j):=by unfold EN;grind
theorem zhA(x n:Nat):EN x n<=x:=by unfold EN;rw[Nat.shiftLeft_eq,Nat.shiftRight_eq_div_pow];exact Nat.div_mul_le_self _ _
theorem zbh{x:Nat}(b:x<4294967296){j:Nat}(a:32<=j):x.testBit j=false:=Nat.testBit_lt_two_pow (Nat.lt_of_lt_of_le b (G_ (show 4294967296<=2^32 by simp) (Nat.pow_le_pow_right (by simp) a)))
theorem zfN{x n:Nat}(b:x<4294967296)(hn:n<=32):x&&&(4294967295*2^(32 - n)%4294967296)=EN x n:=by
 refine h_ λj=>?_;rw[Nat.testBit_and,HC];by_cases a:j<32
 ·have e:(4294967295*2^(32 - n)%4294967296).testBit j=decide (32 - n<=j):=by
   rw[show(4294967296:Nat)=2^32 from rfl,n_,decide_eq_true a,C_,o_];by_cases h:32 - n<=j;·rw[decide_eq_true (show j>=32 - n from h),C_,show(4294967295:Nat)=2^32 - 1 from rfl,Nat.testBit_two_pow_sub_one];grind
   grind
  grind
 ·rw[zbh b (by omega)];simp
theorem zfP{x:Nat}(b:x<4294967296):EN x 0=0:=by
 refine h_ λj=>?_;rw[HC,Nat.zero_testBit];by_cases a:32<=j;·rw[zbh b a,Bool.and_false]
 grind
theorem zfO(x:Nat){i:Nat}(b:i<32):EN x (i+1)=EN x i|||(x/2^(31 - i)%2)*2^(31 - i):=by
 refine h_ λj=>?_;rw[Nat.testBit_or,HC,HC,o_];have a:∀k,(x/2^(31 - i)%2).testBit k=(decide (k=0)&&x.testBit (31 - i)):=λk=>by rw[show(2:Nat)=2^1 from rfl,n_];grind
 grind
theorem zaA{x y:Nat}(a:x<4294967296)(b:y<4294967296):tu .u32 .and (x:Int) (y:Int)=((x&&&y:Nat):Int):=by
 show F_ .u32 ((BitVec.ofInt (e_ .u32) (x:Int)&&&BitVec.ofInt (e_ .u32) (y:Int)).toNat:Int)=_;rw[wrap_u32,BitVec.toNat_and];have e:∀z:Nat,z<4294967296->(BitVec.ofInt (e_ .u32) (z:Int)).toNat=z:=λz c=>by rw[BitVec.toNat_ofInt];show(((z:Int)%((2^32:Nat):Int))).toNat=z;omega
 rw[e x a,e y b];have:x&&&y<=x:=Nat.and_le_left;omega
theorem zjp{x y:Nat}(a:x<4294967296)(b:y<4294967296):tu .u32 .or (x:Int) (y:Int)=((x|||y:Nat):Int):=by
 show F_ .u32 ((BitVec.ofInt (e_ .u32) (x:Int)|||BitVec.ofInt (e_ .u32) (y:Int)).toNat:Int)=_;rw[wrap_u32,BitVec.toNat_or];have e:∀z:Nat,z<4294967296->(BitVec.ofInt (e_ .u32) (z:Int)).toNat=z:=λz c=>by rw[BitVec.toNat_ofInt];show(((z:Int)%((2^32:Nat):Int))).toNat=z;omega
 rw[e x a,e y b];have:x|||y<2^32:=Nat.or_lt_two_pow (by omega) (by omega);omega
section
variable {α β σ τ:Type}
theorem zbQ{L a:List τ}(h:L<+:a){i:Nat}{x:τ}(b:L[i]? =some x):a[i]? =some x:=by obtain⟨t,rfl⟩:=h;rw[b_ (c_.1 b).1];exact b
section
variable {f:α->β->α} {s0:α} {ls:List β}
structure Ok(f:α->β->α)(s0:α)(ls:List β)(L:List α)(T:List (Nat×β)):Prop where
 nodup:L.Nodup
 len:L.length=T.length+1
 head:L[0]? =some s0
 link:∀k j c,T[k]? =some (j,c)->j<k+1/\c∈ls/\∃x,L[j]? =some x/\L[k+1]? =some (f x c)
theorem Ok.add{L:List α}{T:List (Nat×β)}(h:Ok f s0 ls L T){x:α}{i:Nat}{c:β}(I:L[i]? =some x)(hc:c∈ls)(hn:f x c∉L):Ok f s0 ls (L++[f x c]) (T++[(i,c)]):=by
 have hi:i<L.length:=(c_.1 I).1;have hl:=h.len;refine⟨?_,by simp[hl],?_,λk j J z=>?_⟩;·rw[List.nodup_append];exact⟨h.nodup,by simp,λa Y b H=>by simp at H;subst H;rintro rfl;exact hn Y⟩
 ·rw[b_ (by omega)];exact h.head
 ·by_cases C:k<T.length;·rw[b_ C]at z;obtain⟨M,N,y,R,U⟩:=h.link k j J z;exact⟨M,N,y,by rw[b_ (by omega)];exact R,by rw[b_ (by omega)];exact U⟩
  ·rw[List.getElem?_append_right (by omega)]at z;have E:k=T.length:=by have:=(c_.1 z).1;simp at this;omega
   subst E;simp at z;obtain⟨rfl,rfl⟩:=z;refine⟨by omega,hc,x,by rw[b_ hi];exact I,?_⟩;rw[show T.length+1=L.length by omega];simp
theorem Ok.inv{P:α->Prop}{L:List α}{T:List (Nat×β)}(h:Ok f s0 ls L T)(C:P s0)(M:∀x c,c∈ls->P x->P (f x c)):∀(k:Nat) (x:α),L[k]? =some x->P x:=by
 intro k;induction k using p_ with
 |ind k R=>
  intro x z
  match k with|0=>rw[h.head]at z;cases z;exact C|k+1=>have U:=(c_.1 z).1;have N:=a_ (l:=T) (i:=k) (by have:=h.len;omega);obtain⟨E,H,y,I,J⟩:=h.link k _ _ N;rw[J]at z;cases z;exact M _ _ H (R _ E y I)
def Quiet(sp:List α->α->Bool)(L:List α):Prop:=∀k x,L[k+1]? =some x->sp (L.take (k+1)) x=false
theorem Quiet.add{sp:List α->α->Bool}{L:List α}{y:α}(h:Quiet sp L)(hs:sp L y=false):Quiet sp (L++[y]):=by
 intro k x z;by_cases E:k+1<L.length;·rw[b_ E]at z;rw[List.take_append_of_le_length (by omega)];exact h k x z
 ·have C:=(c_.1 z).1;simp at C;have:k+1=L.length:=by omega
  rw[this]at z⊢;simp at z;subst z;simpa using hs
theorem Ok.pre{L C:List α}{T H:List (Nat×β)}(h:Ok f s0 ls L T)(I:C<+:L)(U:H<+:T)(hl:C.length=H.length+1):Ok f s0 ls C H:=by
 have z:∀k,k<C.length->C[k]? =L[k]? :=λk E=>by obtain⟨t,rfl⟩:=I;rw[b_ E]
 refine⟨h.nodup.sublist I.sublist,hl,by rw[z 0 (by omega)];exact h.head,λk j c E=>?_⟩;have Y:=(c_.1 E).1;obtain⟨J,M,x,N,R⟩:=h.link k j c (zbQ U E);exact⟨J,M,x,by rw[z j (by omega)];exact N,by rw[z (k+1) (by omega)];exact R⟩
inductive Tr(T:List (Nat×β)):Nat->List β->Prop
 |zero:Tr T 0 []
 |step {k j:Nat} {c:β} {p:List β}:T[k]? =some (j,c)->Tr T j p->Tr T (k+1) (p++[c])
theorem Tr.mono{T z:List (Nat×β)}(hp:T<+:z){k:Nat}{p:List β}(h:Tr T k p):Tr z k p:=by induction h with|zero=>exact .zero|step C _ E=>exact .step (zbQ hp C) E
theorem Ok.tr{L:List α}{T:List (Nat×β)}(h:Ok f s0 ls L T):∀k,k<L.length->∃p,Tr T k p:=by
 intro k;induction k using p_ with
 |ind k E=>
  intro H
  match k with|0=>exact⟨[],.zero⟩|k+1=>have z:=a_ (l:=T) (i:=k) (by have:=h.len;omega);obtain⟨C,_⟩:=h.link k _ _ z;obtain⟨p,hp⟩:=E _ C (by omega);exact⟨_,.step z hp⟩
theorem Tr.len{L:List α}{T:List (Nat×β)}(h:Ok f s0 ls L T){k:Nat}{p:List β}(C:Tr T k p):p.length<=k:=by induction C with|zero=>exact r_ _|step z _ E=>have:=(h.link _ _ _ z).1;simp only[s_,List.length_singleton];omega
end
variable [DecidableEq α]
variable (f:α->β->α) (s0:α) (ls:List β)
variable {f s0 ls}
end
open Go Go.Ev
theorem DV{P:Rx->Prop}(h:∀k lo a ks,(∀r∈ks,P r)->P (.mk k lo a ks)):∀r,P r:=λr=>Rx.rec (motive_1:=P) (motive_2:=λks=>∀r∈ks,P r) (λk lo a ks b=>h k lo a ks b) (λr hr=>by grind) (λr ks c d x e=>by grind) r
theorem DU(v:Rx):Rx.mk v.out.1 v.out.2.1 v.out.2.2.1 v.out.2.2.2.1=v:=by cases v;rfl
structure G where
 fi:List Nat
 la:List Nat
 em:Bool
 pr:List (Nat×Nat)
 sp:List (Int×Int)
def g0(e:Bool):G:=⟨[],[],e,[],[]⟩
structure Lie(o:Nat)(g:G):Prop where
 fi:∀p∈g.fi,o<=p/\p<o+g.sp.length
 la:∀p∈g.la,o<=p/\p<o+g.sp.length
 pr:∀p q,(p,q)∈g.pr->(o<=p/\p<o+g.sp.length)/\o<=q/\q<o+g.sp.length
 fl:g.fi.length<=g.sp.length
 ll:g.la.length<=g.sp.length
def fol(pr:List (Nat×Nat))(p:Nat):List Nat:=(pr.filter λx=>x.1=p).map (·.2)
def sN(k n:Int):Bool:=bif k==0||k==1||k==2 then n==0 else bif k==3 then decide (n>=2)else bif k==4 then n != 1 else bif k==5||k==6||k==7 then n==1 else false
def Gv(k:Int):Bool:=k==0||k==1||k==2||k==3||k==4||k==5||k==6||k==7
def Cj(k lo a n:Int):Int:=
 bif !Gv k then 15 else bif k==1&&(decide (lo<0)||decide (lo>a)||decide (a>4294967295))then 5 else bif (k != 1&&(lo != 0||a != 0))|| !sN k n then 1 else 0
theorem knownB_iff{k:Int}:Gv k=true↔k=0\/k=1\/k=2\/k=3\/k=4\/k=5\/k=6\/k=7:=by simp only[Gv,Bool.or_eq_true,beq_iff_eq,or_assoc]
structure Node(k lo hi n:Int):Prop where
 known:k=0\/k=1\/k=2\/k=3\/k=4\/k=5\/k=6\/k=7
 rng:k=1->0<=lo/\lo<=hi/\hi<=4294967295
 zero:k≠1->lo=0/\hi=0
 leaf:k=0\/k=1\/k=2->n=0
 seq:k=3->2<=n
 alt:k=4->n≠1
 one:k=5\/k=6\/k=7->n=1
theorem nodeE_zero{k lo a n:Int}:Cj k lo a n=0↔Node k lo a n:=by
 constructor
 ·intro h;unfold Cj at h;cases d:Gv k;·grind
  rw[d]at h;have g:=knownB_iff.1 d;simp only[Bool.not_true,cond_false]at h;cases f:(k==1&&(decide (lo<0)||decide (lo>a)||decide (a>4294967295)))
  ·rw[f]at h;simp only[cond_false]at h;cases c:((k != 1&&(lo != 0||a != 0))|| !sN k n)
   ·simp only[Bool.or_eq_false_iff,Bool.and_eq_false_iff,bne_eq_false_iff_eq,Bool.not_eq_false',beq_eq_false_iff_ne,decide_eq_false_iff_not]at f c;obtain⟨c,b⟩:=c;refine⟨g,λe=>?_,λe=>?_,λe=>?_,λe=>?_,λe=>?_,λe=>?_⟩;·omega
    ·omega
    ·rcases e with rfl|rfl|rfl<;>simpa[sN]using b
    ·subst e;simpa[sN]using b
    ·subst e;simpa[sN]using b
    ·rcases e with rfl|rfl|rfl<;>simpa[sN]using b
   grind
  grind
 ·intro h;have d:Gv k=true:=knownB_iff.2 h.known;have f:(k==1&&(decide (lo<0)||decide (lo>a)||decide (a>4294967295)))=false:=by
   by_cases e:k=1;·have:=h.rng e;grind
   grind
  have c:(k != 1&&(lo != 0||a != 0))=false:=by
   by_cases e:k=1;·grind
   ·have:=h.zero e;grind
  have b:sN k n=true:=by
   rcases h.known with rfl|rfl|rfl|rfl|rfl|rfl|rfl|rfl;·simpa[sN]using h.leaf (by simp)
   ·simpa[sN]using h.leaf (by simp)
   ·simpa[sN]using h.leaf (by simp)
   ·simpa[sN]using h.seq rfl
   ·simpa[sN]using h.alt rfl
   ·simpa[sN]using h.one (by simp)
   ·simpa[sN]using h.one (by simp)
   ·simpa[sN]using h.one (by simp)
  unfold Cj;grind
mutual
def sz:Rx->Nat
 | .mk _ _ _ ks=>1+GO ks
def GO:List Rx->Nat
 |[]=>0
 |r::a=>sz r+GO a
end
theorem HN:∀{ks:List Rx} {r:Rx},r∈ks->sz r<=GO ks
 |x::ks,r,h=>by
  simp only[GO];rcases List.mem_cons.1 h with rfl|h;·simp
  ·have:=HN h;omega
theorem zlr(r:Rx):0<sz r:=by cases r;simp only[sz];omega
theorem Qj:∀ks:List Rx,ks.length<=GO ks
 |[]=>r_ _
 |r::ks=>by simp only[GO,y_];have:=Qj ks;have:=zlr r;omega
theorem Yx:∀l m:List Rx,GO (l++m)=GO l+GO m
 |[],m=>by simp[GO]
 |r::l,m=>by simp only[v_,GO,Yx l m];omega
mutual
def om:Rx->Bool
 | .mk k lo a ks=>Cj k lo a ks.length==0&&SS ks
def SS:List Rx->Bool
 |[]=>true
 |r::a=>om r&&SS a
end
theorem SU:∀ks:List Rx,SS ks=true↔∀r∈ks,om r=true
 |[]=>by simp[SS]
 |r::ks=>by simp[SS,SU ks]
theorem well_iff{k lo a:Int}{ks:List Rx}:om (.mk k lo a ks)=true↔Node k lo a ks.length/\∀r∈ks,om r=true:=by simp only[om,m_,beq_iff_eq,nodeE_zero,SU]
mutual
def MS:Rx->Int->Int->Int×Int
 | .mk k lo a ks,lv,c=>if lv>16 then(c,24)else if c>=64 then(c,4)else if Cj k lo a ks.length≠0 then(c,Cj k lo a ks.length)else pV ks (lv+1) (c+1)
def pV:List Rx->Int->Int->Int×Int
 |[],_,c=>(c,0)
 |r::a,lv,c=>if(MS r lv c).2≠0 then MS r lv c else pV a lv (MS r lv c).1
end
mutual
def cnt:Rx->Nat
 | .mk k _ _ ks=>(bif k==1||k==2 then 1 else 0)+zjv ks
def zjv:List Rx->Nat
 |[]=>0
 |r::a=>cnt r+zjv a
end
theorem zdf(r:Rx):cnt r<=sz r:=by
 refine DV (P:=λr=>cnt r<=sz r) (λk lo c ks a=>?_) r;have:∀l:List Rx,(∀r∈l,cnt r<=sz r)->zjv l<=GO l:=by intro l;induction l with|nil=>intro _;exact r_ _|cons r l b=>intro h;simp only[zjv,GO];grind
 have:=this ks a;simp only[cnt,sz];grind
theorem len_nil{ks:List Rx}(h:(ks.length:Int)=0):ks=[]:=List.length_eq_zero_iff.1 (by omega)
theorem Qc{ks:List Rx}(h:(ks.length:Int)=1):∃r,ks=[r]:=List.length_eq_one_iff.1 (by omega)
open Go Go.Ev Go.Lib
def RL(b:UInt8):Prop:=48<=b.toNat/\b.toNat<=57
instance (b:UInt8):Decidable (RL b):=inferInstanceAs (Decidable (_/\_))
def G7(l:List UInt8):Nat:=l.foldl (λn b=>10*n+(b.toNat - 48)) 0
theorem NK(l:List UInt8)(b:UInt8):G7 (l++[b])=10*G7 l+(b.toNat - 48):=by simp[G7,List.foldl_append]
theorem V8{n:Nat}(h:n<10):(UInt8.ofNat (48+n)).toNat=48+n:=by simp;omega
theorem Hu:∀(n:Nat),(∀b∈decDigits n,RL b)/\G7 (decDigits n)=n/\0<(decDigits n).length/\(1<(decDigits n).length->((decDigits n).getD 0 0).toNat≠48)/\(0<n->((decDigits n).getD 0 0).toNat≠48):=by
 intro n;induction n using p_ with
 |ind n d=>
  rw[decDigits];by_cases h:n<10
  ·rw[dif_pos h];have:=V8 h;refine⟨λb a=>?_,?_,by simp,by simp,?_⟩;·simp only[j_]at a;subst a;unfold RL;omega
   ·show 10*0+((UInt8.ofNat (48+n)).toNat - 48)=n;omega
   grind
  ·rw[dif_neg h];obtain⟨e,c,f,g,j⟩:=d (n/10) (by omega);have hd:=V8 (show n%10<10 by omega);have hg:(decDigits (n/10)++[UInt8.ofNat (48+n%10)]).getD 0 0=(decDigits (n/10)).getD 0 0:=by grind
   refine⟨λb a=>?_,?_,by simp,λ_=>?_,λ_=>?_⟩
   ·simp only[List.mem_append,j_]at a;rcases a with a|rfl;·grind
    ·unfold RL;omega
   ·rw[NK,c,hd];omega
   all_goals grind
theorem La(n:Nat):∀b∈decDigits n,RL b:=(Hu n).1
theorem zaN(n:Nat):G7 (decDigits n)=n:=(Hu n).2.1
theorem zaM(n:Nat):0<(decDigits n).length:=(Hu n).2.2.1
theorem zfC(n:Nat)(h:1<(decDigits n).length):((decDigits n).getD 0 0).toNat≠48:=(Hu n).2.2.2.1 h
theorem zaL:∀(n k:Nat),n<10^(k+1)->(decDigits n).length<=k+1
 |n,0,h=>by rw[decDigits,dif_pos (by omega)];simp
 |n,k+1,h=>by
  rw[decDigits];split;·simp
  ·have:=zaL (n/10) k (by omega);grind
theorem Dd{n:Nat}(h:n<=4294967295):(decDigits n).length<=10:=zaL n 9 (by omega)
theorem takeD{l:List UInt8}{k:Nat}(h:k<l.length):l.take (k+1)=l.take k++[l.getD k 0]:=by
 have e:l.getD k 0=l[k]:=by grind
 rw[f_ h,e]
theorem Mp(l:List UInt8):∀(d k:Nat),k+d=l.length->G7 (l.take k)<=G7 l
 |0,k,h=>by grind
 |d+1,k,h=>by have a:=Mp l d (k+1) (by omega);rw[takeD (by omega),NK]at a;omega
theorem WS{l:List UInt8}{k:Nat}(h:k<=l.length):G7 (l.take k)<=G7 l:=Mp l (l.length - k) k (by omega)
def AW(p:Int):Rx->Bool
 | .mk k _ _ ks=>bif k==4 then !ks.isEmpty else bif k==3 then p != 4 else(k==5||k==6||k==7)&&(p==5||p==6||p==7)
def Du(w:Bool)(l:List UInt8):List UInt8:=bif w then 40::(l++[41])else l
def jn(sep:UInt8):List (List UInt8)->List UInt8
 |[]=>[]
 |[x]=>x
 |x::y::l=>x++sep::jn sep (y::l)
mutual
def pG:Rx->List UInt8
 | .mk k lo a ks=>
  if k=0 then [40,41]else if k=2 then [46]
  else if k=1 then(if lo=a then decDigits lo.toNat else 91::(decDigits lo.toNat++45::(decDigits a.toNat++[93])))
  else if k=5 then(Yj 5 ks).headD []++[42]else if k=6 then(Yj 6 ks).headD []++[43]else if k=7 then(Yj 7 ks).headD []++[63]
  else if k=4 then(if ks=[]then [33]else jn 124 (Yj 4 ks))else jn 32 (Yj 3 ks)
def Yj:Int->List Rx->List (List UInt8)
 |_,[]=>[]
 |p,r::a=>Du (AW p r) (pG r)::Yj p a
end
def wQ(p:Int)(r:Rx):List UInt8:=Du (AW p r) (pG r)
theorem kY(p:Int):∀ks:List Rx,Yj p ks=ks.map (wQ p)
 |[]=>by simp[Yj]
 |r::a=>by simp[Yj,kY p a,wQ]
theorem zeN(sep:UInt8):∀(l:List (List UInt8)) (x:List UInt8),jn sep (l++[x])=if l=[]then x else jn sep l++sep::x
 |[],x=>by simp[jn]
 |[y],x=>by simp[jn]
 |y::z::l,x=>by have:=zeN sep (z::l) x;simp only[v_,jn]at*;grind
theorem zdB(sep:UInt8):∀(l:List (List UInt8)),(jn sep l).length<=(l.map λx=>x.length+1).sum
 |[]=>by simp[jn]
 |[x]=>by simp[jn]
 |x::y::l=>by have:=zdB sep (y::l);simp only[jn,s_,y_,D_,E_]at*;omega
theorem zeK(p:Int)(r:Rx):(wQ p r).length<=(pG r).length+2:=by unfold wQ Du;cases AW p r<;>simp
theorem Yi:∀(r:Rx),om r=true->(pG r).length+3<=26*sz r:=by
 refine DV λk lo d ks n g=>?_;obtain⟨hn,b⟩:=well_iff.1 g;have a:∀p:Int,∀l:List Rx,(∀r∈l,r∈ks)->((l.map (wQ p)).map λx=>x.length+1).sum<=26*GO l:=by intro p l;induction l with|nil=>simp|cons r l u=>intro h;have c:=n r (h r (t_ ..)) (b r (h r (t_ ..)));have v:=u λx j=>h x (List.mem_cons_of_mem _ j);have w:=zeK p r;simp only[D_,E_,GO]at*;omega
 have hd:∀p:Int,((ks.map (wQ p)).headD []).length<=26*GO ks:=by intro p;have c:=a p ks λ_ h=>h;cases ks with|nil=>simp|cons r l=>grind
 have y:∀(p:Int) (s:UInt8),(jn s (ks.map (wQ p))).length<=26*GO ks:=λp s=>G_ (zdB s _) (a p ks λ_ h=>h);have f:k=1->(decDigits lo.toNat).length<=10/\(decDigits d.toNat).length<=10:=λe=>by have:=hn.rng e;exact⟨Dd (by omega),Dd (by omega)⟩
 simp only[pG,kY,sz];grind
end Go.Pl
namespace Go.Ev
open Go Go.RowKit Go.Av
def Gg(f:Nat->Int)(i:Nat):Nat->Int
 |0=>0
 |k+1=>if f i=0 then Gg f (i+1) k else f i
def qS(f:Nat->Int)(N:Nat):Int:=Gg f 0 N
theorem Wb{f:Nat->Int}:∀(k i:Nat),Gg f i k=0↔∀j,i<=j->j<i+k->f j=0
 |0,i=>by simp only[Gg,true_iff];omega
 |k+1,i=>by
  simp only[Gg];split;·rename_i h;rw[Wb k (i+1)];grind
  grind
theorem errN_zero{f:Nat->Int}{N:Nat}:qS f N=0↔∀j,j<N->f j=0:=by unfold qS;rw[Wb];simp
theorem zba{f:Nat->Int}{c:Int}(h:∀j,f j=0\/f j=c):∀(k i:Nat),Gg f i k=0\/Gg f i k=c
 |0,_=>.inl rfl
 |k+1,i=>by
  simp only[Gg];split;·exact zba h k (i+1)
  grind
theorem zhn{f:Nat->Int}{c:Int}{N:Nat}(h:∀j,f j=0\/f j=c):qS f N=0\/qS f N=c:=zba h N 0
def cq{α:Type}(f:α->Int)(l:List α):Int:=qS (λi=>match l[i]? with|some x=>f x|none=>0) l.length
theorem errL_zero{α:Type}{f:α->Int}{l:List α}:cq f l=0↔∀x∈l,f x=0:=by
 unfold cq;rw[errN_zero];constructor;·intro h x a;obtain⟨i,b,rfl⟩:=List.mem_iff_getElem.1 a;grind
 grind
theorem Kr{ρ β a:Type}{N:Nat}{f:Nat->Int}{enc:Nat->ρ}{oB:Int->β}{oE:a}{body:Nat->ρ->Option (ρ⊕β⊕a)}{Q:β⊕a->Prop} (h:∀i,i<N->Wp (λn=>body n (enc i)) λr=>r=if f i=0 then .inl (enc (i+1))else .inr (.inl (oB (f i)))) (c:Wp (λn=>body n (enc N)) λr=>r= .inr (.inr oE)) (b:Q (if qS f N=0 then .inr oE else .inl (oB (qS f N)))):Wp (λn=>aR n (body n) (enc 0)) Q:=by
 refine cp (N:=N) (I:=λi s=>s=enc i/\qS f N=Gg f i (N - i)) ⟨rfl,rfl⟩ (λi s d hs=>?_) λs hs=>?_;·obtain⟨rfl,hd⟩:=hs;refine wp_mono (h i d) λr hr=>?_;subst hr;rw[show N - i=(N - (i+1))+1 by omega]at hd;simp only[Gg]at hd;grind
 ·obtain⟨rfl,hd⟩:=hs;refine wp_mono c λr hr=>?_;subst hr;rw[Nat.sub_self]at hd;rw[if_pos (show qS f N=0 from hd)]at b;omega
theorem me{α ρ β a:Type}{l:List α}{f:α->Int}{enc:Nat->ρ}{oB:Int->β}{oE:a}{body:Nat->ρ->Option (ρ⊕β⊕a)}{Q:β⊕a->Prop} (h:∀i (d:i<l.length),Wp (λn=>body n (enc i)) λr=>r=if f l[i]=0 then .inl (enc (i+1))else .inr (.inl (oB (f l[i])))) (c:Wp (λn=>body n (enc l.length)) λr=>r= .inr (.inr oE)) (b:Q (if cq f l=0 then .inr oE else .inl (oB (cq f l)))):Wp (λn=>aR n (body n) (enc 0)) Q:=by
 refine Kr (f:=λi=>match l[i]? with|some x=>f x|none=>0) (oB:=oB) (λi d=>?_) c b
 grind
theorem zcE{α ρ β b:Type}{xs:List α}{p:α->Bool}{enc:Nat->ρ}{g:α->β}{e:b}{body:Nat->ρ->Option (ρ⊕β⊕b)}{Q:β⊕b->Prop} (h:∀(i:Nat) (a:i<xs.length),Wp (λn=>body n (enc i)) λr=>r=if p xs[i]then .inr (.inl (g xs[i]))else .inl (enc (i+1))) (c:Wp (λn=>body n (enc xs.length)) λr=>r= .inr (.inr e)) (d:Q (match xs.find? p with|some x=>.inl (g x)|none=>.inr e)):Wp (λn=>aR n (body n) (enc 0)) Q:=by
 refine cp (N:=xs.length) (I:=λi s=>s=enc i/\xs.find? p=(xs.drop i).find? p) ⟨rfl,by simp⟩ (λi s a hs=>?_) λs hs=>?_;·obtain⟨rfl,hd⟩:=hs;refine wp_mono (h i a) λr hr=>?_;rw[k_ a,List.find?_cons]at hd;grind
 ·obtain⟨rfl,hd⟩:=hs;refine wp_mono c λr hr=>?_;grind
end Go.Ev
namespace Go.Pl
open Go Go.Av Go.Ev
abbrev OL:Type:=Int×(Int×Unit)
abbrev MAT:Type:=Int×(List UInt8×(Int×(OL×(Bool×Unit))))
abbrev EU:Type:=Int×(Int×(Int×(Int×(Int×Unit))))
abbrev TRM:Type:=List UInt8×(List MAT×(List EU×(Int×Unit)))
abbrev POL:Type:=List UInt8×(List TRM×(Int×Unit))
abbrev VU:Type:=Bool×(OL×(Int×(Int×Unit)))
abbrev PLS:Type:=List UInt8×(List VU×Unit)
abbrev HRU:Type:=Bool×(List UInt8×Unit)
abbrev HLS:Type:=List UInt8×(List HRU×Unit)
abbrev CRU:Type:=Bool×(Int×(Int×Unit))
abbrev CLS:Type:=List UInt8×(List CRU×Unit)
abbrev PS:Type:=List PLS×(List HLS×(List CLS×(List POL×Unit)))
abbrev yP:Ty:=pr [tW,tI]
abbrev yM:Ty:=pr [tI,tS,tI,yP,tB]
abbrev yA:Ty:=pr [tI,tI,tI,tW,tW]
abbrev yT:Ty:=pr [tS,.list yM,.list yA,tI]
abbrev yO:Ty:=pr [tS,.list yT,tI]
abbrev yR:Ty:=pr [tB,yP,tI,tI]
abbrev yL:Ty:=pr [tS,.list yR]
abbrev yH:Ty:=pr [tB,tS]
abbrev yG:Ty:=pr [tS,.list yH]
abbrev yC:Ty:=pr [tB,tI,tI]
abbrev yD:Ty:=pr [tS,.list yC]
abbrev yS:Ty:=pr [.list yL,.list yG,.list yD,.list yO]
def kb(p:OL):Bool:=(decide (0<=p.2.1)&&decide (p.2.1<=32))&&(EO p.1 p.2.1==p.1)
def R0(c:UInt8):Bool:=(((decide ((c.toNat:Int)>=97)&&decide ((c.toNat:Int)<=122))||(decide ((c.toNat:Int)>=65)&&decide ((c.toNat:Int)<=90)))||(decide ((c.toNat:Int)>=48)&&decide ((c.toNat:Int)<=57)))||((c.toNat:Int)==45)
def wR(s:List UInt8):Bool:=s.all R0&&(decide (1<=s.length)&&decide (s.length<=32))
def qc(r:VU):Int:=if kb r.2.1=false then 1 else if r.2.2.1<r.2.1.2.1\/r.2.2.2.1<r.2.2.1\/r.2.2.2.1>32 then 5 else 0
def sq(r:CRU):Int:=if r.2.1< -1\/r.2.1>65535\/r.2.2.1< -1\/r.2.2.1>65535 then 5 else 0
def zdJ(a b:List UInt8):Bool:=Op.bytesLess a b||a==b
def BA(l:List (List UInt8))(i:Nat):Int:=match l[i]? with
 |none=>0
 |some x=>if wR x=false then 1 else if 0<i/\zdJ x (l.getD (i - 1) [])=true then 16 else 0
def Y4{α:Type}(nm:α->List UInt8)(sz:α->Nat)(a:α->Int)(l:List α)(i:Nat):Int:=if BA (l.map nm) i≠0 then BA (l.map nm) i else match l[i]? with
 |none=>0
 |some x=>if sz x>64 then 4 else a x
def j0{α:Type}(nm:α->List UInt8)(sz:α->Nat)(a:α->Int)(l:List α):Int:=if l.length>64 then 4 else qS (Y4 nm sz a l) l.length
def zhH(k:Int):Int:=if k=4 then 1 else 0
def zbg(k:Int):Int:=if k=4 then 7 else if k=5 then 4294967295 else if k=6 then 16777216 else 2000
def zdz(s:PS)(k:Int)(n:List UInt8):Bool:=if k=1 then s.1.any (·.1==n)else if k=2 then s.2.1.any (·.1==n)else s.2.2.1.any (·.1==n)
def Ch(s:PS)(m:MAT):Int:=
 if m.1<1\/8<m.1 then 15
 else if(3<m.1/\m.2.1≠[])\/(¬(m.1=4\/m.1=5\/m.1=6\/m.1=8)/\m.2.2.1≠0)\/(m.1≠7/\(m.2.2.2.1.1≠0\/m.2.2.2.1.2.1≠0))then 1
 else if m.1<=3 then(if zdz s m.1 m.2.1 then 0 else 6)
 else if m.1=7 then(if kb m.2.2.2.1 then 0 else 1)
 else if m.2.2.1<zhH m.1\/zbg m.1<m.2.2.1 then 5 else 0
def sS(a:EU):EU:=if a.1<=4 then(a.1,a.2.1,0,0,0,())else if a.1=5 then(a.1,0,0,0,a.2.2.2.2.1,())else if a.1<=7 then(a.1,0,0,a.2.2.2.1,0,())else(a.1,a.2.1,a.2.2.1,0,0,())
def p9(a:EU):Bool:=if a.1=3 then decide (0<=a.2.1)&&decide (a.2.1<=16777216)else if a.1<=4 then decide (0<=a.2.1)&&decide (a.2.1<=4294967295)else if a.1=5 then a.2.2.2.2.1 != 0
 else if a.1<=7 then true else(decide (1<=a.2.2.1)&&decide (a.2.2.1<=4294967295))&&(decide (1<=a.2.1)&&decide (a.2.1<=16))
def lu(a:EU):Int:=if a.1<1\/8<a.1 then 15 else if ¬a=sS a then 1 else if p9 a=false then 5 else 0
theorem zeB(a b:EU):iX yA a b=true↔a=b:=by obtain⟨c,d,e,f,g,⟨⟩⟩:=a;obtain⟨h,j,k,l,n,⟨⟩⟩:=b;simp[iX]
def vP(s:PS)(a:List TRM)(t:TRM):Int:=
 if wR t.1=false then 1
 else if a.any (·.1==t.1)=true then 7
 else if t.2.1.length>64 then 4
 else if cq (Ch s) t.2.1≠0 then cq (Ch s) t.2.1
 else if t.2.2.1.length>64 then 4
 else if cq lu t.2.2.1≠0 then cq lu t.2.2.1
 else if t.2.2.2.1<1\/3<t.2.2.2.1 then 15 else 0
def Cn(s:PS)(p:POL):Int:=
 if qS (λi=>match p.2.1[i]? with|some t=>vP s (p.2.1.take i) t|none=>0) p.2.1.length≠0 then qS (λi=>match p.2.1[i]? with|some t=>vP s (p.2.1.take i) t|none=>0) p.2.1.length
 else if p.2.2.1≠1/\p.2.2.1≠2 then 15 else 0
def zbP(pe:List UInt8->Int)(s:PS):Int:=
 if j0 (·.1) (λl=>l.2.1.length) (λl=>cq qc l.2.1) s.1≠0 then j0 (·.1) (λl=>l.2.1.length) (λl=>cq qc l.2.1) s.1
 else if j0 (·.1) (λl=>l.2.1.length) (λl=>cq (λr=>pe r.2.1) l.2.1) s.2.1≠0 then j0 (·.1) (λl=>l.2.1.length) (λl=>cq (λr=>pe r.2.1) l.2.1) s.2.1
 else if j0 (·.1) (λl=>l.2.1.length) (λl=>cq sq l.2.1) s.2.2.1≠0 then j0 (·.1) (λl=>l.2.1.length) (λl=>cq sq l.2.1) s.2.2.1
 else j0 (·.1) (λp=>p.2.1.length) (Cn s) s.2.2.2.1
theorem yy{s:PS}{k N a pl:Int}{nm:List UInt8}{b:Bool}(h:k=1\/k=2\/k=3):Ch s (k,nm,N,(a,pl,()),b,())=if N≠0\/a≠0\/pl≠0 then 1 else if zdz s k nm then 0 else 6:=by unfold Ch;grind
theorem zbv{s:PS}{N a pl:Int}{nm:List UInt8}{b:Bool}:Ch s (7,nm,N,(a,pl,()),b,())=if nm≠[]\/N≠0 then 1 else if kb (a,pl,())then 0 else 1:=by unfold Ch;simp
theorem zbw{s:PS}{k N a pl:Int}{nm:List UInt8}{b:Bool}(h:k=4\/k=5\/k=6\/k=8):Ch s (k,nm,N,(a,pl,()),b,())=if nm≠[]\/a≠0\/pl≠0 then 1 else if N<zhH k\/zbg k<N then 5 else 0:=by unfold Ch;grind
theorem zhM{s:PS}{m:MAT}(h:m.1<1\/8<m.1):Ch s m=15:=by unfold Ch;rw[if_pos h]
structure SmP(s:PS):Prop where
 ok:okD yS s
 l1:s.1.length<=1048576
 l2:s.2.1.length<=1048576
 l3:s.2.2.1.length<=1048576
 l4:s.2.2.2.1.length<=1048576
 pt:∀l∈s.2.1,∀r∈l.2.1,r.2.1.length<=1048576
structure TrmOk(s:PS)(t:TRM):Prop where
 nm:wR t.1=true
 ml:t.2.1.length<=64
 ma:∀m∈t.2.1,Ch s m=0
 al:t.2.2.1.length<=64
 ac:∀a∈t.2.2.1,lu a=0
 ve:1<=t.2.2.2.1/\t.2.2.2.1<=3
structure PlcOk(s:PS)(p:POL):Prop where
 tl:p.2.1.length<=64
 tr:∀t∈p.2.1,TrmOk s t
 df:p.2.2.1=1\/p.2.2.1=2
structure PolOk(pe:List UInt8->Int)(s:PS):Prop where
 l1:s.1.length<=64
 r1:∀l∈s.1,l.2.1.length<=64/\∀r∈l.2.1,qc r=0
 l2:s.2.1.length<=64
 r2:∀l∈s.2.1,l.2.1.length<=64/\∀r∈l.2.1,pe r.2.1=0
 l3:s.2.2.1.length<=64
 r3:∀l∈s.2.2.1,l.2.1.length<=64/\∀r∈l.2.1,sq r=0
 l4:s.2.2.2.1.length<=64
 r4:∀p∈s.2.2.2.1,PlcOk s p
end Go.Pl
namespace Go.Cm
def insGo(x:Int):List Int->Bool->List Int
 |[],d=>if d then []else [x]
 |y::r,d=>(if !d&&decide (x<=y)then [x]else [])++((if y != x then [y]else [])++insGo x r (d||decide (x<=y)))
abbrev ins(x:Int)(l:List Int):List Int:=insGo x l false
def asc(l:List Int):List Int:=l.foldl (λo x=>ins x o) []
abbrev Up(l:List Int):Prop:=l.Pairwise (·<·)
theorem Nm(x z:Int):∀(l:List Int) (d:Bool),z∈insGo x l d↔(z∈l/\z≠x)\/(d=false/\z=x)
 |[],d=>by cases d<;>simp[insGo]
 |y::r,d=>by have:=Nm x z r (d||decide (x<=y));grind [insGo]
theorem mem_ins(x z:Int)(l:List Int):z∈ins x l↔z∈l\/z=x:=by have:=Nm x z l false;grind
theorem uniq:∀(a b:List Int),Up a->Up b->(∀z,z∈a↔z∈b)->a=b
 |[],[],_,_,_=>rfl
 |[],y::b,_,_,h=>by have:=h y;simp at this
 |y::b,[],_,_,h=>by have:=h y;simp at this
 |x::a,y::b,c,d,h=>by
  have f:=(h x).1 (by simp);have g:=(h y).2 (by simp);unfold Up at c d;rw[u_]at c d;have e:x=y:=by grind
  subst e;rw[uniq a b c.2 d.2];grind
theorem Wm(x:Int):∀(l:List Int) (d:Bool),(insGo x l d).length<=l.length+(if d then 0 else 1)
 |[],d=>by cases d<;>simp[insGo]
 |y::r,d=>by have:=Wm x r (d||decide (x<=y));grind [insGo]
theorem zjK(x:Int)(l:List Int):(ins x l).length<=l.length+1:=Wm x l false
theorem zcB(x:Int):∀(l:List Int) (d:Bool),Up l->(d=true->∀z∈l,x<=z)->Up (insGo x l d)
 |[],d,_,_=>by cases d<;>simp[insGo]
 |y::r,d,hl,hd=>by unfold Up at hl⊢;rw[u_]at hl;have b:=zcB x r (d||decide (x<=y)) hl.2 (by grind);have a:=λz=>Nm x z r (d||decide (x<=y));simp only[insGo,g_];grind [List.Pairwise.nil]
theorem up_ins(x:Int)(l:List Int)(h:Up l):Up (ins x l):=zcB x l false h (by simp)
theorem fold_ins:∀(l o:List Int),Up o->Up (l.foldl (λo x=>ins x o) o)/\(∀z,z∈l.foldl (λo x=>ins x o) o↔z∈o\/z∈l)/\(l.foldl (λo x=>ins x o) o).length<=o.length+l.length
 |[],o,h=>⟨h,by simp,by simp⟩
 |x::l,o,h=>by
  have⟨a,b,d⟩:=fold_ins l (ins x o) (up_ins x o h);have:=zjK x o;have c:=λz=>mem_ins x z o;refine⟨a,λz=>?_,?_⟩;·rw[B_,b,c];grind
  ·rw[B_];grind
theorem up_asc(l:List Int):Up (asc l):=(fold_ins l [] List.Pairwise.nil).1
theorem mem_asc(l:List Int)(z:Int):z∈asc l↔z∈l:=by have:=(fold_ins l [] List.Pairwise.nil).2.1 z;simpa[asc]using this
theorem len_asc(l:List Int):(asc l).length<=l.length:=by have:=(fold_ins l [] List.Pairwise.nil).2.2;simpa[asc]using this
theorem zg3{l o:List Int}(h:Up o)(a:∀z,z∈o↔z∈l):o=asc l:=uniq _ _ h (up_asc l) (by grind [mem_asc])
theorem zjG(x:Int)(l:List Int):ins x (asc l)=asc (asc l++[x]):=zg3 (up_ins x _ (up_asc l)) (by intro z;rw[mem_ins];simp)
theorem insGo_step(x:Int)(l:List Int)(k:Nat)(d:Bool)(h:k<l.length):insGo x (l.drop k) d=(if !d&&decide (x<=l.getD k 0)then [x]else [])++((if l.getD k 0 != x then [l.getD k 0]else [])++insGo x (l.drop (k+1)) (d||decide (x<=l.getD k 0))):=by
 have e:l.getD k 0=l[k]:=by simp[i_,a_ h]
 rw[e,k_ h];rfl
theorem zh{l:List Int}{k:Nat}(h:k<l.length):l.take (k+1)=l.take k++[l.getD k 0]:=by
 have e:l.getD k 0=l[k]:=by simp[i_,a_ h]
 rw[f_ h,e]
def left(l a:List Int):Nat:=l.countP λz=>a.all (λy=>decide (y<z))
theorem left_step{l a:List Int}{b:Int}(c:b∈l)(f:∀y∈a,y<b):left l (a++[b])+1<=left l a:=by
 unfold left;induction l with
 |nil=>simp at c|cons z l n=>
  rw[w_,w_];have j:l.countP (λz=>(a++[b]).all λy=>decide (y<z))<=l.countP (λz=>a.all λy=>decide (y<z)):=by apply List.countP_mono_left;intro z _ h;simp only[A_,m_]at h;exact h.1
  by_cases e:z=b
  ·subst e;have g:((a++[z]).all λy=>decide (y<z))=false:=by simp
   have k:(a.all λy=>decide (y<z))=true:=by simpa using f
   rw[g,k];simp only[Bool.false_eq_true,if_false,if_true];omega
  ·have d:b∈l:=by simp at c;rcases c with h|h;exact absurd h.symm e;exact h
   have p:=n d;have g:(if((a++[b]).all λy=>decide (y<z))=true then 1 else 0)<=(if(a.all λy=>decide (y<z))=true then 1 else 0):=by
    split;·rename_i h;simp only[A_,m_]at h;rw[if_pos h.1];exact r_ 1
    ·exact Nat.zero_le _
   omega
structure Best(l out:List Int)(k:Nat)(found:Bool)(best:Int):Prop where
 yes:found=true->best∈l/\(∀y∈out,y<best)
 least:∀z∈l.take k,(∀y∈out,y<z)->found=true/\best<=z
structure Out(l out:List Int):Prop where
 up:Up out
 sub:∀z∈out,z∈l
 all:∀z∈l,z∈out\/∀y∈out,y<z
 len:out.length+left l out<=l.length
theorem Out.zero(l:List Int):Out l []:=⟨List.Pairwise.nil,by simp,by simp,by simp[left]⟩
theorem Out.step{l C:List Int}{b:Int}(h:Out l C)(I:Best l C l.length true b):Out l (C++[b]):=by
 obtain⟨M,N⟩:=I.yes rfl;have hl:=left_step M N;have E:=I.least;rw[z_]at E;refine⟨?_,?_,λz J=>?_,?_⟩;·have:=h.up;unfold Up at this⊢;rw[g_];grind
 ·have:=h.sub;grind
 ·rcases h.all z J with H|H;·grind
  ·have:=(E z J H).2;by_cases e:z=b;·left;simp[e]
   ·right;grind
 ·have:=h.len;simp;omega
theorem Out.outDone{l C:List Int}{b:Int}(h:Out l C)(J:Best l C l.length false b):C=asc l:=by
 refine zg3 h.up λz=>⟨h.sub z,λI=>?_⟩;have H:=J.least;rw[z_]at H;rcases h.all z I with E|E;·exact E
 ·have:=(H z I E).1;cases this
theorem last_gt{a:List Int}(h:Up a)(b:a≠[])(z:Int):(∀y∈a,y<z)↔a.getD (a.length - 1) 0<z:=by
 have hl:a.length - 1<a.length:=by have:=List.length_pos_iff.2 b;omega
 have e:a.getD (a.length - 1) 0=a[a.length - 1]:=by simp[i_,a_ hl]
 rw[e];refine⟨λh=>h _ (x_ hl),λf y d=>?_⟩;obtain⟨i,c,rfl⟩:=List.getElem_of_mem d;unfold Up at h;rw[l_]at h;by_cases e:i=a.length - 1;·subst e;exact f
 ·have:=h i (a.length - 1) c hl (by omega);omega
theorem Best.zero(l z:List Int)(b:Int):Best l z 0 false b:=⟨by simp,by simp⟩
theorem Best.take{l C:List Int}{k:Nat}{f:Bool}{b:Int}(h:Best l C k f b)(E:k<l.length)(H:∀y∈C,y<l.getD k 0)(M:f=false\/l.getD k 0<b):Best l C (k+1) true (l.getD k 0):=by
 have e:l.getD k 0=l[k]:=by simp[i_,a_ E]
 have I:l.getD k 0∈l:=by rw[e];exact x_ E
 refine⟨λ_=>⟨I,H⟩,λz J hg=>⟨rfl,?_⟩⟩;rw[zh E]at J;have:=h.least z;grind
theorem Best.skip{l C:List Int}{k:Nat}{f:Bool}{b:Int}(h:Best l C k f b)(E:k<l.length)(I:(∀y∈C,y<l.getD k 0)->f=true/\b<=l.getD k 0):Best l C (k+1) f b:=by refine⟨h.yes,λz H hg=>?_⟩;rw[zh E]at H;have:=h.least z;grind
theorem up_take{l:List Int}{k:Nat}(h:Up (l.take k))(j:k<l.length)(c:k=0\/l.getD (k - 1) 0<l.getD k 0):Up (l.take (k+1)):=by
 rw[zh j];by_cases e:l.take k=[];·rw[e];simp
 ·have:=(last_gt h e (l.getD k 0)).2 ?_;·unfold Up at h⊢;rw[g_];refine⟨h,by simp,λa g b f=>?_⟩;simp only[j_]at f;rw[f];exact this a g
  ·have d:k≠0:=by intro h;subst h;simp at e
   have:(l.take k).getD ((l.take k).length - 1) 0=l.getD (k - 1) 0:=by simp only[i_,List.length_take,List.getElem?_take];rw[show min k l.length=k by omega,if_pos (by omega)]
   rw[this];rcases c with c|c;·exact absurd c d
   ·exact c
theorem not_up{l:List Int}{k:Nat}(a:k<l.length)(d:0<k)(e:l.getD k 0<=l.getD (k - 1) 0):¬Up l:=by
 intro h;unfold Up at h;rw[l_]at h;have:=h (k - 1) k (by omega) a (by omega);have b:l.getD k 0=l[k]:=by simp[i_,a_ a]
 have c:l.getD (k - 1) 0=l[k - 1]:=by simp[i_,a_ (show k - 1<l.length by omega)]
 omega
def check(l:List Int):Int:=if 255<l.length then 4 else if Up l then 0 else 16
theorem check_long{l:List Int}(h:255<l.length):check l=4:=by unfold check;rw[if_pos h]
theorem check_up{l:List Int}(h:¬255<l.length)(a:Up l):check l=0:=by unfold check;rw[if_neg h,if_pos a]
theorem check_not{l:List Int}(h:¬255<l.length)(a:¬Up l):check l=16:=by unfold check;rw[if_neg h,if_neg a]
def add(l:List Int)(c:Int):List Int:=if 255<=(asc l).length/\c∉asc l then asc l else ins c (asc l)
def drop(l:List Int)(c:Int):List Int:=(asc l).filter (λx=>x != c)
theorem add_eq(l:List Int)(c:Int):ins c (asc l)=asc (asc l++[c]):=zjG c l
end Go.Cm
namespace Go.Pl
open Go Go.Av Go.Ev
abbrev C6:Type:=OL×(Int×(Int×(List Int×(List Int×(Int×(Int×(Int×(Int×Unit))))))))
abbrev MD:Ty:=pr [yP,tI,tW,.list tI,.list tW,tI,tI,tI,tI]
abbrev zSub:C6:=((0,0,()),0,0,[],[],0,0,0,0,())
abbrev Bw(x:Int):Prop:=0<=x/\x<=4294967295
def Ih(r:C6):Int:=
 if kb r.1=false then 1
 else if r.2.1<1\/7<r.2.1 then 5
 else if r.2.2.2.1.length>2000 then 4
 else if ¬∀v∈r.2.2.2.1,1<=v/\v<=4294967295 then 5
 else if Cm.check r.2.2.2.2.1≠0 then Cm.check r.2.2.2.2.1
 else if ¬(Bw r.2.2.2.2.2.1/\Bw r.2.2.2.2.2.2.1/\Bw r.2.2.2.2.2.2.2.2.1)\/r.2.2.2.2.2.2.2.1<0\/16777216<r.2.2.2.2.2.2.2.1 then 5 else 0
def ON(a:EU):C6->C6
 |(p,b,d,pt,cm,e,c,mt,f,u)=>
  if a.1=1 then(p,b,d,pt,cm,a.2.1,c,mt,f,u)
  else if a.1=2 then(p,b,d,pt,cm,e,a.2.1,mt,f,u)
  else if a.1=3 then(p,b,d,pt,cm,e,c,a.2.1,f,u)
  else if a.1=4 then(p,b,d,pt,cm,e,c,mt,a.2.1,u)
  else if a.1=5 then(p,b,a.2.2.2.2.1,pt,cm,e,c,mt,f,u)
  else if a.1=6 then(p,b,d,pt,Cm.add cm a.2.2.2.1,e,c,mt,f,u)
  else if a.1=7 then(p,b,d,pt,Cm.drop cm a.2.2.2.1,e,c,mt,f,u)
  else if(pt.length:Int)+a.2.1<=2000 then(p,b,d,List.replicate a.2.1.toNat a.2.2.1++pt,cm,e,c,mt,f,u)
  else(p,b,d,pt,cm,e,c,mt,f,u)
def QL(a:EU)(r:C6):C6:=if lu a=0 then ON a r else r
def MO(l:List EU)(r:C6):C6:=l.foldl (λr a=>QL a r) r
structure SmR(k:Nat)(r:C6):Prop where
 pt:r.2.2.2.1.length<=100000
 cm:r.2.2.2.2.1.length<=k
abbrev ziO(a:EU):PS:=([],[],[],[([112],[([116],[],[a],1,())],1,())],())
theorem ziP(pe:List UInt8->Int)(a:EU):zbP pe (ziO a)=lu a:=by
 have j:∀s:PS,vP s [] (([116],[],[a],1,()):TRM)=lu a:=λs=>by
  have c:cq (Ch s) ([]:List MAT)=0:=rfl;have d:cq lu [a]=lu a:=by show(if lu a=0 then 0 else lu a)=lu a;omega
  unfold vP;rw[if_neg (by show ¬wR [116]=false;decide),if_neg (by simp),if_neg (by simp),c,if_neg (λh=>h rfl),if_neg (by simp),d];grind
 have g:∀s:PS,Cn s (([112],[([116],[],[a],1,())],1,()):POL)=lu a:=λs=>by
  have e:qS (λi=>match([([116],[],[a],1,())]:List TRM)[i]? with|some t=>vP s (([([116],[],[a],1,())]:List TRM).take i) t|none=>0) 1=lu a:=by show(if vP s [] (([116],[],[a],1,()):TRM)=0 then 0 else vP s [] (([116],[],[a],1,()):TRM))=lu a;grind
  unfold Cn;grind
 have l4:∀s:PS,j0 (·.1) (λp=>p.2.1.length) (Cn s) ([([112],[([116],[],[a],1,())],1,())]:List POL)=lu a:=λs=>by
  have f:Y4 (·.1) (λp=>p.2.1.length) (Cn s) ([([112],[([116],[],[a],1,())],1,())]:List POL) 0=lu a:=by
   unfold Y4;rw[if_neg (show ¬(BA (([([112],[([116],[],[a],1,())],1,())]:List POL).map (·.1)) 0≠0) by show ¬(BA [[112]] 0≠0);decide)]
   grind
  unfold j0;rw[if_neg (by simp)];show(if Y4 (·.1) (λp=>p.2.1.length) (Cn s) ([([112],[([116],[],[a],1,())],1,())]:List POL) 0=0 then 0 else Y4 (·.1) (λp=>p.2.1.length) (Cn s) ([([112],[([116],[],[a],1,())],1,())]:List POL) 0)=lu a;omega
 unfold zbP;have k:∀{α:Type} (nm:α->List UInt8) (sz:α->Nat) (b:α->Int),j0 nm sz b []=0:=λ_ _ _=>rfl;grind
def zb3(a b:C6):Bool:=
 (((((((((false ^^ iX yP a.1 b.1)&&(a.2.1==b.2.1))&&(a.2.2.1==b.2.2.1))&&(a.2.2.2.2.2.1==b.2.2.2.2.2.1))&&(a.2.2.2.2.2.2.1==b.2.2.2.2.2.2.1))&&(a.2.2.2.2.2.2.2.1==b.2.2.2.2.2.2.2.1))&&(a.2.2.2.2.2.2.2.2.1==b.2.2.2.2.2.2.2.2.1))&&decide (a.2.2.2.1=b.2.2.2.1))&&decide (a.2.2.2.2.1=b.2.2.2.2.1))
theorem zjy(p:OL):iX yP p p=true:=by show((p.1==p.1)&&((p.2.1==p.2.1)&&true))=true;simp
theorem zgh(a:C6):zb3 a a=true:=by have h:=zjy a.1;unfold zb3;rw[h];simp
abbrev DFT:Type:=List Int×(List (List Int)×(List Bool×(Int×Unit)))
abbrev HV:Type:=Int×(Int×(OL×(List VU×(DFT×(List CRU×Unit)))))
abbrev te:Type:=Int×(Int×(Int×Unit))
abbrev CP:Type:=Bool×(List EU×Unit)
abbrev eM:Type:=List HV×(List te×(List CP×(Int×Unit)))
abbrev yF:Ty:=pr [.list tI,.list (.list tI),.list tB,tI]
abbrev MH:Ty:=pr [tI,tI,yP,.list yR,yF,.list yC]
abbrev MG:Ty:=pr [tI,tI,tI]
abbrev Kx:Ty:=pr [tB,.list yA]
abbrev wu:Ty:=pr [.list MH,.list MG,.list Kx,tI]
instance iDF:DecidableEq DFT:=by unfold DFT;infer_instance
instance iPR:DecidableEq VU:=by unfold VU;infer_instance
instance iT2:DecidableEq (DFT×(List CRU×Unit)):=instDecidableEqProd
instance iT1:DecidableEq (OL×(List VU×(DFT×(List CRU×Unit)))):=instDecidableEqProd
instance iTS:DecidableEq HV:=instDecidableEqProd
instance iAC:DecidableEq EU:=by unfold EU;infer_instance
instance iLA:DecidableEq (List EU×Unit):=instDecidableEqProd
instance iLE:DecidableEq CP:=instDecidableEqProd
instance iA2:DecidableEq (List CP×(Int×Unit)):=instDecidableEqProd
instance iA1:DecidableEq (List te×(List CP×(Int×Unit))):=instDecidableEqProd
instance iAU:DecidableEq eM:=instDecidableEqProd
theorem zhj(a b:OL):iX yP a b=decide (a=b):=by obtain⟨c,d,⟨⟩⟩:=a;obtain⟨e,f,⟨⟩⟩:=b;rw[d_];simp[iX]
theorem zkn(a b:VU):iX yR a b=decide (a=b):=by obtain⟨c,⟨d,e,⟨⟩⟩,f,g,⟨⟩⟩:=a;obtain⟨h,⟨j,k,⟨⟩⟩,l,n,⟨⟩⟩:=b;rw[d_];simp[iX,and_assoc]
theorem zkm(a b:CRU):iX yC a b=decide (a=b):=by obtain⟨c,d,e,⟨⟩⟩:=a;obtain⟨f,g,h,⟨⟩⟩:=b;rw[d_];simp[iX]
theorem za9(a b:te):iX MG a b=decide (a=b):=by obtain⟨c,d,e,⟨⟩⟩:=a;obtain⟨f,g,h,⟨⟩⟩:=b;rw[d_];simp[iX]
theorem zkl(a b:EU):iX yA a b=decide (a=b):=by rw[d_];simpa using zeB a b
theorem wt{α:Type}{a b:List α}{body:Nat->(Int×Unit)->Option ((Int×Unit)⊕(Bool×Unit)⊕Unit)}{Q:(Bool×Unit)⊕Unit->Prop}(hl:a.length=b.length) (h:∀i (c:i<a.length) (d:i<b.length),Wp (λn=>body n ((i:Int),())) λr=>(a[i]=b[i]/\r= .inl (((i+1:Nat):Int),()))\/(¬a[i]=b[i]/\r= .inr (.inl (false,())))) (j:Wp (λn=>body n ((a.length:Int),())) λr=>r= .inr (.inr ())) (f:a=b->Q (.inr ())) (g:¬a=b->Q (.inl (false,()))):Wp (λn=>aR n (body n) ((0:Int),())) Q:=by
 refine uh (N:=a.length) (good:=λi=>a[i]? =b[i]?) (λi c=>?_) j (λh=>f (List.ext_getElem? λi=>?_)) (fun⟨i,_,hn⟩=>g λe=>hn (by rw[e]))
 ·have d:i<b.length:=by omega
  refine Go.Ev.wp_mono (h i c d) λr hr=>?_;rw[a_ c,a_ d,H_];exact hr
 ·by_cases c:i<a.length;·exact h i c
  ·rw[q_ (by omega),q_ (by omega)]
end Go.Pl
