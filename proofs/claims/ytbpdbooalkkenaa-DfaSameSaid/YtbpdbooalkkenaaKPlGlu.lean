/- Part MPlGlu: laws shown with the machine. -/
import Derived.Test.YtbpdbooalkkenaaKAw
import Derived.Test.YtbpdbooalkkenaaKL5
import Derived.Test.YtbpdbooalkkenaaKGlueB
import Derived.Test.YtbpdbooalkkenaaKL8
set_option linter.unusedVariables false
set_option linter.unusedSimpArgs false
namespace Go.Pl
open Go Go.Ev
theorem gB{P:Rx->Prop}(h:∀k lo hi ks,(∀r∈ks,P r)->P (.mk k lo hi ks)):∀r,P r:=
 λr=>Rx.rec (motive_1:=P) (motive_2:=λks=>∀r∈ks,P r) (λk lo hi ks ih=>h k lo hi ks ih) (λr hr=>by cases hr) (λr ks ih1 ih2 x hx=>by
  rcases List.mem_cons.1 hx with rfl|hx
  ·exact ih1
  ·exact ih2 x hx) r
theorem km(v:Rx):Rx.mk v.out.1 v.out.2.1 v.out.2.2.1 v.out.2.2.2.1=v:=by cases v;rfl
structure G where
 fi:List Nat
 la:List Nat
 em:Bool
 pr:List (Nat×Nat)
 sp:List (Int×Int)
def bU(a b:List Nat):List (Nat×Nat):=a.flatMap λp=>b.map λq=>(p,q)
theorem prodL_mem{a b:List Nat}{p q:Nat}:(p,q)∈bU a b↔p∈a/\q∈b:=by
 unfold bU
 simp only[List.mem_flatMap,List.mem_map,Prod.mk.injEq]
 constructor
 ·rintro⟨x,hx,y,hy,rfl,rfl⟩;exact⟨hx,hy⟩
 ·rintro⟨hp,hq⟩;exact⟨p,hp,q,hq,rfl,rfl⟩
def fM(a x:G):G:=⟨if a.em then a.fi++x.fi else a.fi,if x.em then a.la++x.la else x.la,a.em&&x.em,a.pr++x.pr++bU a.la x.fi,a.sp++x.sp⟩
def pQ(a x:G):G:=⟨a.fi++x.fi,a.la++x.la,a.em||x.em,a.pr++x.pr,a.sp++x.sp⟩
def iu(x:G):G:=⟨x.fi,x.la,x.em,x.pr++bU x.la x.fi,x.sp⟩
def AN(x:G):G:=⟨x.fi,x.la,true,x.pr,x.sp⟩
def g0(e:Bool):G:=⟨[],[],e,[],[]⟩
def AW(o:Nat)(lo hi:Int):G:=⟨[o],[o],false,[],[(lo,hi)]⟩
mutual
def bC:Rx->Nat->G
 | .mk k lo hi ks,o=>
  if k=1 then AW o lo hi else if k=2 then AW o 0 4294967295
  else if k=3 then cx ks o (g0 true)else if k=4 then bP ks o (g0 false)
  else if k=5 then AN (iu (bP ks o (g0 false)))else if k=6 then iu (bP ks o (g0 false))
  else if k=7 then AN (bP ks o (g0 false))else g0 true
def cx:List Rx->Nat->G->G
 |[],_,a=>a
 |r::rs,o,a=>cx rs o (fM a (bC r (o+a.sp.length)))
def bP:List Rx->Nat->G->G
 |[],_,a=>a
 |r::rs,o,a=>bP rs o (pQ a (bC r (o+a.sp.length)))
end
theorem D6(o:Nat):∀(l m:List Rx) (a:G),cx (l++m) o a=cx m o (cx l o a)
 |[],_,_=>by simp[cx]
 |r::l,m,a=>by simp only[List.cons_append,cx];exact D6 o l m _
theorem D5(o:Nat):∀(l m:List Rx) (a:G),bP (l++m) o a=bP m o (bP l o a)
 |[],_,_=>by simp[bP]
 |r::l,m,a=>by simp only[List.cons_append,bP];exact D5 o l m _
theorem vg{o:Nat}{ks:List Rx}{i:Nat}(h:i<ks.length)(a:G):cx (ks.take (i+1)) o a=fM (cx (ks.take i) o a) (bC ks[i] (o+(cx (ks.take i) o a).sp.length)):=by
 rw[List.take_add_one,List.getElem?_eq_getElem h,D6];simp[cx]
theorem vf{o:Nat}{ks:List Rx}{i:Nat}(h:i<ks.length)(a:G):bP (ks.take (i+1)) o a=pQ (bP (ks.take i) o a) (bC ks[i] (o+(bP (ks.take i) o a).sp.length)):=by
 rw[List.take_add_one,List.getElem?_eq_getElem h,D5];simp[bP]
theorem L1{P:Nat->G->Prop}(h0:∀o e,P o (g0 e))(h1:∀o lo hi,P o (AW o lo hi))(hs:∀o a x,P o a->P (o+a.sp.length) x->P o (fM a x))(ha:∀o a x,P o a->P (o+a.sp.length) x->P o (pQ a x))
 (hl:∀o a,P o a->P o (iu a)) (he:∀o a,P o a->P o (AN a)):∀(r:Rx) (o:Nat),P o (bC r o):=by
 intro r
 refine gB (P:=λr=>∀o,P o (bC r o)) (λk lo hi ks ih o=>?_) r
 have hA:∀(l:List Rx) (a:G),(∀r∈l,∀o,P o (bC r o))->P o a->P o (bP l o a):=by
  intro l
  induction l with
  |nil=>intro a _ h;exact h
  |cons r l ih=>intro a hl h;exact ih _ (λr hr=>hl r (List.mem_cons_of_mem _ hr)) (ha o a _ h (hl r (List.mem_cons_self ..) _))
 have hS:∀(l:List Rx) (a:G),(∀r∈l,∀o,P o (bC r o))->P o a->P o (cx l o a):=by
  intro l
  induction l with
  |nil=>intro a _ h;exact h
  |cons r l ih=>intro a hl h;exact ih _ (λr hr=>hl r (List.mem_cons_of_mem _ hr)) (hs o a _ h (hl r (List.mem_cons_self ..) _))
 unfold bC
 split
 ·exact h1 _ _ _
 split
 ·exact h1 _ _ _
 split
 ·exact hS _ _ ih (h0 _ _)
 split
 ·exact hA _ _ ih (h0 _ _)
 split
 ·exact he _ _ (hl _ _ (hA _ _ ih (h0 _ _)))
 split
 ·exact hl _ _ (hA _ _ ih (h0 _ _))
 split
 ·exact he _ _ (hA _ _ ih (h0 _ _))
 ·exact h0 _ _
structure Lie(o:Nat)(g:G):Prop where
 fi:∀p∈g.fi,o<=p/\p<o+g.sp.length
 la:∀p∈g.la,o<=p/\p<o+g.sp.length
 pr:∀p q,(p,q)∈g.pr->(o<=p/\p<o+g.sp.length)/\o<=q/\q<o+g.sp.length
 fl:g.fi.length<=g.sp.length
 ll:g.la.length<=g.sp.length
theorem L9{o:Nat}{a x:G}(ha:Lie o a)(hx:Lie (o+a.sp.length) x):Lie o (fM a x):=by
 have hfl:=ha.fl;have hll:=ha.ll;have hfx:=hx.fl;have hlx:=hx.ll
 refine⟨λp hp=>?_,λp hp=>?_,λp q hp=>?_,?_,?_⟩
 ·simp only[fM,List.length_append]at hp⊢
  split at hp
  ·rcases List.mem_append.1 hp with h|h
   ·have:=ha.fi p h;omega
   ·have:=hx.fi p h;omega
  ·have:=ha.fi p hp;omega
 ·simp only[fM,List.length_append]at hp⊢
  split at hp
  ·rcases List.mem_append.1 hp with h|h
   ·have:=ha.la p h;omega
   ·have:=hx.la p h;omega
  ·have:=hx.la p hp;omega
 ·simp only[fM,List.length_append,List.mem_append,prodL_mem]at hp⊢
  rcases hp with(h|h)|⟨h,h'⟩
  ·have:=ha.pr p q h;omega
  ·have:=hx.pr p q h;omega
  ·have:=ha.la p h;have:=hx.fi q h';omega
 ·simp only[fM,List.length_append]
  split
  ·rw[List.length_append];omega
  ·omega
 ·simp only[fM,List.length_append]
  split
  ·rw[List.length_append];omega
  ·omega
theorem L8{o:Nat}{a x:G}(ha:Lie o a)(hx:Lie (o+a.sp.length) x):Lie o (pQ a x):=by
 have hfl:=ha.fl;have hll:=ha.ll;have hfx:=hx.fl;have hlx:=hx.ll
 refine⟨λp hp=>?_,λp hp=>?_,λp q hp=>?_,?_,?_⟩
 ·simp only[pQ,List.length_append]at hp⊢
  rcases List.mem_append.1 hp with h|h
  ·have:=ha.fi p h;omega
  ·have:=hx.fi p h;omega
 ·simp only[pQ,List.length_append]at hp⊢
  rcases List.mem_append.1 hp with h|h
  ·have:=ha.la p h;omega
  ·have:=hx.la p h;omega
 ·simp only[pQ,List.length_append,List.mem_append]at hp⊢
  rcases hp with h|h
  ·have:=ha.pr p q h;omega
  ·have:=hx.pr p q h;omega
 ·simp only[pQ,List.length_append];omega
 ·simp only[pQ,List.length_append];omega
theorem Ki{o:Nat}{x:G}(h:Lie o x):Lie o (iu x):=by
 refine⟨h.fi,h.la,λp q hp=>?_,h.fl,h.ll⟩
 simp only[iu,List.mem_append,prodL_mem]at hp⊢
 rcases hp with hp|⟨h1,h2⟩
 ·exact h.pr p q hp
 ·exact⟨h.la p h1,h.fi q h2⟩
theorem M8(o:Nat)(e:Bool):Lie o (g0 e):=⟨by simp[g0],by simp[g0],by simp[g0],by simp[g0],by simp[g0]⟩
theorem ee:∀(r:Rx) (o:Nat),Lie o (bC r o):=
 L1 M8 (λo lo hi=>⟨by simp[AW],by simp[AW],by simp[AW],by simp[AW],by simp[AW]⟩) (λ_ _ _ ha hx=>L9 ha hx) (λ_ _ _ ha hx=>L8 ha hx) (λ_ _ h=>Ki h) (λo a h=>⟨h.fi,h.la,h.pr,h.fl,h.ll⟩)
def bo(l:List Nat):Nat:=l.foldr (λp a=>a|||2^p) 0
theorem cj(l:List Nat)(i:Nat):(bo l).testBit i=decide (i∈l):=by
 induction l with
 |nil=>simp[bo]
 |cons p l ih=>
  have:bo (p::l)=bo l|||2^p:=rfl
  rw[this,Nat.testBit_or,ih,Nat.testBit_two_pow]
  by_cases h:p=i
  ·subst h;simp
  ·simp[h,Ne.symm h]
theorem tU(a b:List Nat):bo (a++b)=bo a|||bo b:=by
 refine Nat.eq_of_testBit_eq λi=>?_
 rw[Nat.testBit_or,cj,cj,cj]
 simp
theorem eF{l:List Nat}{n:Nat}(h:∀p∈l,p<n):bo l<2^n:=by
 refine Nat.lt_pow_two_of_testBit _ λi hi=>?_
 rw[cj]
 exact decide_eq_false λhm=>by have:=h i hm;omega
theorem N4{a b n:Nat}(ha:a<2^n)(hb:b<2^n):a|||b<2^n:=Nat.or_lt_two_pow ha hb
def xP(pr:List (Nat×Nat))(p:Nat):List Nat:=(pr.filter λx=>x.1=p).map (·.2)
theorem fol_mem{pr:List (Nat×Nat)}{p q:Nat}:q∈xP pr p↔(p,q)∈pr:=by
 unfold xP
 simp only[List.mem_map,List.mem_filter,decide_eq_true_eq]
 constructor
 ·rintro⟨⟨x,y⟩,⟨h,rfl⟩,rfl⟩;exact h
 ·intro h;exact⟨(p,q),⟨h,rfl⟩,rfl⟩
end Go.Pl
namespace Go.Pl
open Go Go.Ev
def eJ(k n:Int):Bool:=bif k==0||k==1||k==2 then n==0 else bif k==3 then decide (n>=2)else bif k==4 then n != 1 else bif k==5||k==6||k==7 then n==1 else false
def nw(k:Int):Bool:=k==0||k==1||k==2||k==3||k==4||k==5||k==6||k==7
def ep(k lo hi n:Int):Int:=
 bif !nw k then 15 else bif k==1&&(decide (lo<0)||decide (lo>hi)||decide (hi>4294967295))then 5 else bif (k != 1&&(lo != 0||hi != 0))|| !eJ k n then 1 else 0
theorem knownB_iff{k:Int}:nw k=true↔k=0\/k=1\/k=2\/k=3\/k=4\/k=5\/k=6\/k=7:=by
 simp only[nw,Bool.or_eq_true,beq_iff_eq,or_assoc]
structure Node(k lo hi n:Int):Prop where
 known:k=0\/k=1\/k=2\/k=3\/k=4\/k=5\/k=6\/k=7
 rng:k=1->0<=lo/\lo<=hi/\hi<=4294967295
 zero:k≠1->lo=0/\hi=0
 leaf:k=0\/k=1\/k=2->n=0
 seq:k=3->2<=n
 alt:k=4->n≠1
 one:k=5\/k=6\/k=7->n=1
theorem nodeE_zero{k lo hi n:Int}:ep k lo hi n=0↔Node k lo hi n:=by
 constructor
 ·intro h
  unfold ep at h
  cases h1:nw k
  ·rw[h1]at h;exact absurd h (by simp)
  rw[h1]at h
  have hk:=knownB_iff.1 h1
  simp only[Bool.not_true,cond_false]at h
  cases h2:(k==1&&(decide (lo<0)||decide (lo>hi)||decide (hi>4294967295)))
  ·rw[h2]at h
   simp only[cond_false]at h
   cases h3:((k != 1&&(lo != 0||hi != 0))|| !eJ k n)
   ·simp only[Bool.or_eq_false_iff,Bool.and_eq_false_iff,bne_eq_false_iff_eq,Bool.not_eq_false',beq_eq_false_iff_ne,decide_eq_false_iff_not]at h2 h3
    obtain⟨h3,h4⟩:=h3
    refine⟨hk,λe=>?_,λe=>?_,λe=>?_,λe=>?_,λe=>?_,λe=>?_⟩
    ·rcases h2 with h2|h2
     ·exact absurd e h2
     ·omega
    ·rcases h3 with h3|h3
     ·exact absurd h3 e
     ·exact h3
    ·rcases e with rfl|rfl|rfl<;>simpa[eJ]using h4
    ·subst e;simpa[eJ]using h4
    ·subst e;simpa[eJ]using h4
    ·rcases e with rfl|rfl|rfl<;>simpa[eJ]using h4
   ·rw[h3]at h;exact absurd h (by simp)
  ·rw[h2]at h;exact absurd h (by simp)
 ·intro h
  have h1:nw k=true:=knownB_iff.2 h.known
  have h2:(k==1&&(decide (lo<0)||decide (lo>hi)||decide (hi>4294967295)))=false:=by
   by_cases e:k=1
   ·have:=h.rng e
    simp only[Bool.and_eq_false_iff,Bool.or_eq_false_iff,decide_eq_false_iff_not]
    exact .inr ⟨⟨by omega,by omega⟩,by omega⟩
   ·simp[e]
  have h3:(k != 1&&(lo != 0||hi != 0))=false:=by
   by_cases e:k=1
   ·simp[e]
   ·have:=h.zero e
    simp[this]
  have h4:eJ k n=true:=by
   rcases h.known with rfl|rfl|rfl|rfl|rfl|rfl|rfl|rfl
   ·simpa[eJ]using h.leaf (by simp)
   ·simpa[eJ]using h.leaf (by simp)
   ·simpa[eJ]using h.leaf (by simp)
   ·simpa[eJ]using h.seq rfl
   ·simpa[eJ]using h.alt rfl
   ·simpa[eJ]using h.one (by simp)
   ·simpa[eJ]using h.one (by simp)
   ·simpa[eJ]using h.one (by simp)
  unfold ep
  rw[h1,h2,h3,h4];rfl
mutual
def sz:Rx->Nat
 | .mk _ _ _ ks=>1+qz ks
def qz:List Rx->Nat
 |[]=>0
 |r::rs=>sz r+qz rs
end
theorem Il:∀{ks:List Rx} {r:Rx},r∈ks->sz r<=qz ks
 |x::ks,r,h=>by
  simp only[qz]
  rcases List.mem_cons.1 h with rfl|h
  ·omega
  ·have:=Il h;omega
theorem NA(r:Rx):0<sz r:=by cases r;simp only[sz];omega
theorem Ik:∀ks:List Rx,ks.length<=qz ks
 |[]=>Nat.le_refl _
 |r::ks=>by
  simp only[qz,List.length_cons]
  have:=Ik ks;have:=NA r;omega
theorem CU:∀l m:List Rx,qz (l++m)=qz l+qz m
 |[],m=>by simp[qz]
 |r::l,m=>by simp only[List.cons_append,qz,CU l m];omega
mutual
def cZ:Rx->Bool
 | .mk k lo hi ks=>ep k lo hi ks.length==0&&nM ks
def nM:List Rx->Bool
 |[]=>true
 |r::rs=>cZ r&&nM rs
end
theorem kw:∀ks:List Rx,nM ks=true↔∀r∈ks,cZ r=true
 |[]=>by simp[nM]
 |r::ks=>by simp[nM,kw ks]
theorem well_iff{k lo hi:Int}{ks:List Rx}:cZ (.mk k lo hi ks)=true↔Node k lo hi ks.length/\∀r∈ks,cZ r=true:=by
 simp only[cZ,Bool.and_eq_true,beq_iff_eq,nodeE_zero,kw]
mutual
def qt:Rx->Int->Int->Int×Int
 | .mk k lo hi ks,lv,c=>if lv>16 then(c,24)else if c>=64 then(c,4)else if ep k lo hi ks.length≠0 then(c,ep k lo hi ks.length)else eV ks (lv+1) (c+1)
def eV:List Rx->Int->Int->Int×Int
 |[],_,c=>(c,0)
 |r::rs,lv,c=>if(qt r lv c).2≠0 then qt r lv c else eV rs lv (qt r lv c).1
end
mutual
def Et:Rx->Bool
 | .mk k _ _ ks=>bif k==0||k==5||k==7 then true else bif k==3||k==6 then nQ ks else bif k==4 then qy ks else false
def nQ:List Rx->Bool
 |[]=>true
 |r::rs=>Et r&&nQ rs
def qy:List Rx->Bool
 |[]=>false
 |r::rs=>Et r||qy rs
end
theorem Eu:∀l m:List Rx,nQ (l++m)=(nQ l&&nQ m)
 |[],m=>by simp[nQ]
 |r::l,m=>by simp only[List.cons_append,nQ,Eu l m,Bool.and_assoc]
theorem Ew:∀l m:List Rx,qy (l++m)=(qy l||qy m)
 |[],m=>by simp[qy]
 |r::l,m=>by simp only[List.cons_append,qy,Ew l m,Bool.or_assoc]
mutual
def cnt:Rx->Nat
 | .mk k _ _ ks=>(bif k==1||k==2 then 1 else 0)+bT ks
def bT:List Rx->Nat
 |[]=>0
 |r::rs=>cnt r+bT rs
end
theorem np:∀l m:List Rx,bT (l++m)=bT l+bT m
 |[],m=>by simp[bT]
 |r::l,m=>by simp only[List.cons_append,bT,np l m];omega
theorem uY(r:Rx):cnt r<=sz r:=by
 refine gB (P:=λr=>cnt r<=sz r) (λk lo hi ks ih=>?_) r
 have:∀l:List Rx,(∀r∈l,cnt r<=sz r)->bT l<=qz l:=by
  intro l
  induction l with
  |nil=>intro _;exact Nat.le_refl _
  |cons r l ih2=>
   intro h
   simp only[bT,qz]
   have:=h r (List.mem_cons_self ..)
   have:=ih2 λr hr=>h r (List.mem_cons_of_mem _ hr)
   omega
 have:=this ks ih
 simp only[cnt,sz]
 cases(k==1||k==2)<;>simp<;>omega
theorem len_nil{ks:List Rx}(h:(ks.length:Int)=0):ks=[]:=List.length_eq_zero_iff.1 (by omega)
theorem p8{ks:List Rx}(h:(ks.length:Int)=1):∃r,ks=[r]:=List.length_eq_one_iff.1 (by omega)
theorem cQ:∀(r:Rx),cZ r=true->∀o,(bC r o).sp.length=cnt r/\(bC r o).em=Et r:=by
 refine gB λk lo hi ks ih hw o=>?_
 obtain⟨hn,hks⟩:=well_iff.1 hw
 have hA:∀(l:List Rx) (a:G),(∀r∈l,r∈ks)->(bP l o a).sp.length=a.sp.length+bT l/\(bP l o a).em=(a.em||qy l):=by
  intro l
  induction l with
  |nil=>intro a _;simp[bP,bT,qy]
  |cons r l ihl=>
   intro a hl
   have hr:=hl r (List.mem_cons_self ..)
   obtain⟨h1,h2⟩:=ih r hr (hks r hr) (o+a.sp.length)
   obtain⟨h3,h4⟩:=ihl (pQ a (bC r (o+a.sp.length))) λx hx=>hl x (List.mem_cons_of_mem _ hx)
   simp only[bP,h3,h4,bT,qy]
   simp only[pQ,List.length_append,h1,h2,Bool.or_assoc]
   exact⟨by omega,trivial⟩
 have hS:∀(l:List Rx) (a:G),(∀r∈l,r∈ks)->(cx l o a).sp.length=a.sp.length+bT l/\(cx l o a).em=(a.em&&nQ l):=by
  intro l
  induction l with
  |nil=>intro a _;simp[cx,bT,nQ]
  |cons r l ihl=>
   intro a hl
   have hr:=hl r (List.mem_cons_self ..)
   obtain⟨h1,h2⟩:=ih r hr (hks r hr) (o+a.sp.length)
   obtain⟨h3,h4⟩:=ihl (fM a (bC r (o+a.sp.length))) λx hx=>hl x (List.mem_cons_of_mem _ hx)
   simp only[cx,h3,h4,bT,nQ]
   simp only[fM,List.length_append,h1,h2,Bool.and_assoc]
   exact⟨by omega,trivial⟩
 obtain⟨a1,a2⟩:=hA ks (g0 false) λ_ h=>h
 obtain⟨s1,s2⟩:=hS ks (g0 true) λ_ h=>h
 rcases hn.known with rfl|rfl|rfl|rfl|rfl|rfl|rfl|rfl
 ·have:=len_nil (hn.leaf (by simp));subst this;simp[bC,g0,cnt,bT,Et]
 ·have:=len_nil (hn.leaf (by simp));subst this;simp[bC,AW,cnt,bT,Et]
 ·have:=len_nil (hn.leaf (by simp));subst this;simp[bC,AW,cnt,bT,Et]
 ·simp only[g0,List.length_nil,Nat.zero_add,Bool.true_and]at s1 s2
  simp[bC,g0,s1,s2,cnt,Et]
 ·simp only[g0,List.length_nil,Nat.zero_add,Bool.false_or]at a1 a2
  simp[bC,g0,a1,a2,cnt,Et]
 ·simp only[g0,List.length_nil,Nat.zero_add,Bool.false_or]at a1 a2
  simp[bC,AN,iu,g0,a1,cnt,Et]
 ·obtain⟨x,rfl⟩:=p8 (hn.one (by simp))
  simp only[g0,List.length_nil,Nat.zero_add,Bool.false_or]at a1 a2
  simp[bC,iu,g0,a1,a2,cnt,Et,qy,nQ]
 ·simp only[g0,List.length_nil,Nat.zero_add,Bool.false_or]at a1 a2
  simp[bC,AN,g0,a1,cnt,Et]
end Go.Pl
namespace Go.Pl
open Go.Ev
def aV(M:Nat)(f:Nat->Bool):List Bool:=(List.range M).map f
theorem cD(M:Nat)(f:Nat->Bool):(aV M f).length=M:=by simp[aV]
theorem pE{M i:Nat}(f:Nat->Bool)(h:i<(aV M f).length):(aV M f)[i]=f i:=by simp[aV]
theorem cf{M:Nat}{f g:Nat->Bool}(h:∀i,i<M->f i=g i):aV M f=aV M g:=List.map_congr_left λi hi=>h i (List.mem_range.1 hi)
theorem lP{M i:Nat}(f:Nat->Bool)(b:Bool):(aV M f).set i b=aV M λj=>if j=i then b else f j:=by
 refine List.ext_getElem (by simp[aV]) λj h1 h2=>?_
 have hj:j<M:=by simpa[aV]using h2
 rw[List.getElem_set]
 by_cases e:i=j
 ·subst e;simp[aV]
 ·have e':¬j=i:=λh=>e h.symm
  simp[aV,e,e']
theorem rB(M:Nat):List.replicate M false=aV M λ_=>false:=by
 refine List.ext_getElem (by simp[aV]) λj h1 h2=>?_
 simp[aV]
def gl(g:G)(n:Int)(p:Nat):Bool:=match g.sp[p]? with
 |some q=>decide (q.1<=n)&&decide (n<=q.2)
 |none=>false
def wv(g:G)(can:Nat->Bool)(n:Int)(p:Nat):Bool:=can p&&gl g n p
def JA(g:G)(at_:Nat->Bool)(q:Nat):Bool:=g.pr.any λx=>at_ x.1&&decide (x.2=q)
def oC(g:G)(s:(Nat->Bool)×(Nat->Bool))(n:Int):(Nat->Bool)×(Nat->Bool):=(JA g (wv g s.1 n),wv g s.1 n)
def ek(g:G)(path:List Int):(Nat->Bool)×(Nat->Bool):=path.foldl (oC g) (λp=>decide (p∈g.fi),λ_=>false)
def gY(g:G)(path:List Int):Bool:=bif path.isEmpty then g.em else g.la.any (ek g path).2
theorem vE{g:G}{path:List Int}{i:Nat}(h:i<path.length):ek g (path.take (i+1))=oC g (ek g (path.take i)) path[i]:=by
 unfold ek
 rw[List.take_add_one,List.getElem?_eq_getElem h,List.foldl_append]
 rfl
theorem nxF_iff{g:G}{f:Nat->Bool}{q:Nat}:JA g f q=true↔∃p,f p=true/\(p,q)∈g.pr:=by
 unfold JA
 rw[List.any_eq_true]
 constructor
 ·rintro⟨⟨p,q'⟩,h1,h2⟩
  simp only[Bool.and_eq_true,decide_eq_true_eq]at h2
  obtain⟨h2,rfl⟩:=h2
  exact⟨p,h2,h1⟩
 ·rintro⟨p,h1,h2⟩
  exact⟨(p,q),h2,by simp[h1]⟩
def eU(path:List Int):Bool:=path.all λn=>decide (0<=n)&&decide (n<=4294967295)
theorem MU:∀(r:Rx),cZ r=true->∀o,∀q∈(bC r o).sp,0<=q.1/\q.2<=4294967295:=by
 refine gB λk lo hi ks ih hw o=>?_
 obtain⟨hn,hks⟩:=well_iff.1 hw
 have hA:∀(l:List Rx) (a:G),(∀r∈l,r∈ks)->(∀q∈a.sp,0<=q.1/\q.2<=4294967295)->∀q∈(bP l o a).sp,0<=q.1/\q.2<=4294967295:=by
  intro l
  induction l with
  |nil=>intro a _ h;exact h
  |cons r l il=>
   intro a hl h
   refine il _ (λr hr=>hl r (List.mem_cons_of_mem _ hr)) λq hq=>?_
   rcases List.mem_append.1 hq with hq|hq
   ·exact h q hq
   ·exact ih r (hl r (List.mem_cons_self ..)) (hks r (hl r (List.mem_cons_self ..))) _ q hq
 have hS:∀(l:List Rx) (a:G),(∀r∈l,r∈ks)->(∀q∈a.sp,0<=q.1/\q.2<=4294967295)->∀q∈(cx l o a).sp,0<=q.1/\q.2<=4294967295:=by
  intro l
  induction l with
  |nil=>intro a _ h;exact h
  |cons r l il=>
   intro a hl h
   refine il _ (λr hr=>hl r (List.mem_cons_of_mem _ hr)) λq hq=>?_
   rcases List.mem_append.1 hq with hq|hq
   ·exact h q hq
   ·exact ih r (hl r (List.mem_cons_self ..)) (hks r (hl r (List.mem_cons_self ..))) _ q hq
 have h0:∀(e:Bool),∀q∈(g0 e).sp,0<=q.1/\q.2<=4294967295:=λe q hq=>by simp[g0]at hq
 unfold bC
 split
 ·rename_i h1
  have:=hn.rng h1
  intro q hq
  simp only[AW,List.mem_singleton]at hq
  subst hq
  exact⟨by omega,by omega⟩
 split
 ·intro q hq
  simp only[AW,List.mem_singleton]at hq
  subst hq
  exact⟨by decide,by decide⟩
 split
 ·exact hS _ _ (λ_ h=>h) (h0 _)
 split
 ·exact hA _ _ (λ_ h=>h) (h0 _)
 split
 ·exact hA _ _ (λ_ h=>h) (h0 _)
 split
 ·exact hA _ _ (λ_ h=>h) (h0 _)
 split
 ·exact hA _ _ (λ_ h=>h) (h0 _)
 ·exact h0 _
theorem EU{g:G}:∀(l:List Int) (s:(Nat->Bool)×(Nat->Bool)),(∀p,s.1 p=false)->(∀p,s.2 p=false)->∀p,(l.foldl (oC g) s).2 p=false
 |[],s,_,h2,p=>h2 p
 |n::l,s,h1,h2,p=>by
  have ha:∀p,(oC g s n).2 p=false:=λp=>by show(s.1 p&&_)=false;rw[h1];rfl
  refine EU l (oC g s n) (λq=>?_) ha p
  cases e:(oC g s n).1 q
  ·rfl
  ·obtain⟨p,hp,_⟩:=nxF_iff.1 (show JA g (wv g s.1 n) q=true from e)
   have:=ha p
   rw[show(oC g s n).2 p=wv g s.1 n p from rfl,hp]at this
   cases this
theorem Bh{r:Rx}(hw:cZ r=true){path:List Int}(h:eU path=false):gY (bC r 0) path=false:=by
 have:∃n∈path,¬(0<=n/\n<=4294967295):=by
  refine Classical.byContradiction λhn=>?_
  have:eU path=true:=by
   unfold eU
   rw[List.all_eq_true]
   intro n hm
   have:=Classical.byContradiction λhq=>hn ⟨n,hm,hq⟩
   simp[this.1,this.2]
  rw[h]at this;cases this
 obtain⟨n,hm,ho⟩:=this
 obtain⟨l1,l2,rfl⟩:=List.append_of_mem hm
 unfold gY
 have he:(l1++n::l2).isEmpty=false:=by cases l1<;>rfl
 rw[he]
 show(bC r 0).la.any _=false
 rw[List.any_eq_false]
 intro p hp
 have hh:∀p,gl (bC r 0) n p=false:=λp=>by
  unfold gl
  split
  ·rename_i q hq
   have:=MU r hw 0 q (List.mem_of_getElem? hq)
   by_cases h1:q.1<=n
   ·have:¬n<=q.2:=by omega
    simp[this]
   ·simp[h1]
  ·rfl
 have ha:∀(s:(Nat->Bool)×(Nat->Bool)) p,(oC (bC r 0) s n).2 p=false:=λs p=>by show(_&&gl _ n p)=false;rw[hh,Bool.and_false]
 have:(ek (bC r 0) (l1++n::l2)).2 p=false:=by
  unfold ek
  rw[List.foldl_append,List.foldl_cons]
  refine EU l2 _ (λq=>?_) (ha _) p
  cases e:(oC (bC r 0) (List.foldl (oC (bC r 0)) (λp=>decide (p∈(bC r 0).fi),λ_=>false) l1) n).1 q
  ·rfl
  ·obtain⟨p,hp,_⟩:=nxF_iff.1 (show JA _ _ q=true from e)
   have:=ha (List.foldl (oC (bC r 0)) (λp=>decide (p∈(bC r 0).fi),λ_=>false) l1) p
   rw[show(oC (bC r 0) (List.foldl (oC (bC r 0)) (λp=>decide (p∈(bC r 0).fi),λ_=>false) l1) n).2 p=wv _ _ n p from rfl,hp]at this
   cases this
 simp[this]
end Go.Pl
namespace Go.Pl
open Go Go.Ev
def jR(g:G):Option Nat->Nat
 |none=>bo g.fi
 |some b=>bo ((List.range g.sp.length).flatMap λk=>if b.testBit k then xP g.pr k else [])
def qx(g:G)(a:Int):Nat:=bo ((List.range g.sp.length).filter (gl g a))
def ce(g:G)(x:Option Nat)(a:Int):Option Nat:=some (jR g x&&&qx g a)
def jQ(g:G):Option Nat->Bool
 |none=>g.em
 |some b=>b&&&bo g.la != 0
def nj(l:List (Int×Int)):List Int:=0::l.flatMap λp=>p.1::(if p.2<4294967295 then [p.2+1]else [])
theorem Hg{g:G}(h:Lie 0 g)(x:Option Nat):jR g x<2^g.sp.length:=by
 cases x with
 |none=>exact eF λp hp=>by have:=h.fi p hp;omega
 |some b=>
  refine eF λp hp=>?_
  obtain⟨k,hk,hp⟩:=List.mem_flatMap.1 hp
  split at hp
  ·have:=h.pr _ _ (fol_mem.1 hp);omega
  ·cases hp
theorem Mb(g:G)(a:Int):qx g a<2^g.sp.length:=eF λp hp=>by
 have:=(List.mem_filter.1 hp).1
 exact List.mem_range.1 this
theorem E9{g:G}(h:Lie 0 g)(x:Option Nat)(a:Int):jR g x&&&qx g a<2^g.sp.length:=Nat.lt_of_le_of_lt Nat.and_le_left (Hg h x)
theorem L2{g:G}{n:Int}{p:Nat}(h:gl g n p=true):p<g.sp.length:=by
 unfold gl at h
 split at h
 ·rename_i q hq;exact(List.getElem?_eq_some_iff.1 hq).1
 ·cases h
theorem uu(g:G)(a:Int)(p:Nat):(qx g a).testBit p=gl g a p:=by
 unfold qx
 rw[cj]
 cases e:gl g a p
 ·exact decide_eq_false λhm=>by rw[(List.mem_filter.1 hm).2]at e;cases e
 ·exact decide_eq_true (List.mem_filter.2 ⟨List.mem_range.2 (L2 e),e⟩)
theorem Iy(g:G)(q:Nat):(jR g none).testBit q=(ek g []).1 q:=by
 show(bo g.fi).testBit q=decide (q∈g.fi)
 rw[cj]
theorem AI{g:G}(h:Lie 0 g)(b:Nat)(q:Nat):(jR g (some b)).testBit q=JA g b.testBit q:=by
 show(bo _).testBit q=_
 rw[cj]
 cases e:JA g b.testBit q
 ·refine decide_eq_false λhm=>?_
  obtain⟨k,hk,hp⟩:=List.mem_flatMap.1 hm
  split at hp
  ·rename_i hb
   have:=nxF_iff.2 ⟨k,hb,fol_mem.1 hp⟩
   rw[this]at e;cases e
  ·cases hp
 ·obtain⟨p,h1,h2⟩:=nxF_iff.1 e
  refine decide_eq_true (List.mem_flatMap.2 ⟨p,List.mem_range.2 (by have:=h.pr p q h2;omega),?_⟩)
  rw[if_pos h1]
  exact fol_mem.2 h2
theorem Ja{g:G}(h:Lie 0 g):∀(w:List Int),(∀q,(jR g (w.foldl (ce g) none)).testBit q=(ek g w).1 q)/\(w≠[]->∃b,w.foldl (ce g) none=some b/\∀p,b.testBit p=(ek g w).2 p):=by
 intro w
 rw[<-List.reverse_reverse w]
 induction w.reverse with
 |nil=>exact⟨Iy g,λh=>absurd rfl h⟩
 |cons v l ih=>
  rw[List.reverse_cons,List.foldl_append,List.foldl_cons,List.foldl_nil]
  have e2:ek g (l.reverse++[v])=oC g (ek g l.reverse) v:=by unfold ek;rw[List.foldl_append];rfl
  have hb:∀p,(jR g (l.reverse.foldl (ce g) none)&&&qx g v).testBit p=(ek g (l.reverse++[v])).2 p:=λp=>by
   rw[e2,Nat.testBit_and,ih.1,uu];rfl
  refine⟨λq=>?_,λ_=>⟨_,rfl,hb⟩⟩
  show(jR g (some _)).testBit q=_
  rw[AI h,show JA g (jR g (l.reverse.foldl (ce g) none)&&&qx g v).testBit q=JA g (ek g (l.reverse++[v])).2 q from by rw[show(jR g (l.reverse.foldl (ce g) none)&&&qx g v).testBit=(ek g (l.reverse++[v])).2 from funext hb],e2]
  rfl
theorem AB(g:G)(b:Nat):jQ g (some b)=g.la.any b.testBit:=by
 show(b&&&bo g.la != 0)=_
 cases e:g.la.any b.testBit
 ·have:b&&&bo g.la=0:=Nat.eq_of_testBit_eq λi=>by
   rw[Nat.testBit_and,cj,Nat.zero_testBit]
   by_cases hi:i∈g.la
   ·have:=List.any_eq_false.1 e i hi
    simp[this]
   ·simp[hi]
  rw[this];rfl
 ·obtain⟨p,hp,hb⟩:=List.any_eq_true.1 e
  have:b&&&bo g.la≠0:=λh0=>by
   have h1:(b&&&bo g.la).testBit p=true:=by rw[Nat.testBit_and,cj,hb];simp[hp]
   rw[h0,Nat.zero_testBit]at h1;cases h1
  simpa using this
theorem JE{g:G}(h:Lie 0 g)(w:List Int):jQ g (w.foldl (ce g) none)=gY g w:=by
 unfold gY
 cases w with
 |nil=>rfl
 |cons v w=>
  obtain⟨b,h1,h2⟩:=(Ja h (v::w)).2 (by simp)
  rw[h1,AB,show b.testBit=(ek g (v::w)).2 from funext h2]
  rfl
theorem Ka{g:G}(hg:∀q∈g.sp,0<=q.1/\q.2<=4294967295){a v:Int}(hav:a<=v)(hv:v<=4294967295)(hall:∀x∈nj g.sp,x<=v->x<=a)(p:Nat):gl g v p=gl g a p:=by
 unfold gl
 cases e:g.sp[p]? with
 |none=>rfl
 |some q=>
  have hm:=List.mem_of_getElem? e
  have h1:q.1∈nj g.sp:=List.mem_cons_of_mem _ (List.mem_flatMap.2 ⟨q,hm,List.mem_cons_self ..⟩)
  have h2:q.2<4294967295->q.2+1∈nj g.sp:=λh=>List.mem_cons_of_mem _ (List.mem_flatMap.2 ⟨q,hm,List.mem_cons_of_mem _ (by rw[if_pos h];simp)⟩)
  have h3:=hall _ h1
  have h4:=hg q hm
  simp only
  have e1:decide (q.1<=v)=decide (q.1<=a):=decide_eq_decide.2 ⟨λh=>h3 h,λh=>by omega⟩
  have e2:decide (v<=q.2)=decide (a<=q.2):=decide_eq_decide.2 ⟨λh=>by omega,λh=>by
   by_cases hq:q.2<4294967295
   ·have:=hall _ (h2 hq)
    apply Classical.byContradiction
    intro hn
    have:=this (by omega)
    omega
   ·omega⟩
  rw[e1,e2]
theorem Jn{g:G}(hg:∀q∈g.sp,0<=q.1/\q.2<=4294967295){a v:Int}(hav:a<=v)(hv:v<=4294967295)(hall:∀x∈nj g.sp,x<=v->x<=a)(x:Option Nat):ce g x v=ce g x a:=by
 unfold ce
 have:qx g v=qx g a:=Nat.eq_of_testBit_eq λi=>by rw[uu,uu];exact Ka hg hav hv hall i
 rw[this]
theorem LH{g:G}(hg:∀q∈g.sp,0<=q.1/\q.2<=4294967295)(hlo:∀q∈g.sp,q.1<=q.2):∀x∈nj g.sp,0<=x/\x<=4294967295:=by
 intro x hx
 rcases List.mem_cons.1 hx with rfl|hx
 ·omega
 obtain⟨q,hq,hx⟩:=List.mem_flatMap.1 hx
 have h1:=hg q hq
 have h2:=hlo q hq
 rcases List.mem_cons.1 hx with rfl|hx
 ·omega
 ·split at hx
  ·simp at hx;omega
  ·cases hx
theorem tP(l:List (Int×Int)):(nj l).length<=2*l.length+1:=by
 unfold nj
 rw[List.length_cons]
 have:∀m:List (Int×Int),(m.flatMap λp=>p.1::(if p.2<4294967295 then [p.2+1]else [])).length<=2*m.length:=by
  intro m
  induction m with
  |nil=>simp
  |cons q m ih=>
   rw[List.flatMap_cons,List.length_append,List.length_cons,List.length_cons]
   split
   ·simp only[List.length_cons,List.length_nil];omega
   ·simp only[List.length_nil];omega
 have:=this l
 omega
theorem Oi:∀(r:Rx),cZ r=true->∀o,∀q∈(bC r o).sp,q.1<=q.2:=by
 refine gB λk lo hi ks ih hw o=>?_
 obtain⟨hn,hks⟩:=well_iff.1 hw
 have hA:∀(l:List Rx) (a:G),(∀r∈l,r∈ks)->(∀q∈a.sp,q.1<=q.2)->∀q∈(bP l o a).sp,q.1<=q.2:=by
  intro l
  induction l with
  |nil=>intro a _ h;exact h
  |cons r l il=>
   intro a hl h
   refine il _ (λr hr=>hl r (List.mem_cons_of_mem _ hr)) λq hq=>?_
   rcases List.mem_append.1 hq with hq|hq
   ·exact h q hq
   ·exact ih r (hl r (List.mem_cons_self ..)) (hks r (hl r (List.mem_cons_self ..))) _ q hq
 have hS:∀(l:List Rx) (a:G),(∀r∈l,r∈ks)->(∀q∈a.sp,q.1<=q.2)->∀q∈(cx l o a).sp,q.1<=q.2:=by
  intro l
  induction l with
  |nil=>intro a _ h;exact h
  |cons r l il=>
   intro a hl h
   refine il _ (λr hr=>hl r (List.mem_cons_of_mem _ hr)) λq hq=>?_
   rcases List.mem_append.1 hq with hq|hq
   ·exact h q hq
   ·exact ih r (hl r (List.mem_cons_self ..)) (hks r (hl r (List.mem_cons_self ..))) _ q hq
 have h0:∀(e:Bool),∀q∈(g0 e).sp,q.1<=q.2:=λe q hq=>by simp[g0]at hq
 unfold bC
 split
 ·rename_i h1
  have:=hn.rng h1
  intro q hq
  simp only[AW,List.mem_singleton]at hq
  subst hq
  exact this.2.1
 split
 ·intro q hq
  simp only[AW,List.mem_singleton]at hq
  subst hq
  show(0:Int)<=4294967295
  decide
 split
 ·exact hS _ _ (λ_ h=>h) (h0 _)
 split
 ·exact hA _ _ (λ_ h=>h) (h0 _)
 split
 ·exact hA _ _ (λ_ h=>h) (h0 _)
 split
 ·exact hA _ _ (λ_ h=>h) (h0 _)
 split
 ·exact hA _ _ (λ_ h=>h) (h0 _)
 ·exact h0 _
end Go.Pl
namespace Go.Proofs.Ytbpdbooalkkenaa
open Go Go.Av Go.Ev Go.Pl
section
variable {κ:Type} [DecidableEq κ]
theorem EC{L:List κ}{x:κ}(h:x∈L):L[pos L x]? =some x:=by
 have hp:=pos_lt.1 h
 unfold pos at hp⊢
 rw[List.getElem?_eq_getElem hp,List.getElem_idxOf]
variable (f:κ->Int->κ) (s0:κ) (ls:List Int) (acc:κ->Bool) (L:List κ)
def II:DF:=(ls,L.map λx=>ls.map λc=>(pos L (f x c):Int),L.map acc,0,())
structure ExOk:Prop where
 st:b9 ls
 cl:∀x∈L,∀c∈ls,f x c∈L
 hd:L[0]? =some s0
 same:∀x v (h:fb ls v<ls.length),0<=v->v<=4294967295->f x v=f x ls[fb ls v]
variable {f s0 ls acc L}
theorem NT(h:ExOk f s0 ls L):WF (II f ls acc L):=by
 have h0:=(List.getElem?_eq_some_iff.1 h.hd).1
 have hn:(II f ls acc L).2.1.length=L.length:=by simp[II]
 refine⟨h.st,⟨by omega,by simp[II]⟩,λr hr=>?_,⟨Int.le_refl _,by rw[hn];show(0:Int)<_;omega⟩,λr hr t ht=>?_⟩
 ·obtain⟨x,_,rfl⟩:=List.mem_map.1 hr
  simp[II]
 ·obtain⟨x,hx,rfl⟩:=List.mem_map.1 hr
  obtain⟨c,hc,rfl⟩:=List.mem_map.1 ht
  have:=pos_lt.1 (h.cl x hx c hc)
  rw[hn];omega
theorem LR(h:ExOk f s0 ls L){x:κ}(hx:x∈L){v:Int}(hv:0<=v/\v<=4294967295):bE (II f ls acc L) (pos L x:Int) v=(pos L (f x v):Int)/\f x v∈L:=by
 obtain⟨h1,h2,h3⟩:=nm h.st hv.1
 have e:=h.same x v h1 hv.1 hv.2
 refine⟨?_,by rw[e];exact h.cl x hx _ (List.getElem_mem h1)⟩
 rw[iC]
 show a9 (II f ls acc L) (pos L x:Int) (fb ls v)=_
 have e2:L[pos L x]? =some x:=EC hx
 unfold a9 II
 simp only[Int.toNat_natCast,List.getD_eq_getElem?_getD,List.getElem?_map,e2,Option.map_some,Option.getD_some,List.getElem?_eq_getElem h1]
 rw[<-e]
theorem J6(h:ExOk f s0 ls L):∀(w:List Int) (x:κ),x∈L->Valid w->w.foldl (bE (II f ls acc L)) (pos L x:Int)=(pos L (w.foldl f x):Int)/\w.foldl f x∈L
 |[],x,hx,_=>⟨rfl,hx⟩
 |v::w,x,hx,hw=>by
  obtain⟨h1,h2⟩:=LR (acc:=acc) h hx (hw v (List.mem_cons_self ..))
  rw[List.foldl_cons,List.foldl_cons,h1]
  exact J6 h w _ h2 λu hu=>hw u (List.mem_cons_of_mem _ hu)
theorem LQ(h:ExOk f s0 ls L){w:List Int}(hw:Valid w):b6 (II f ls acc L) (dx (II f ls acc L) w)=acc (w.foldl f s0):=by
 have hs:s0∈L:=List.mem_of_getElem? h.hd
 have hp0:pos L s0=0:=(vz (Nat.zero_le _) (λj z hj=>by omega) (λz hz=>by rw[h.hd]at hz;cases hz;rfl)).symm
 obtain⟨h1,h2⟩:=J6 (acc:=acc) h w _ hs hw
 rw[hp0]at h1
 have e0:dx (II f ls acc L) w=(pos L (w.foldl f s0):Int):=h1
 rw[e0]
 have e:L[pos L (w.foldl f s0)]? =some (w.foldl f s0):=EC h2
 show(L.map acc).getD _ false=_
 simp only[Int.toNat_natCast,List.getD_eq_getElem?_getD,List.getElem?_map,e,Option.map_some,Option.getD_some]
end
theorem G8:∀{c l:List Int},Asc c->(∀x,x∈c->x∈l)->c.length<=l.length:=fun{c l} hc hm=>
 gM c l (List.nodup_iff_pairwise_ne.2 (List.Pairwise.imp (λh=>by omega) hc)) hm
structure GOk(g:G):Prop where
 lie:Lie 0 g
 inn:∀q∈g.sp,0<=q.1/\q.2<=4294967295
 le:∀q∈g.sp,q.1<=q.2
 n64:g.sp.length<=64
theorem Co{r:Rx}(hw:cZ r=true)(hs:sz r<=64):GOk (bC r 0):=
 ⟨ee r 0,MU r hw 0,Oi r hw 0,by rw[(cQ r hw 0).1];exact Nat.le_trans (uY r) hs⟩
noncomputable def bK(g:G):List Int:=qO (nj g.sp)
theorem um(g:G):Asc (bK g)/\∀x,x∈bK g↔x∈nj g.sp:=by
 obtain⟨c,hc,hm⟩:=sY (nj g.sp)
 unfold bK
 rw[rD hc hm]
 exact⟨hc,hm⟩
theorem ra{g:G}(h:GOk g):(bK g).length<=129:=by
 obtain⟨h1,h2⟩:=um g
 have:=G8 h1 λx hx=>(h2 x).1 hx
 have:=tP g.sp
 have:=h.n64
 omega
theorem HE{g:G}(h:GOk g):∀v∈bK g,0<=v/\v<=4294967295:=λv hv=>LH h.inn h.le v ((um g).2 v |>.1 hv)
theorem wd{g:G}(h:GOk g):b9 (bK g):=by
 obtain⟨hasc,hm⟩:=um g
 have h0:(0:Int)∈bK g:=(hm 0).2 (List.mem_cons_self ..)
 have hp:=List.length_pos_of_mem h0
 refine⟨hp,λh'=>?_,λi h'=>BX hasc (by omega) h',λv hv=>(HE h v hv).2⟩
 obtain⟨i,hi,e⟩:=List.mem_iff_getElem.1 h0
 have h1:=(HE h _ (List.getElem_mem h')).1
 rcases Nat.eq_zero_or_pos i with rfl|hi0
 ·exact e
 ·have:=BX hasc hi0 hi;omega
theorem IJ{g:G}(h:GOk g)(x:Option Nat)(v:Int)(hc:fb (bK g) v<(bK g).length)(hv0:0<=v)(hv:v<=4294967295):ce g x v=ce g x (bK g)[fb (bK g) v]:=by
 obtain⟨hasc,hm⟩:=um g
 obtain⟨h1,h2,h3⟩:=nm (wd h) hv0
 refine Jn h.inn h2 hv (λy hy hyv=>?_) x
 obtain⟨j,hj,rfl⟩:=List.mem_iff_getElem.1 ((hm y).2 hy)
 rcases Nat.lt_or_ge (fb (bK g) v) j with hl|hge
 ·have:=h3 j hj hl;omega
 ·rcases Nat.lt_or_eq_of_le hge with hl|he
  ·have:=BX hasc hl h1;omega
  ·simp only[he];exact Int.le_refl _
abbrev BI(lim:Nat):List (Option Nat)->Option Nat->Bool:=λL _=>decide (lim<=L.length)
noncomputable abbrev bY(g:G)(i:Nat):=bk (ce g) none (bK g) i
noncomputable abbrev jC(g:G)(i:Nat):=gf (ce g) none (bK g) (BI 4096) i
theorem I4{m:Nat}{L:List (Option Nat)}(h:Quiet (BI (m+1)) L):L.length<=m+1:=by
 apply Classical.byContradiction
 intro hn
 have h1:=h m _ (List.getElem?_eq_getElem (show m+1<L.length by omega))
 have h2:decide (m+1<=(L.take (m+1)).length)=false:=h1
 rw[List.length_take]at h2
 have:=of_decide_eq_false h2
 omega
theorem vA{L:List (Option Nat)}(h:Quiet (BI 4096) L):L.length<=4096:=I4 (m:=4095) h
theorem MG:∃n:Nat,n=4097:=⟨_,rfl⟩
noncomputable def NL:Nat:=Classical.choose MG
theorem G4:NL=4097:=Classical.choose_spec MG
noncomputable def pP(g:G):List (Option Nat):=(bY g NL).1
noncomputable def dN(g:G):DF:=II (ce g) (bK g) (jQ g) (pP g)
theorem Df{g:G}{S}(h:jC g NL= .inl S):S=bY g NL/\(pP g).length<=4096:=by
 obtain⟨h1,h2⟩:=(i5 NL).1 S h
 exact⟨h1,by have:=vA h2;rw[h1]at this;exact this⟩
theorem G5{g:G}(hg:GOk g)(h:(pP g).length<=4096):ExOk (ce g) none (bK g) (pP g):=
 ⟨wd hg,λx hx c hc=>nY NL x (by rw[List.take_of_length_le (by show(pP g).length<=NL;rw[G4];omega)];exact hx) c hc,(cI NL).head,λx v hc h0 h1=>IJ hg x v hc h0 h1⟩
theorem NQ{g:G}(hg:GOk g)(h:(pP g).length<=4096):WF (dN g):=NT (G5 hg h)
theorem LM{g:G}(hg:GOk g)(h:(pP g).length<=4096){w:List Int}(hw:Valid w):b6 (dN g) (dx (dN g) w)=gY g w:=by
 rw[<-JE hg.lie w]
 exact LQ (G5 hg h) hw
theorem Hk{g:G}(h:(pP g).length<=4096):(dN g).2.1=jT (bY g NL).2.2:=by
 show((pP g).map λx=>(bK g).map λc=>(pos (pP g) (ce g x c):Int))=_
 rw[rN NL NL (Nat.le_refl _),List.take_of_length_le (by show(pP g).length<=NL;rw[G4];omega)]
 unfold jT
 rw[List.map_map]
 refine List.map_congr_left λx _=>?_
 show _=((bK g).map λc=>pos (pP g) (ce g x c)).map (fun(k:Nat)=>(k:Int))
 rw[List.map_map];rfl
abbrev NK:Type:=Bool×(Int×Unit)
def cu:Option Nat->NK
 |none=>(true,0,())
 |some b=>(false,(b:Int),())
theorem JX{x y:Option Nat}:cu x=cu y↔x=y:=by
 constructor
 ·intro h
  cases x<;>cases y
  ·rfl
  ·cases h
  ·cases h
  ·rename_i a b
   have e:(a:Int)=(b:Int):=by simpa[cu]using h
   have e:a=b:=Int.ofNat_inj.1 e
   rw[e]
 ·rintro rfl;rfl
theorem Ho(x y:Option Nat):wB (pr [tB,tQ]) (cu x) (cu y)=decide (x=y):=by
 have h:∀a b:NK,wB (pr [tB,tQ]) a b=decide (a=b):=by
  rintro⟨x1,x2,_⟩ ⟨y1,y2,_⟩
  show((x1==y1)&&((x2==y2)&&true))=_
  by_cases h1:x1=y1<;>by_cases h2:x2=y2<;>simp[h1,h2]
 rw[h]
 exact decide_eq_decide.2 JX
def AZ:Nat->List (Option Nat)->List (NK×Int)
 |_,[]=>[]
 |k,x::l=>(cu x,(k:Int))::AZ (k+1) l
theorem HA(y:Option Nat):∀(L:List (Option Nat)) (k:Nat),fJ (pr [tB,tQ]) tI (AZ k L) (cu y)=if y∈L then some (((k+pos L y:Nat):Int))else none
 |[],k=>by simp[AZ,fJ]
 |x::L,k=>by
  have ih:=HA y L (k+1)
  simp only[AZ,fJ]
  rw[Ho y x,ih]
  by_cases h:y=x
  ·subst h;simp[pos_eq]
  ·have h':x≠y:=λe=>h e.symm
   rw[decide_eq_false h]
   have e:pos (x::L) y=pos L y+1:=yf h'
   simp only[cond_false,List.mem_cons,h,false_or,e]
   split
   ·congr 1;omega
   ·rfl
theorem HC(y:Option Nat):∀(L:List (Option Nat)) (k:Nat),y∉L->jS (pr [tB,tQ]) tI (AZ k L) (cu y) (((k+L.length:Nat):Int))=AZ k (L++[y])
 |[],k,_=>by simp[AZ,jS]
 |x::L,k,h=>by
  have h1:y≠x:=λe=>h (by simp[e])
  have h2:y∉L:=λe=>h (by simp[e])
  have ih:=HC y L (k+1) h2
  simp only[List.cons_append,AZ,jS]
  rw[Ho y x,decide_eq_false h1]
  simp only[cond_false,List.length_cons]
  rw[show k+(L.length+1)=k+1+L.length by omega,ih]
theorem HB:∀(L:List (Option Nat)) (k:Nat),(AZ k L).length=L.length
 |[],_=>rfl
 |_::L,k=>by simp[AZ,HB L (k+1)]
end Go.Proofs.Ytbpdbooalkkenaa
namespace Go.Proofs.Ytbpdbooalkkenaa
open Go Go.Av Go.Ev Go.Pl
theorem BP(k n:Int):aP tbl mD [.d tI k,.d tI n] [] dO (nw k,eJ k n,()):=by
 refine aT rfl (aU CY rfl (λO m=>C5 O m k n) ?_)
 unfold tK
 by_cases h0:k=0
 ·subst h0;exact cE (λ_=>rfl) rfl
 by_cases h1:k=1
 ·subst h1;exact cE (λ_=>rfl) rfl
 by_cases h2:k=2
 ·subst h2;exact cE (λ_=>rfl) rfl
 by_cases h3:k=3
 ·subst h3;exact cE (λ_=>rfl) rfl
 by_cases h4:k=4
 ·subst h4;exact cE (λ_=>rfl) rfl
 by_cases h5:k=5
 ·subst h5;exact cE (λ_=>rfl) rfl
 by_cases h6:k=6
 ·subst h6;exact cE (λ_=>rfl) rfl
 by_cases h7:k=7
 ·subst h7;exact cE (λ_=>rfl) rfl
 have e0:(k==(0:Int))=false:=by simpa using h0
 have e1:(k==(1:Int))=false:=by simpa using h1
 have e2:(k==(2:Int))=false:=by simpa using h2
 have e3:(k==(3:Int))=false:=by simpa using h3
 have e4:(k==(4:Int))=false:=by simpa using h4
 have e5:(k==(5:Int))=false:=by simpa using h5
 have e6:(k==(6:Int))=false:=by simpa using h6
 have e7:(k==(7:Int))=false:=by simpa using h7
 simp only[e0,e1,e2,e3,e4,e5,e6,e7]
 refine cE (λ_=>rfl) ?_
 simp only[nw,eJ,e0,e1,e2,e3,e4,e5,e6,e7]
 rfl
theorem tF(r:Rx):aP tbl jx [.d .rx r] [] dP (ep r.out.1 r.out.2.1 r.out.2.2.1 (r.out.2.2.2.1.length:Int),()):=by
 refine aT rfl (aU CZ rfl (λO m=>C6 O m r) ?_)
 unfold tL
 generalize r.out.1=k
 generalize r.out.2.1=lo
 generalize r.out.2.2.1=hi
 generalize(r.out.2.2.2.1.length:Int)=n
 refine ar (BP k n) ?_
 unfold ep
 cases nw k
 ·exact cE (λ_=>rfl) rfl
 cases e1:(k==(1:Int))
 ·have f1:(k != (1:Int))=true:=by simpa[bne]using e1
  rw[f1]
  cases(lo != (0:Int))<;>cases(hi != (0:Int))<;>cases eJ k n<;>exact cE (λ_=>rfl) rfl
 ·have f1:(k != (1:Int))=false:=by simpa[bne]using e1
  rw[f1]
  cases decide (lo<(0:Int))<;>cases decide (lo>hi)<;>cases decide (hi>(4294967295:Int))<;>cases eJ k n<;>exact cE (λ_=>rfl) rfl
theorem IS(k lo hi:Int)(n:Int)(hn:0<=n):ep k lo hi n=
 bif k==1 then(bif decide (lo<0)||decide (lo>hi)||decide (hi>4294967295)then 5 else bif decide (n>0)then 1 else 0)
 else bif !nw k then 15 else bif !eJ k n then 1 else bif lo != 0||hi != 0 then 1 else 0:=by
 unfold ep
 cases e1:(k==(1:Int))
 ·have f1:(k != (1:Int))=true:=by simpa[bne]using e1
  rw[f1]
  cases nw k<;>cases(lo != (0:Int))<;>cases(hi != (0:Int))<;>cases eJ k n<;>rfl
 ·have hk:k=1:=by simpa using e1
  subst hk
  have:eJ 1 n= !decide (n>0):=by
   show(n==0)=_
   by_cases h:n=0
   ·subst h;rfl
   ·rw[show(n==0)=false by simpa using h,decide_eq_true (show n>0 by omega)];rfl
  rw[this]
  cases decide (lo<(0:Int))<;>cases decide (lo>hi)<;>cases decide (hi>(4294967295:Int))<;>cases decide (n>0)<;>rfl
theorem qC(r:Rx):aP tbl gq [.d .rx r] [] dv (ep r.out.1 r.out.2.1 r.out.2.2.1 (r.out.2.2.2.1.length:Int),()):=by
 refine aT rfl (aU yH rfl (λO m=>yR O m r) ?_)
 unfold qG
 have hn:(0:Int)<=(r.out.2.2.2.1.length:Int):=by omega
 generalize(r.out.2.2.2.1.length:Int)=n at hn
 rw[IS _ _ _ _ hn]
 generalize r.out.1=k
 generalize r.out.2.1=lo
 generalize r.out.2.2.1=hi
 by_cases h1:k=1
 ·subst h1
  cases decide (lo<(0:Int))<;>cases decide (lo>hi)<;>cases decide (hi>(4294967295:Int))<;>cases decide (n>0)<;>exact cE (λ_=>rfl) rfl
 have e1:(k==(1:Int))=false:=by simpa using h1
 rw[e1]
 have h02:∀m:Int,0<=m->(m==0)= !decide (m>0):=λm hm=>by
  by_cases h:m=0
  ·subst h;rfl
  ·rw[show(m==0)=false by simpa using h,decide_eq_true (show m>0 by omega)];rfl
 by_cases h0:k=0
 ·subst h0
  rw[show eJ 0 n= !decide (n>0)from h02 n hn]
  cases decide (n>0)<;>cases(lo != (0:Int))<;>cases(hi != (0:Int))<;>exact cE (λ_=>rfl) rfl
 by_cases h2:k=2
 ·subst h2
  rw[show eJ 2 n= !decide (n>0)from h02 n hn]
  cases decide (n>0)<;>cases(lo != (0:Int))<;>cases(hi != (0:Int))<;>exact cE (λ_=>rfl) rfl
 by_cases h3:k=3
 ·subst h3
  have:eJ 3 n= !decide (n<2):=by
   show decide (n>=2)=_
   by_cases h:n<2
   ·rw[decide_eq_true h,decide_eq_false (show ¬n>=2 by omega)];rfl
   ·rw[decide_eq_false h,decide_eq_true (show n>=2 by omega)];rfl
  rw[this]
  cases decide (n<2)<;>cases(lo != (0:Int))<;>cases(hi != (0:Int))<;>exact cE (λ_=>rfl) rfl
 by_cases h4:k=4
 ·subst h4
  show Wp _ _
  have:eJ 4 n= !(n==1):=rfl
  rw[this]
  cases(n==(1:Int))<;>cases(lo != (0:Int))<;>cases(hi != (0:Int))<;>exact cE (λ_=>rfl) rfl
 have hn1:∀m:Int,(m==1)= !(m != 1):=λm=>by simp[bne]
 by_cases h5:k=5
 ·subst h5
  rw[show eJ 5 n= !(n != 1)from hn1 n]
  cases(n != (1:Int))<;>cases(lo != (0:Int))<;>cases(hi != (0:Int))<;>exact cE (λ_=>rfl) rfl
 by_cases h6:k=6
 ·subst h6
  rw[show eJ 6 n= !(n != 1)from hn1 n]
  cases(n != (1:Int))<;>cases(lo != (0:Int))<;>cases(hi != (0:Int))<;>exact cE (λ_=>rfl) rfl
 by_cases h7:k=7
 ·subst h7
  rw[show eJ 7 n= !(n != 1)from hn1 n]
  cases(n != (1:Int))<;>cases(lo != (0:Int))<;>cases(hi != (0:Int))<;>exact cE (λ_=>rfl) rfl
 have e0:(k==(0:Int))=false:=by simpa using h0
 have e2:(k==(2:Int))=false:=by simpa using h2
 have e3:(k==(3:Int))=false:=by simpa using h3
 have e4:(k==(4:Int))=false:=by simpa using h4
 have e5:(k==(5:Int))=false:=by simpa using h5
 have e6:(k==(6:Int))=false:=by simpa using h6
 have e7:(k==(7:Int))=false:=by simpa using h7
 simp only[nw,e0,e1,e2,e3,e4,e5,e6,e7]
 exact cE (λ_=>rfl) rfl
theorem qf{k lo up:Int}{ks:List Rx}{M:Nat}(h:sz (.mk k lo up ks)<=M):ks.length<M/\∀r∈ks,sz r<M:=by
 simp only[sz]at h
 have h1:=Ik ks
 exact⟨by omega,λr hr=>by have:=Il hr;omega⟩
theorem tA:∀(r:Rx),IX r->∀(L:Nat),L<=1000000->aP tbl gI [.d .rx r,.d tI (L:Int)] [] eM (((min (sz r) (L+1):Nat):Int),()):=by
 refine gB λk lo up ks ih hok L hL=>?_
 obtain⟨_,_,_,hlen,hks⟩:=hok
 have hlen:ks.length<=9223372036854775807:=hlen
 have hks:=(vw ks).1 hks
 refine aT rfl (aU CW rfl (λO m=>C3 O m (.mk k lo up ks) (L:Int)) ?_)
 unfold tH
 have hsz:∀i,1+qz (ks.take i)<=sz (.mk k lo up ks):=λi=>by
  simp only[sz]
  have:qz ks=qz (ks.take i)+qz (ks.drop i):=by rw[<-CU,List.take_append_drop]
  omega
 refine ae (aJ (N:=ks.length) (I:=λi s=>s=(((min (1+qz (ks.take i)) (L+1):Nat):Int),(i:Int),())) (by simp[qz]) (λi s hi hs=>?_) λs hs=>?_)
 ·subst hs
  unfold na
  refine bc hi (au hi ?_)
  have hx:=hsz i
  refine aN (λh=>aa ?_) λh=>?_
  ·have h1:min (1+qz (ks.take i)) (L+1)=L+1:=by
    have:((min (1+qz (ks.take i)) (L+1):Nat):Int)>(L:Int):=by simpa using h
    omega
   have h2:min (sz (.mk k lo up ks)) (L+1)=L+1:=by omega
   refine aa ?_
   rw[h1,h2]
  ·have h1:1+qz (ks.take i)<=L:=by
    have:¬((min (1+qz (ks.take i)) (L+1):Nat):Int)>(L:Int):=by simpa using h
    omega
   have h2:min (1+qz (ks.take i)) (L+1)=1+qz (ks.take i):=by omega
   rw[h2]
   have hr:=List.getElem_mem hi
   have hc:=ih _ hr (hks _ hr) (L - (1+qz (ks.take i))) (by omega)
   have e1:IntKind.wrap .i64 ((L:Int) - ((1+qz (ks.take i):Nat):Int))=((L - (1+qz (ks.take i)):Nat):Int):=by
    rw[wrap_i64 (by omega) (by omega)];omega
   rw[e1]
   refine ar (by rw[km];exact hc) (aa ?_)
   have e2:qz (ks.take (i+1))=qz (ks.take i)+sz ks[i]:=by
    rw[List.take_add_one,List.getElem?_eq_getElem hi,CU];simp[qz]
   refine Prod.ext ?_ (Prod.ext (an hi hlen) rfl)
   show IntKind.wrap .i64 (((1+qz (ks.take i):Nat):Int)+((min (sz ks[i]) (L - (1+qz (ks.take i))+1):Nat):Int))=_
   rw[wrap_i64 (by omega) (by omega),e2]
   omega
 ·subst hs
  unfold na
  refine aQ (aa (aa ?_))
  rw[List.take_length]
  rfl
theorem BQ:∀(r:Rx),sz r<=1000000->aP tbl jy [.d .rx r] [] eP (cZ r,()):=by
 refine gB λk lo up ks ih hs=>?_
 obtain⟨hlen,hkid⟩:=qf hs
 refine aT rfl (aU C1 rfl (λO m=>C7 O m (.mk k lo up ks)) ?_)
 unfold tM
 refine ar (tF _) ?_
 show Wp _ _
 have hw:cZ (.mk k lo up ks)=(ep k lo up ks.length==0&&nM ks):=rfl
 refine aN (λh=>aa ?_) λh=>?_
 ·have:(ep k lo up ks.length==0)=false:=by
   have h:(ep k lo up ks.length != 0)=true:=h
   simpa[bne]using h
  rw[hw,this];rfl
 ·have h0:(ep k lo up ks.length==0)=true:=by
   have h:(ep k lo up ks.length != 0)=false:=h
   simpa[bne]using h
  rw[hw,h0,Bool.true_and]
  refine ae (mV (xs:=ks) (P:=λr=>cZ r=true) (e:=(false,())) (g:=()) (λi hi=>?_) ?_ (λhg=>?_) (λhb=>?_))
  ·unfold nf
   refine bc hi (au hi ?_)
   rw[km]
   have hr:=List.getElem_mem hi
   refine ar (ih ks[i] hr (by have:=hkid _ hr;omega)) (gT ?_ (by rw[an hi (by omega)]))
   show(!cZ ks[i])=true↔_
   simp
  ·unfold nf
   exact aQ (aa rfl)
  ·refine aa ?_
   rw[(kw ks).2 hg]
  ·refine aa ?_
   have:nM ks=false:=by
    cases hq:nM ks
    ·rfl
    ·exact absurd ((kw ks).1 hq) hb
   rw[this]
theorem sW:∀(r:Rx),sz r<=1000000->aP tbl d4 [.d .rx r] [] cd (cZ r,()):=by
 refine gB λk lo up ks ih hs=>?_
 obtain⟨hlen,hkid⟩:=qf hs
 refine aT rfl (aU tu rfl (λO m=>tx O m (.mk k lo up ks)) ?_)
 unfold m8
 refine ar (qC _) ?_
 show Wp _ _
 have hw:cZ (.mk k lo up ks)=(ep k lo up ks.length==0&&nM ks):=rfl
 refine aN (λh=>aa ?_) λh=>?_
 ·have:(ep k lo up ks.length==0)=false:=by
   have h:(ep k lo up ks.length != 0)=true:=h
   simpa[bne]using h
  rw[hw,this];rfl
 ·have h0:(ep k lo up ks.length==0)=true:=by
   have h:(ep k lo up ks.length != 0)=false:=h
   simpa[bne]using h
  rw[hw,h0,Bool.true_and]
  refine ae (mV (xs:=ks) (P:=λr=>cZ r=true) (e:=(false,())) (g:=()) (λi hi=>?_) ?_ (λhg=>?_) (λhb=>?_))
  ·unfold gp
   refine bc hi (au hi ?_)
   rw[km]
   have hr:=List.getElem_mem hi
   refine ar (ih ks[i] hr (by have:=hkid _ hr;omega)) (gT ?_ (by rw[an hi (by omega)]))
   show(!cZ ks[i])=true↔_
   simp
  ·unfold gp
   exact aQ (aa rfl)
  ·refine aa ?_
   rw[(kw ks).2 hg]
  ·refine aa ?_
   have:nM ks=false:=by
    cases hq:nM ks
    ·rfl
    ·exact absurd ((kw ks).1 hq) hb
   rw[this]
theorem rI{ks:List Rx}{lv c:Int}:∀{i:Nat},(h:i<ks.length)->(eV (ks.take i) lv c).2=0->eV (ks.take (i+1)) lv c=(let p:=qt ks[i] lv (eV (ks.take i) lv c).1;(p.1,p.2)):=by
 intro i
 induction ks generalizing c i with
 |nil=>intro h;simp at h
 |cons r ks ih=>
  intro h h0
  cases i with
  |zero=>
   simp only[List.take_zero,List.take_succ_cons,eV,List.getElem_cons_zero]
   split
   ·rfl
   ·rename_i hz
    have:(qt r lv c).2=0:=by simpa using hz
    exact Prod.ext rfl this.symm
  |succ i=>
   simp only[List.take_succ_cons,eV,List.getElem_cons_succ]at h0⊢
   split at h0
   ·rename_i hz;exact absurd h0 hz
   ·rename_i hz
    rw[if_neg hz,if_neg hz]
    exact ih (by simpa using h) h0
theorem t3{lv:Int}:∀{ks:List Rx} {c:Int} {i:Nat},(eV (ks.take i) lv c).2≠0->eV ks lv c=eV (ks.take i) lv c:=by
 intro ks
 induction ks with
 |nil=>intro c i h;simp[eV]at h
 |cons r ks ih=>
  intro c i h
  cases i with
  |zero=>simp[eV]at h
  |succ i=>
   simp only[List.take_succ_cons,eV]at h⊢
   split at h
   ·rename_i hz;rw[if_pos hz,if_pos hz]
   ·rename_i hz;rw[if_neg hz,if_neg hz];exact ih h
theorem uW:∀(r:Rx) (lv c:Int),0<=c->c<=64->c<=(qt r lv c).1/\(qt r lv c).1<=64:=by
 refine gB λk lo up ks ih lv c h0 h1=>?_
 have hs:∀(l:List Rx) (lv c:Int),(∀r∈l,r∈ks)->0<=c->c<=64->c<=(eV l lv c).1/\(eV l lv c).1<=64:=by
  intro l
  induction l with
  |nil=>intro lv c _ h0 h1;exact⟨Int.le_refl _,h1⟩
  |cons r l ihl=>
   intro lv c hl h0 h1
   have hr:=ih r (hl r (List.mem_cons_self ..)) lv c h0 h1
   simp only[eV]
   split
   ·exact hr
   ·have:=ihl lv (qt r lv c).1 (λx hx=>hl x (List.mem_cons_of_mem _ hx)) (by omega) hr.2
    omega
 simp only[qt]
 split
 ·exact⟨Int.le_refl _,h1⟩
 split
 ·exact⟨Int.le_refl _,h1⟩
 split
 ·exact⟨Int.le_refl _,h1⟩
 ·have:=hs ks (lv+1) (c+1) (λ_ h=>h) (by omega) (by omega)
  omega
theorem yZ:∀(r:Rx),sz r<=1000000->∀(lv c:Int),0<=lv->lv<=17->0<=c->c<=64->aP tbl hZ [.d .rx r,.d tI lv,.d tI c] [] cM ((qt r lv c).1,(qt r lv c).2,()):=by
 refine gB λk lo up ks ih hs lv c hl0 hl1 hc0 hc1=>?_
 obtain⟨hlen,hkid⟩:=qf hs
 refine aT rfl (aU z5 rfl (λO m=>Al O m (.mk k lo up ks) lv c) ?_)
 unfold su
 refine aN (λh=>aa ?_) λh=>?_
 ·have h:lv>16:=by simpa using h
  simp only[qt,if_pos h]
 have h1:¬lv>16:=by simpa using h
 refine aN (λh=>aa ?_) λh=>?_
 ·have h:c>=64:=by simpa using h
  simp only[qt,if_neg h1,if_pos h]
 have h2:¬c>=64:=by simpa using h
 refine ar (qC _) ?_
 show Wp _ _
 refine aN (λh=>aa ?_) λh=>?_
 ·have h:ep k lo up ks.length≠0:=by
   have h:(ep k lo up ks.length != 0)=true:=h
   simpa using h
  simp only[qt,if_neg h1,if_neg h2,if_pos h]
  rfl
 have h3:¬ep k lo up ks.length≠0:=by
  have h:(ep k lo up ks.length != 0)=false:=h
  simpa using h
 have ec:qt (.mk k lo up ks) lv c=eV ks (lv+1) (c+1):=by simp only[qt,if_neg h1,if_neg h2,if_neg h3]
 rw[ec,wrap_i64 (by omega) (by omega)]
 have hrange:∀i,(eV (ks.take i) (lv+1) (c+1)).2=0->0<=(eV (ks.take i) (lv+1) (c+1)).1/\(eV (ks.take i) (lv+1) (c+1)).1<=64:=by
  intro i
  induction i with
  |zero=>intro _;simp[eV];omega
  |succ i ihi=>
   intro h0
   by_cases hi:i<ks.length
   ·have hz:(eV (ks.take i) (lv+1) (c+1)).2=0:=Classical.byContradiction λhn=>by
     have:=t3 (ks:=ks.take (i+1)) (lv:=lv+1) (c:=c+1) (i:=i) (by rw[List.take_take,show min i (i+1)=i by omega];exact hn)
     rw[List.take_take,show min i (i+1)=i by omega]at this
     rw[this]at h0
     exact hn h0
    rw[rI hi hz]
    have hr:=ihi hz
    have:=uW ks[i] (lv+1) _ hr.1 hr.2
    exact⟨by show 0<=(qt ks[i] _ _).1;omega,this.2⟩
   ·rw[show ks.take (i+1)=ks.take i by rw[List.take_of_length_le (by omega),List.take_of_length_le (by omega)]]at h0⊢
    exact ihi h0
 refine ae (aJ (N:=ks.length) (I:=λi s=>s=((eV (ks.take i) (lv+1) (c+1)).1,(i:Int),())/\(eV (ks.take i) (lv+1) (c+1)).2=0) (by simp[eV]) (λi s hi hs=>?_) λs hs=>?_)
 ·obtain⟨rfl,hz⟩:=hs
  unfold lX
  refine bc hi (au hi ?_)
  rw[km,wrap_i64 (by omega) (by omega)]
  have hr:=List.getElem_mem hi
  have hrg:=hrange i hz
  refine ar (ih ks[i] hr (by have:=hkid _ hr;omega) (lv+1) _ (by omega) (by omega) hrg.1 hrg.2) ?_
  have ht:=rI hi hz
  refine aN (λh=>aa ?_) λh=>aa ?_
  ·have hn:(qt ks[i] (lv+1) (eV (ks.take i) (lv+1) (c+1)).1).2≠0:=by simpa using h
   have he:=t3 (ks:=ks) (lv:=lv+1) (c:=c+1) (i:=i+1) (by rw[ht];exact hn)
   refine aa ?_
   rw[he,ht]
  ·have hn:(qt ks[i] (lv+1) (eV (ks.take i) (lv+1) (c+1)).1).2=0:=by simpa using h
   refine⟨?_,by rw[ht];exact hn⟩
   rw[an hi (by omega),ht]
 ·obtain⟨rfl,hz⟩:=hs
  unfold lX
  refine aQ (aa (aa ?_))
  rw[List.take_length]at hz⊢
  rw[hz]
theorem za:∀(r:Rx),sz r<=1000000->∀(lv c:Int),0<=lv->lv<=17->0<=c->c<=64->∃s:Int,((qt r lv c).2=0->s=(qt r lv c).1)/\
 aP tbl dy [.d .rx r,.d tI lv,.ptr 0 0] [.box aX [.d tI c]] bw ((qt r lv c).2,s,()):=by
 refine gB λk lo up ks ih hs lv c hl0 hl1 hc0 hc1=>?_
 obtain⟨hlen,hkid⟩:=qf hs
 suffices h:∃x:Int×Int×Unit,(x.1=(qt (.mk k lo up ks) lv c).2/\((qt (.mk k lo up ks) lv c).2=0->x.2.1=(qt (.mk k lo up ks) lv c).1))/\aP tbl dy [.d .rx (.mk k lo up ks),.d tI lv,.ptr 0 0] [.box aX [.d tI c]] bw x by
  obtain⟨⟨e,s,_⟩,⟨he,h1⟩,h2⟩:=h
  have he:e=_:=he
  subst he
  exact⟨s,h1,h2⟩
 refine jA (sh:=bw) (λ_=>rfl) (aU uK rfl (λO m=>uN O m (.mk k lo up ks) lv c) ?_)
 unfold nU
 refine aN (λh=>aa ⟨_,rfl,?_⟩) λh=>?_
 ·have h:lv>16:=by simpa using h
  simp only[qt,if_pos h]
  exact⟨trivial,λh=>by cases h⟩
 have h1:¬lv>16:=by simpa using h
 refine aN (λh=>aa ⟨_,rfl,?_⟩) λh=>?_
 ·have h:c>=64:=by simpa using h
  simp only[qt,if_neg h1,if_pos h]
  exact⟨trivial,λh=>by cases h⟩
 have h2:¬c>=64:=by simpa using h
 refine ar (tF _) ?_
 show Wp _ _
 refine aN (λh=>aa ⟨_,rfl,?_⟩) λh=>?_
 ·have h:ep k lo up ks.length≠0:=by
   have h:(ep k lo up ks.length != 0)=true:=h
   simpa using h
  simp only[qt,if_neg h1,if_neg h2,if_pos h]
  exact⟨rfl,λh'=>absurd h' h⟩
 have h3:¬ep k lo up ks.length≠0:=by
  have h:(ep k lo up ks.length != 0)=false:=h
  simpa using h
 have ec:qt (.mk k lo up ks) lv c=eV ks (lv+1) (c+1):=by simp only[qt,if_neg h1,if_neg h2,if_neg h3]
 rw[ec,wrap_i64 (by omega) (by omega)]
 have hrange:∀i,(eV (ks.take i) (lv+1) (c+1)).2=0->0<=(eV (ks.take i) (lv+1) (c+1)).1/\(eV (ks.take i) (lv+1) (c+1)).1<=64:=by
  intro i
  induction i with
  |zero=>intro _;simp[eV];omega
  |succ i ihi=>
   intro h0
   by_cases hi:i<ks.length
   ·have hz:(eV (ks.take i) (lv+1) (c+1)).2=0:=Classical.byContradiction λhn=>by
     have:=t3 (ks:=ks.take (i+1)) (lv:=lv+1) (c:=c+1) (i:=i) (by rw[List.take_take,show min i (i+1)=i by omega];exact hn)
     rw[List.take_take,show min i (i+1)=i by omega]at this
     rw[this]at h0
     exact hn h0
    rw[rI hi hz]
    have hr:=ihi hz
    have:=uW ks[i] (lv+1) _ hr.1 hr.2
    exact⟨by show 0<=(qt ks[i] _ _).1;omega,this.2⟩
   ·rw[show ks.take (i+1)=ks.take i by rw[List.take_of_length_le (by omega),List.take_of_length_le (by omega)]]at h0⊢
    exact ihi h0
 refine ae (aJ (N:=ks.length) (I:=λi s=>s=((i:Int),(eV (ks.take i) (lv+1) (c+1)).1,())/\(eV (ks.take i) (lv+1) (c+1)).2=0) (by simp[eV]) (λi s hi hs=>?_) λs hs=>?_)
 ·obtain⟨rfl,hz⟩:=hs
  unfold gW
  refine bc hi (au hi ?_)
  rw[km,wrap_i64 (by omega) (by omega)]
  have hr:=List.getElem_mem hi
  have hrg:=hrange i hz
  obtain⟨s,hs0,hs1⟩:=ih ks[i] hr (by have:=hkid _ hr;omega) (lv+1) _ (by omega) (by omega) hrg.1 hrg.2
  refine ar hs1 ?_
  have ht:=rI hi hz
  refine aN (λh=>aa ?_) λh=>aa ?_
  ·have hn:(qt ks[i] (lv+1) (eV (ks.take i) (lv+1) (c+1)).1).2≠0:=by simpa using h
   have he:=t3 (ks:=ks) (lv:=lv+1) (c:=c+1) (i:=i+1) (by rw[ht];exact hn)
   refine aa ⟨_,rfl,?_⟩
   rw[he,ht]
   exact⟨rfl,λh'=>absurd h' hn⟩
  ·have hn:(qt ks[i] (lv+1) (eV (ks.take i) (lv+1) (c+1)).1).2=0:=by simpa using h
   refine⟨?_,by rw[ht];exact hn⟩
   rw[an hi (by omega),ht,hs0 hn]
 ·obtain⟨rfl,hz⟩:=hs
  unfold gW
  refine aQ (aa (aa ⟨_,rfl,?_⟩))
  rw[List.take_length]at hz⊢
  exact⟨hz.symm,λ_=>rfl⟩
def mf(r:Rx):Int:=(qt r 1 0).2
theorem se(r:Rx)(hs:sz r<=1000000):aP tbl kD [.d .rx r] [] iw (mf r,()):=by
 refine aT rfl (aU z3 rfl (λO m=>Aj O m r) ?_)
 unfold sq
 exact ar (yZ r hs 1 0 (by decide) (by decide) (by decide) (by decide)) (aa rfl)
theorem sg(r:Rx)(hs:sz r<=1000000):aP tbl kJ [.d .rx r] [] iz (mf r,()):=by
 refine aT rfl (aU Ad rfl (λO m=>Au O m r) ?_)
 unfold sD
 obtain⟨s,_,h⟩:=za r hs 1 0 (by decide) (by decide) (by decide) (by decide)
 exact ar h (aa rfl)
theorem JS:∀(r:Rx) (lv c:Int),(qt r lv c).2=0->cZ r=true/\(qt r lv c).1=c+(sz r:Int):=by
 refine gB λk lo up ks ih lv c h=>?_
 have hs:∀(l:List Rx) (lv c:Int),(∀r∈l,r∈ks)->(eV l lv c).2=0->(∀r∈l,cZ r=true)/\(eV l lv c).1=c+(qz l:Int):=by
  intro l
  induction l with
  |nil=>intro lv c _ _;exact⟨by simp,by simp[eV,qz]⟩
  |cons r l ihl=>
   intro lv c hl h
   simp only[eV]at h⊢
   split at h
   ·rename_i hz;exact absurd h hz
   ·rename_i hz
    rw[if_neg hz]
    have hz:(qt r lv c).2=0:=by simpa using hz
    obtain⟨h1,h2⟩:=ih r (hl r (List.mem_cons_self ..)) lv c hz
    obtain⟨h3,h4⟩:=ihl lv _ (λx hx=>hl x (List.mem_cons_of_mem _ hx)) h
    refine⟨λx hx=>?_,by rw[h4,h2];simp only[qz];omega⟩
    rcases List.mem_cons.1 hx with rfl|hx
    ·exact h1
    ·exact h3 x hx
 simp only[qt]at h⊢
 split at h
 ·exact absurd h (by simp)
 split at h
 ·exact absurd h (by simp)
 split at h
 ·rename_i hz;exact absurd h hz
 ·rename_i a b hz
  rw[if_neg a,if_neg b,if_neg hz]
  obtain⟨h1,h2⟩:=hs ks (lv+1) (c+1) (λ_ h=>h) h
  have hz:ep k lo up ks.length=0:=by simpa using hz
  exact⟨well_iff.2 ⟨nodeE_zero.1 hz,h1⟩,by rw[h2];simp only[sz];omega⟩
theorem pj{r:Rx}(h:mf r=0):cZ r=true/\sz r<=64:=by
 obtain⟨h1,h2⟩:=JS r 1 0 h
 have:=uW r 1 0 (by decide) (by decide)
 exact⟨h1,by omega⟩
theorem jU:∀(r:Rx),sz r<=1000000->aP tbl c8 [.d .rx r] [] be (Et r,()):=by
 refine gB λk lo up ks ih hs=>?_
 obtain⟨hlen,hkid⟩:=qf hs
 refine aT rfl (aU vK rfl (λO m=>vP O m (.mk k lo up ks)) ?_)
 unfold pc
 refine ae (aJ (N:=ks.length) (I:=λi s=>s=(qy (ks.take i),nQ (ks.take i),(i:Int),())) (by simp[qy,nQ]) (λi s hi hs=>?_) λs hs=>?_)
 ·subst hs
  unfold i4
  refine bc hi (au hi ?_)
  rw[km]
  have hr:=List.getElem_mem hi
  refine ar (ih ks[i] hr (by have:=hkid _ hr;omega)) ?_
  refine ae (cg (b:=Et ks[i]) (λ_=>aa rfl) (ae (eb (b:=Et ks[i]) (λ_=>aa rfl) (aa ?_))))
  have e1:qy (ks.take (i+1))=(qy (ks.take i)||Et ks[i]):=by
   rw[List.take_add_one,List.getElem?_eq_getElem hi,Ew];simp[qy]
  have e2:nQ (ks.take (i+1))=(nQ (ks.take i)&&Et ks[i]):=by
   rw[List.take_add_one,List.getElem?_eq_getElem hi,Eu];simp[nQ]
  rw[e1,e2,an hi (by omega)]
 ·subst hs
  unfold i4
  refine aQ (aa ?_)
  rw[List.take_length]
  show Wp _ _
  have hn:Et (.mk k lo up ks)=bif k==0||k==5||k==7 then true else bif k==3||k==6 then nQ ks else bif k==4 then qy ks else false:=rfl
  rw[hn]
  show Wp (λ_=>Option.bind (bif (k==(0:Int))then some (((k==(0:Int)),()))else bif (k==(5:Int))then some (((k==(5:Int)),()))else some (((k==(7:Int)),()))) _) _
  by_cases h0:k=0
  ·subst h0;exact cE (λ_=>rfl) rfl
  by_cases h5:k=5
  ·subst h5;exact cE (λ_=>rfl) rfl
  by_cases h7:k=7
  ·subst h7;exact cE (λ_=>rfl) rfl
  by_cases h3:k=3
  ·subst h3;exact cE (λ_=>rfl) rfl
  by_cases h6:k=6
  ·subst h6;exact cE (λ_=>rfl) rfl
  by_cases h4:k=4
  ·subst h4;exact cE (λ_=>rfl) rfl
  have e0:(k==(0:Int))=false:=by simpa using h0
  have e3:(k==(3:Int))=false:=by simpa using h3
  have e4:(k==(4:Int))=false:=by simpa using h4
  have e5:(k==(5:Int))=false:=by simpa using h5
  have e6:(k==(6:Int))=false:=by simpa using h6
  have e7:(k==(7:Int))=false:=by simpa using h7
  refine cE (a:=some (lO be (false,()))) (λ_=>?_) ?_
  ·show Option.bind (bif (k==(0:Int))then some (((k==(0:Int)),()))else bif (k==(5:Int))then some (((k==(5:Int)),()))else some (((k==(7:Int)),()))) (λv6=>bif v6.1 then aZ be (true,())else Option.bind (bif (k==(3:Int))then some (((k==(3:Int)),()))else some (((k==(6:Int)),()))) λv7=>bif v7.1 then aZ be (nQ ks,())else bif (k==(4:Int))then aZ be (qy ks,())else aZ be (false,()))=_
   rw[e0,e5,e7,e3,e6,e4];rfl
  ·rw[e0,e5,e7,e3,e6,e4];rfl
end Go.Proofs.Ytbpdbooalkkenaa
namespace Go.Proofs.Ytbpdbooalkkenaa
open Go Go.Av Go.Ev Go.Pl
def cL(l:List Nat):List Int:=l.map fun(k:Nat)=>(k:Int)
theorem B1(a b:List Nat):cL (a++b)=cL a++cL b:=List.map_append
theorem bz(l:List Nat):(cL l).length=l.length:=List.length_map _
theorem qS{l:List Nat}{i:Nat}(h:i<l.length):(cL l)[i]'(by rw[bz];exact h)=(l[i]:Int):=by simp[cL]
theorem yg{a:List Nat}{i:Nat}(h:i<a.length)(b:List Nat):bU (a.take (i+1)) b=bU (a.take i) b++bU [a[i]] b:=by
 unfold bU
 rw[List.take_add_one,List.getElem?_eq_getElem h,List.flatMap_append];rfl
theorem zc:∀(r:Rx),sz r<=1000000->aP tbl ij [.d .rx r] [] fQ ((cnt r:Int),()):=by
 refine gB λk lo up ks ih hs=>?_
 obtain⟨hlen,hkid⟩:=qf hs
 refine aT rfl (aU Af rfl (λO m=>Ax O m (.mk k lo up ks)) ?_)
 unfold sF
 have hb:cnt (.mk k lo up ks)<=1000000:=Nat.le_trans (uY _) hs
 simp only[cnt]at hb
 have hc:∀i,bT (ks.take i)<=bT ks:=λi=>by
  have:bT ks=bT (ks.take i)+bT (ks.drop i):=by rw[<-np,List.take_append_drop]
  omega
 have h0:∀n:Nat,(Option.bind (Option.bind (bif (k==(1:Int))then some true else some (k==(2:Int))) λv=>bif v then some (((1:Int),()):Int×Unit)else some ((0:Int),())) fun(v:Int×Unit)=>some v)=some (((bif k==1||k==2 then 1 else 0:Nat):Int),()):=λ_=>by
  cases(k==(1:Int))<;>cases(k==(2:Int))<;>rfl
 have h0':(Option.bind (bif (k==(1:Int))then some true else some (k==(2:Int))) λv=>bif v then some (((1:Int),()):Int×Unit)else some ((0:Int),()))=some (((bif k==1||k==2 then 1 else 0:Nat):Int),()):=by
  cases(k==(1:Int))<;>cases(k==(2:Int))<;>rfl
 refine ae (cE (a:=(((bif k==1||k==2 then 1 else 0:Nat):Int),())) (λ_=>h0') ?_)
 refine ae (aJ (N:=ks.length) (I:=λi s=>s=((((bif k==1||k==2 then 1 else 0)+bT (ks.take i):Nat):Int),(i:Int),())) (by simp[bT]) (λi s hi hs=>?_) λs hs=>?_)
 ·subst hs
  unfold mb
  refine bc hi (au hi ?_)
  rw[km]
  have hr:=List.getElem_mem hi
  refine ar (ih ks[i] hr (by have:=hkid _ hr;omega)) (aa ?_)
  have e2:bT (ks.take (i+1))=bT (ks.take i)+cnt ks[i]:=by
   rw[List.take_add_one,List.getElem?_eq_getElem hi,np];simp[bT]
  have:=hc (i+1)
  refine Prod.ext ?_ (Prod.ext (an hi (by omega)) rfl)
  show IntKind.wrap .i64 ((((bif k==1||k==2 then 1 else 0)+bT (ks.take i):Nat):Int)+(cnt ks[i]:Int))=_
  rw[wrap_i64 (by omega) (by omega),e2]
  omega
 ·subst hs
  unfold mb
  refine aQ (aa (aa ?_))
  rw[List.take_length]
  rfl
structure FolR(n:Nat)(F:List (List Int))(P:List (Nat×Nat)):Prop where
 len:F.length=n
 nd:∀l∈F,l.Nodup
 bd:∀l∈F,∀x∈l,0<=x/\x<(n:Int)
 mem:∀p (h:p<F.length) (q:Nat),(q:Int)∈F[p]↔(p,q)∈P
theorem FolR.congr{n:Nat}{F:List (List Int)}{P P':List (Nat×Nat)}(h:FolR n F P)(e:∀x,x∈P↔x∈P'):FolR n F P':=⟨h.len,h.nd,h.bd,λp hp q=>(h.mem p hp q).trans (e _)⟩
theorem FolR.len1{n:Nat}{F:List (List Int)}{P:List (Nat×Nat)}(h:FolR n F P){p:Nat}(hp:p<F.length):F[p].length<=n:=by
 have h1:=gM F[p] ((List.range n).map fun(k:Nat)=>(k:Int)) (h.nd _ (List.getElem_mem hp)) λx hx=>by
  have:=h.bd _ (List.getElem_mem hp) x hx
  exact List.mem_map.2 ⟨x.toNat,List.mem_range.2 (by omega),by omega⟩
 simpa using h1
theorem FolR.add{n:Nat}{F:List (List Int)}{P:List (Nat×Nat)}(h:FolR n F P){p q:Nat}(hp:p<F.length)(hq:q<n)(hn:(q:Int)∉F[p]):FolR n (F.set p (F[p]++[(q:Int)])) (P++[(p,q)]):=by
 have hmem:∀l∈F.set p (F[p]++[(q:Int)]),l∈F\/l=F[p]++[(q:Int)]:=λl hl=>by
  rcases List.mem_or_eq_of_mem_set hl with h|h
  ·exact .inl h
  ·exact .inr h
 refine⟨by rw[List.length_set,h.len],λl hl=>?_,λl hl x hx=>?_,λp' hp' q'=>?_⟩
 ·rcases hmem l hl with h1|rfl
  ·exact h.nd l h1
  ·exact List.nodup_append.2 ⟨h.nd _ (List.getElem_mem hp),by simp,λa ha b hb=>by simp at hb;subst hb;rintro rfl;exact hn ha⟩
 ·rcases hmem l hl with h1|rfl
  ·exact h.bd l h1 x hx
  ·rcases List.mem_append.1 hx with h2|h2
   ·exact h.bd _ (List.getElem_mem hp) x h2
   ·simp at h2;subst h2;omega
 ·have hp'':p'<F.length:=by simpa using hp'
  rw[List.getElem_set]
  split
  ·rename_i e
   subst e
   simp only[List.mem_append,List.mem_singleton,h.mem p hp,Prod.mk.injEq,true_and]
   constructor
   ·rintro(h1|h1)
    ·exact .inl h1
    ·exact .inr (by omega)
   ·rintro(h1|h1)
    ·exact .inl h1
    ·exact .inr (by omega)
  ·rename_i e
   simp only[List.mem_append,List.mem_singleton,h.mem p' hp'',Prod.mk.injEq]
   constructor
   ·exact .inl
   ·rintro(h1|h1)
    ·exact h1
    ·exact absurd h1.1.symm e
theorem tD{n:Nat}{F:List (List Int)}{P:List (Nat×Nat)}(hF:FolR n F P)(sp:List (Int×(Int×Unit))){la fi:List Nat}(hla:∀p∈la,p<n)(hfi:∀q∈fi,q<n)(h1:la.length<=1000000)(h2:fi.length<=1000000)(hn:n<=1000000):
 ∃F',FolR n F' (P++bU la fi)/\aP tbl bM [.ptr 0 0,.d (.list tI) (cL la),.d (.list tI) (cL fi)] [.box a5 [.sl 1,.sl 2],.vec bm (pr [tI,tI]) sp,.tree dH (.s 3 1 .e .e) (.list tI) F none] bl (sp,F',()):=by
 suffices h:∃c:List (Int×(Int×Unit))×List (List Int)×Unit,(∃F',c=(sp,F',())/\FolR n F' (P++bU la fi))/\aP tbl bM [.ptr 0 0,.d (.list tI) (cL la),.d (.list tI) (cL fi)] [.box a5 [.sl 1,.sl 2],.vec bm (pr [tI,tI]) sp,.tree dH (.s 3 1 .e .e) (.list tI) F none] bl c by
  obtain⟨c,⟨F',rfl,hF'⟩,hc⟩:=h
  exact⟨F',hF',hc⟩
 refine jA (sh:=bl) (λ_=>rfl) (aU nK rfl (λO m=>nN O m (cL la) (cL fi) sp F) ?_)
 unfold gn
 refine ae (aJ (N:=(cL la).length) (I:=λi s=>∃F',s=((i:Int),sp,F',())/\FolR n F' (P++bU (la.take i) fi)) ⟨F,rfl,hF.congr λx=>by simp[bU]⟩ ?_ ?_)
 ·rintro i s hi ⟨F1,rfl,hF1⟩
  have hi':i<la.length:=by rw[bz]at hi;exact hi
  unfold dE
  refine bc hi (au hi ?_)
  rw[qS hi']
  have hp:la[i]<n:=hla _ (List.getElem_mem hi')
  have hpI:la[i]<n:=hp
  refine ae (aJ (N:=(cL fi).length) (I:=λj s=>∃F',s=((j:Int),sp,F',())/\FolR n F' (P++bU (la.take i) fi++bU [la[i]] (fi.take j))) ⟨F1,rfl,hF1.congr λx=>by simp[bU]⟩ ?_ ?_)
  ·rintro j s hj ⟨F2,rfl,hF2⟩
   have hj':j<fi.length:=by rw[bz]at hj;exact hj
   have hq:fi[j]<n:=hfi _ (List.getElem_mem hj')
   have hpF:la[i]<F2.length:=by rw[hF2.len];exact hp
   unfold dD
   refine bc hj (ae (au hj ?_))
   rw[qS hj']
   refine au hpF (ap (decide_eq_true (by omega)) ?_)
   refine aW (x:=F2[la[i]]) (by simp[List.getElem?_eq_getElem hpF]) (aW (x:=F2[la[i]]) (by simp[List.getElem?_eq_getElem hpF]) (ap (Nat.beq_refl _) ?_))
   refine ae (aJ (N:=F2[la[i]].length) (I:=λm s=>s=((F2[la[i]].take m).any (·==((fi[j]:Nat):Int)),(m:Int),sp,(F2,((la[i]:Nat):Int)),F2[la[i]],())) (by simp) ?_ ?_)
   ·rintro m s hm rfl
    have hl:=hF2.len1 hpF
    unfold dC
    refine bc hm (au hm (aW (x:=F2[la[i]][m]) (by simp[List.getElem?_eq_getElem hm]) ?_))
    refine ae (cg (b:=(F2[la[i]][m]==((fi[j]:Nat):Int))) (λ_=>aa rfl) (aa ?_))
    rw[an hm (by omega),List.take_add_one,List.getElem?_eq_getElem hm,List.any_append]
    simp
   ·rintro s rfl
    unfold dC
    refine aQ (aa ?_)
    rw[List.take_length]
    have hset:F2.set la[i] F2[la[i]]=F2:=List.set_getElem_self hpF
    have hget:F2[la[i]]? =some F2[la[i]]:=List.getElem?_eq_getElem hpF
    have e1:(Int.toNat ((la[i]:Nat):Int))=la[i]:=by omega
    simp only[e1,Int.toNat_natCast,hset]
    refine aW (x:=F2[la[i]]) hget ?_
    have hl:=hF2.len1 hpF
    have hstep:∀F3,FolR n F3 (P++bU (la.take i) fi++bU [la[i]] (fi.take j)++[(la[i],fi[j])])->FolR n F3 (P++bU (la.take i) fi++bU [la[i]] (fi.take (j+1))):=λF3 h3=>h3.congr λx=>by
     rw[List.take_add_one,List.getElem?_eq_getElem hj']
     simp only[bU,List.flatMap_cons,List.flatMap_nil,List.append_nil,List.map_append,Option.toList_some,List.map_cons,List.map_nil,List.append_assoc]
    refine aN (λh=>?_) λh=>aa (aa ⟨F2,?_,hstep F2 ?_⟩)
    ·have hnm:((fi[j]:Nat):Int)∉F2[la[i]]:=λhm=>by
      have:F2[la[i]].any (·==((fi[j]:Nat):Int))=true:=List.any_eq_true.2 ⟨_,hm,by simp⟩
      rw[this]at h;cases h
     refine ap (decide_eq_true (by omega)) (aW (x:=F2[la[i]]) hget (au hpF (aW (x:=F2[la[i]]) hget (ap (Nat.beq_refl _) ?_))))
     refine ap (decide_eq_true (by simp;omega)) (au hpF (aW (x:=F2[la[i]]) hget (ap (Nat.beq_refl _) (aW (x:=F2[la[i]]) hget (aa (aa ⟨_,?_,hstep _ (hF2.add hpF hq hnm)⟩))))))
     rw[an hj (by rw[bz];omega)]
    ·rw[an hj (by rw[bz];omega)]
    ·refine hF2.congr λx=>?_
     have hm:((fi[j]:Nat):Int)∈F2[la[i]]:=by
      have:F2[la[i]].any (·==((fi[j]:Nat):Int))=true:=by simpa using h
      obtain⟨y,hy,he⟩:=List.any_eq_true.1 this
      have he:y=((fi[j]:Nat):Int):=by simpa using he
      rw[<-he];exact hy
     have:=(hF2.mem _ hpF fi[j]).1 hm
     simp only[List.mem_append,List.mem_singleton]at this⊢
     constructor
     ·exact .inl
     ·rintro(h1|rfl)
      ·exact h1
      ·exact this
  ·rintro s ⟨F2,rfl,hF2⟩
   unfold dD
   refine aQ (aa (aa ⟨F2,?_,hF2.congr λx=>?_⟩))
   ·rw[an hi (by rw[bz];omega)]
   ·rw[bz,List.take_length,yg hi',List.append_assoc]
 ·rintro s ⟨F1,rfl,hF1⟩
  unfold dE
  refine aQ (aa (aa ⟨_,rfl,F1,rfl,hF1.congr λx=>?_⟩))
  rw[bz,List.take_length]
def gm(l:List (Int×Int)):List (Int×(Int×Unit)):=l.map λp=>(p.1,p.2,())
theorem Ii(a b:List (Int×Int)):gm (a++b)=gm a++gm b:=List.map_append
theorem i3(l:List (Int×Int)):(gm l).length=l.length:=List.length_map _
theorem FolR.one{n:Nat}{F:List (List Int)}{P:List (Nat×Nat)}(h:FolR n F P)(hP:∀p q,(p,q)∈P->p<n):FolR (n+1) (F++[[]]) P:=by
 refine⟨by simp[h.len],λl hl=>?_,λl hl x hx=>?_,λp hp q=>?_⟩
 ·rcases List.mem_append.1 hl with h1|h1
  ·exact h.nd l h1
  ·simp at h1;subst h1;simp
 ·rcases List.mem_append.1 hl with h1|h1
  ·have:=h.bd l h1 x hx;omega
  ·simp at h1;subst h1;cases hx
 ·by_cases hpl:p<F.length
  ·rw[List.getElem_append_left hpl];exact h.mem p hpl q
  ·have:p=F.length:=by simp at hp;omega
   subst this
   simp only[List.getElem_concat_length,List.not_mem_nil,false_iff]
   intro hm
   have:=hP _ _ hm
   have:=h.len
   omega
theorem tC:∀(r:Rx),cZ r=true->sz r<=1000000->∀(sp:List (Int×(Int×Unit))) (F:List (List Int)) (P:List (Nat×Nat)),FolR sp.length F P->(∀p q,(p,q)∈P->p<sp.length)->sp.length+cnt r<=1000000->
 ∃F',FolR (sp.length+(bC r sp.length).sp.length) F' (P++(bC r sp.length).pr)/\
  aP tbl bn [.ptr 0 0,.d .rx r] [.box a5 [.sl 1,.sl 2],.vec bm (pr [tI,tI]) sp,.tree dH (.s 3 1 .e .e) (.list tI) F none] a7
   (cL (bC r sp.length).fi,cL (bC r sp.length).la,sp++gm (bC r sp.length).sp,F',()):=by
 refine gB λk lo up ks ih hw hs sp F P hF hP hM=>?_
 obtain⟨hlen,hkid⟩:=qf hs
 obtain⟨hn,hks⟩:=well_iff.1 hw
 have hgw:=cQ _ hw sp.length
 have hgl:=ee (.mk k lo up ks) sp.length
 have hcs:bT ks<=cnt (.mk k lo up ks):=by simp only[cnt];omega
 suffices h:∃c:List Int×List Int×List (Int×(Int×Unit))×List (List Int)×Unit,(∃F',c=(cL (bC (.mk k lo up ks) sp.length).fi,cL (bC (.mk k lo up ks) sp.length).la,sp++gm (bC (.mk k lo up ks) sp.length).sp,F',())/\FolR (sp.length+(bC (.mk k lo up ks) sp.length).sp.length) F' (P++(bC (.mk k lo up ks) sp.length).pr))/\
  aP tbl bn [.ptr 0 0,.d .rx (.mk k lo up ks)] [.box a5 [.sl 1,.sl 2],.vec bm (pr [tI,tI]) sp,.tree dH (.s 3 1 .e .e) (.list tI) F none] a7 c by
  obtain⟨c,⟨F',rfl,hF'⟩,hc⟩:=h
  exact⟨F',hF',hc⟩
 refine jA (sh:=a7) (λ_=>rfl) (aU nR rfl (λO m=>nS O m (.mk k lo up ks) sp F) ?_)
 unfold gU
 by_cases h12:k=1\/k=2
 ·have hleaf:∀lo' up',bC (.mk k lo up ks) sp.length=AW sp.length lo' up'->Wp (λ_=>(aw (decide ((sp.length+(([(lo',up',())]:List (Int×(Int×Unit)))).length)*16<=140737488355328)) (aw (decide ((F.length+(([([]:List Int)]:List (List Int))).length)*24<=140737488355328)) (
   some ((.inr ((([IntKind.wrap .i64 (((sp++(([(lo',up',())]:List (Int×(Int×Unit))))).length:Int) - (1:Int))]:List Int),([IntKind.wrap .i64 (((sp++(([(lo',up',())]:List (Int×(Int×Unit))))).length:Int) - (1:Int))]:List Int),sp++(([(lo',up',())]:List (Int×(Int×Unit)))),F++(([([]:List Int)]:List (List Int))),()))):(List (Int×(Int×Unit))×List (List Int)×List Int×List Int×Unit)⊕(List Int×List Int×List (Int×(Int×Unit))×List (List Int)×Unit))))))
   λr=>∃F',r= .inr (cL (bC (.mk k lo up ks) sp.length).fi,cL (bC (.mk k lo up ks) sp.length).la,sp++gm (bC (.mk k lo up ks) sp.length).sp,F',())/\FolR (sp.length+(bC (.mk k lo up ks) sp.length).sp.length) F' (P++(bC (.mk k lo up ks) sp.length).pr):=λlo' up' he=>by
   have hfl:=hF.len
   refine ap (decide_eq_true (by simp;omega)) (ap (decide_eq_true (by simp;omega)) (aa ⟨F++[[]],?_,?_⟩))
   ·rw[he]
    simp only[List.length_append,List.length_singleton]
    rw[wrap_i64 (by omega) (by omega),show((sp.length+1:Nat):Int) - 1=(sp.length:Int) by omega]
    rfl
   ·rw[he]
    simp only[AW,List.length_singleton,List.append_nil]
    exact hF.one hP
  rcases h12 with rfl|rfl
  ·refine ae (Wp.imp (hleaf lo up (by simp[bC])) λr hr=>?_)
   obtain⟨F',rfl,hF'⟩:=hr
   exact aa ⟨_,rfl,F',rfl,hF'⟩
  ·have hz:=hn.zero (by decide)
   refine ae (Wp.imp (hleaf lo 4294967295 (by rw[hz.1];simp[bC])) λr hr=>?_)
   obtain⟨F',rfl,hF'⟩:=hr
   exact aa ⟨_,rfl,F',rfl,hF'⟩
 have h1:k≠1:=λe=>h12 (.inl e)
 have h2:k≠2:=λe=>h12 (.inr e)
 have e1:(k==(1:Int))=false:=by simpa using h1
 have e2:(k==(2:Int))=false:=by simpa using h2
 have key:∀(g:G),g.sp.length<=cnt (.mk k lo up ks)->Lie sp.length g->g.fi.length<=1000000/\g.la.length<=1000000:=λg h hl=>by
  have:=hl.fl;have:=hl.ll;omega
 have hPx:∀(g:G),Lie sp.length g->∀p q,(p,q)∈P++g.pr->p<sp.length+g.sp.length:=λg hl p q h=>by
  rcases List.mem_append.1 h with h|h
  ·have:=hP p q h;omega
  ·have:=hl.pr p q h;omega
 have htk:∀i,bT (ks.take i)<=bT ks:=λi=>by
  have:bT ks=bT (ks.take i)+bT (ks.drop i):=by rw[<-np,List.take_append_drop]
  omega
 have htk1:∀i (h:i<ks.length),bT (ks.take i)+cnt ks[i]<=bT ks:=λi h=>by
  have e:bT (ks.take (i+1))=bT (ks.take i)+cnt ks[i]:=by
   rw[List.take_add_one,List.getElem?_eq_getElem h,np];simp[bT]
  have:=htk (i+1);omega
 have L6:∀i,Lie sp.length (cx (ks.take i) sp.length (Pl.g0 true))/\(cx (ks.take i) sp.length (Pl.g0 true)).sp.length=bT (ks.take i)/\(cx (ks.take i) sp.length (Pl.g0 true)).em=nQ (ks.take i):=λi=>by
  have hl:=ee (.mk 3 0 0 (ks.take i)) sp.length
  have e:bC (.mk 3 0 0 (ks.take i)) sp.length=cx (ks.take i) sp.length (Pl.g0 true):=by simp[bC]
  rw[e]at hl
  refine⟨hl,?_⟩
  have:∀(l:List Rx) (a:G),(∀r∈l,r∈ks)->(cx l sp.length a).sp.length=a.sp.length+bT l/\(cx l sp.length a).em=(a.em&&nQ l):=by
   intro l
   induction l with
   |nil=>intro a _;simp[cx,bT,nQ]
   |cons r l ihl=>
    intro a hl
    have hr:=hl r (List.mem_cons_self ..)
    obtain⟨g1,g2⟩:=cQ r (hks r hr) (sp.length+a.sp.length)
    obtain⟨g3,g4⟩:=ihl (fM a (bC r (sp.length+a.sp.length))) λx hx=>hl x (List.mem_cons_of_mem _ hx)
    simp only[cx,g3,g4,bT,nQ]
    simp only[fM,List.length_append,g1,g2,Bool.and_assoc]
    exact⟨by omega,trivial⟩
  have:=this (ks.take i) (Pl.g0 true) λr hr=>List.mem_of_mem_take hr
  simpa[Pl.g0]using this
 have Kh:∀i,Lie sp.length (bP (ks.take i) sp.length (Pl.g0 false))/\(bP (ks.take i) sp.length (Pl.g0 false)).sp.length=bT (ks.take i):=λi=>by
  have hl:=ee (.mk 4 0 0 (ks.take i)) sp.length
  have e:bC (.mk 4 0 0 (ks.take i)) sp.length=bP (ks.take i) sp.length (Pl.g0 false):=by simp[bC]
  rw[e]at hl
  refine⟨hl,?_⟩
  have:∀(l:List Rx) (a:G),(∀r∈l,r∈ks)->(bP l sp.length a).sp.length=a.sp.length+bT l:=by
   intro l
   induction l with
   |nil=>intro a _;simp[bP,bT]
   |cons r l ihl=>
    intro a hl
    have hr:=hl r (List.mem_cons_self ..)
    obtain⟨g1,g2⟩:=cQ r (hks r hr) (sp.length+a.sp.length)
    have g3:=ihl (pQ a (bC r (sp.length+a.sp.length))) λx hx=>hl x (List.mem_cons_of_mem _ hx)
    simp only[bP,g3,bT]
    simp only[pQ,List.length_append,g1]
    omega
  have:=this (ks.take i) (Pl.g0 false) λr hr=>List.mem_of_mem_take hr
  simpa[Pl.g0]using this
 refine ae (ae (cE (a:=(false,sp,F,())) (λ_=>?_) ?_))
 ·show(bif (k==(1:Int))then some ((k==(1:Int)),sp,F,())else some ((k==(2:Int)),sp,F,()))=_
  rw[e1,e2];rfl
 show Wp (λn=>bif (k==(3:Int))then _ else _) _
 by_cases h3:k=3
 ·subst h3
  have eg:bC (.mk 3 lo up ks) sp.length=cx ks sp.length (Pl.g0 true):=by simp[bC]
  show Wp (λn=>Option.bind (aF n (cF (mh tbl n) n (.mk 3 lo up ks)) (true,(0:Int),sp,F,([]:List Int),([]:List Int),())) _) _
  refine ae (aJ (N:=ks.length) (I:=λi s=>∃F',s=((cx (ks.take i) sp.length (Pl.g0 true)).em,(i:Int),sp++gm (cx (ks.take i) sp.length (Pl.g0 true)).sp,F',cL (cx (ks.take i) sp.length (Pl.g0 true)).fi,cL (cx (ks.take i) sp.length (Pl.g0 true)).la,())/\FolR (sp.length+(cx (ks.take i) sp.length (Pl.g0 true)).sp.length) F' (P++(cx (ks.take i) sp.length (Pl.g0 true)).pr)) ⟨F,by simp[cx,Pl.g0,gm,cL],by simpa[cx,Pl.g0]using hF⟩ ?_ ?_)
  ·rintro i s hi ⟨F1,rfl,hF1⟩
   obtain⟨l1,l2,l3⟩:=L6 i
   rw[vg hi]
   have hsp1:(sp++gm (cx (ks.take i) sp.length (Pl.g0 true)).sp).length=sp.length+(cx (ks.take i) sp.length (Pl.g0 true)).sp.length:=by rw[List.length_append,i3]
   have hkk:=key _ (by rw[l2];have:=htk i;omega) l1
   generalize cx (ks.take i) sp.length (Pl.g0 true)=a at*
   have hr:=List.getElem_mem hi
   obtain⟨w1,w2⟩:=cQ ks[i] (hks _ hr) (sp.length+a.sp.length)
   have hlx:=ee ks[i] (sp.length+a.sp.length)
   unfold cF
   refine bc hi (au hi ?_)
   rw[km]
   have hsz:=hkid _ hr
   have hcn:=htk1 i hi
   obtain⟨F2,hF2,hc⟩:=ih ks[i] hr (hks _ hr) (by omega) (sp++gm a.sp) F1 (P++a.pr) (by rw[hsp1];exact hF1) (by rw[hsp1];exact hPx a l1) (by rw[hsp1];omega)
   rw[hsp1]at hF2 hc
   generalize bC ks[i] (sp.length+a.sp.length)=x at*
   refine ar hc (ar (jU ks[i] (by omega)) ?_)
   have hfx:=hlx.fl
   have hllx:=hlx.ll
   obtain⟨F3,hF3,hc3⟩:=tD hF2 (sp++gm a.sp++gm x.sp) (la:=a.la) (fi:=x.fi) (λp hp=>by have:=l1.la p hp;omega) (λq hq=>by have:=hlx.fi q hq;omega) (by omega) (by omega) (by omega)
   refine ar hc3 ?_
   have hF3':FolR (sp.length+(fM a x).sp.length) F3 (P++(fM a x).pr):=by
    simp only[fM,List.length_append]
    rw[<-Nat.add_assoc]
    exact hF3.congr λy=>by simp only[List.append_assoc]
   have hfin:∀b:Bool,a.em=b->∀b2:Bool,x.em=b2->((b&&b2,((i+1:Nat):Int),sp++gm a.sp++gm x.sp,F3,(bif b then cL a.fi++cL x.fi else cL a.fi),(bif b2 then cL a.la else [])++cL x.la,()):Bool×Int×List (Int×(Int×Unit))×List (List Int)×List Int×List Int×Unit)=((fM a x).em,((i+1:Nat):Int),sp++gm (fM a x).sp,F3,cL (fM a x).fi,cL (fM a x).la,()):=λb hb b2 hb2=>by
    simp only[fM,hb,hb2,Ii,List.append_assoc]
    cases b<;>cases b2<;>simp[B1,cL]
   rw[<-w2]
   show Wp (λn=>Option.bind (bif a.em then _ else _) _) _
   cases hb:a.em
   ·refine ae (aa (ae (aa ?_)))
    cases hb2:x.em
    ·refine ae (aa (ap (decide_eq_true (by simp only[bz,List.length_nil];omega)) (aa ⟨F3,?_,hF3'⟩)))
     rw[an hi (by omega)];exact hfin false hb false hb2
    ·refine ae (aa (ap (decide_eq_true (by simp only[bz];omega)) (aa ⟨F3,?_,hF3'⟩)))
     rw[an hi (by omega)];exact hfin false hb true hb2
   ·refine ae (ap (decide_eq_true (by simp only[bz];omega)) (aa (ae (aa ?_))))
    cases hb2:x.em
    ·refine ae (aa (ap (decide_eq_true (by simp only[bz,List.length_nil];omega)) (aa ⟨F3,?_,hF3'⟩)))
     rw[an hi (by omega)];exact hfin true hb false hb2
    ·refine ae (aa (ap (decide_eq_true (by simp only[bz];omega)) (aa ⟨F3,?_,hF3'⟩)))
     rw[an hi (by omega)];exact hfin true hb true hb2
  ·rintro s ⟨F1,rfl,hF1⟩
   unfold cF
   rw[List.take_length]at hF1⊢
   refine aQ (aa (aa (aa ⟨_,rfl,F1,?_,by rw[eg];exact hF1⟩)))
   rw[eg]
 ·have e3:(k==(3:Int))=false:=by simpa using h3
  rw[e3]
  show Wp (λn=>Option.bind (aF n (cG (mh tbl n) n (.mk k lo up ks)) ((0:Int),sp,F,([]:List Int),([]:List Int),())) _) _
  refine ae (aJ (N:=ks.length) (I:=λi s=>∃F',s=((i:Int),sp++gm (bP (ks.take i) sp.length (Pl.g0 false)).sp,F',cL (bP (ks.take i) sp.length (Pl.g0 false)).fi,cL (bP (ks.take i) sp.length (Pl.g0 false)).la,())/\FolR (sp.length+(bP (ks.take i) sp.length (Pl.g0 false)).sp.length) F' (P++(bP (ks.take i) sp.length (Pl.g0 false)).pr)) ⟨F,by simp[bP,Pl.g0,gm,cL],by simpa[bP,Pl.g0]using hF⟩ ?_ ?_)
  ·rintro i s hi ⟨F1,rfl,hF1⟩
   obtain⟨l1,l2⟩:=Kh i
   rw[vf hi]
   have hsp1:(sp++gm (bP (ks.take i) sp.length (Pl.g0 false)).sp).length=sp.length+(bP (ks.take i) sp.length (Pl.g0 false)).sp.length:=by rw[List.length_append,i3]
   have hkk:=key _ (by rw[l2];have:=htk i;omega) l1
   generalize bP (ks.take i) sp.length (Pl.g0 false)=a at*
   have hr:=List.getElem_mem hi
   obtain⟨w1,w2⟩:=cQ ks[i] (hks _ hr) (sp.length+a.sp.length)
   have hlx:=ee ks[i] (sp.length+a.sp.length)
   unfold cG
   refine bc hi (au hi ?_)
   rw[km]
   have hsz:=hkid _ hr
   have hcn:=htk1 i hi
   obtain⟨F2,hF2,hc⟩:=ih ks[i] hr (hks _ hr) (by omega) (sp++gm a.sp) F1 (P++a.pr) (by rw[hsp1];exact hF1) (by rw[hsp1];exact hPx a l1) (by rw[hsp1];omega)
   rw[hsp1]at hF2 hc
   generalize bC ks[i] (sp.length+a.sp.length)=x at*
   have hfx:=hlx.fl
   have hllx:=hlx.ll
   refine ar hc (ap (decide_eq_true (by simp only[bz];omega)) (ap (decide_eq_true (by simp only[bz];omega)) (aa ⟨F2,?_,?_⟩)))
   ·rw[an hi (by omega)]
    simp only[pQ,Ii,B1,List.append_assoc]
   ·simp only[pQ,List.length_append]
    rw[<-Nat.add_assoc]
    exact hF2.congr λy=>by simp only[List.append_assoc]
  ·rintro s ⟨F1,rfl,hF1⟩
   unfold cG
   obtain⟨l1,l2⟩:=Kh ks.length
   rw[List.take_length]at hF1 l1 l2⊢
   have hkk:=key _ (by rw[l2];omega) l1
   refine aQ (aa ?_)
   have hloop:∀(hk:bC (.mk k lo up ks) sp.length=iu (bP ks sp.length (Pl.g0 false))\/bC (.mk k lo up ks) sp.length=AN (iu (bP ks sp.length (Pl.g0 false)))),(bC (.mk k lo up ks) sp.length).fi=(bP ks sp.length (Pl.g0 false)).fi/\(bC (.mk k lo up ks) sp.length).la=(bP ks sp.length (Pl.g0 false)).la/\(bC (.mk k lo up ks) sp.length).sp=(bP ks sp.length (Pl.g0 false)).sp/\(bC (.mk k lo up ks) sp.length).pr=(bP ks sp.length (Pl.g0 false)).pr++bU (bP ks sp.length (Pl.g0 false)).la (bP ks sp.length (Pl.g0 false)).fi:=λhk=>by
    rcases hk with h|h<;>rw[h]<;>exact⟨rfl,rfl,rfl,rfl⟩
   have hflat:∀(hk:bC (.mk k lo up ks) sp.length=bP ks sp.length (Pl.g0 false)\/bC (.mk k lo up ks) sp.length=AN (bP ks sp.length (Pl.g0 false))),(bC (.mk k lo up ks) sp.length).fi=(bP ks sp.length (Pl.g0 false)).fi/\(bC (.mk k lo up ks) sp.length).la=(bP ks sp.length (Pl.g0 false)).la/\(bC (.mk k lo up ks) sp.length).sp=(bP ks sp.length (Pl.g0 false)).sp/\(bC (.mk k lo up ks) sp.length).pr=(bP ks sp.length (Pl.g0 false)).pr:=λhk=>by
    rcases hk with h|h<;>rw[h]<;>exact⟨rfl,rfl,rfl,rfl⟩
   by_cases h56:k=5\/k=6
   ·have hb:(bif (k==(5:Int))then some true else some (k==(6:Int)))=some true:=by
     rcases h56 with rfl|rfl<;>rfl
    refine ae (cE (a:=true) (λ_=>hb) ?_)
    obtain⟨q1,q2,q3,q4⟩:=hloop (by
     rcases h56 with rfl|rfl
     ·exact .inr (by simp[bC])
     ·exact .inl (by simp[bC]))
    obtain⟨F2,hF2,hc2⟩:=tD hF1 (sp++gm (bP ks sp.length (Pl.g0 false)).sp) (la:=(bP ks sp.length (Pl.g0 false)).la) (fi:=(bP ks sp.length (Pl.g0 false)).fi) (λp hp=>by have:=l1.la p hp;omega) (λq hq=>by have:=l1.fi q hq;omega) hkk.2 hkk.1 (by omega)
    refine ar hc2 (aa (aa ⟨_,rfl,F2,?_,?_⟩))
    ·rw[q1,q2,q3]
    ·rw[q3,q4,<-List.append_assoc];exact hF2
   ·have h5:k≠5:=λe=>h56 (.inl e)
    have h6:k≠6:=λe=>h56 (.inr e)
    have hb:(bif (k==(5:Int))then some true else some (k==(6:Int)))=some false:=by
     rw[show(k==(5:Int))=false by simpa using h5,show(k==(6:Int))=false by simpa using h6];rfl
    refine ae (cE (a:=false) (λ_=>hb) ?_)
    obtain⟨q1,q2,q3,q4⟩:=hflat (by
     rcases hn.known with rfl|rfl|rfl|rfl|rfl|rfl|rfl|rfl
     ·have:=len_nil (hn.leaf (by simp));subst this
      exact .inr (by simp[bC,bP,Pl.g0,AN])
     ·exact absurd rfl h1
     ·exact absurd rfl h2
     ·exact absurd rfl h3
     ·exact .inl (by simp[bC])
     ·exact absurd rfl h5
     ·exact absurd rfl h6
     ·exact .inr (by simp[bC]))
    refine aa (aa ⟨_,rfl,F1,?_,?_⟩)
    ·rw[q1,q2,q3]
    ·rw[q3,q4];exact hF1
end Go.Proofs.Ytbpdbooalkkenaa
namespace Go.Proofs.Ytbpdbooalkkenaa
open Go Go.Av Go.Ev Go.Pl
def ej(M:Nat)(P:List (Nat×Nat)):List (List Bool):=(List.range M).map λi=>(List.range M).map λk=>decide ((i,k)∈P)
theorem xY(M:Nat)(P:List (Nat×Nat)):(ej M P).length=M:=by simp[ej]
theorem ut{M:Nat}{P:List (Nat×Nat)}{i:Nat}(h:i<(ej M P).length):(ej M P)[i]=(List.range M).map λk=>decide ((i,k)∈P):=by simp[ej]
theorem Kn{M:Nat}{P:List (Nat×Nat)}{i k:Nat}(hi:i<M)(hk:k<M):(ej M P).set i (((List.range M).map λk=>decide ((i,k)∈P)).set k true)=ej M (P++[(i,k)]):=by
 refine List.ext_getElem (by simp[ej]) λa h1 h2=>?_
 simp only[List.getElem_set,ut,List.length_set]at h1⊢
 split
 ·rename_i e
  subst e
  refine List.ext_getElem (by simp) λb h3 h4=>?_
  simp only[List.getElem_set,List.getElem_map,List.getElem_range,List.mem_append,List.mem_singleton,Prod.mk.injEq,true_and]
  by_cases hb:k=b
  ·subst hb;simp
  ·rw[if_neg hb]
   refine decide_eq_decide.2 ⟨.inl,λh=>?_⟩
   rcases h with h|h
   ·exact h
   ·exact absurd h.symm hb
 ·rename_i e
  refine List.map_congr_left λb _=>decide_eq_decide.2 ?_
  simp only[List.mem_append,List.mem_singleton,Prod.mk.injEq]
  constructor
  ·exact .inl
  ·rintro(h|⟨h,_⟩)
   ·exact h
   ·exact absurd h.symm e
theorem fv(a b:List Int)(ha:a.length<=1000000)(hb:b.length<=1000000):aP tbl fw [.d (.list tI) a,.d (.list tI) b] [] eO (a++b,()):=by
 refine aT rfl (aU CX rfl (λO m=>C4 O m a b) ?_)
 unfold tJ
 refine ap (decide_eq_true (by simp;omega)) (ap (decide_eq_true (by simp;omega)) (aa ?_))
 simp
theorem m7(x y:Int)(lo hi:List Int)(F:List (List Bool))(h1:lo.length<=1000000)(h2:hi.length<=1000000):aP tbl cN [.ptr 0 0,.d tI x,.d tI y] [.box aY [.sl 1,.sl 2,.sl 3],.vec aX tI lo,.vec aX tI hi,.tree cB (.s 4 1 .e .e) (.list tB) F none] ci
 (([(lo.length:Int)],[(lo.length:Int)],false,()),lo++[x],hi++[y],F,()):=by
 refine aT rfl (aU qg rfl (λO m=>qj O m x y lo hi F) ?_)
 unfold jn
 exact ap (decide_eq_true (by simp;omega)) (ap (decide_eq_true (by simp;omega)) (aa rfl))
theorem gV{M:Nat}(P:List (Nat×Nat))(lo up:List Int){la fi:List Nat}(hla:∀p∈la,p<M)(hfi:∀q∈fi,q<M)(h1:la.length<=1000000)(h2:fi.length<=1000000)(hM:M<=1000000):
 aP tbl cA [.ptr 0 0,.d (.list tI) (cL la),.d (.list tI) (cL fi)] [.box aY [.sl 1,.sl 2,.sl 3],.vec aX tI lo,.vec aX tI up,.tree cB (.s 4 1 .e .e) (.list tB) (ej M P) none] b8 (lo,up,ej M (P++bU la fi),()):=by
 refine aT rfl (aU pC rfl (λO m=>pJ O m (cL la) (cL fi) lo up (ej M P)) ?_)
 unfold jd
 refine ae (aJ (N:=(cL la).length) (I:=λi s=>s=((i:Int),lo,up,ej M (P++bU (la.take i) fi),())) (by simp[bU]) ?_ ?_)
 ·rintro i s hi' rfl
  have hi:i<la.length:=by rw[bz]at hi';exact hi'
  have hp:=hla _ (List.getElem_mem hi)
  unfold ey
  refine bc hi' (au hi' ?_)
  rw[qS hi]
  refine ae (aJ (N:=(cL fi).length) (I:=λj s=>s=((j:Int),lo,up,ej M (P++bU (la.take i) fi++bU [la[i]] (fi.take j)),())) (by simp[bU]) ?_ ?_)
  ·rintro j s hj' rfl
   have hj:j<fi.length:=by rw[bz]at hj';exact hj'
   have hq:=hfi _ (List.getElem_mem hj)
   unfold ev
   refine bc hj' (au hj' ?_)
   rw[qS hj]
   have hpl:la[i]<(ej M (P++bU (la.take i) fi++bU [la[i]] (fi.take j))).length:=by rw[xY];exact hp
   have hg:=List.getElem?_eq_getElem hpl
   rw[ut]at hg
   refine au hpl (ap (decide_eq_true (by omega)) ?_)
   simp only[Int.toNat_natCast]
   refine aW hg (aW hg (ap (Nat.beq_refl _) ?_))
   have hql:fi[j]<((List.range M).map λk=>decide ((la[i],k)∈P++bU (la.take i) fi++bU [la[i]] (fi.take j))).length:=by simpa using hq
   refine au hql (aW (List.getElem?_eq_getElem hql) (aW hg (aa ?_)))
   rw[an hj' (by rw[bz];omega),Kn hp hq]
   congr 4
   rw[List.take_add_one,List.getElem?_eq_getElem hj]
   simp only[bU,List.flatMap_cons,List.flatMap_nil,List.append_nil,List.map_append,Option.toList_some,List.map_cons,List.map_nil,List.append_assoc]
  ·rintro s rfl
   unfold ev
   refine aQ (aa (aa ?_))
   rw[an hi' (by rw[bz];omega),bz,List.take_length,yg hi,List.append_assoc]
 ·rintro s rfl
  unfold ey
  refine aQ (aa (aa ?_))
  rw[bz,List.take_length]
theorem L6{ks:List Rx}(hks:∀r∈ks,cZ r=true)(o i:Nat):Lie o (cx (ks.take i) o (Pl.g0 true))/\(cx (ks.take i) o (Pl.g0 true)).sp.length=bT (ks.take i):=by
 have hl:=ee (.mk 3 0 0 (ks.take i)) o
 have e:bC (.mk 3 0 0 (ks.take i)) o=cx (ks.take i) o (Pl.g0 true):=by simp[bC]
 rw[e]at hl
 refine⟨hl,?_⟩
 have:∀(l:List Rx) (a:G),(∀r∈l,r∈ks)->(cx l o a).sp.length=a.sp.length+bT l:=by
  intro l
  induction l with
  |nil=>intro a _;simp[cx,bT]
  |cons r l ihl=>
   intro a hl
   have hr:=hl r (List.mem_cons_self ..)
   obtain⟨g1,g2⟩:=cQ r (hks r hr) (o+a.sp.length)
   have g3:=ihl (fM a (bC r (o+a.sp.length))) λx hx=>hl x (List.mem_cons_of_mem _ hx)
   simp only[cx,g3,bT]
   simp only[fM,List.length_append,g1]
   omega
 have:=this (ks.take i) (Pl.g0 true) λr hr=>List.mem_of_mem_take hr
 simpa[Pl.g0]using this
theorem Kh{ks:List Rx}(hks:∀r∈ks,cZ r=true)(o i:Nat):Lie o (bP (ks.take i) o (Pl.g0 false))/\(bP (ks.take i) o (Pl.g0 false)).sp.length=bT (ks.take i):=by
 have hl:=ee (.mk 4 0 0 (ks.take i)) o
 have e:bC (.mk 4 0 0 (ks.take i)) o=bP (ks.take i) o (Pl.g0 false):=by simp[bC]
 rw[e]at hl
 refine⟨hl,?_⟩
 have:∀(l:List Rx) (a:G),(∀r∈l,r∈ks)->(bP l o a).sp.length=a.sp.length+bT l:=by
  intro l
  induction l with
  |nil=>intro a _;simp[bP,bT]
  |cons r l ihl=>
   intro a hl
   have hr:=hl r (List.mem_cons_self ..)
   obtain⟨g1,g2⟩:=cQ r (hks r hr) (o+a.sp.length)
   have g3:=ihl (pQ a (bC r (o+a.sp.length))) λx hx=>hl x (List.mem_cons_of_mem _ hx)
   simp only[bP,g3,bT]
   simp only[pQ,List.length_append,g1]
   omega
 have:=this (ks.take i) (Pl.g0 false) λr hr=>List.mem_of_mem_take hr
 simpa[Pl.g0]using this
theorem B6(ks:List Rx)(i:Nat):bT (ks.take i)<=bT ks:=by
 have:bT ks=bT (ks.take i)+bT (ks.drop i):=by rw[<-np,List.take_append_drop]
 omega
theorem mG{ks:List Rx}{i:Nat}(h:i<ks.length):bT (ks.take i)+cnt ks[i]<=bT ks:=by
 have e:bT (ks.take (i+1))=bT (ks.take i)+cnt ks[i]:=by
  rw[List.take_add_one,List.getElem?_eq_getElem h,np];simp[bT]
 have:=B6 ks (i+1);omega
theorem rY{M:Nat}(hM:M<=1000000):∀(r:Rx),cZ r=true->sz r<=1000000->∀(lo hi:List Int) (P:List (Nat×Nat)),hi.length=lo.length->lo.length+cnt r<=M->
 aP tbl bS [.ptr 0 0,.d .rx r] [.box aY [.sl 1,.sl 2,.sl 3],.vec aX tI lo,.vec aX tI hi,.tree cB (.s 4 1 .e .e) (.list tB) (ej M P) none] bj
  ((cL (bC r lo.length).fi,cL (bC r lo.length).la,(bC r lo.length).em,()),lo++(bC r lo.length).sp.map (·.1),hi++(bC r lo.length).sp.map (·.2),ej M (P++(bC r lo.length).pr),()):=by
 refine gB λk lw up ks ih hw hs lo hi P hhi hcn=>?_
 obtain⟨hlen,hkid⟩:=qf hs
 obtain⟨hn,hks⟩:=well_iff.1 hw
 have hcs:bT ks<=cnt (.mk k lw up ks):=by simp only[cnt];omega
 refine aT rfl (aU qh rfl (λO m=>qk O m (.mk k lw up ks) lo hi (ej M P)) ?_)
 unfold jo
 have hv3:(bif (k==(0:Int))then some true else some (k==(3:Int)))=some (k==0||k==3):=by cases(k==(0:Int))<;>rfl
 refine ae (cE (a:=(k==0||k==3)) (λ_=>hv3) ?_)
 rcases hn.known with rfl|rfl|rfl|rfl|rfl|rfl|rfl|rfl
 ·have:=len_nil (hn.leaf (by simp));subst this
  refine cE (a:=some (lO bj (([],[],true,()),lo,hi,ej M P,()))) (λ_=>rfl) ?_
  simp[bC,Pl.g0,cL]
 ·have:=len_nil (hn.leaf (by simp));subst this
  refine ae (ar (m7 lw up lo hi _ (by omega) (by omega)) (aa (aa ?_)))
  simp[bC,AW,cL]
 ·have:=len_nil (hn.leaf (by simp));subst this
  refine ae (ar (m7 0 4294967295 lo hi _ (by omega) (by omega)) (aa (aa ?_)))
  simp[bC,AW,cL]
 ·have eg:bC (.mk 3 lw up ks) lo.length=cx ks lo.length (Pl.g0 true):=by simp[bC]
  rw[eg]
  show Wp (λn=>Option.bind (Option.bind (aF n (dc (mh tbl n) n (.mk 3 lw up ks)) ((0:Int),lo,hi,ej M P,false,([]:List Int),([]:List Int),true,())) _) _) _
  refine ae (ae (aJ (N:=ks.length) (I:=λi s=>s=((i:Int),lo++(cx (ks.take i) lo.length (Pl.g0 true)).sp.map (·.1),hi++(cx (ks.take i) lo.length (Pl.g0 true)).sp.map (·.2),ej M (P++(cx (ks.take i) lo.length (Pl.g0 true)).pr),false,cL (cx (ks.take i) lo.length (Pl.g0 true)).fi,cL (cx (ks.take i) lo.length (Pl.g0 true)).la,(cx (ks.take i) lo.length (Pl.g0 true)).em,())) (by simp[cx,Pl.g0,cL]) ?_ ?_))
  ·rintro i s hi' rfl
   obtain⟨l1,l2⟩:=L6 hks lo.length i
   rw[vg hi']
   have hct:=mG hi'
   generalize cx (ks.take i) lo.length (Pl.g0 true)=a at*
   have hr:=List.getElem_mem hi'
   obtain⟨w1,w2⟩:=cQ ks[i] (hks _ hr) (lo.length+a.sp.length)
   have hlx:=ee ks[i] (lo.length+a.sp.length)
   unfold dc
   refine bc hi' (au hi' ?_)
   rw[km]
   have hsz:=hkid _ hr
   have hc:=ih ks[i] hr (hks _ hr) (by omega) (lo++a.sp.map (·.1)) (hi++a.sp.map (·.2)) (P++a.pr) (by simp[hhi]) (by simp;omega)
   rw[show(lo++a.sp.map (·.1)).length=lo.length+a.sp.length by simp]at hc
   generalize bC ks[i] (lo.length+a.sp.length)=x at*
   have h1:=l1.fl;have h2:=l1.ll;have h3:=hlx.fl;have h4:=hlx.ll
   refine ar hc (ar (gV (P++a.pr++x.pr) _ _ (la:=a.la) (fi:=x.fi) (λp hp=>by have:=l1.la p hp;omega) (λq hq=>by have:=hlx.fi q hq;omega) (by omega) (by omega) hM) ?_)
   have hfin:∀b:Bool,a.em=b->∀b2:Bool,x.em=b2->((((i+1:Nat):Int),lo++a.sp.map (·.1)++x.sp.map (·.1),hi++a.sp.map (·.2)++x.sp.map (·.2),ej M (P++a.pr++x.pr++bU a.la x.fi),false,(bif b then cL a.fi++cL x.fi else cL a.fi),(bif b2 then cL a.la else [])++cL x.la,b&&b2,()):Int×List Int×List Int×List (List Bool)×Bool×List Int×List Int×Bool×Unit)=(((i+1:Nat):Int),lo++(fM a x).sp.map (·.1),hi++(fM a x).sp.map (·.2),ej M (P++(fM a x).pr),false,cL (fM a x).fi,cL (fM a x).la,(fM a x).em,()):=λb hb b2 hb2=>by
    simp only[fM,hb,hb2,List.map_append,List.append_assoc]
    cases b<;>cases b2<;>simp[B1,cL]
   show Wp (λn=>Option.bind (bif a.em then _ else _) _) _
   cases hb:a.em
   ·refine ae (aa ?_)
    show Wp (λn=>Option.bind (bif !x.em then _ else _) _) _
    cases hb2:x.em
    ·refine ae (aa (ar (fv [] (cL x.la) (by simp) (by rw[bz];omega)) (ae (aa (aa ?_)))))
     rw[an hi' (by omega)];exact hfin false hb false hb2
    ·refine ae (aa (ar (fv (cL a.la) (cL x.la) (by rw[bz];omega) (by rw[bz];omega)) (ae (aa (aa ?_)))))
     rw[an hi' (by omega)];exact hfin false hb true hb2
   ·refine ae (ar (fv (cL a.fi) (cL x.fi) (by rw[bz];omega) (by rw[bz];omega)) (aa ?_))
    show Wp (λn=>Option.bind (bif !x.em then _ else _) _) _
    cases hb2:x.em
    ·refine ae (aa (ar (fv [] (cL x.la) (by simp) (by rw[bz];omega)) (ae (aa (aa ?_)))))
     rw[an hi' (by omega)];exact hfin true hb false hb2
    ·refine ae (aa (ar (fv (cL a.la) (cL x.la) (by rw[bz];omega) (by rw[bz];omega)) (ae (aa (aa ?_)))))
     rw[an hi' (by omega)];exact hfin true hb true hb2
  ·rintro s rfl
   unfold dc
   refine aQ (aa (aa (aa ?_)))
   rw[List.take_length]
 ·have eg:bC (.mk 4 lw up ks) lo.length=bP ks lo.length (Pl.g0 false):=by simp[bC]
  rw[eg]
  show Wp (λn=>Option.bind (Option.bind (aF n (de (mh tbl n) n (.mk 4 lw up ks)) ((0:Int),lo,hi,ej M P,false,([]:List Int),([]:List Int),false,())) _) _) _
  refine ae (ae (aJ (N:=ks.length) (I:=λi s=>s=((i:Int),lo++(bP (ks.take i) lo.length (Pl.g0 false)).sp.map (·.1),hi++(bP (ks.take i) lo.length (Pl.g0 false)).sp.map (·.2),ej M (P++(bP (ks.take i) lo.length (Pl.g0 false)).pr),false,cL (bP (ks.take i) lo.length (Pl.g0 false)).fi,cL (bP (ks.take i) lo.length (Pl.g0 false)).la,(bP (ks.take i) lo.length (Pl.g0 false)).em,())) (by simp[bP,Pl.g0,cL]) ?_ ?_))
  ·rintro i s hi' rfl
   obtain⟨l1,l2⟩:=Kh hks lo.length i
   rw[vf hi']
   have hct:=mG hi'
   generalize bP (ks.take i) lo.length (Pl.g0 false)=a at*
   have hr:=List.getElem_mem hi'
   obtain⟨w1,w2⟩:=cQ ks[i] (hks _ hr) (lo.length+a.sp.length)
   have hlx:=ee ks[i] (lo.length+a.sp.length)
   unfold de
   refine bc hi' (au hi' ?_)
   rw[km]
   have hsz:=hkid _ hr
   have hc:=ih ks[i] hr (hks _ hr) (by omega) (lo++a.sp.map (·.1)) (hi++a.sp.map (·.2)) (P++a.pr) (by simp[hhi]) (by simp;omega)
   rw[show(lo++a.sp.map (·.1)).length=lo.length+a.sp.length by simp]at hc
   generalize bC ks[i] (lo.length+a.sp.length)=x at*
   have h1:=l1.fl;have h2:=l1.ll;have h3:=hlx.fl;have h4:=hlx.ll
   refine ar hc (ar (fv (cL a.fi) (cL x.fi) (by rw[bz];omega) (by rw[bz];omega)) (ar (fv (cL a.la) (cL x.la) (by rw[bz];omega) (by rw[bz];omega)) ?_))
   refine ae (cg (b:=x.em) (λ_=>aa rfl) (aa ?_))
   rw[an hi' (by omega)]
   simp only[pQ,List.map_append,B1,List.append_assoc]
  ·rintro s rfl
   unfold de
   refine aQ (aa (aa (aa ?_)))
   rw[List.take_length]
 ·obtain⟨x,rfl⟩:=p8 (hn.one (by simp))
  have hr:x∈[x]:=List.mem_singleton.2 rfl
  have hsz:=hkid _ hr
  have hct:cnt x<=M - lo.length:=by simp only[bT]at hcs;omega
  have hc:=ih x hr (hks _ hr) (by omega) lo hi P hhi (by simp only[bT]at hcs;omega)
  have hlx:=ee x lo.length
  obtain⟨w1,w2⟩:=cQ x (hks _ hr) lo.length
  have eA:bP [x] lo.length (Pl.g0 false)=bC x lo.length:=rfl
  have h3:=hlx.fl;have h4:=hlx.ll
  refine ae (ar hc (ae (ar (gV (P++(bC x lo.length).pr) _ _ (la:=(bC x lo.length).la) (fi:=(bC x lo.length).fi) (λp hp=>by have:=hlx.la p hp;omega) (λq hq=>by have:=hlx.fi q hq;omega) (by omega) (by omega) hM) (aa ?_))))
  refine ae (cg (b:=(5:Int) != 6) (λ_=>aa rfl) (aa (aa ?_)))
  have eg:bC (.mk 5 lw up [x]) lo.length=if(5:Int)=5 then AN (iu (bC x lo.length))else iu (bC x lo.length):=rfl
  rw[eg]
  simp[AN,iu]
 ·obtain⟨x,rfl⟩:=p8 (hn.one (by simp))
  have hr:x∈[x]:=List.mem_singleton.2 rfl
  have hsz:=hkid _ hr
  have hct:cnt x<=M - lo.length:=by simp only[bT]at hcs;omega
  have hc:=ih x hr (hks _ hr) (by omega) lo hi P hhi (by simp only[bT]at hcs;omega)
  have hlx:=ee x lo.length
  obtain⟨w1,w2⟩:=cQ x (hks _ hr) lo.length
  have eA:bP [x] lo.length (Pl.g0 false)=bC x lo.length:=rfl
  have h3:=hlx.fl;have h4:=hlx.ll
  refine ae (ar hc (ae (ar (gV (P++(bC x lo.length).pr) _ _ (la:=(bC x lo.length).la) (fi:=(bC x lo.length).fi) (λp hp=>by have:=hlx.la p hp;omega) (λq hq=>by have:=hlx.fi q hq;omega) (by omega) (by omega) hM) (aa ?_))))
  refine ae (cg (b:=(6:Int) != 6) (λ_=>aa rfl) (aa (aa ?_)))
  have eg:bC (.mk 6 lw up [x]) lo.length=if(6:Int)=5 then AN (iu (bC x lo.length))else iu (bC x lo.length):=rfl
  rw[eg]
  simp[AN,iu]
 ·obtain⟨x,rfl⟩:=p8 (hn.one (by simp))
  have hr:x∈[x]:=List.mem_singleton.2 rfl
  have hsz:=hkid _ hr
  have hc:=ih x hr (hks _ hr) (by omega) lo hi P hhi (by simp only[bT]at hcs;omega)
  refine ae (ar hc (ae (aa ?_)))
  refine ae (cg (b:=true) (λ_=>aa rfl) (aa (aa ?_)))
  have eg:bC (.mk 7 lw up [x]) lo.length=AN (bC x lo.length):=rfl
  rw[eg]
  simp[AN]
end Go.Proofs.Ytbpdbooalkkenaa
namespace Go.Proofs.Ytbpdbooalkkenaa
open Go Go.Av Go.Ev Go.Pl
theorem zL{a b:Nat}(ha:a<2^64)(hb:b<2^64):eo .u64 .or (a:Int) (b:Int)=((a|||b:Nat):Int):=by
 have f1:BitVec.ofInt IntKind.u64.bits (a:Int)=BitVec.ofNat 64 a:=BitVec.ofInt_natCast 64 _
 have f2:BitVec.ofInt IntKind.u64.bits (b:Int)=BitVec.ofNat 64 b:=BitVec.ofInt_natCast 64 _
 show IntKind.u64.wrap ((BitVec.ofInt IntKind.u64.bits (a:Int)|||BitVec.ofInt IntKind.u64.bits (b:Int)).toNat:Int)=_
 rw[f1,f2]
 show IntKind.u64.wrap ((BitVec.ofNat 64 a|||BitVec.ofNat 64 b).toNat:Int)=_
 rw[BitVec.toNat_or,BitVec.toNat_ofNat,BitVec.toNat_ofNat,Nat.mod_eq_of_lt ha,Nat.mod_eq_of_lt hb,wrap_u64]
 have:=N4 ha hb
 omega
theorem JI{a b:Nat}(ha:a<2^64)(hb:b<2^64):eo .u64 .and (a:Int) (b:Int)=((a&&&b:Nat):Int):=by
 have f1:BitVec.ofInt IntKind.u64.bits (a:Int)=BitVec.ofNat 64 a:=BitVec.ofInt_natCast 64 _
 have f2:BitVec.ofInt IntKind.u64.bits (b:Int)=BitVec.ofNat 64 b:=BitVec.ofInt_natCast 64 _
 show IntKind.u64.wrap ((BitVec.ofInt IntKind.u64.bits (a:Int)&&&BitVec.ofInt IntKind.u64.bits (b:Int)).toNat:Int)=_
 rw[f1,f2]
 show IntKind.u64.wrap ((BitVec.ofNat 64 a&&&BitVec.ofNat 64 b).toNat:Int)=_
 rw[BitVec.toNat_and,BitVec.toNat_ofNat,BitVec.toNat_ofNat,Nat.mod_eq_of_lt ha,Nat.mod_eq_of_lt hb,wrap_u64]
 have:a&&&b<2^64:=Nat.lt_of_le_of_lt Nat.and_le_left ha
 omega
theorem Oh{i:Nat}(hi:i<64):min (Int.toNat (IntKind.wrap .u64 (i:Int))) (IntKind.bits .u64)=i:=by
 rw[wrap_u64]
 show min _ 64=i
 omega
theorem MC{i:Nat}(hi:i<64):IntKind.wrap .u64 ((1:Int)*2^(min (Int.toNat (IntKind.wrap .u64 (i:Int))) (IntKind.bits .u64)))=((2^i:Nat):Int):=by
 rw[Oh hi,wrap_u64,Int.one_mul]
 have h1:2^i<2^64:=Nat.pow_lt_pow_right (by decide) hi
 have h2:((2:Int)^i)=((2^i:Nat):Int):=by simp
 have h3:=Nat.two_pow_pos i
 rw[h2]
 generalize 2^i=z at*
 omega
theorem Lp{a i:Nat}(ha:a<2^64)(hi:i<64):(eo .u64 .and (Int.fdiv (a:Int) (2^(min (Int.toNat (IntKind.wrap .u64 (i:Int))) (IntKind.bits .u64)))) (1:Int)==(1:Int))=a.testBit i:=by
 rw[Oh hi]
 have h2:((2:Int)^i)=((2^i:Nat):Int):=by simp
 have h3:Int.fdiv (a:Int) ((2:Int)^i)=((a/2^i:Nat):Int):=by
  rw[h2,Int.fdiv_eq_ediv_of_nonneg _ (Int.natCast_nonneg _)];rfl
 have h4:a/2^i<2^64:=Nat.lt_of_le_of_lt (Nat.div_le_self _ _) ha
 have h5:=JI (a:=a/2^i) (b:=1) h4 (by decide)
 rw[h3]
 have h5:eo .u64 .and ((a/2^i:Nat):Int) (1:Int)=((a/2^i&&&1:Nat):Int):=h5
 rw[h5,Nat.and_one_is_mod]
 rw[Nat.testBit_eq_decide_div_mod_eq]
 have:a/2^i%2<2:=Nat.mod_lt _ (by decide)
 by_cases e:a/2^i%2=1
 ·rw[e];rfl
 ·have:a/2^i%2=0:=by omega
  rw[this];rfl
def eR(P:List (Nat×Nat))(n:Nat):List Int:=(List.range n).map λi=>((bo (xP P i):Nat):Int)
theorem nu(P:List (Nat×Nat))(n:Nat):(eR P n).length=n:=by simp[eR]
theorem nt{P:List (Nat×Nat)}{n i:Nat}(h:i<(eR P n).length):(eR P n)[i]=((bo (xP P i):Nat):Int):=by simp[eR]
theorem xp{a b:List Nat}(h:∀x,x∈a↔x∈b):bo a=bo b:=by
 refine Nat.eq_of_testBit_eq λi=>?_
 rw[cj,cj]
 exact decide_eq_decide.2 (h i)
theorem s8{P P':List (Nat×Nat)}{n:Nat}(h:∀i,i<n->∀q,(i,q)∈P↔(i,q)∈P'):eR P n=eR P' n:=by
 unfold eR
 refine List.map_congr_left λi hi=>?_
 have e:bo (xP P i)=bo (xP P' i):=xp λq=>by rw[fol_mem,fol_mem];exact h i (List.mem_range.1 hi) q
 rw[e]
theorem MH{P:List (Nat×Nat)}{n:Nat}(hP:∀p q,(p,q)∈P->q<n)(hn:n<=64)(i:Nat):bo (xP P i)<2^64:=
 eF λq hq=>by have:=hP _ _ (fol_mem.1 hq);omega
theorem J7{P:List (Nat×Nat)}{n i:Nat}(hi:i<n)(fi:List Nat):(eR P n).set i ((bo (xP P i)|||bo fi:Nat):Int)=eR (P++bU [i] fi) n:=by
 refine List.ext_getElem (by simp[eR]) λj h1 h2=>?_
 rw[List.getElem_set]
 split
 ·rename_i e
  subst e
  have e:bo (xP P i++fi)=bo (xP (P++bU [i] fi) i):=xp λq=>by
   rw[List.mem_append,fol_mem,fol_mem,List.mem_append,prodL_mem]
   simp
  rw[<-tU,e,nt]
 ·rename_i e
  have e2:bo (xP P j)=bo (xP (P++bU [i] fi) j):=xp λq=>by
   rw[fol_mem,fol_mem,List.mem_append,prodL_mem]
   simp
   omega
  rw[nt,nt,e2]
theorem Ay(x y:Int)(lo hi F:List Int)(h1:lo.length<64)(h2:hi.length<64)(h3:F.length<64):aP tbl cz [.ptr 0 0,.d tI x,.d tI y] [.box aC [.sl 1,.sl 2,.sl 3],.vec aX tI lo,.vec aX tI hi,.vec fk tQ F] b7
 ((((2^lo.length:Nat):Int),((2^lo.length:Nat):Int),false,()),lo++[x],hi++[y],F++[0],()):=by
 refine aT rfl (aU pA rfl (λO m=>pG O m x y lo hi F) ?_)
 unfold jb
 rw[MC h1]
 refine ap (decide_eq_true (by rw[wrap_u64];omega)) (ap (decide_eq_true ?_) (ap (decide_eq_true ?_) (ap (decide_eq_true ?_) (aa rfl))))
 ·show(lo.length+1)*8<=_;omega
 ·show(hi.length+1)*8<=_;omega
 ·show(F.length+1)*8<=_;omega
theorem sV{n:Nat}(P:List (Nat×Nat))(lo up:List Int){la fi:List Nat}(hP:∀p q,(p,q)∈P->q<n)(hla:∀p∈la,p<n)(hfi:∀q∈fi,q<n)(hn:n<=64):
 aP tbl co [.ptr 0 0,.d tQ ((bo la:Nat):Int),.d tQ ((bo fi:Nat):Int)] [.box aC [.sl 1,.sl 2,.sl 3],.vec aX tI lo,.vec aX tI up,.vec fk tQ (eR P n)] bV (lo,up,eR (P++bU la fi) n,()):=by
 refine aT rfl (aU oW rfl (λO m=>oZ O m ((bo la:Nat):Int) ((bo fi:Nat):Int) lo up (eR P n)) ?_)
 unfold g9
 have hb1:bo la<2^64:=eF λp hp=>by have:=hla p hp;omega
 have hb2:bo fi<2^64:=eF λp hp=>by have:=hfi p hp;omega
 refine ae (aJ (N:=(eR P n).length) (I:=λi s=>s=((i:Int),lo,up,eR (P++bU (la.filter λp=>decide (p<i)) fi) n,())) ?_ ?_ ?_)
 ·have:(la.filter λp=>decide (p<0))=[]:=by simp
  rw[this]
  simp[bU]
 ·rintro i s hi rfl
  rw[nu]at hi
  unfold dY
  dsimp only
  refine bc (by rw[nu];exact hi) (ae ?_)
  have key:∀b:Bool,(bo la).testBit i=b->(eR (P++bU (la.filter λp=>decide (p<i)) fi) n).set i (bif b then((bo (xP (P++bU (la.filter λp=>decide (p<i)) fi) i)|||bo fi:Nat):Int)else((bo (xP (P++bU (la.filter λp=>decide (p<i)) fi) i):Nat):Int))=eR (P++bU (la.filter λp=>decide (p<i+1)) fi) n:=λb hb=>by
   rw[cj]at hb
   cases b with
   |true=>
    have hm:i∈la:=of_decide_eq_true hb
    rw[cond_true,J7 hi]
    refine s8 λj hj q=>?_
    simp only[List.mem_append,prodL_mem,List.mem_filter,decide_eq_true_eq,List.mem_singleton]
    constructor
    ·rintro((h|⟨⟨h1,h2⟩,h3⟩)|⟨rfl,h3⟩)
     ·exact .inl h
     ·exact .inr ⟨⟨h1,by omega⟩,h3⟩
     ·exact .inr ⟨⟨hm,by omega⟩,h3⟩
    ·rintro(h|⟨⟨h1,h2⟩,h3⟩)
     ·exact .inl (.inl h)
     ·by_cases e:j=i
      ·exact .inr ⟨e,h3⟩
      ·exact .inl (.inr ⟨⟨h1,by omega⟩,h3⟩)
   |false=>
    have hm:i∉la:=of_decide_eq_false hb
    rw[cond_false]
    have:(eR (P++bU (la.filter λp=>decide (p<i)) fi) n).set i ((bo (xP (P++bU (la.filter λp=>decide (p<i)) fi) i):Nat):Int)=eR (P++bU (la.filter λp=>decide (p<i)) fi) n:=by
     refine List.ext_getElem (by simp) λj h1 h2=>?_
     rw[List.getElem_set]
     split
     ·rename_i e;subst e;rw[nt]
     ·rfl
    rw[this]
    refine s8 λj hj q=>?_
    simp only[List.mem_append,prodL_mem,List.mem_filter,decide_eq_true_eq]
    constructor
    ·rintro(h|⟨⟨h1,h2⟩,h3⟩)
     ·exact .inl h
     ·exact .inr ⟨⟨h1,by omega⟩,h3⟩
    ·rintro(h|⟨⟨h1,h2⟩,h3⟩)
     ·exact .inl h
     ·refine .inr ⟨⟨h1,?_⟩,h3⟩
      have:j≠i:=λe=>hm (e▸h1)
      omega
  have hq:∀p q,(p,q)∈P++bU (la.filter λp=>decide (p<i)) fi->q<n:=λp q h=>by
   rcases List.mem_append.1 h with h|h
   ·exact hP p q h
   ·exact hfi q (prodL_mem.1 h).2
  generalize hP':P++bU (la.filter λp=>decide (p<i)) fi=P' at*
  refine ap (decide_eq_true (by rw[wrap_u64];omega)) ?_
  rw[Lp hb1 (by omega)]
  have hlen:i<(eR P' n).length:=by rw[nu];exact hi
  refine aN (λh=>?_) λh=>aa (aa ?_)
  ·refine au hlen (aW (x:=(eR P' n)[i]) (by rw[Int.toNat_natCast];exact List.getElem?_eq_getElem hlen) (au hlen (aW (x:=(eR P' n)[i]) (by rw[Int.toNat_natCast];exact List.getElem?_eq_getElem hlen) (aa (aa ?_)))))
   have hk:=key true h
   rw[cond_true]at hk
   rw[nt,zL (MH hq hn i) hb2,Int.toNat_natCast,hk,an hi (by omega)]
  ·have hk:=key false h
   rw[cond_false]at hk
   have:(eR P' n).set i ((bo (xP P' i):Nat):Int)=eR P' n:=by
    refine List.ext_getElem (by simp) λj h1 h2=>?_
    rw[List.getElem_set]
    split
    ·rename_i e;subst e;rw[nt]
    ·rfl
   rw[this]at hk
   rw[hk,an hi (by omega)]
 ·rintro s rfl
  unfold dY
  refine aQ (aa (aa ?_))
  rw[nu]
  have:eR (P++bU (la.filter λp=>decide (p<n)) fi) n=eR (P++bU la fi) n:=s8 λj hj q=>by
   simp only[List.mem_append,prodL_mem,List.mem_filter,decide_eq_true_eq]
   constructor
   ·rintro(h|⟨⟨h1,h2⟩,h3⟩)
    ·exact .inl h
    ·exact .inr ⟨h1,h3⟩
   ·rintro(h|⟨h1,h3⟩)
    ·exact .inl h
    ·exact .inr ⟨⟨h1,hj⟩,h3⟩
  rw[this]
theorem Fw:∀(r:Rx),cZ r=true->sz r<=1000000->∀(lo hi:List Int) (P:List (Nat×Nat)),hi.length=lo.length->(∀p q,(p,q)∈P->p<lo.length/\q<lo.length)->lo.length+cnt r<=64->
 aP tbl bA [.ptr 0 0,.d .rx r] [.box aC [.sl 1,.sl 2,.sl 3],.vec aX tI lo,.vec aX tI hi,.vec fk tQ (eR P lo.length)] aL
  ((((bo (bC r lo.length).fi:Nat):Int),((bo (bC r lo.length).la:Nat):Int),(bC r lo.length).em,()),lo++(bC r lo.length).sp.map (·.1),hi++(bC r lo.length).sp.map (·.2),eR (P++(bC r lo.length).pr) (lo.length+(bC r lo.length).sp.length),()):=by
 refine gB λk lw up ks ih hw hs lo hi P hhi hP hcn=>?_
 obtain⟨hlen,hkid⟩:=qf hs
 obtain⟨hn,hks⟩:=well_iff.1 hw
 have hcs:bT ks<=cnt (.mk k lw up ks):=by simp only[cnt];omega
 refine aT rfl (aU pB rfl (λO m=>pH O m (.mk k lw up ks) lo hi (eR P lo.length)) ?_)
 unfold jc
 have one:eR P lo.length++[0]=eR P (lo.length+1):=by
  unfold eR
  rw[List.range_succ,List.map_append]
  have:xP P lo.length=[]:=by
   refine List.eq_nil_iff_forall_not_mem.2 λq hq=>?_
   have:=(hP _ _ (fol_mem.1 hq)).1
   omega
  simp[this,bo]
 have b1:bo [lo.length]=2^lo.length:=by simp[bo]
 rcases hn.known with rfl|rfl|rfl|rfl|rfl|rfl|rfl|rfl
 ·have:=len_nil (hn.leaf (by simp));subst this
  refine cE (a:=some (lO aL (((0:Int),(0:Int),true,()),lo,hi,eR P lo.length,()))) (λ_=>rfl) ?_
  simp[bC,Pl.g0,bo]
 ·have:=len_nil (hn.leaf (by simp));subst this
  have hc1:lo.length<64:=by simp[cnt,bT]at hcn;omega
  refine fE rfl (ar (Ay lw up lo hi _ hc1 (by omega) (by rw[nu];omega)) (aa ?_))
  rw[one]
  simp[bC,AW,b1]
 ·have:=len_nil (hn.leaf (by simp));subst this
  have hc1:lo.length<64:=by simp[cnt,bT]at hcn;omega
  refine b5 rfl (fE rfl (ar (Ay 0 4294967295 lo hi _ hc1 (by omega) (by rw[nu];omega)) (aa ?_)))
  rw[one]
  simp[bC,AW,b1]
 ·have eg:bC (.mk 3 lw up ks) lo.length=cx ks lo.length (Pl.g0 true):=by simp[bC]
  rw[eg]
  refine b5 rfl (b5 rfl (fE rfl ?_))
  refine ae (aJ (N:=ks.length) (I:=λi s=>s=((i:Int),lo++(cx (ks.take i) lo.length (Pl.g0 true)).sp.map (·.1),hi++(cx (ks.take i) lo.length (Pl.g0 true)).sp.map (·.2),eR (P++(cx (ks.take i) lo.length (Pl.g0 true)).pr) (lo.length+(cx (ks.take i) lo.length (Pl.g0 true)).sp.length),(0:Int),(0:Int),false,((bo (cx (ks.take i) lo.length (Pl.g0 true)).fi:Nat):Int),((bo (cx (ks.take i) lo.length (Pl.g0 true)).la:Nat):Int),(cx (ks.take i) lo.length (Pl.g0 true)).em,())) (by simp[cx,Pl.g0,bo]) ?_ ?_)
  ·rintro i s hi' rfl
   obtain⟨l1,l2⟩:=L6 hks lo.length i
   rw[vg hi']
   have hct:=mG hi'
   generalize cx (ks.take i) lo.length (Pl.g0 true)=a at*
   have hr:=List.getElem_mem hi'
   obtain⟨w1,w2⟩:=cQ ks[i] (hks _ hr) (lo.length+a.sp.length)
   have hlx:=ee ks[i] (lo.length+a.sp.length)
   unfold et
   refine bc hi' (au hi' ?_)
   rw[km]
   have hsz:=hkid _ hr
   have hPa:∀p q,(p,q)∈P++a.pr->p<lo.length+a.sp.length/\q<lo.length+a.sp.length:=λp q h=>by
    rcases List.mem_append.1 h with h|h
    ·have:=hP p q h;omega
    ·have:=l1.pr p q h;omega
   have hc:=ih ks[i] hr (hks _ hr) (by omega) (lo++a.sp.map (·.1)) (hi++a.sp.map (·.2)) (P++a.pr) (by simp[hhi]) (by simpa using hPa) (by simp;omega)
   rw[show(lo++a.sp.map (·.1)).length=lo.length+a.sp.length by simp]at hc
   generalize bC ks[i] (lo.length+a.sp.length)=x at*
   have hn64:lo.length+a.sp.length+x.sp.length<=64:=by omega
   refine ar hc (ar (sV (n:=lo.length+a.sp.length+x.sp.length) (P++a.pr++x.pr) _ _ (la:=a.la) (fi:=x.fi) (λp q h=>?_) (λp hp=>by have:=l1.la p hp;omega) (λq hq=>by have:=hlx.fi q hq;omega) hn64) ?_)
   ·rcases List.mem_append.1 h with h|h
    ·have:=hPa p q h;omega
    ·have:=hlx.pr p q h;omega
   have ba:bo a.fi<2^64:=eF λp hp=>by have:=l1.fi p hp;omega
   have bx:bo x.fi<2^64:=eF λp hp=>by have:=hlx.fi p hp;omega
   have bla:bo a.la<2^64:=eF λp hp=>by have:=l1.la p hp;omega
   have blx:bo x.la<2^64:=eF λp hp=>by have:=hlx.la p hp;omega
   dsimp only
   rw[zL ba bx]
   have hfin:∀b:Bool,a.em=b->∀b2:Bool,x.em=b2->((((i+1:Nat):Int),lo++a.sp.map (·.1)++x.sp.map (·.1),hi++a.sp.map (·.2)++x.sp.map (·.2),eR (P++a.pr++x.pr++bU a.la x.fi) (lo.length+a.sp.length+x.sp.length),(0:Int),(0:Int),false,(bif b then((bo a.fi|||bo x.fi:Nat):Int)else((bo a.fi:Nat):Int)),(bif b2 then((bo a.la|||bo x.la:Nat):Int)else((bo x.la:Nat):Int)),b&&b2,()):Int×List Int×List Int×List Int×Int×Int×Bool×Int×Int×Bool×Unit)=(((i+1:Nat):Int),lo++(fM a x).sp.map (·.1),hi++(fM a x).sp.map (·.2),eR (P++(fM a x).pr) (lo.length+(fM a x).sp.length),(0:Int),(0:Int),false,((bo (fM a x).fi:Nat):Int),((bo (fM a x).la:Nat):Int),(fM a x).em,()):=λb hb b2 hb2=>by
    simp only[fM,hb,hb2,List.map_append,List.append_assoc,List.length_append,Nat.add_assoc]
    cases b<;>cases b2<;>simp[tU]
   cases hb:a.em<;>cases hb2:x.em
   ·simp only[cond_false,cond_true]
    refine ae (aa ?_)
    simp only[cond_false,cond_true]
    refine ae (aa (ae (aa (aa ?_))))
    rw[an hi' (by omega)]
    have hf:=hfin false hb false hb2
    simp only[cond_false,cond_true]at hf
    simp only[zL bla blx]
    exact hf
   ·simp only[cond_false,cond_true]
    refine ae (aa ?_)
    simp only[cond_false,cond_true]
    refine ae (aa (ae (aa (aa ?_))))
    rw[an hi' (by omega)]
    have hf:=hfin false hb true hb2
    simp only[cond_false,cond_true]at hf
    simp only[zL bla blx]
    exact hf
   ·simp only[cond_false,cond_true]
    refine ae (aa ?_)
    simp only[cond_false,cond_true]
    refine ae (aa (ae (aa (aa ?_))))
    rw[an hi' (by omega)]
    have hf:=hfin true hb false hb2
    simp only[cond_false,cond_true]at hf
    simp only[zL bla blx]
    exact hf
   ·simp only[cond_false,cond_true]
    refine ae (aa ?_)
    simp only[cond_false,cond_true]
    refine ae (aa (ae (aa (aa ?_))))
    rw[an hi' (by omega)]
    have hf:=hfin true hb true hb2
    simp only[cond_false,cond_true]at hf
    simp only[zL bla blx]
    exact hf
  ·rintro s rfl
   unfold et
   refine aQ (aa (aa ?_))
   rw[List.take_length]
 ·have eg:bC (.mk 4 lw up ks) lo.length=bP ks lo.length (Pl.g0 false):=by simp[bC]
  rw[eg]
  refine b5 rfl (b5 rfl (b5 rfl (fE rfl ?_)))
  refine ae (aJ (N:=ks.length) (I:=λi s=>s=((i:Int),lo++(bP (ks.take i) lo.length (Pl.g0 false)).sp.map (·.1),hi++(bP (ks.take i) lo.length (Pl.g0 false)).sp.map (·.2),eR (P++(bP (ks.take i) lo.length (Pl.g0 false)).pr) (lo.length+(bP (ks.take i) lo.length (Pl.g0 false)).sp.length),(0:Int),(0:Int),false,((bo (bP (ks.take i) lo.length (Pl.g0 false)).fi:Nat):Int),((bo (bP (ks.take i) lo.length (Pl.g0 false)).la:Nat):Int),(bP (ks.take i) lo.length (Pl.g0 false)).em,())) (by simp[bP,Pl.g0,bo]) ?_ ?_)
  ·rintro i s hi' rfl
   obtain⟨l1,l2⟩:=Kh hks lo.length i
   rw[vf hi']
   have hct:=mG hi'
   generalize bP (ks.take i) lo.length (Pl.g0 false)=a at*
   have hr:=List.getElem_mem hi'
   obtain⟨w1,w2⟩:=cQ ks[i] (hks _ hr) (lo.length+a.sp.length)
   have hlx:=ee ks[i] (lo.length+a.sp.length)
   unfold eu
   refine bc hi' (au hi' ?_)
   rw[km]
   have hsz:=hkid _ hr
   have hPa:∀p q,(p,q)∈P++a.pr->p<lo.length+a.sp.length/\q<lo.length+a.sp.length:=λp q h=>by
    rcases List.mem_append.1 h with h|h
    ·have:=hP p q h;omega
    ·have:=l1.pr p q h;omega
   have hc:=ih ks[i] hr (hks _ hr) (by omega) (lo++a.sp.map (·.1)) (hi++a.sp.map (·.2)) (P++a.pr) (by simp[hhi]) (by simpa using hPa) (by simp;omega)
   rw[show(lo++a.sp.map (·.1)).length=lo.length+a.sp.length by simp]at hc
   generalize bC ks[i] (lo.length+a.sp.length)=x at*
   have ba:bo a.fi<2^64:=eF λp hp=>by have:=l1.fi p hp;omega
   have bx:bo x.fi<2^64:=eF λp hp=>by have:=hlx.fi p hp;omega
   have bla:bo a.la<2^64:=eF λp hp=>by have:=l1.la p hp;omega
   have blx:bo x.la<2^64:=eF λp hp=>by have:=hlx.la p hp;omega
   refine ar hc ?_
   dsimp only
   rw[zL ba bx,zL bla blx]
   refine ae (cg (b:=x.em) (λ_=>aa rfl) (aa ?_))
   rw[an hi' (by omega)]
   simp only[pQ,List.map_append,tU,List.append_assoc,List.length_append,Nat.add_assoc]
  ·rintro s rfl
   unfold eu
   refine aQ (aa (aa ?_))
   rw[List.take_length]
 ·obtain⟨x,rfl⟩:=p8 (hn.one (by simp))
  have hr:x∈[x]:=List.mem_singleton.2 rfl
  have hsz:=hkid _ hr
  have hcx:lo.length+cnt x<=64:=by simp only[bT]at hcs;omega
  have hc:=ih x hr (hks _ hr) (by omega) lo hi P hhi hP hcx
  have hlx:=ee x lo.length
  obtain⟨w1,w2⟩:=cQ x (hks _ hr) lo.length
  have eg:bC (.mk 5 lw up [x]) lo.length=if(5:Int)=5 then AN (iu (bC x lo.length))else iu (bC x lo.length):=rfl
  rw[eg]
  refine b5 rfl (b5 rfl (b5 rfl (b5 rfl (ae ?_))))
  refine cE (a:=((5:Int)==5||true,lo,hi,eR P lo.length,(0:Int),(0:Int),false,())) (λ_=>rfl) ?_
  refine fE rfl (gF (by decide) rfl (ar hc (ar (sV (n:=lo.length+(bC x lo.length).sp.length) (P++(bC x lo.length).pr) _ _ (la:=(bC x lo.length).la) (fi:=(bC x lo.length).fi) (λp q h=>?_) (λp hp=>by have:=hlx.la p hp;omega) (λq hq=>by have:=hlx.fi q hq;omega) (by omega)) (ae (cg (b:=(5:Int)==5) (λ_=>aa rfl) (aa ?_))))))
  ·rcases List.mem_append.1 h with h|h
   ·have:=hP p q h;omega
   ·have:=hlx.pr p q h;omega
  ·simp[AN,iu]
 ·obtain⟨x,rfl⟩:=p8 (hn.one (by simp))
  have hr:x∈[x]:=List.mem_singleton.2 rfl
  have hsz:=hkid _ hr
  have hcx:lo.length+cnt x<=64:=by simp only[bT]at hcs;omega
  have hc:=ih x hr (hks _ hr) (by omega) lo hi P hhi hP hcx
  have hlx:=ee x lo.length
  obtain⟨w1,w2⟩:=cQ x (hks _ hr) lo.length
  have eg:bC (.mk 6 lw up [x]) lo.length=if(6:Int)=5 then AN (iu (bC x lo.length))else iu (bC x lo.length):=rfl
  rw[eg]
  refine b5 rfl (b5 rfl (b5 rfl (b5 rfl (ae ?_))))
  refine cE (a:=((6:Int)==5||true,lo,hi,eR P lo.length,(0:Int),(0:Int),false,())) (λ_=>rfl) ?_
  refine fE rfl (gF (by decide) rfl (ar hc (ar (sV (n:=lo.length+(bC x lo.length).sp.length) (P++(bC x lo.length).pr) _ _ (la:=(bC x lo.length).la) (fi:=(bC x lo.length).fi) (λp q h=>?_) (λp hp=>by have:=hlx.la p hp;omega) (λq hq=>by have:=hlx.fi q hq;omega) (by omega)) (ae (cg (b:=(6:Int)==5) (λ_=>aa rfl) (aa ?_))))))
  ·rcases List.mem_append.1 h with h|h
   ·have:=hP p q h;omega
   ·have:=hlx.pr p q h;omega
  ·simp[AN,iu]
 ·obtain⟨x,rfl⟩:=p8 (hn.one (by simp))
  have hr:x∈[x]:=List.mem_singleton.2 rfl
  have hsz:=hkid _ hr
  have hcx:lo.length+cnt x<=64:=by simp only[bT]at hcs;omega
  have hc:=ih x hr (hks _ hr) (by omega) lo hi P hhi hP hcx
  have eg:bC (.mk 7 lw up [x]) lo.length=AN (bC x lo.length):=rfl
  rw[eg]
  refine b5 rfl (b5 rfl (b5 rfl (b5 rfl (ae ?_))))
  refine cE (a:=(false,lo,hi,eR P lo.length,(0:Int),(0:Int),false,())) (λ_=>rfl) ?_
  refine b5 rfl (fE rfl (gF (by decide) rfl (ar hc (aa ?_))))
  simp[AN]
end Go.Proofs.Ytbpdbooalkkenaa
namespace Go.Proofs.Ytbpdbooalkkenaa
open Go Go.Av Go.Ev Go.Pl
noncomputable def Gt(a b:DF):Bool×List Int×List PR×List Int×List Int×List (List Int)×Unit:=
 match NU a b (OV 4096) (a.2.1.length*b.2.1.length)with
 | .inl S=>EO a b false S
 | .inr S=>EO a b true S
end Go.Proofs.Ytbpdbooalkkenaa
namespace Go.Proofs.Ytbpdbooalkkenaa
open Go Go.Av Go.Ev Go.Pl
section
variable {a b:DF}
end
end Go.Proofs.Ytbpdbooalkkenaa
namespace Go.Proofs.Ytbpdbooalkkenaa
open Go Go.Av Go.Ev
theorem Bl{d:DF}(h:Good d):Fx d:=by
 have hl:=q9 h
 exact⟨by omega,by omega,λr hr=>by rw[h.rows r hr];omega,by omega⟩
theorem Ic{d:DF}:∀(l:List Int) (s0:Int) (v:Int),v∈l->(v<0\/v>4294967295)->ip (mA d) s0 l= .inr false
 |x::l,s0,v,hv,hb=>by
  cases hx:decide (x<0)||decide (x>4294967295)
  ·have e:mA d s0 x= .inl (bE d s0 x):=by unfold mA;rw[hx];rfl
   have hv':v∈l:=by
    rcases List.mem_cons.1 hv with rfl|h
    ·simp only[Bool.or_eq_false_iff,decide_eq_false_iff_not]at hx;omega
    ·exact h
   simp only[ip,e,Ic l _ v hv' hb]
  ·have e:mA d s0 x= .inr false:=by unfold mA;rw[hx];rfl
   simp only[ip,e]
theorem IN{d:DF}{l:List Int}{v:Int}(hv:v∈l)(hb:v<0\/v>4294967295):mo d l=false:=by
 unfold mo
 rw[Ic l _ v hv hb]
 split<;>rfl
end Go.Proofs.Ytbpdbooalkkenaa
namespace Go.Proofs.Ytbpdbooalkkenaa
open Go Go.Av Go.Ev Go.Pl
def zD:DF:=([],[],[],0,())
theorem HN:Fx zD:=⟨by simp[zD],by simp[zD],by simp[zD],by simp[zD]⟩
theorem I0{m:DF}(h:Canon m)(h1:m.1.length<=2000)(h2:m.2.1.length<=4096):Good m:=by
 have hw:=h.wf
 exact⟨hw.starts,by unfold Big;have:=hw.len;omega,hw.len,hw.rows,hw.start,hw.to⟩
end Go.Proofs.Ytbpdbooalkkenaa
namespace Go.Proofs.Ytbpdbooalkkenaa
open Go Go.Av Go.Ev Go.Pl
theorem rE(l:List Int):Asc (qO l)/\∀x,x∈qO l↔x∈l:=by
 obtain⟨c,hc,hm⟩:=sY l
 rw[rD hc hm]
 exact⟨hc,hm⟩
theorem FA{l l':List Int}(h:∀x,x∈l↔x∈l'):qO l=qO l':=by
 obtain⟨h1,h2⟩:=rE l'
 exact rD h1 λx=>(h2 x).trans (h x).symm
theorem Dq(a b:List Int):qO (qO a++b)=qO (a++b):=FA λx=>by
 rw[List.mem_append,List.mem_append,(rE a).2]
theorem Dr(l:List Int):(qO l).length<=l.length:=G8 (rE l).1 λx hx=>((rE l).2 x).1 hx
abbrev wR(g:G):List Int:=g.sp.map (·.1)
abbrev wD(g:G):List Int:=g.sp.map (·.2)
theorem AG{sp:List (Int×Int)}{i:Nat}(h:i<sp.length):nj (sp.take (i+1))=nj (sp.take i)++(sp[i].1::if sp[i].2<4294967295 then [sp[i].2+1]else []):=by
 unfold nj
 rw[List.take_add_one,List.getElem?_eq_getElem h,List.flatMap_append]
 simp
theorem BO{g:G}(hg:GOk g)(F:List Int):aP tbl df [.ptr 0 0] [.box aC [.sl 1,.sl 2,.sl 3],.vec aX tI (wR g),.vec aX tI (wD g),.vec fk tQ F] cq (bK g,wR g,wD g,F,()):=by
 refine aT rfl (aU oX rfl (λO m=>o7 O m (wR g) (wD g) F) ?_)
 unfold hU
 have hn:=hg.n64
 refine ae (aJ (N:=(wR g).length) (I:=λi s=>s=(qO (nj (g.sp.take i)),(i:Int),wR g,wD g,F,())) ?_ ?_ ?_)
 ·have:qO (nj (g.sp.take 0))=[0]:=rD (by simp[Asc]) (by simp[nj])
  rw[this];rfl
 ·rintro i s hi rfl
  have hi2:i<g.sp.length:=by simpa using hi
  have hi3:i<(wD g).length:=by simpa using hi2
  have e1:(wR g)[i]=g.sp[i].1:=by simp
  have e2:(wD g)[i]=g.sp[i].2:=by simp
  have hq:=hg.inn _ (List.getElem_mem hi2)
  have hq2:=hg.le _ (List.getElem_mem hi2)
  have hl1:=Dr (nj (g.sp.take i))
  have hl2:=tP (g.sp.take i)
  rw[List.length_take]at hl2
  unfold dZ
  dsimp only
  refine bc hi (ae ?_)
  refine au hi (aW (x:=(wR g)[i]) (by rw[Int.toNat_natCast];exact List.getElem?_eq_getElem hi) ?_)
  rw[e1]
  refine ar (vR _ [g.sp[i].1] (rE _).1 (by simp[Asc]) (by omega) (by simp)) ?_
  rw[Dq]
  refine au hi3 (aW (x:=(wD g)[i]) (by rw[Int.toNat_natCast];exact List.getElem?_eq_getElem hi3) ?_)
  rw[e2,AG hi2]
  refine aN (λh=>?_) λh=>aa (aa ?_)
  ·have h:=of_decide_eq_true h
   refine au hi3 (aW (x:=(wD g)[i]) (by rw[Int.toNat_natCast];exact List.getElem?_eq_getElem hi3) ?_)
   rw[e2,wrap_i64 (by omega) (by omega)]
   have hl3:=Dr (nj (g.sp.take i)++[g.sp[i].1])
   rw[List.length_append,List.length_singleton]at hl3
   refine ar (vR (qO (nj (g.sp.take i)++[g.sp[i].1])) [g.sp[i].2+1] (rE _).1 (by simp[Asc]) (by omega) (by simp)) (aa (aa ?_))
   rw[Dq,an hi (by simp;omega),if_pos h]
   simp
  ·have h:=of_decide_eq_false h
   rw[an hi (by simp;omega),if_neg h]
 ·rintro s rfl
  unfold dZ
  refine aQ (aa (aa ?_))
  rw[List.take_of_length_le (by simp)]
  rfl
theorem wY{g:G}(hg:GOk g)(F:List Int)(a:Int):aP tbl cH [.ptr 0 0,.d tI a] [.box aC [.sl 1,.sl 2,.sl 3],.vec aX tI (wR g),.vec aX tI (wD g),.vec fk tQ F] bZ (((qx g a:Nat):Int),wR g,wD g,F,()):=by
 refine aT rfl (aU mU rfl (λO m=>mW O m a (wR g) (wD g) F) ?_)
 unfold fW
 have hn:=hg.n64
 refine ae (aJ (N:=(wR g).length) (I:=λi s=>s=(((bo ((List.range i).filter (gl g a)):Nat):Int),(i:Int),wR g,wD g,F,())) rfl ?_ ?_)
 ·rintro i s hi rfl
  have hi2:i<g.sp.length:=by simpa using hi
  have hi3:i<(wD g).length:=by simpa using hi2
  have e1:(wR g)[i]=g.sp[i].1:=by simp
  have e2:(wD g)[i]=g.sp[i].2:=by simp
  have eh:gl g a i=(decide (g.sp[i].1<=a)&&decide (a<=g.sp[i].2)):=by
   unfold gl
   rw[List.getElem?_eq_getElem hi2]
  unfold dm
  dsimp only
  refine bc hi (ae ?_)
  refine au hi (aW (x:=(wR g)[i]) (by rw[Int.toNat_natCast];exact List.getElem?_eq_getElem hi) ?_)
  rw[e1]
  refine ae (eb (b:=decide (a<=g.sp[i].2)) (λ_=>au hi3 (aW (x:=(wD g)[i]) (by rw[Int.toNat_natCast];exact List.getElem?_eq_getElem hi3) (aa (by rw[e2])))) ?_)
  rw[<-eh]
  have hb:bo ((List.range i).filter (gl g a))<2^64:=eF λp hp=>by
   have:=List.mem_range.1 (List.mem_filter.1 hp).1
   omega
  have hs:(List.range (i+1)).filter (gl g a)=(List.range i).filter (gl g a)++(if gl g a i=true then [i]else []):=by
   rw[List.range_succ,List.filter_append,List.filter_cons,List.filter_nil]
  rw[hs]
  refine aN (λh=>ap (decide_eq_true (by rw[wrap_u64];omega)) (aa (aa ?_))) λh=>aa (aa ?_)
  ·rw[MC (by omega),zL hb (Nat.pow_lt_pow_right (by decide) (by omega)),an hi (by simp;omega),if_pos h,tU]
   simp[bo]
  ·rw[an hi (by simp;omega),if_neg (by rw[h];simp),List.append_nil]
 ·rintro s rfl
  unfold dm
  refine aQ (aa (aa ?_))
  rw[List.length_map]
  rfl
abbrev Io(g:G):List Int:=eR g.pr g.sp.length
theorem ML{g:G}(hg:GOk g):∀p q,(p,q)∈g.pr->q<g.sp.length:=λp q h=>by have:=hg.lie.pr p q h;omega
theorem JQ{g:G}(hg:GOk g)(x:Option Nat):jR g x<2^64:=
 Nat.lt_of_lt_of_le (Hg hg.lie x) (Nat.pow_le_pow_right (by decide) hg.n64)
theorem N2{g:G}(hg:GOk g)(a:Int):qx g a<2^64:=
 Nat.lt_of_lt_of_le (Mb g a) (Nat.pow_le_pow_right (by decide) hg.n64)
theorem Oy{g:G}(hg:GOk g):bo g.la<2^64:=eF λp hp=>by have:=hg.lie.la p hp;have:=hg.n64;omega
abbrev SN:Type:=List (Option Nat)×List (Nat×Int)×List (List Nat)
noncomputable def aM(g:G)(i:Nat)(S:SN):Int×Int×List Int×List Int×List Int×Int×Int×Bool×List Int×Int×List (List Int)×List Bool×List NK×List (NK×Int)×Unit:=
 ((i:Int),(0:Int),wR g,wD g,Io g,((bo g.fi:Nat):Int),((bo g.la:Nat):Int),g.em,bK g,(0:Int),jT S.2.2,(S.1.take i).map (jQ g),S.1.map cu,AZ 0 S.1,())
theorem ze{g:G}(hg:GOk g)(i:Nat)(S:SN){b:Nat}(hb:b<2^64)(tb:Bool):
 Wp (λn=>aF n (ky (mh tbl n) n (aM g i S)) ((0:Int),(0:Int),(0:Int),wR g,wD g,Io g,((bo g.fi:Nat):Int),((bo g.la:Nat):Int),g.em,bK g,(0:Int),jT S.2.2,(S.1.take i).map (jQ g),S.1.map cu,AZ 0 S.1,tb,(b:Int),()))
  λr=>r=(((jR g (some b):Nat):Int),(0:Int),wR g,wD g,Io g,((bo g.fi:Nat):Int),((bo g.la:Nat):Int),g.em,bK g,(0:Int),jT S.2.2,(S.1.take i).map (jQ g),S.1.map cu,AZ 0 S.1,tb,(b:Int),()):=by
 have hn:=hg.n64
 have hF:(Io g).length=g.sp.length:=nu _ _
 refine aJ (N:=(Io g).length) (I:=λk s=>s=(((bo ((List.range k).flatMap λk=>if b.testBit k then xP g.pr k else []):Nat):Int),(k:Int),(0:Int),wR g,wD g,Io g,((bo g.fi:Nat):Int),((bo g.la:Nat):Int),g.em,bK g,(0:Int),jT S.2.2,(S.1.take i).map (jQ g),S.1.map cu,AZ 0 S.1,tb,(b:Int),())) rfl ?_ ?_
 ·rintro k s hk rfl
  have hk2:k<g.sp.length:=by rw[<-hF];exact hk
  have hc:bo ((List.range k).flatMap λk=>if b.testBit k then xP g.pr k else [])<2^64:=eF λp hp=>by
   obtain⟨j,_,hp⟩:=List.mem_flatMap.1 hp
   split at hp
   ·have:=ML hg _ _ (fol_mem.1 hp);omega
   ·cases hp
  have hs:(List.range (k+1)).flatMap (λk=>if b.testBit k then xP g.pr k else [])=((List.range k).flatMap λk=>if b.testBit k then xP g.pr k else [])++(if b.testBit k then xP g.pr k else []):=by
   rw[List.range_succ,List.flatMap_append];simp
  rw[hs]
  unfold ky
  simp only[aM]
  refine bc hk (ae (ap (decide_eq_true (by rw[wrap_u64];omega)) ?_))
  rw[Lp hb (by omega)]
  refine aN (λh=>?_) λh=>aa (aa ?_)
  ·refine au hk (aW (x:=(Io g)[k]) (by rw[Int.toNat_natCast];exact List.getElem?_eq_getElem hk) (aa (aa ?_)))
   rw[nt,zL hc (MH (ML hg) hn k),an hk (by omega),if_pos h,tU]
  ·rw[an hk (by omega),if_neg (by rw[h];simp),List.append_nil]
 ·rintro s rfl
  unfold ky
  simp only[aM]
  refine aQ (aa ?_)
  rw[hF]
  rfl
theorem zN{g:G}(hg:GOk g){i:Nat}{L:List (Option Nat)}{T:List (Nat×Int)}(h:Ok (ce g) none (bK g) L T)(hL:L.length<=4096){x:Option Nat}(hx:L[i]? =some x)(RR:List (List Int))(AA:List Bool)(c0:Int×List NK×List (NK×Int)):
 Wp (λn=>aF n (kz (mh tbl n) n (((jR g x:Nat):Int),(0:Int),wR g,wD g,Io g,((bo g.fi:Nat):Int),((bo g.la:Nat):Int),g.em,bK g,(0:Int),RR,AA,c0.2.1,c0.2.2,(cu x).1,(cu x).2.1,()))
  ((0:Int),(0:Int),wR g,wD g,Io g,((bo g.fi:Nat):Int),((bo g.la:Nat):Int),g.em,bK g,(0:Int),RR,AA,L.map cu,AZ 0 L,(cu x).1,(cu x).2.1,List.replicate (bK g).length 0,()))
  λr=>match iq (kj (BI 4096) (ce g) x i) (L,T,[]) (bK g)with
   | .inl r'=>r= .inr ((0:Int),wR g,wD g,Io g,((bo g.fi:Nat):Int),((bo g.la:Nat):Int),g.em,bK g,(0:Int),RR,AA,r'.1.map cu,AZ 0 r'.1,(cu x).1,(cu x).2.1,r'.2.2.map (fun(k:Nat)=>(k:Int)),())/\r'.1.length<=4096
   | .inr _=>r= .inl ((8:Int),(0:Int),()):=by
 have hk:=ra hg
 refine Fl (xs:=bK g) (f:=kj (BI 4096) (ce g) x i) (s0:=(L,T,[])) (Inv:=λj st=>Ok (ce g) none (bK g) st.1 st.2.1/\L<+:st.1/\st.2.2.length=j/\st.1.length<=4096)
  (enc:=λj st=>((j:Int),(0:Int),wR g,wD g,Io g,((bo g.fi:Nat):Int),((bo g.la:Nat):Int),g.em,bK g,(0:Int),RR,AA,st.1.map cu,AZ 0 st.1,(cu x).1,(cu x).2.1,oU (bK g).length st.2.2,()))
  (oE:=λst=>.inr ((0:Int),wR g,wD g,Io g,((bo g.fi:Nat):Int),((bo g.la:Nat):Int),g.em,bK g,(0:Int),RR,AA,st.1.map cu,AZ 0 st.1,(cu x).1,(cu x).2.1,oU (bK g).length st.2.2,())) (oB:=λ_=>.inl ((8:Int),(0:Int),())) ⟨h,List.prefix_refl _,rfl,hL⟩ (λj hj st hst=>?_) (λst hst=>?_) (λr hr hs=>?_)
 ·obtain⟨Lj,Tj,rj⟩:=st
  obtain⟨g1,g2,g3,g4⟩:=hst
  simp only at g1 g2 g3 g4
  subst g3
  have hx':=ux g2 hx
  unfold kz
  dsimp only
  refine bc hj (au hj (ar (wY hg _ _) ?_))
  dsimp only
  rw[JI (JQ hg x) (N2 hg _)]
  have hkey:((false,((jR g x&&&qx g (bK g)[rj.length]:Nat):Int),()):NK)=cu (ce g x (bK g)[rj.length]):=rfl
  rw[hkey]
  generalize hy:ce g x (bK g)[rj.length]=y
  have hkv:=HA y Lj 0
  have hrz:rj.length<(oU (bK g).length rj).length:=by unfold oU;simp;omega
  by_cases hm:y∈Lj
  ·rw[if_pos hm]at hkv
   have e:kj (BI 4096) (ce g) x i (Lj,Tj,rj) (bK g)[rj.length]= .inl (Lj,Tj,rj++[pos Lj y]):=EQ hy hm
   rw[e]
   refine ae (aN (λhc=>by rw[hkv]at hc;simp at hc) λ_=>aa ?_)
   refine au hrz (aW (x:=(oU (bK g).length rj)[rj.length]) (by simp) (aa ?_))
   refine⟨⟨g1,g2,by simp,g4⟩,?_⟩
   rw[hkv,an hj (by omega)]
   simp only[Option.getD_some,Int.toNat_natCast,Nat.zero_add]
   rw[yu hj]
  ·rw[if_neg hm]at hkv
   have hset:=HC y Lj 0 hm
   simp only[Nat.zero_add]at hset
   have hml:(Lj.map cu).length=Lj.length:=List.length_map _
   refine ae (aN (λ_=>?_) λhc=>by rw[hkv]at hc;simp at hc)
   rw[hml]
   refine aN (λhd=>aa ?_) λhd=>?_
   ·have hd:BI 4096 Lj y=true:=by
     have:=of_decide_eq_true hd
     exact decide_eq_true (by omega)
    rw[By hy hm hd]
    exact aa rfl
   ·have hd':BI 4096 Lj y=false:=by
     have:=of_decide_eq_false hd
     exact decide_eq_false (by omega)
    have hlt:Lj.length<4096:=by have:=of_decide_eq_false hd;omega
    have hok:Ok (ce g) none (bK g) (Lj++[y]) (Tj++[(i,(bK g)[rj.length])]):=by rw[<-hy]at hm⊢;exact g1.add hx' (List.getElem_mem hj) hm
    rw[ER hy hm hd']
    refine ap (decide_eq_true (by rw[HB];simp only[maxLen];omega)) (ap (decide_eq_true (by simp;omega)) (aa ?_))
    refine au hrz (aW (x:=(oU (bK g).length rj)[rj.length]) (by simp) (aa ?_))
    refine⟨⟨hok,g2.trans (List.prefix_append _ _),by simp,by simp;omega⟩,?_⟩
    rw[an hj (by omega)]
    simp only[Int.toNat_natCast]
    rw[yu hj,hset,List.map_append]
    rfl
 ·unfold kz
  exact aQ (aa rfl)
 ·rw[Cn]at hr
  rw[hr]
  cases r with
  |inl st=>
   obtain⟨g1,g2,g3,g4⟩:=hs st rfl
   refine⟨?_,g4⟩
   simp only[oU,g3,Nat.sub_self,List.replicate_zero,List.append_nil]
  |inr r=>rfl
theorem xK{g:G}(i:Nat):(bY g i).2.2.length<=i:=by
 rw[rN i i (Nat.le_refl _),List.length_map,List.length_take]
 omega
theorem AD{g:G}{L:List (Option Nat)}{i:Nat}{x:Option Nat}(hx:L[i]? =some x):(L.take i).map (jQ g)++[jQ g x]=(L.take (i+1)).map (jQ g):=by
 rw[List.take_add_one,hx,List.map_append];rfl
theorem EE{α:Type}{L L':List α}(h:L<+:L'){i:Nat}(hi:i<=L.length):L'.take i=L.take i:=by
 obtain⟨t,rfl⟩:=h
 rw[List.take_append_of_le_length hi]
theorem qA{r:Rx}(hr:mf r=0){m:DF}(hm:(pP (bC r 0)).length<=4096->aP tbl eQ [.d (pr [.list tI,.list (.list tI),.list tB,tI]) (dN (bC r 0))] [] dj (m,())):
 aP tbl cU [.d .rx r] [] cb (match jC (bC r 0) NL with| .inl _=>(m,0,())| .inr _=>(zD,8,())):=by
 obtain⟨hw,hsz⟩:=pj hr
 have hg:=Co hw hsz
 have hcnt:=uY r
 refine aT (by cases jC (bC r 0) NL<;>rfl) (aU wl rfl (λO n=>wo O n r) ?_)
 unfold qE
 refine ar (sg r (by omega)) ?_
 rw[hr]
 refine b5 rfl ?_
 have hwalk:=Fw r hw (by omega) [] [] [] rfl (λp q h=>by cases h) (by simp;omega)
 simp only[List.length_nil,Nat.zero_add,List.nil_append]at hwalk
 have ef:eR ([]:List (Nat×Nat)) 0=[]:=rfl
 rw[ef]at hwalk
 refine ar hwalk ?_
 generalize bC r 0=g at*
 have hk:=ra hg
 refine ar (BO hg _) ?_
 refine gF (x:=cu none) (by decide) rfl (aW (x:=cu none) rfl (ap rfl ?_))
 refine ae (Ev.wp_loop (λs=>∃i S,s=aM g i S/\jC g i= .inl S/\i<=S.1.length) (λs=>NL - s.1.toNat) ⟨0,([none],[],[]),rfl,rfl,by simp⟩ ?_)
 rintro s ⟨i,S,rfl,hS,hiS⟩
 obtain⟨hSe,hq⟩:=(i5 i).1 S hS
 have hSe:S=bY g i:=hSe
 have hNL:=G4
 subst hSe
 have hok:Ok (ce g) none (bK g) (bY g i).1 (bY g i).2.1:=cI i
 have hlen:=vA hq
 have hrl:=xK (g:=g) i
 unfold sG
 have hml:((bY g i).1.map cu).length=(bY g i).1.length:=List.length_map _
 simp only[aM]
 refine aN (λh=>?_) λh=>?_
 ·have hi:i<(bY g i).1.length:=by have:=of_decide_eq_true h;omega
  have hx:=List.getElem?_eq_getElem hi
  generalize hxe:(bY g i).1[i]=x at hx
  have hxm:((bY g i).1.map cu)[i]? =some (cu x):=by rw[List.getElem?_map,hx];rfl
  refine gF (x:=cu x) (by omega) (by rw[Int.toNat_natCast];exact hxm) (aW (x:=cu x) (by rw[Int.toNat_natCast];exact hxm) ?_)
  refine ae (Ev.wp_mono (Q:=λv=>v=(((jR g x:Nat):Int),(0:Int),wR g,wD g,Io g,((bo g.fi:Nat):Int),((bo g.la:Nat):Int),g.em,bK g,(0:Int),jT (bY g i).2.2,((bY g i).1.take i).map (jQ g),(bY g i).1.map cu,AZ 0 (bY g i).1,(cu x).1,(cu x).2.1,())) ?_ ?_)
  ·cases x with
   |none=>exact b5 rfl (aa rfl)
   |some b=>
    have hb:b<2^64:=by
     have:=hok.inv (P:=λy=>∀c,y=some c->c<2^64) (λc hc=>by cases hc) (λy c _ _ d hd=>by
      have:jR g y&&&qx g c=d:=by simpa[ce]using hd
      rw[<-this]
      exact Nat.lt_of_le_of_lt Nat.and_le_left (JQ hg y)) i _ hx
     exact this b rfl
    refine fE rfl (ae (Ev.wp_mono (ze hg i (bY g i) hb false) ?_))
    rintro v rfl
    exact aa rfl
  rintro v rfl
  dsimp only
  refine ap (Eo (by omega)) (ae (Ev.wp_mono (zN hg hok hlen hx _ _ ((0:Int),(bY g i).1.map cu,AZ 0 (bY g i).1)) λt ht=>?_))
  have hsucc:jC g (i+1)=match iq (kj (BI 4096) (ce g) x i) ((bY g i).1,(bY g i).2.1,[]) (bK g)with
   | .inl r=>.inl (r.1,r.2.1,(bY g i).2.2++[r.2.2])
   | .inr r=>.inr (r.1,r.2,(bY g i).2.2):=by
   have hS':gf (ce g) none (bK g) (BI 4096) i= .inl (bY g i):=hS
   simp only[jC,gf,hS',hx]
   generalize iq (kj (BI 4096) (ce g) x i) ((bY g i).1,(bY g i).2.1,[]) (bK g)=z
   cases z<;>rfl
  cases hf:iq (kj (BI 4096) (ce g) x i) ((bY g i).1,(bY g i).2.1,[]) (bK g)with
  |inl r'=>
   rw[hf]at ht hsucc
   obtain⟨rfl,h2⟩:=ht
   have hpre:=((i5 (i+1)).1 _ hsucc).1
   have hp:=(fI (f:=ce g) (s0:=none) (ls:=bK g) i).1
   rw[<-hpre]at hp
   have hpl:(bY g i).1.length<=r'.1.length:=hp.length_le
   refine ap (decide_eq_true (by simp[jT];omega)) ?_
   refine ae (eb (b:=g.em) (λ_=>aa rfl) ?_)
   refine ae (cg (b:= !(cu x).1&&(eo .u64 .and (cu x).2.1 ((bo g.la:Nat):Int) != (0:Int))) (λ_=>ae (eb (λ_=>aa rfl) (aa rfl))) ?_)
   have hacc:(((cu x).1&&g.em)||(!(cu x).1&&(eo .u64 .and (cu x).2.1 ((bo g.la:Nat):Int) != (0:Int))))=jQ g x:=by
    cases x with
    |none=>simp[cu,jQ]
    |some b=>
     have hb:b<2^64:=by
      have:=hok.inv (P:=λy=>∀c,y=some c->c<2^64) (λc hc=>by cases hc) (λy c _ _ d hd=>by
       have:jR g y&&&qx g c=d:=by simpa[ce]using hd
       rw[<-this]
       exact Nat.lt_of_le_of_lt Nat.and_le_left (JQ hg y)) i _ hx
      exact this b rfl
     simp only[cu,jQ,Bool.false_and,Bool.not_false,Bool.true_and,Bool.false_or]
     rw[JI hb (Oy hg)]
     by_cases e:b&&&bo g.la=0
     ·rw[e];rfl
     ·rw[show((((b&&&bo g.la:Nat):Int)) != 0)=true by simp;omega,show(b&&&bo g.la != 0)=true by simpa using e]
   rw[hacc]
   refine ap (decide_eq_true (by simp;omega)) (aa ?_)
   refine⟨⟨i+1,(r'.1,r'.2.1,(bY g i).2.2++[r'.2.2]),?_,hsucc,Nat.le_trans hi hpl⟩,?_⟩
   ·simp only[aM,jT,List.map_append,List.map_cons,List.map_nil]
    rw[an hi (by omega),show(r'.1.take (i+1)).map (jQ g)=((bY g i).1.take i).map (jQ g)++[jQ g x]from by rw[AD hx,EE (L':=r'.1) hp (Nat.succ_le_of_lt hi)]]
   ·rw[an hi (by omega)]
    simp only[Int.toNat_natCast]
    omega
  |inr r'=>
   rw[hf]at ht hsucc
   subst ht
   refine aa (aa ?_)
   have he:jC g NL= .inr (r'.1,r'.2,(bY g i).2.2):=xJ (by omega) hsucc
   rw[he]
   rfl
 ·have hi:(bY g i).1.length<=i:=by have:=of_decide_eq_false h;omega
  have he:jC g NL= .inl (bY g i):=AQ (by omega) hS hi
  have hfin:bY g NL=bY g i:=q6 (by omega) hi
  have hall:(pP g).length<=4096:=by unfold pP;rw[hfin];exact hlen
  have hd:((bK g,jT (bY g i).2.2,((bY g i).1.take i).map (jQ g),(0:Int),()):DF)=dN g:=by
   have h1:=Hk hall
   rw[hfin]at h1
   rw[<-h1,List.take_of_length_le hi,<-hfin]
   rfl
  rw[he]
  refine aa ?_
  show Wp (λn=>Option.bind (aI (mh tbl n) eQ [.d (pr [.list tI,.list (.list tI),.list tB,tI]) (bK g,jT (bY g i).2.2,((bY g i).1.take i).map (jQ g),(0:Int),())] [] dj) _) _
  rw[hd]
  exact ar (hm hall) (aa rfl)
end Go.Proofs.Ytbpdbooalkkenaa
namespace Go.Proofs.Ytbpdbooalkkenaa
open Go Go.Av Go.Ev Go.Pl
section
variable {α β:Type}
theorem BM{xs:List α}{i:Nat}{f:Nat->α->Option β}{Q:β->Prop}(h:i<xs.length)(hk:Wp (λn=>f n xs[i]) Q):Wp (λn=>Option.bind (aD xs (i:Int)) λ_=>Option.bind xs[Int.toNat (i:Int)]? (f n)) Q:=by
 refine au h ?_
 rw[Int.toNat_natCast]
 exact aW (List.getElem?_eq_getElem h) hk
theorem qi{M i:Nat}{g:Nat->Bool}{f:Nat->Bool->Option β}{Q:β->Prop}(h:i<M)(hk:Wp (λn=>f n (g i)) Q):Wp (λn=>Option.bind (aD (aV M g) (i:Int)) λ_=>Option.bind (aV M g)[Int.toNat (i:Int)]? (f n)) Q:=by
 refine BM (by rw[cD];exact h) ?_
 rw[pE]
 exact hk
end
theorem Gw{M:Nat}(hM:M<=1000000):Wp (λn=>aF n (iL (mh tbl n) n ((M:Int),())) ((0:Int),List.replicate (Int.toNat (M:Int)) ([]:List Bool),())) λt=>t=(ej M [],()):=by
 have hz:ej M []=List.replicate M (List.replicate M false):=by
  refine List.ext_getElem (by simp[ej]) λi h1 h2=>?_
  rw[ut,List.getElem_replicate]
  refine List.ext_getElem (by simp) λj h3 h4=>by simp
 refine aJ (N:=M) (I:=λi s=>s=((i:Int),(List.replicate M (List.replicate M false)).take i++List.replicate (M - i) [],())) (by simp) ?_ ?_
 ·rintro i s hi rfl
  have hln:((List.replicate M (List.replicate M false)).take i++List.replicate (M - i) ([]:List Bool)).length=M:=by simp;omega
  have hget:i<((List.replicate M (List.replicate M false)).take i++List.replicate (M - i) ([]:List Bool)).length:=by rw[hln];exact hi
  unfold iL
  show Wp (λn=>bif decide ((i:Int)<((List.replicate (Int.toNat (M:Int)) ([]:List Bool)).length:Int))then _ else _) _
  rw[List.length_replicate,Int.toNat_natCast]
  refine bc hi ?_
  show Wp (λn=>aw _ _) _
  refine ap (by rw[hln];simp only[Bool.and_eq_true,decide_eq_true_eq];omega) ?_
  refine au hget (ap (decide_eq_true (by omega)) ?_)
  rw[Int.toNat_natCast]
  refine aW (List.getElem?_eq_getElem hget) (aW (List.getElem?_eq_getElem hget) (ap (Nat.beq_refl _) (aW (List.getElem?_eq_getElem hget) (aa ?_))))
  rw[an hi (by omega),hln,Int.toNat_natCast]
  congr 2
  refine List.ext_getElem? λj=>?_
  rw[List.getElem?_set]
  by_cases hj:i=j
  ·subst hj
   rw[if_pos rfl,if_pos hget,List.getElem?_append_left (by simp;omega),List.take_replicate,List.getElem?_replicate,if_pos (by omega)]
   rfl
  ·rw[if_neg hj]
   by_cases h1:j<i
   ·rw[List.getElem?_append_left (by simp;omega),List.getElem?_append_left (by simp;omega)]
    rw[List.take_replicate,List.take_replicate,List.getElem?_replicate,List.getElem?_replicate,if_pos (by omega),if_pos (by omega)]
   ·rw[List.getElem?_append_right (by simp;omega),List.getElem?_append_right (by simp;omega)]
    simp only[List.length_take,List.length_replicate,List.getElem?_replicate]
    rw[Nat.min_eq_left (by omega),Nat.min_eq_left (by omega)]
    by_cases h2:j<M
    ·rw[if_pos (by omega),if_pos (by omega)]
    ·rw[if_neg (by omega),if_neg (by omega)]
 ·rintro s rfl
  unfold iL
  show Wp (λn=>bif decide ((M:Int)<((List.replicate (Int.toNat (M:Int)) ([]:List Bool)).length:Int))then _ else _) _
  rw[List.length_replicate,Int.toNat_natCast]
  refine aQ (aa ?_)
  show(_,_)=(_,_)
  rw[hz]
  simp
theorem Cl{M:Nat}(hM:M<=1000000)(fi la:List Nat)(em:Bool)(lo up:List Int)(F:List (List Bool))(hfi:∀p∈fi,p<M)(hl:fi.length<=1000000):
 Wp (λn=>aF n (iM (mh tbl n) n ((cL fi,cL la,em,()),lo,up,F,())) ((0:Int),lo,up,F,cL fi,cL la,em,aV M (λ_=>false),())) λt=>t=(lo,up,F,cL fi,cL la,em,aV M (λp=>decide (p∈fi)),()):=by
 refine aJ (N:=(cL fi).length) (I:=λi s=>s=((i:Int),lo,up,F,cL fi,cL la,em,aV M (λp=>decide (p∈fi.take i)),())) (by simp) ?_ ?_
 ·rintro i s hi' rfl
  have hi:i<fi.length:=by rw[bz]at hi';exact hi'
  have hp:=hfi _ (List.getElem_mem hi)
  unfold iM
  refine bc hi' (au hi' ?_)
  rw[qS hi]
  refine qi hp (aa ?_)
  rw[an hi' (by rw[bz];omega),Int.toNat_natCast,lP]
  have e:(aV M λj=>if j=fi[i]then true else decide (j∈fi.take i))=aV M λp=>decide (p∈fi.take (i+1)):=cf λj _=>by
   have ht:∀x,x∈fi.take (i+1)↔x∈fi.take i\/x=fi[i]:=λx=>by
    rw[List.take_add_one,List.getElem?_eq_getElem hi,List.mem_append,Option.toList_some,List.mem_singleton]
   by_cases h:j=fi[i]
   ·rw[if_pos h,decide_eq_true ((ht j).2 (.inr h))]
   ·rw[if_neg h]
    refine decide_eq_decide.2 ⟨λh1=>(ht j).2 (.inl h1),λh1=>((ht j).1 h1).resolve_right h⟩
  rw[e]
 ·rintro s rfl
  unfold iM
  refine aQ (aa ?_)
  rw[bz,List.take_length]
theorem Gg{M:Nat}(hM:M<=1000000){i:Nat}(hi:i<M)(P:List (Nat×Nat))(lo up fi la:List Int)(em:Bool)(fc fa0 fa fn:Nat->Bool):
 Wp (λn=>aF n (iN (mh tbl n) n ((i:Int),ej M P,lo,up,fi,la,em,aV M fc,aV M fa0,aV M fn,())) ((0:Int),ej M P,lo,up,fi,la,em,aV M fc,aV M fa,aV M fn,())) λt=>
  t=(ej M P,lo,up,fi,la,em,aV M fc,aV M fa,aV M (λq=>fn q||(fa i&&decide ((i,q)∈P))),()):=by
 refine aJ (N:=(aV M fn).length) (I:=λk s=>s=((k:Int),ej M P,lo,up,fi,la,em,aV M fc,aV M fa,aV M (λq=>if q<k then fn q||(fa i&&decide ((i,q)∈P))else fn q),())) (by simp) ?_ ?_
 ·rintro k s hk' rfl
  have hk:k<M:=by rw[cD]at hk';exact hk'
  unfold iN
  refine bc hk' (qi hk ?_)
  rw[if_neg (Nat.lt_irrefl k)]
  refine ae (cg (b:=fa i&&decide ((i,k)∈P)) (λ_=>?_) ?_)
  ·refine qi hi (ae (eb (b:=decide ((i,k)∈P)) (λ_=>?_) (aa rfl)))
   refine au (xs:=ej M P) (by rw[xY];exact hi) ?_
   rw[ut]
   refine au (by simpa using hk) (aa ?_)
   simp
  ·refine qi hk (aa ?_)
   rw[an hk' (by rw[cD];omega),Int.toNat_natCast,lP]
   have e:(aV M λj=>if j=k then fn k||(fa i&&decide ((i,k)∈P))else if j<k then fn j||(fa i&&decide ((i,j)∈P))else fn j)=aV M λq=>if q<k+1 then fn q||(fa i&&decide ((i,q)∈P))else fn q:=cf λj _=>by
    by_cases h:j=k
    ·subst h;simp
    ·by_cases h1:j<k
     ·simp[h,h1,show j<k+1 by omega]
     ·simp[h,h1,show ¬j<k+1 by omega]
   rw[e]
 ·rintro s rfl
  unfold iN
  refine aQ (aa ?_)
  rw[cD]
  have e:(aV M λq=>if q<M then fn q||(fa i&&decide ((i,q)∈P))else fn q)=aV M λq=>fn q||(fa i&&decide ((i,q)∈P)):=cf λj hj=>by rw[if_pos hj]
  rw[e]
theorem xi(f:Nat->Bool)(i:Nat):(List.range (i+1)).any f=((List.range i).any f||f i):=by
 rw[List.range_succ,List.any_append];simp
theorem GV{M:Nat}(hM:M<=1000000)(g:G)(hsp:g.sp.length=M)(hpr:∀p q,(p,q)∈g.pr->p<M)(zJ:Int)(fi la:List Int)(em:Bool)(fc fa:Nat->Bool)(v:Int):
 Wp (λn=>aF n (iO (mh tbl n) n (zJ,ej M g.pr,g.sp.map (·.1),g.sp.map (·.2),fi,la,em,aV M fc,aV M fa,()) v) ((0:Int),ej M g.pr,g.sp.map (·.1),g.sp.map (·.2),fi,la,em,aV M fc,aV M fa,aV M (λ_=>false),())) λt=>
  t=(ej M g.pr,g.sp.map (·.1),g.sp.map (·.2),fi,la,em,aV M (wv g fc v),aV M (JA g (wv g fc v)),()):=by
 refine aJ (N:=(aV M fa).length) (I:=λi s=>s=((i:Int),ej M g.pr,g.sp.map (·.1),g.sp.map (·.2),fi,la,em,aV M fc,aV M (λj=>if j<i then wv g fc v j else fa j),aV M (λq=>(List.range i).any λj=>wv g fc v j&&decide ((j,q)∈g.pr)),())) (by simp) ?_ ?_
 ·rintro i s hi' rfl
  have hi:i<M:=by rw[cD]at hi';exact hi'
  have his:i<g.sp.length:=by omega
  have hh:gl g v i=(decide (g.sp[i].1<=v)&&decide (v<=g.sp[i].2)):=by
   unfold gl
   rw[List.getElem?_eq_getElem his]
  unfold iO
  refine bc hi' (qi hi ?_)
  refine ae (eb (b:=decide (g.sp[i].1<=v)) (λ_=>?_) ?_)
  ·refine BM (xs:=g.sp.map (·.1)) (by simpa using his) ?_
   refine aa ?_
   simp
  refine ae (eb (b:=decide (v<=g.sp[i].2)) (λ_=>?_) ?_)
  ·refine BM (xs:=g.sp.map (·.2)) (by simpa using his) ?_
   refine aa ?_
   simp
  refine qi hi ?_
  have ha:((fc i&&decide (g.sp[i].1<=v))&&decide (v<=g.sp[i].2))=wv g fc v i:=by
   unfold wv
   rw[hh,Bool.and_assoc]
  rw[ha,Int.toNat_natCast]
  have e1:(aV M λj=>if j<i then wv g fc v j else fa j).set i (wv g fc v i)=aV M λj=>if j<i+1 then wv g fc v j else fa j:=by
   rw[lP]
   refine cf λj _=>?_
   by_cases h:j=i
   ·subst h;simp
   ·by_cases h1:j<i
    ·simp[h,h1,show j<i+1 by omega]
    ·simp[h,h1,show ¬j<i+1 by omega]
  rw[e1]
  refine ae (Ev.wp_mono (Gg hM hi g.pr _ _ fi la em fc _ _ _) ?_)
  rintro t rfl
  refine aa ?_
  rw[an hi' (by rw[cD];omega)]
  have e2:(aV M λq=>((List.range i).any λj=>wv g fc v j&&decide ((j,q)∈g.pr))||((if i<i+1 then wv g fc v i else fa i)&&decide ((i,q)∈g.pr)))=aV M λq=>(List.range (i+1)).any λj=>wv g fc v j&&decide ((j,q)∈g.pr):=cf λq _=>by
   rw[xi,if_pos (Nat.lt_succ_self i)]
  rw[e2]
 ·rintro s rfl
  unfold iO
  refine aQ (aa ?_)
  rw[cD]
  have e1:(aV M λj=>if j<M then wv g fc v j else fa j)=aV M (wv g fc v):=cf λj hj=>by rw[if_pos hj]
  have e2:(aV M λq=>(List.range M).any λj=>wv g fc v j&&decide ((j,q)∈g.pr))=aV M (JA g (wv g fc v)):=cf λq _=>by
   refine Bool.eq_iff_iff.2 ?_
   rw[nxF_iff,List.any_eq_true]
   constructor
   ·rintro⟨p,_,h⟩
    simp only[Bool.and_eq_true,decide_eq_true_eq]at h
    exact⟨p,h⟩
   ·rintro⟨p,h1,h2⟩
    exact⟨p,List.mem_range.2 (hpr p q h2),by simp[h1,h2]⟩
  rw[e1,e2]
theorem EI{path:List Int}{i:Nat}(h:i<path.length):eU (path.take (i+1))=(eU (path.take i)&&(decide (0<=path[i])&&decide (path[i]<=4294967295))):=by
 unfold eU
 rw[List.take_add_one,List.getElem?_eq_getElem h,List.all_append]
 simp
theorem EJ{path:List Int}{i:Nat}(h:eU (path.take i)=false):eU path=false:=by
 cases e:eU path
 ·rfl
 ·have:eU (path.take i)=true:=by
   unfold eU at e⊢
   rw[List.all_eq_true]at e⊢
   exact λx hx=>e x (List.mem_of_mem_take hx)
  rw[this]at h;cases h
theorem Gk{M:Nat}(hM:M<=1000000)(g:G)(hsp:g.sp.length=M)(hpr:∀p q,(p,q)∈g.pr->p<M)(fi la:List Int)(em:Bool)(path:List Int)(hp:path.length<=1000000):
 Wp (λn=>aF n (iP (mh tbl n) n path) ((0:Int),ej M g.pr,g.sp.map (·.1),g.sp.map (·.2),fi,la,em,aV M (ek g []).1,aV M (ek g []).2,())) λt=>match t with
  | .inl e=>e=(false,())/\eU path=false
  | .inr t=>eU path=true/\t=(fi,la,em,aV M (ek g path).2,()):=by
 refine aJ (N:=path.length) (I:=λi s=>eU (path.take i)=true/\s=((i:Int),ej M g.pr,g.sp.map (·.1),g.sp.map (·.2),fi,la,em,aV M (ek g (path.take i)).1,aV M (ek g (path.take i)).2,())) ⟨rfl,by simp⟩ ?_ ?_
 ·rintro i s hi ⟨hr,rfl⟩
  have hsu:=EI hi
  rw[hr,Bool.true_and]at hsu
  unfold iP
  refine bc hi (au hi ?_)
  refine ae (cg (b:=decide (path[i]>4294967295)) (λ_=>aa rfl) ?_)
  refine aN (λh=>aa ⟨rfl,?_⟩) λh=>?_
  ·refine EJ (i:=i+1) ?_
   rw[hsu]
   have h:(decide (path[i]<0)||decide (path[i]>4294967295))=true:=h
   simp only[Bool.or_eq_true,decide_eq_true_eq]at h
   simp only[Bool.and_eq_false_iff,decide_eq_false_iff_not]
   omega
  ·have h:(decide (path[i]<0)||decide (path[i]>4294967295))=false:=h
   simp only[Bool.or_eq_false_iff,decide_eq_false_iff_not]at h
   have hl:(aV M (ek g (path.take i)).1).length=M:=cD _ _
   refine ap ?_ ?_
   ·show(decide (0<=((aV M (ek g (path.take i)).1).length:Int))&&decide (((aV M (ek g (path.take i)).1).length:Int)<=((aV M (ek g (path.take i)).1).length:Int))&&decide (((aV M (ek g (path.take i)).1).length:Int)<=9223372036854775807)&&decide (1*((aV M (ek g (path.take i)).1).length:Int)<=281474976710656))=true
    rw[hl]
    simp only[Bool.and_eq_true,decide_eq_true_eq]
    omega
   have h3:=GV hM g hsp hpr (i:Int) fi la em (ek g (path.take i)).1 (ek g (path.take i)).2 path[i]
   have hz:List.replicate (Int.toNat ((aV M (ek g (path.take i)).1).length:Int)) (Ty.zero tB)=aV M λ_=>false:=by
    rw[hl,Int.toNat_natCast];exact rB M
   rw[<-hz]at h3
   refine ae (Ev.wp_mono h3 ?_)
   rintro t rfl
   refine aa ⟨?_,?_⟩
   ·rw[hsu]
    simp only[Bool.and_eq_true,decide_eq_true_eq]
    omega
   ·rw[an hi (by omega),vE hi]
    rfl
 ·rintro s ⟨hr,rfl⟩
  unfold iP
  rw[List.take_length]at hr
  refine aQ (aa ⟨hr,?_⟩)
  rw[List.take_length]
theorem y9(r:Rx)(hs:sz r<=100000)(path:List Int)(hp:path.length<=1000000):
 aP tbl kK [.d .rx r,.d (.list tI) path] [] dl (cZ r&&(eU path&&gY (bC r 0) path),()):=by
 refine aT rfl (aU Ae rfl (λO m=>Aw O m r path) ?_)
 unfold sE
 refine ar (BQ r (by omega)) (aN (λh=>aa ?_) λh=>?_)
 ·have h:(!cZ r)=true:=h
  have:cZ r=false:=by simpa using h
  rw[this];rfl
 have hw:cZ r=true:=by
  have h:(!cZ r)=false:=h
  simpa using h
 rw[hw,Bool.true_and]
 have hM:cnt r<=100000:=Nat.le_trans (uY r) hs
 obtain⟨hsp,_⟩:=cQ r hw 0
 have hlie:=ee r 0
 refine ar (zc r (by omega)) (ap ?_ (ae (Ev.wp_mono (Gw (M:=cnt r) (by omega)) ?_)))
 ·show(decide (0<=(cnt r:Int))&&decide ((cnt r:Int)<=(cnt r:Int))&&decide ((cnt r:Int)<=9223372036854775807)&&decide (24*(cnt r:Int)<=281474976710656))=true
  simp only[Bool.and_eq_true,decide_eq_true_eq]
  omega
 rintro t rfl
 have hwk:=rY (M:=cnt r) (by omega) r hw (by omega) [] [] [] rfl (by simp)
 simp only[List.nil_append,List.length_nil]at hwk
 generalize hg:bC r 0=g at*
 have hl:(ej (cnt r) g.pr).length=cnt r:=xY _ _
 have hz:List.replicate (Int.toNat ((ej (cnt r) g.pr).length:Int)) (Ty.zero tB)=aV (cnt r) λ_=>false:=by
  rw[hl,Int.toNat_natCast];exact rB _
 refine ar hwk (ap ?_ ?_)
 ·show(decide (0<=((ej (cnt r) g.pr).length:Int))&&decide (((ej (cnt r) g.pr).length:Int)<=((ej (cnt r) g.pr).length:Int))&&decide (((ej (cnt r) g.pr).length:Int)<=9223372036854775807)&&decide (1*((ej (cnt r) g.pr).length:Int)<=281474976710656))=true
  rw[hl]
  simp only[Bool.and_eq_true,decide_eq_true_eq]
  omega
 have h1:=Cl (M:=cnt r) (by omega) g.fi g.la g.em (g.sp.map (·.1)) (g.sp.map (·.2)) (ej (cnt r) g.pr) (λp hp=>by have:=hlie.fi p hp;omega) (by have:=hlie.fl;omega)
 rw[<-hz]at h1
 refine ae (Ev.wp_mono h1 ?_)
 rintro t rfl
 have hl2:(aV (cnt r) λp=>decide (p∈g.fi)).length=cnt r:=cD _ _
 have hz2:List.replicate (Int.toNat ((aV (cnt r) λp=>decide (p∈g.fi)).length:Int)) (Ty.zero tB)=aV (cnt r) λ_=>false:=by
  rw[hl2,Int.toNat_natCast];exact rB _
 refine ap ?_ ?_
 ·show(decide (0<=((aV (cnt r) λp=>decide (p∈g.fi)).length:Int))&&decide (((aV (cnt r) λp=>decide (p∈g.fi)).length:Int)<=((aV (cnt r) λp=>decide (p∈g.fi)).length:Int))&&decide (((aV (cnt r) λp=>decide (p∈g.fi)).length:Int)<=9223372036854775807)&&decide (1*((aV (cnt r) λp=>decide (p∈g.fi)).length:Int)<=281474976710656))=true
  rw[hl2]
  simp only[Bool.and_eq_true,decide_eq_true_eq]
  omega
 have h4:=Gk (M:=cnt r) (by omega) g hsp (λp q h=>by have:=(hlie.pr p q h).1;omega) (cL g.fi) (cL g.la) g.em path hp
 have hst:(aV (cnt r) (ek g []).2)=List.replicate (Int.toNat ((aV (cnt r) λp=>decide (p∈g.fi)).length:Int)) (Ty.zero tB):=hz2.symm
 rw[hst]at h4
 refine ae (Ev.wp_mono h4 ?_)
 rintro(e|t) ht
 ·obtain⟨rfl,hr⟩:=ht
  refine aa ?_
  rw[hr];rfl
 obtain⟨hr,rfl⟩:=ht
 rw[hr,Bool.true_and]
 refine aN (λh=>aa ?_) λh=>?_
 ·have:path=[]:=List.eq_nil_of_length_eq_zero (by
   have h:((path.length:Int)==0)=true:=h
   simpa using h)
  subst this
  rfl
 ·have hne:path.isEmpty=false:=by
   cases path with
   |nil=>cases h
   |cons=>rfl
  have hmg:gY g path=g.la.any (ek g path).2:=by unfold gY;rw[hne];rfl
  rw[hmg]
  have hlast:Wp (λn=>aF n (iQ (mh tbl n) n (cL g.fi,cL g.la,g.em,aV (cnt r) (ek g path).2,())) ((0:Int),aV (cnt r) (ek g path).2,())) λt=>match t with
   | .inl e=>e=(true,())/\g.la.any (ek g path).2=true
   | .inr _=>g.la.any (ek g path).2=false:=by
   refine aJ (N:=(cL g.la).length) (I:=λi s=>s=((i:Int),aV (cnt r) (ek g path).2,())/\(g.la.take i).any (ek g path).2=false) ⟨rfl,rfl⟩ ?_ ?_
   ·rintro i s hi' ⟨rfl,ha⟩
    have hi:i<g.la.length:=by rw[bz]at hi';exact hi'
    have hm:=List.getElem_mem hi
    have hlt:g.la[i]<cnt r:=by have:=hlie.la _ hm;omega
    have hll:=hlie.ll
    unfold iQ
    refine bc hi' (au hi' ?_)
    rw[qS hi]
    refine qi hlt (aN (λh=>aa ⟨rfl,?_⟩) λh=>aa ⟨?_,?_⟩)
    ·exact List.any_eq_true.2 ⟨_,hm,h⟩
    ·rw[an hi' (by rw[bz];omega)]
    ·rw[List.take_add_one,List.getElem?_eq_getElem hi,List.any_append,ha]
     simp[h]
   ·rintro s ⟨rfl,ha⟩
    unfold iQ
    refine aQ (aa ?_)
    rw[bz,List.take_length]at ha
    exact ha
  refine ae (Ev.wp_mono hlast ?_)
  rintro(e|t) ht
  ·obtain⟨rfl,ha⟩:=ht
   refine aa ?_
   rw[ha]
  ·refine aa ?_
   rw[show g.la.any (ek g path).2=false from ht]
end Go.Proofs.Ytbpdbooalkkenaa
namespace Go.Proofs.Ytbpdbooalkkenaa
open Go Go.Av Go.Ev Go.Pl
structure CurR(M:Nat)(C:List Int)(can:Nat->Bool):Prop where
 bd:∀x∈C,0<=x/\x<(M:Int)
 mem:∀q:Nat,(q:Int)∈C↔can q=true
 len:C.length<=10000000000
theorem getD_lt{F:List (List Int)}{i:Nat}(h:i<F.length):F.getD i []=F[i]:=by
 rw[List.getD_eq_getElem?_getD,List.getElem?_eq_getElem h];rfl
theorem LY{F:List (List Int)}{i:Nat}(h:F.length<=i):F.getD i []=[]:=by
 rw[List.getD_eq_getElem?_getD,List.getElem?_eq_none h];rfl
def nA(F:List (List Int))(H:List Int):List Int:=H.flatMap λx=>F.getD x.toNat []
theorem vt{n:Nat}{F:List (List Int)}{P:List (Nat×Nat)}(hF:FolR n F P):∀(H:List Int),(nA F H).length<=H.length*n
 |[]=>by simp[nA]
 |x::H=>by
  have h1:(F.getD x.toNat []).length<=n:=by
   by_cases h:x.toNat<F.length
   ·rw[getD_lt h];exact hF.len1 h
   ·rw[LY (by omega)];exact Nat.zero_le _
  have:=vt hF H
  rw[show nA F (x::H)=F.getD x.toNat []++nA F H from rfl,List.length_append,List.length_cons,Nat.add_mul,Nat.one_mul]
  omega
theorem x5{n:Nat}{H:List Int}(hd:H.Nodup)(hb:∀x∈H,0<=x/\x<(n:Int)):H.length<=n:=by
 have:=gM H ((List.range n).map fun(k:Nat)=>(k:Int)) hd λx hx=>by
  have:=hb x hx
  exact List.mem_map.2 ⟨x.toNat,List.mem_range.2 (by omega),by omega⟩
 simpa using this
theorem F8{M:Nat}(hM:M<=100000)(g:G)(hsp:g.sp.length=M){F:List (List Int)}(hF:FolR M F g.pr)(hpr:∀p q,(p,q)∈g.pr->p<M/\q<M){C:List Int}{can:Nat->Bool}(hC:CurR M C can)(zJ:Int)(h0:List Int)(v:Int):
 Wp (λn=>aF n (iE (mh tbl n) n (C,zJ,F,gm g.sp,h0,()) v) ((0:Int),F,gm g.sp,[],aV M (λ_=>false),[],())) λt=>
  ∃H,t=(F,gm g.sp,H,nA F H,())/\CurR M H (wv g can v)/\CurR M (nA F H) (JA g (wv g can v)):=by
 have hClen:=hC.len
 refine aJ (N:=C.length) (I:=λk s=>∃H:List Int,s=((k:Int),F,gm g.sp,H,aV M (λp=>decide ((p:Int)∈H)),nA F H,())/\H.Nodup/\(∀x∈H,0<=x/\x<(M:Int))/\∀p:Nat,(p:Int)∈H↔(p:Int)∈C.take k/\gl g v p=true) ⟨[],by simp[nA],by simp,by simp,by simp⟩ ?_ ?_
 ·rintro k s hk ⟨H,rfl,hd,hb,hm⟩
  have hx:=hC.bd _ (List.getElem_mem hk)
  obtain⟨p,hp⟩:∃p:Nat,C[k]=(p:Int):=⟨C[k].toNat,by omega⟩
  have hpM:p<M:=by omega
  have hps:p<g.sp.length:=by omega
  have htk:∀x,x∈C.take (k+1)↔x∈C.take k\/x=(p:Int):=λx=>by
   rw[List.take_add_one,List.getElem?_eq_getElem hk,List.mem_append,Option.toList_some,List.mem_singleton,hp]
  have hh:gl g v p=(decide (g.sp[p].1<=v)&&decide (v<=g.sp[p].2)):=by
   unfold gl
   rw[List.getElem?_eq_getElem hps]
  have hHl:=x5 hd hb
  have hNl:=vt hF H
  have hNl2:H.length*M<=10000000000:=Nat.le_trans (Nat.mul_le_mul (Nat.le_trans hHl hM) hM) (by decide)
  unfold iE
  refine bc hk ?_
  refine ae (au hk ?_)
  rw[hp]
  refine qi hpM ?_
  refine ae (cg (b:=decide (v<g.sp[p].1)) (λ_=>?_) ?_)
  ·refine BM (xs:=gm g.sp) (by rw[i3];exact hps) ?_
   refine aa ?_
   simp[gm]
  refine ae (cg (b:=decide (v>g.sp[p].2)) (λ_=>?_) ?_)
  ·refine BM (xs:=gm g.sp) (by rw[i3];exact hps) ?_
   refine aa ?_
   simp[gm]
  refine aN (λh=>?_) λh=>?_
  ·refine aa (aa ⟨H,by rw[an hk (by omega)],hd,hb,λq=>?_⟩)
   have h:((decide ((p:Int)∈H)||decide (v<g.sp[p].1))||decide (v>g.sp[p].2))=true:=h
   simp only[Bool.or_eq_true,decide_eq_true_eq]at h
   rw[hm q,htk]
   constructor
   ·rintro⟨h1,h2⟩;exact⟨.inl h1,h2⟩
   ·rintro⟨h1,h2⟩
    refine⟨h1.elim id λe=>?_,h2⟩
    obtain rfl:q=p:=by omega
    rw[hh]at h2
    simp only[Bool.and_eq_true,decide_eq_true_eq]at h2
    rcases h with(h|h)|h
    ·exact((hm q).1 h).1
    ·omega
    ·omega
  ·have h:((decide ((p:Int)∈H)||decide (v<g.sp[p].1))||decide (v>g.sp[p].2))=false:=h
   simp only[Bool.or_eq_false_iff,decide_eq_false_iff_not]at h
   obtain⟨⟨h1,h2⟩,h3⟩:=h
   have hpF:p<F.length:=by rw[hF.len];exact hpM
   have hFl:=hF.len1 hpF
   have hnx:nA F (H++[(p:Int)])=nA F H++F[p]:=by
    unfold nA
    rw[List.flatMap_append,List.flatMap_cons,List.flatMap_nil,List.append_nil,Int.toNat_natCast,getD_lt hpF]
   refine qi hpM (ap (decide_eq_true ?_) (au hpF (ap (decide_eq_true ?_) (aa (aa ⟨H++[(p:Int)],?_,?_,?_,?_⟩)))))
   ·show(H.length+1)*8<=140737488355328
    omega
   ·show((nA F H).length+F[p].length)*8<=140737488355328
    omega
   ·rw[an hk (by omega),hnx,Int.toNat_natCast,lP]
    have e:(aV M λj=>if j=p then true else decide ((j:Int)∈H))=aV M λj=>decide ((j:Int)∈H++[(p:Int)]):=cf λj _=>by
     by_cases hj:j=p
     ·subst hj;simp
     ·have:¬(j:Int)=(p:Int):=by omega
      simp[hj,this]
    rw[e]
   ·rw[List.nodup_append]
    refine⟨hd,by simp,λx hx y hy e=>?_⟩
    simp only[List.mem_singleton]at hy
    subst hy;subst e;exact h1 hx
   ·intro x hx
    rcases List.mem_append.1 hx with hx|hx
    ·exact hb x hx
    ·simp only[List.mem_singleton]at hx;omega
   ·intro q
    rw[List.mem_append,hm q,htk,List.mem_singleton]
    constructor
    ·rintro(⟨a,b⟩|a)
     ·exact⟨.inl a,b⟩
     ·refine⟨.inr a,?_⟩
      obtain rfl:q=p:=by omega
      rw[hh]
      simp only[Bool.and_eq_true,decide_eq_true_eq]
      omega
    ·rintro⟨a|a,b⟩
     ·exact .inl ⟨a,b⟩
     ·exact .inr a
 ·rintro s ⟨H,rfl,hd,hb,hm⟩
  have hHl:=x5 hd hb
  have hNl:=vt hF H
  have hNl2:H.length*M<=10000000000:=Nat.le_trans (Nat.mul_le_mul (Nat.le_trans hHl hM) hM) (by decide)
  rw[List.take_length]at hm
  have hat:∀q:Nat,(q:Int)∈H↔wv g can v q=true:=λq=>by
   rw[hm q,hC.mem q]
   unfold wv
   rw[Bool.and_eq_true]
  have hmem:∀y,y∈nA F H↔∃p:Nat,(p:Int)∈H/\∃h:p<F.length,y∈F[p]:=by
   intro y
   unfold nA
   rw[List.mem_flatMap]
   constructor
   ·rintro⟨x,h1,h2⟩
    have:=hb x h1
    have hp:x.toNat<F.length:=by rw[hF.len];omega
    rw[getD_lt hp]at h2
    exact⟨x.toNat,by rw[Int.toNat_of_nonneg this.1];exact h1,hp,h2⟩
   ·rintro⟨p,h1,hp,h2⟩
    exact⟨p,h1,by rw[Int.toNat_natCast,getD_lt hp];exact h2⟩
  unfold iE
  refine aQ (aa ⟨H,rfl,⟨hb,hat,by omega⟩,⟨λy hy=>?_,λq=>?_,by omega⟩⟩)
  ·obtain⟨p,_,hp,h2⟩:=(hmem y).1 hy
   exact hF.bd _ (List.getElem_mem hp) y h2
  ·rw[hmem,nxF_iff]
   constructor
   ·rintro⟨p,h1,hp,h2⟩
    exact⟨p,(hat p).1 h1,(hF.mem p hp q).1 h2⟩
   ·rintro⟨p,h1,h2⟩
    have hp:p<F.length:=by rw[hF.len];exact(hpr p q h2).1
    exact⟨p,(hat p).2 h1,hp,(hF.mem p hp q).2 h2⟩
theorem Cz{M:Nat}(hM:M<=100000)(g:G)(hsp:g.sp.length=M){F:List (List Int)}(hF:FolR M F g.pr)(hpr:∀p q,(p,q)∈g.pr->p<M/\q<M){C0:List Int}(hC0:CurR M C0 (ek g []).1)(path:List Int)(hp:path.length<=1000000):
 Wp (λn=>aF n (iF (mh tbl n) n path) (C0,(0:Int),F,gm g.sp,[],())) λt=>∃H,t=(H,())/\CurR M H (ek g path).2:=by
 refine aJ (N:=path.length) (I:=λi s=>∃C H:List Int,s=(C,(i:Int),F,gm g.sp,H,())/\CurR M C (ek g (path.take i)).1/\CurR M H (ek g (path.take i)).2) ⟨C0,[],rfl,hC0,⟨by simp,λq=>⟨λh=>by simp at h,λh=>by cases h⟩,by simp⟩⟩ ?_ ?_
 ·rintro i s hi ⟨C,H,rfl,hC,hH⟩
  have hl:(gm g.sp).length=M:=by rw[i3];exact hsp
  have hz:List.replicate (Int.toNat ((gm g.sp).length:Int)) (Ty.zero tB)=aV M λ_=>false:=by
   rw[hl,Int.toNat_natCast];exact rB M
  unfold iF
  refine bc hi (au hi (ap ?_ ?_))
  ·show(decide (0<=((gm g.sp).length:Int))&&decide (((gm g.sp).length:Int)<=((gm g.sp).length:Int))&&decide (((gm g.sp).length:Int)<=9223372036854775807)&&decide (1*((gm g.sp).length:Int)<=281474976710656))=true
   rw[hl]
   simp only[Bool.and_eq_true,decide_eq_true_eq]
   omega
  have h3:=F8 hM g hsp hF hpr hC (i:Int) H path[i]
  rw[<-hz]at h3
  refine ae (Ev.wp_mono h3 ?_)
  rintro t ⟨H2,rfl,h5,h6⟩
  refine aa ⟨nA F H2,H2,?_,?_,?_⟩
  ·rw[an hi (by omega)]
  ·rw[vE hi];exact h6
  ·rw[vE hi];exact h5
 ·rintro s ⟨C,H,rfl,hC,hH⟩
  unfold iF
  rw[List.take_length]at hH
  exact aQ (aa ⟨H,rfl,hH⟩)
theorem Cs(v2:(List Int)×(List Int)×(List (Int×(Int×Unit)))×(List (List Int))×Unit)(hv:v2.2.1.length<=1000000)(H:List Int)(hH:H.length<=10000000000):
 Wp (λn=>aF n (iH (mh tbl n) n v2 (H,())) ((0:Int),H,())) λt=>match t with
  | .inl e=>e=(true,())/\∃x∈H,x∈v2.2.1
  | .inr _=>∀x∈H,x∉v2.2.1:=by
 refine aJ (N:=H.length) (I:=λi s=>s=((i:Int),H,())/\∀x∈H.take i,x∉v2.2.1) ⟨rfl,by simp⟩ ?_ ?_
 ·rintro i s hi ⟨rfl,ha⟩
  unfold iH
  refine bc hi ?_
  refine BM (xs:=H) hi ?_
  have h2:Wp (λn=>aF n (iG (mh tbl n) n v2 H[i]) ((0:Int),H,())) λt=>match t with
   | .inl e=>e=(true,())/\H[i]∈v2.2.1
   | .inr t=>t=(H,())/\H[i]∉v2.2.1:=by
   refine aJ (N:=v2.2.1.length) (I:=λj s=>s=((j:Int),H,())/\H[i]∉v2.2.1.take j) ⟨rfl,by simp⟩ ?_ ?_
   ·rintro j s hj ⟨rfl,hn⟩
    unfold iG
    refine bc hj (au hj (aN (λh=>aa ⟨rfl,?_⟩) λh=>aa ⟨?_,λhm=>?_⟩))
    ·have h:H[i]=v2.2.1[j]:=by simpa using h
     rw[h];exact List.getElem_mem hj
    ·rw[an hj (by omega)]
    ·have h:H[i]≠v2.2.1[j]:=by simpa using h
     rw[List.take_add_one,List.getElem?_eq_getElem hj,List.mem_append,Option.toList_some,List.mem_singleton]at hm
     exact hm.elim hn h
   ·rintro s ⟨rfl,hn⟩
    unfold iG
    rw[List.take_length]at hn
    exact aQ (aa ⟨rfl,hn⟩)
  refine ae (Ev.wp_mono h2 ?_)
  rintro(e|t) ht
  ·obtain⟨rfl,hm⟩:=ht
   exact aa ⟨rfl,_,List.getElem_mem hi,hm⟩
  ·obtain⟨rfl,hm⟩:=ht
   refine aa ⟨by rw[an hi (by omega)],λx hx=>?_⟩
   rw[List.take_add_one,List.getElem?_eq_getElem hi,List.mem_append,Option.toList_some,List.mem_singleton]at hx
   rcases hx with hx|rfl
   ·exact ha x hx
   ·exact hm
 ·rintro s ⟨rfl,ha⟩
  unfold iH
  rw[List.take_length]at ha
  exact aQ (aa ha)
theorem yY(r:Rx)(hs:sz r<=100000)(path:List Int)(hp:path.length<=1000000):
 aP tbl kE [.d .rx r,.d (.list tI) path] [] dU (cZ r&&gY (bC r 0) path,()):=by
 refine aT rfl (aU z4 rfl (λO m=>Ak O m r path) ?_)
 unfold sr
 refine ar (sW r (by omega)) (aN (λh=>aa ?_) λh=>?_)
 ·have h:(!cZ r)=true:=h
  have:cZ r=false:=by simpa using h
  rw[this];rfl
 have hw:cZ r=true:=by
  have h:(!cZ r)=false:=h
  simpa using h
 rw[hw,Bool.true_and]
 have hM:cnt r<=100000:=Nat.le_trans (uY r) hs
 obtain⟨hsp,hem⟩:=cQ r hw 0
 have hlie:=ee r 0
 refine aN (λh=>?_) λh=>?_
 ·have:path=[]:=List.eq_nil_of_length_eq_zero (by
   have h:((path.length:Int)==0)=true:=h
   simpa using h)
  subst this
  refine ar (jU r (by omega)) (aa ?_)
  rw[<-hem];rfl
 have hne:path.isEmpty=false:=by
  cases path with
  |nil=>cases h
  |cons=>rfl
 have hmg:gY (bC r 0) path=(bC r 0).la.any (ek (bC r 0) path).2:=by unfold gY;rw[hne];rfl
 rw[hmg]
 obtain⟨F,hF,hwk⟩:=tC r hw (by omega) [] [] [] ⟨rfl,by simp,by simp,λp h=>absurd h (by simp)⟩ (by simp) (by simp;omega)
 simp only[List.nil_append,List.length_nil,Nat.zero_add]at hwk hF
 generalize hg:bC r 0=g at*
 rw[hsp]at hF
 have hfl:=hlie.fl
 have hll:=hlie.ll
 refine ar hwk ?_
 have hC0:CurR (cnt r) (cL g.fi) (ek g []).1:=⟨λx hx=>by
  obtain⟨p,h1,rfl⟩:=List.mem_map.1 hx
  have:=hlie.fi p h1
  omega,λq=>by
  show(q:Int)∈cL g.fi↔decide (q∈g.fi)=true
  rw[decide_eq_true_eq]
  constructor
  ·intro hx
   obtain⟨p,h1,h2⟩:=List.mem_map.1 hx
   obtain rfl:p=q:=by omega
   exact h1
  ·exact λhx=>List.mem_map.2 ⟨q,hx,rfl⟩,by rw[bz];omega⟩
 refine ae (Ev.wp_mono (Cz hM g hsp hF (λp q h=>by have:=hlie.pr p q h;omega) hC0 path hp) ?_)
 rintro t ⟨H,rfl,hH⟩
 refine ae (Ev.wp_mono (Cs (cL g.fi,cL g.la,gm g.sp,F,()) (by rw[bz];omega) H hH.len) ?_)
 rintro(e|t) ht
 ·obtain⟨rfl,x,h1,h2⟩:=ht
  obtain⟨p,h3,rfl⟩:=List.mem_map.1 (show x∈cL g.la from h2)
  refine aa ?_
  rw[List.any_eq_true.2 ⟨p,h3,(hH.mem p).1 h1⟩]
 ·refine aa ?_
  have:g.la.any (ek g path).2=false:=by
   rw[List.any_eq_false]
   intro p h1 h2
   exact ht (p:Int) ((hH.mem p).2 h2) (List.mem_map.2 ⟨p,h1,rfl⟩)
  rw[this]
end Go.Proofs.Ytbpdbooalkkenaa
