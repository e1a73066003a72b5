/- Part MLawDfaBuild2: laws shown with the machine. -/
import Derived.Test.YtbpdbooalkkenaaKPlGlu
set_option linter.unusedVariables false
set_option linter.unusedSimpArgs false
namespace Go.Proofs.Ytbpdbooalkkenaa
open Go Go.Av Go.Ev Go.Pl
theorem po{k:Nat}(h:k<=1000000000):(decide (0<=(k:Int))&&decide ((k:Int)<=(k:Int))&&decide ((k:Int)<=9223372036854775807)&&decide (1*(k:Int)<=281474976710656))=true:=by
 simp only[Bool.and_eq_true,decide_eq_true_eq];omega
theorem pq(n:Nat):List.replicate (Int.toNat (n:Int)) (Ty.zero tB)=aV n λ_=>false:=by
 rw[Int.toNat_natCast];exact rB n
theorem y7(n:Nat)(hn:n<=1000000)(l:List Nat)(hl:∀p∈l,p<n)(hll:l.length<=1000000):aP tbl kH [.d tI (n:Int),.d (.list tI) (cL l)] [] iy (aV n (λp=>decide (p∈l)),()):=by
 refine aT rfl (aU Ab rfl (λO m=>Ar O m (n:Int) (cL l)) ?_)
 unfold sB
 rw[pq]
 refine ap (po (by omega)) (ae (aJ (N:=(cL l).length) (I:=λi s=>s=((i:Int),aV n (λp=>decide (p∈l.take i)),())) ?_ ?_ ?_))
 ·simp
 ·rintro i s hi rfl
  have hi2:i<l.length:=by rw[<-bz];exact hi
  have hp:=hl _ (List.getElem_mem hi2)
  unfold l9
  dsimp only
  refine bc hi (au hi ?_)
  rw[qS hi2]
  have hv:l[i]<(aV n (λp=>decide (p∈l.take i))).length:=by rw[cD];exact hp
  refine au hv (aW (x:=(aV n (λp=>decide (p∈l.take i)))[l[i]]) (by rw[Int.toNat_natCast];exact List.getElem?_eq_getElem hv) (aa ?_))
  rw[an hi (by rw[bz];omega),Int.toNat_natCast,lP]
  have:aV n (λj=>if j=l[i]then true else decide (j∈l.take i))=aV n (λp=>decide (p∈l.take (i+1))):=cf λj hj=>by
   rw[List.take_add_one,List.getElem?_eq_getElem hi2]
   simp only[Option.toList_some,List.mem_append,List.mem_singleton]
   by_cases e:j=l[i]
   ·rw[if_pos e];simp[e]
   ·rw[if_neg e];simp[e]
  rw[this]
 ·rintro s rfl
  unfold l9
  refine aQ (aa (aa ?_))
  rw[bz,List.take_length]
theorem rX(n:Nat)(hn:n<=1000000)(l:List Nat)(hl:∀p∈l,p<n)(hll:l.length<=1000000):aP tbl eX [.d tI (n:Int),.d (.list tI) (cL l)] [] dK (aV n (λp=>decide (p∈l)),()):=by
 refine aT rfl (aU sa rfl (λO m=>sb O m (n:Int) (cL l)) ?_)
 unfold mr
 rw[pq]
 refine ap (po (by omega)) (ae (aJ (N:=(cL l).length) (I:=λi s=>s=((i:Int),aV n (λp=>decide (p∈l.take i)),())) ?_ ?_ ?_))
 ·simp
 ·rintro i s hi rfl
  have hi2:i<l.length:=by rw[<-bz];exact hi
  have hp:=hl _ (List.getElem_mem hi2)
  unfold fT
  dsimp only
  refine bc hi (au hi ?_)
  rw[qS hi2]
  have hv:l[i]<(aV n (λp=>decide (p∈l.take i))).length:=by rw[cD];exact hp
  refine au hv (aW (x:=(aV n (λp=>decide (p∈l.take i)))[l[i]]) (by rw[Int.toNat_natCast];exact List.getElem?_eq_getElem hv) (aa ?_))
  rw[an hi (by rw[bz];omega),Int.toNat_natCast,lP]
  have:aV n (λj=>if j=l[i]then true else decide (j∈l.take i))=aV n (λp=>decide (p∈l.take (i+1))):=cf λj hj=>by
   rw[List.take_add_one,List.getElem?_eq_getElem hi2]
   simp only[Option.toList_some,List.mem_append,List.mem_singleton]
   by_cases e:j=l[i]
   ·rw[if_pos e];simp[e]
   ·rw[if_neg e];simp[e]
  rw[this]
 ·rintro s rfl
  unfold fT
  refine aQ (aa (aa ?_))
  rw[bz,List.take_length]
def ja(n:Nat):Option Nat->List Bool
 |none=>aV n λ_=>false
 |some b=>aV n b.testBit
theorem uL(n:Nat)(x:Option Nat):(ja n x).length=n:=by cases x<;>exact cD _ _
structure Sts(n:Nat)(L:List (Option Nat)):Prop where
 hd:L[0]? =some none
 tl:∀i,0<i->∀x,L[i]? =some x->∃b,x=some b/\b<2^n
theorem y8{n:Nat}(hn:n<=1000000){L:List (Option Nat)}(hL:Sts n L)(hl:L.length<=1000000){c:Nat}(hc:c<2^n):
 aP tbl kI [.d (.list (.list tB)) (L.map (ja n)),.d (.list tB) (ja n (some c))] [] fP ((pos L (some c):Int),()):=by
 refine aT rfl (aU Ac rfl (λO m=>As O m (L.map (ja n)) (ja n (some c))) ?_)
 unfold sC
 have h0:=(List.getElem?_eq_some_iff.1 hL.hd).1
 have hml:(L.map (ja n)).length=L.length:=List.length_map _
 refine ae (Ev.wp_mono (Q:=fun(r:(Int×Unit)⊕Unit)=>match r with| .inl v=>v=((pos L (some c):Int),())| .inr _=>pos L (some c)=L.length) (aJ (N:=L.length - 1) (I:=λj s=>s=(((j+1:Nat):Int),())/\∀t z,t<j+1->L[t]? =some z->z≠some c) ⟨rfl,λt z ht hz=>?_⟩ ?_ ?_) ?_)
 ·have:t=0:=by omega
  subst this
  rw[hL.hd]at hz
  cases hz
  intro h;cases h
 ·rintro j s hj ⟨rfl,hno⟩
  have hj2:j+1<L.length:=by omega
  have hx:=List.getElem?_eq_getElem hj2
  obtain⟨b,hb,hb2⟩:=hL.tl (j+1) (by omega) _ hx
  unfold ma
  dsimp only
  refine fE (decide_eq_true (by rw[hml];omega)) ?_
  have hin:Wp (λm=>aF m (iK (mh tbl m) m (L.map (ja n)) (ja n (some c)) (((j+1:Nat):Int),())) (true,(0:Int),())) λr=>r=(decide (b=c),()):=by
   refine aJ (N:=(ja n (some c)).length) (I:=λk s=>s=(true,(k:Int),())/\∀t,t<k->b.testBit t=c.testBit t) ⟨rfl,λt ht=>absurd ht (by omega)⟩ ?_ ?_
   ·rintro k s hk ⟨rfl,hsame⟩
    have hk2:k<n:=by rw[uL]at hk;exact hk
    unfold iK
    dsimp only
    refine bc hk (au hk (ly (x:=ja n (some b)) (by rw[List.getElem?_map,hx,hb];rfl) (au (by rw[uL];exact hk2) ?_)))
    have e1:(ja n (some c))[k]=c.testBit k:=pE _ _
    have e2:(ja n (some b))[k]'(by rw[uL];exact hk2)=b.testBit k:=pE _ _
    rw[e1,e2]
    refine aN (λh=>aa ?_) λh=>aa ⟨?_,?_⟩
    ·have:b≠c:=by rintro rfl;simp at h
     rw[decide_eq_false this]
    ·rw[an hk2 (by omega)]
    ·intro t ht
     by_cases e:t=k
     ·subst e
      simpa using h
     ·exact hsame t (by omega)
   ·rintro s ⟨rfl,hsame⟩
    rw[uL]at hsame
    unfold iK
    refine aQ (aa ?_)
    have:b=c:=Nat.eq_of_testBit_eq λi=>by
     by_cases hi:i<n
     ·exact hsame i hi
     ·rw[Nat.testBit_lt_two_pow (Nat.lt_of_lt_of_le hb2 (Nat.pow_le_pow_right (by decide) (by omega))),Nat.testBit_lt_two_pow (Nat.lt_of_lt_of_le hc (Nat.pow_le_pow_right (by decide) (by omega)))]
    rw[decide_eq_true this]
  refine ae (Ev.wp_mono hin ?_)
  rintro r rfl
  refine aN (λh=>aa ?_) λh=>aa ⟨?_,λt z ht hz=>?_⟩
  ·have h:b=c:=of_decide_eq_true h
   subst h
   show(((j+1:Nat):Int),())=_
   have:j+1=pos L (some b):=vz (by omega) (λt z ht hz=>hno t z ht hz) (λz hz=>by rw[hx,hb]at hz;cases hz;rfl)
   rw[<-this]
  ·show(IntKind.wrap .i64 (((j+1:Nat):Int)+1),())=_
   rw[an hj2 (by omega)]
  ·by_cases e:t=j+1
   ·subst e
    rw[hx,hb]at hz
    cases hz
    have h:¬b=c:=of_decide_eq_false h
    intro e;cases e;exact h rfl
   ·exact hno t z (by omega) hz
 ·rintro s ⟨rfl,hno⟩
  unfold ma
  dsimp only
  refine b5 (decide_eq_false (by rw[hml];omega)) (aa ?_)
  refine CF λhm=>?_
  obtain⟨t,ht,e⟩:=List.mem_iff_getElem.1 hm
  exact hno t _ (by omega) (List.getElem?_eq_getElem ht) e
 ·rintro(v|v) hv
  ·have hv:v=((pos L (some c):Int),()):=hv
   subst hv
   exact aa rfl
  ·have hv:pos L (some c)=L.length:=hv
   refine aa ?_
   rw[hml,hv]
section
variable {g:G}
theorem BZ(hg:GOk g)(v:(List Int)×(List Int)×(List (Int×(Int×Unit)))×(List (List Int))×Unit)(hv:v.2.2.1=gm g.sp)(F:List (List Int)):
 Wp (λn=>aF n (fZ (mh tbl n) n v) ((0:Int),(0:Int),gm g.sp,F,([(0:Int)]:List Int),())) λt=>t=((0:Int),gm g.sp,F,nj g.sp,()):=by
 have hn:=hg.n64
 refine aJ (N:=(gm g.sp).length) (I:=λi s=>s=((i:Int),(0:Int),gm g.sp,F,nj (g.sp.take i),())) rfl ?_ ?_
 ·rintro i s hi rfl
  have hi2:i<g.sp.length:=by rw[<-i3];exact hi
  have e1:(gm g.sp)[i]=(g.sp[i].1,g.sp[i].2,()):=by simp[gm]
  have hq:=hg.inn _ (List.getElem_mem hi2)
  have hq2:=hg.le _ (List.getElem_mem hi2)
  have hl2:=tP (g.sp.take i)
  rw[List.length_take]at hl2
  unfold fZ
  rw[hv]
  dsimp only
  refine bc hi (ae ?_)
  refine au hi (aW (x:=(gm g.sp)[i]) (by rw[Int.toNat_natCast];exact List.getElem?_eq_getElem hi) ?_)
  rw[e1,AG hi2]
  refine ap (decide_eq_true (by simp;omega)) ?_
  refine aN (λh=>ap (decide_eq_true (by simp;omega)) (aa (aa ?_))) λh=>aa (aa ?_)
  ·have h:g.sp[i].2<4294967295:=of_decide_eq_true h
   rw[an hi (by rw[i3];omega),if_pos h]
   show(_,_,_,_,_++[_]++[IntKind.wrap .i64 (g.sp[i].2+1)],_)=_
   have ew:IntKind.wrap .i64 (g.sp[i].2+1)=g.sp[i].2+1:=wrap_i64 (by omega) (by omega)
   rw[ew]
   simp
  ·have h:¬g.sp[i].2<4294967295:=of_decide_eq_false h
   rw[an hi (by rw[i3];omega),if_neg h]
 ·rintro s rfl
  unfold fZ
  rw[hv]
  refine aQ (aa ?_)
  rw[List.take_of_length_le (by rw[i3];exact Nat.le_refl _)]
theorem Gd{n:Nat}(hn:n<=64)(l:List Int)(hl:∀x∈l,0<=x/\x<(n:Int))(hll:l.length<=64)(F:List (List Int))(spots:List (Int×(Int×Unit)))(st:List Int)(RR:List (List Int))(AA:List Bool)(SS:List (List Bool))(f:Nat->Bool):
 Wp (λm=>aF m (f5 (mh tbl m) m l) ((0:Int),(0:Int),F,spots,st,(0:Int),RR,AA,SS,aV n f,())) λt=>t=((0:Int),F,spots,st,(0:Int),RR,AA,SS,aV n (λq=>f q||decide ((q:Int)∈l)),()):=by
 refine aJ (N:=l.length) (I:=λi s=>s=((i:Int),(0:Int),F,spots,st,(0:Int),RR,AA,SS,aV n (λq=>f q||decide ((q:Int)∈l.take i)),())) (by simp) ?_ ?_
 ·rintro i s hi rfl
  have hx:=hl _ (List.getElem_mem hi)
  unfold f5
  dsimp only
  refine bc hi (au hi ?_)
  obtain⟨k,hk⟩:∃k:Nat,l[i]=(k:Int):=⟨l[i].toNat,by omega⟩
  have hkn:k<n:=by omega
  have hv:k<(aV n (λq=>f q||decide ((q:Int)∈l.take i))).length:=by rw[cD];exact hkn
  rw[hk]
  refine au hv (aW (x:=(aV n (λq=>f q||decide ((q:Int)∈l.take i)))[k]) (by rw[Int.toNat_natCast];exact List.getElem?_eq_getElem hv) (aa ?_))
  rw[an hi (by omega),Int.toNat_natCast,lP]
  have:aV n (λj=>if j=k then true else(f j||decide ((j:Int)∈l.take i)))=aV n (λq=>f q||decide ((q:Int)∈l.take (i+1))):=cf λj hj=>by
   rw[List.take_add_one,List.getElem?_eq_getElem hi]
   simp only[Option.toList_some,List.mem_append,List.mem_singleton,hk]
   by_cases e:j=k
   ·rw[if_pos e];simp[e]
   ·rw[if_neg e]
    have:¬(j:Int)=(k:Int):=by omega
    simp[this]
  rw[this]
 ·rintro s rfl
  unfold f5
  refine aQ (aa ?_)
  rw[List.take_length]
def BS(g:G)(a0:Bool)(bit:Nat->Bool)(k:Nat):Bool:=a0||(List.range k).any λt=>bit t&&decide (t∈g.la)
def s4(g:G)(c0:Nat->Bool)(bit:Nat->Bool)(k:Nat)(q:Nat):Bool:=c0 q||(List.range k).any λt=>bit t&&decide ((t,q)∈g.pr)
theorem Dj(f:Nat->Bool)(k:Nat):(List.range (k+1)).any f=((List.range k).any f||f k):=by rw[List.range_succ,List.any_append];simp
theorem Iz(hg:GOk g){F:List (List Int)}(hF:FolR g.sp.length F g.pr)(st:List Int)(RR:List (List Int))(AA:List Bool)(SS:List (List Bool))(a0:Bool)(c0 bit:Nat->Bool):
 Wp (λm=>aF m (f6 (mh tbl m) m (aV g.sp.length (λp=>decide (p∈g.la)),()) (aV g.sp.length bit)) (a0,(0:Int),(0:Int),F,gm g.sp,st,(0:Int),RR,AA,SS,aV g.sp.length c0,()))
  λt=>t=(BS g a0 bit g.sp.length,(0:Int),F,gm g.sp,st,(0:Int),RR,AA,SS,aV g.sp.length (s4 g c0 bit g.sp.length),()):=by
 have hn:=hg.n64
 refine aJ (N:=(aV g.sp.length bit).length) (I:=λk s=>s=(BS g a0 bit k,(k:Int),(0:Int),F,gm g.sp,st,(0:Int),RR,AA,SS,aV g.sp.length (s4 g c0 bit k),())) ?_ ?_ ?_
 ·have:s4 g c0 bit 0=c0:=funext λq=>by simp[s4]
  rw[this]
  simp[BS]
 ·rintro k s hk rfl
  have hk2:k<g.sp.length:=by rw[cD]at hk;exact hk
  unfold f6
  dsimp only
  refine bc hk (ae (au hk ?_))
  rw[pE]
  have ea:BS g a0 bit (k+1)=(BS g a0 bit k||(bit k&&decide (k∈g.la))):=by unfold BS;rw[Dj,Bool.or_assoc]
  have ec:∀q,s4 g c0 bit (k+1) q=(s4 g c0 bit k q||(bit k&&decide ((k,q)∈g.pr))):=λq=>by unfold s4;rw[Dj,Bool.or_assoc]
  rw[ea,an hk (by rw[cD];omega)]
  cases hb:bit k
  ·refine fE rfl (aa (aa ?_))
   have:aV g.sp.length (s4 g c0 bit (k+1))=aV g.sp.length (s4 g c0 bit k):=cf λq _=>by rw[ec,hb];simp
   rw[this]
   simp
  ·have hFl:k<F.length:=by rw[hF.len];exact hk2
   refine b5 rfl (ae (cg (b:=decide (k∈g.la)) (λ_=>au (by rw[cD];exact hk2) (aa (pE _ _))) ?_))
   refine au hFl ?_
   have hbd:=hF.bd _ (List.getElem_mem hFl)
   have hl1:=hF.len1 hFl
   refine ae (Ev.wp_mono (Gd hn F[k] hbd (by omega) F (gm g.sp) st RR AA SS (s4 g c0 bit k)) ?_)
   rintro t rfl
   refine aa (aa ?_)
   have:aV g.sp.length (s4 g c0 bit (k+1))=aV g.sp.length (λq=>s4 g c0 bit k q||decide ((q:Int)∈F[k])):=cf λq _=>by
    rw[ec,hb,Bool.true_and,decide_eq_decide.2 (hF.mem k hFl q)]
   rw[this]
   simp
 ·rintro s rfl
  unfold f6
  refine aQ (aa ?_)
  rw[cD]
def LD(g:G):Option Nat->Bool
 |none=>g.em
 |some _=>false
def LK(g:G):Option Nat->Nat->Bool
 |none,q=>decide (q∈g.fi)
 |some _,_=>false
def FG:Option Nat->Nat->Bool
 |none,_=>false
 |some b,p=>b.testBit p
theorem Lr(n:Nat)(x:Option Nat):ja n x=aV n (FG x):=by cases x<;>rfl
theorem JR(hg:GOk g)(x:Option Nat):BS g (LD g x) (FG x) g.sp.length=jQ g x/\aV g.sp.length (s4 g (LK g x) (FG x) g.sp.length)=aV g.sp.length (jR g x).testBit:=by
 refine⟨?_,cf λq hq=>?_⟩
 ·cases x with
  |none=>simp[BS,jQ,LD,FG]
  |some b=>
   rw[AB]
   simp only[BS,LD,FG,Bool.false_or]
   rw[Bool.eq_iff_iff,List.any_eq_true,List.any_eq_true]
   constructor
   ·rintro⟨t,_,h2⟩
    simp only[Bool.and_eq_true,decide_eq_true_eq]at h2
    exact⟨t,h2.2,h2.1⟩
   ·rintro⟨t,h1,h2⟩
    exact⟨t,List.mem_range.2 (by have:=hg.lie.la t h1;omega),by simp[h1,h2]⟩
 ·cases x with
  |none=>
   have:(jR g none).testBit q=decide (q∈g.fi):=cj _ _
   rw[this]
   simp[s4,LK,FG]
  |some b=>
   rw[AI hg.lie,Bool.eq_iff_iff,nxF_iff]
   simp only[s4,LK,FG,Bool.false_or]
   rw[List.any_eq_true]
   constructor
   ·rintro⟨t,_,h2⟩
    simp only[Bool.and_eq_true,decide_eq_true_eq]at h2
    exact⟨t,h2.1,h2.2⟩
   ·rintro⟨t,h1,h2⟩
    exact⟨t,List.mem_range.2 (by have:=hg.lie.pr t q h2;omega),by simp[h1,h2]⟩
theorem Ow{a b:Nat}(h:((a:Int)==(b:Int))=true):a=b:=by simp at h;omega
theorem Ov{a b:Nat}(h:((a:Int)==(b:Int))=false):a≠b:=by simp at h;omega
theorem Je(hg:GOk g)(v24:Int×Int×(List (List Int))×(List (Int×(Int×Unit)))×(List Int)×Int×(List (List Int))×(List Bool)×(List (List Bool))×(List Bool)×(List Int)×Unit)(hv:v24.2.2.2.2.2.2.2.2.2.1.length=g.sp.length)(a:Int)(F:List (List Int))(st:List Int)(RR:List (List Int))(AA:List Bool)(SS:List (List Bool))(can:Nat->Bool)(row:List Int):
 Wp (λm=>aF m (f7 (mh tbl m) m v24 a) ((0:Int),(0:Int),F,gm g.sp,st,(0:Int),RR,AA,SS,aV g.sp.length can,row,aV g.sp.length (λ_=>false),()))
  λt=>t=((0:Int),F,gm g.sp,st,(0:Int),RR,AA,SS,aV g.sp.length can,row,aV g.sp.length (λq=>can q&&gl g a q),()):=by
 have hn:=hg.n64
 refine aJ (N:=g.sp.length) (I:=λk s=>s=((k:Int),(0:Int),F,gm g.sp,st,(0:Int),RR,AA,SS,aV g.sp.length can,row,aV g.sp.length (λq=>decide (q<k)&&(can q&&gl g a q)),())) (by simp) ?_ ?_
 ·rintro k s hk rfl
  have hz:k<(gm g.sp).length:=by rw[i3];exact hk
  have e1:(gm g.sp)[k]=(g.sp[k].1,g.sp[k].2,()):=by simp[gm]
  have hc:k<(aV g.sp.length can).length:=by rw[cD];exact hk
  have hs:k<(aV g.sp.length (λq=>decide (q<k)&&(can q&&gl g a q))).length:=by rw[cD];exact hk
  have eh:gl g a k=(decide (g.sp[k].1<=a)&&decide (a<=g.sp[k].2)):=by
   unfold gl
   rw[List.getElem?_eq_getElem hk]
  unfold f7
  rw[hv]
  dsimp only
  refine bc hk (au hc (aW (x:=(aV g.sp.length can)[k]) (by rw[Int.toNat_natCast];exact List.getElem?_eq_getElem hc) ?_))
  rw[pE]
  refine ae (eb (b:=decide (g.sp[k].1<=a)) (λ_=>au hz (aW (x:=(gm g.sp)[k]) (by rw[Int.toNat_natCast];exact List.getElem?_eq_getElem hz) (aa (by rw[e1])))) ?_)
  refine ae (eb (b:=decide (a<=g.sp[k].2)) (λ_=>au hz (aW (x:=(gm g.sp)[k]) (by rw[Int.toNat_natCast];exact List.getElem?_eq_getElem hz) (aa (by rw[e1])))) ?_)
  refine au hs (aW (x:=(aV g.sp.length (λq=>decide (q<k)&&(can q&&gl g a q)))[k]) (by rw[Int.toNat_natCast];exact List.getElem?_eq_getElem hs) (aa ?_))
  rw[Bool.and_assoc,<-eh,an hk (by omega),Int.toNat_natCast,lP]
  have:aV g.sp.length (λj=>if j=k then can k&&gl g a k else decide (j<k)&&(can j&&gl g a j))=aV g.sp.length (λq=>decide (q<k+1)&&(can q&&gl g a q)):=cf λj hj=>by
   by_cases e:j=k
   ·subst e;simp
   ·rw[if_neg e]
    have:(decide (j<k))=decide (j<k+1):=decide_eq_decide.2 ⟨λh=>by omega,λh=>by omega⟩
    rw[this]
  rw[this]
 ·rintro s rfl
  unfold f7
  rw[hv]
  refine aQ (aa ?_)
  have:aV g.sp.length (λq=>decide (q<g.sp.length)&&(can q&&gl g a q))=aV g.sp.length (λq=>can q&&gl g a q):=cf λj hj=>by rw[decide_eq_true hj,Bool.true_and]
  rw[this]
theorem Lo(hg:GOk g){L:List (Option Nat)}{T:List (Nat×Int)}(h:Ok (ce g) none (bK g) L T):Sts g.sp.length L:=by
 refine⟨h.head,λi hi x hx=>?_⟩
 have hP:=h.inv (P:=λy=>y=none\/∃b,y=some b/\b<2^g.sp.length) (.inl rfl) (λy c _ _=>.inr ⟨_,rfl,E9 hg.lie y c⟩) i x hx
 rcases hP with rfl|h'
 ·exfalso
  have hi':=List.getElem?_eq_some_iff.1 hx
  have h0:=List.getElem?_eq_some_iff.1 h.head
  have:=(List.nodup_iff_pairwise_ne.1 h.nodup)
  have:=List.pairwise_iff_getElem.1 this 0 i h0.1 hi'.1 hi
  rw[h0.2,hi'.2]at this
  exact this rfl
 ·exact h'
theorem I9(hg:GOk g){i:Nat}{L:List (Option Nat)}{T:List (Nat×Int)}(h:Ok (ce g) none (bK g) L T)(hL:L.length<=4096){x:Option Nat}(hx:L[i]? =some x)(F:List (List Int))(RR:List (List Int))(AA:List Bool)
 (v5:Int×(List (Int×(Int×Unit)))×(List (List Int))×(List Int)×Unit) (hv5:v5.2.1=gm g.sp) (v23:Bool×Int×(List (List Int))×(List (Int×(Int×Unit)))×(List Int)×Int×(List (List Int))×(List Bool)×(List (List Bool))×(List Bool)×Unit) (hv23:v23.2.2.2.2.1=bK g):
 Wp (λn=>aF n (f8 (mh tbl n) n v5 v23) ((0:Int),(0:Int),F,gm g.sp,bK g,(0:Int),RR,AA,L.map (ja g.sp.length),aV g.sp.length (jR g x).testBit,([]:List Int),()))
  λr=>match iq (kj (BI 4096) (ce g) x i) (L,T,[]) (bK g)with
   | .inl r'=>r= .inr ((0:Int),F,gm g.sp,bK g,(0:Int),RR,AA,r'.1.map (ja g.sp.length),r'.2.2.map (fun(k:Nat)=>(k:Int)),())/\r'.1.length<=4096
   | .inr _=>r= .inl (false,(0:Int),()):=by
 have hk:=ra hg
 have hn:=hg.n64
 refine Fl (xs:=bK g) (f:=kj (BI 4096) (ce g) x i) (s0:=(L,T,[])) (Inv:=λj st=>Ok (ce g) none (bK g) st.1 st.2.1/\L<+:st.1/\st.2.2.length=j/\st.1.length<=4096)
  (enc:=λj st=>((j:Int),(0:Int),F,gm g.sp,bK g,(0:Int),RR,AA,st.1.map (ja g.sp.length),aV g.sp.length (jR g x).testBit,st.2.2.map (fun(k:Nat)=>(k:Int)),()))
  (oE:=λst=>.inr ((0:Int),F,gm g.sp,bK g,(0:Int),RR,AA,st.1.map (ja g.sp.length),st.2.2.map (fun(k:Nat)=>(k:Int)),())) (oB:=λ_=>.inl (false,(0:Int),())) ⟨h,List.prefix_refl _,rfl,hL⟩ (λj hj st hst=>?_) (λst hst=>?_) (λr hr hs=>?_)
 ·obtain⟨Lj,Tj,rj⟩:=st
  obtain⟨g1,g2,g3,g4⟩:=hst
  simp only at g1 g2 g3 g4
  subst g3
  have hx':=ux g2 hx
  have hsts:=Lo hg g1
  unfold f8
  rw[hv5,hv23]
  dsimp only
  refine bc hj (au hj ?_)
  rw[pq,i3]
  refine ap (po (by omega)) (ae (Ev.wp_mono (Je hg _ (cD _ _) (bK g)[rj.length] F (bK g) RR AA (Lj.map (ja g.sp.length)) (jR g x).testBit (rj.map fun(k:Nat)=>(k:Int))) ?_))
  rintro t rfl
  dsimp only
  have hset:aV g.sp.length (λq=>(jR g x).testBit q&&gl g (bK g)[rj.length] q)=ja g.sp.length (some (jR g x&&&qx g (bK g)[rj.length])):=cf λq _=>by rw[Nat.testBit_and,uu]
  rw[hset]
  refine ar (y8 (by omega) hsts (by omega) (E9 hg.lie x _)) ?_
  dsimp only
  have hyy:(some (jR g x&&&qx g (bK g)[rj.length]):Option Nat)=ce g x (bK g)[rj.length]:=rfl
  rw[hyy]
  generalize hy:ce g x (bK g)[rj.length]=y
  have hml:(Lj.map (ja g.sp.length)).length=Lj.length:=List.length_map _
  have fin:∀(L':List (Option Nat)) (k:Nat),k<=4096->Wp (fun(n:Nat)=>aw (decide (((rj.map fun(k:Nat)=>(k:Int)).length+([(k:Int)]:List Int).length)*8<=140737488355328)) (some (.inl (IntKind.wrap .i64 ((rj.length:Int)+(1:Int)),(0:Int),F,gm g.sp,bK g,(0:Int),RR,AA,L'.map (ja g.sp.length),aV g.sp.length (jR g x).testBit,(rj.map fun(k:Nat)=>(k:Int))++([(k:Int)]:List Int),())):Option ((Int×Int×(List (List Int))×(List (Int×(Int×Unit)))×(List Int)×Int×(List (List Int))×(List Bool)×(List (List Bool))×(List Bool)×(List Int)×Unit)⊕(Bool×Int×Unit)⊕(Int×(List (List Int))×(List (Int×(Int×Unit)))×(List Int)×Int×(List (List Int))×(List Bool)×(List (List Bool))×(List Int)×Unit)))) λr=>r= .inl (((rj.length+1:Nat):Int),(0:Int),F,gm g.sp,bK g,(0:Int),RR,AA,L'.map (ja g.sp.length),aV g.sp.length (jR g x).testBit,(rj++[k]).map (fun(k:Nat)=>(k:Int)),()):=λL' k hk'=>by
   refine ap (decide_eq_true (by simp;omega)) (aa ?_)
   rw[an hj (by omega)]
   simp
  by_cases hm:y∈Lj
  ·have hlt:=pos_lt.1 hm
   rw[EQ hy hm]
   refine ae (b5 (by rw[hml];exact beq_eq_false_iff_ne.2 λe=>absurd (Int.ofNat.inj e) (Nat.ne_of_lt hlt)) (aa ?_))
   exact Ev.wp_mono (fin Lj (pos Lj y) (by omega)) λr hr=>⟨⟨g1,g2,by simp,g4⟩,hr⟩
  ·have hout:=CF hm
   rw[hout]
   refine ae (fE (by rw[hml];exact beq_self_eq_true _) ?_)
   refine aN (λhd=>aa ?_) λhd=>?_
   ·have hd:BI 4096 Lj y=true:=by
     have:(Lj.length:Int)>=4096:=of_decide_eq_true hd
     exact decide_eq_true (by omega)
    rw[By hy hm hd]
    exact aa rfl
   ·have hd':BI 4096 Lj y=false:=by
     have:¬(Lj.length:Int)>=4096:=of_decide_eq_false hd
     exact decide_eq_false (by omega)
    have hlt:Lj.length<4096:=by have:¬(Lj.length:Int)>=4096:=of_decide_eq_false hd;omega
    have hok:Ok (ce g) none (bK g) (Lj++[y]) (Tj++[(i,(bK g)[rj.length])]):=by rw[<-hy]at hm⊢;exact g1.add hx' (List.getElem_mem hj) hm
    rw[ER hy hm hd']
    refine ap (decide_eq_true (by simp;omega)) (aa ?_)
    have hf:=fin (Lj++[y]) Lj.length (by omega)
    have hy2:ja g.sp.length (some (jR g x&&&qx g (bK g)[rj.length]))=ja g.sp.length y:=by rw[hyy,hy]
    rw[List.map_append]at hf
    refine Ev.wp_mono hf λr hr=>⟨⟨hok,g2.trans (List.prefix_append _ _),by simp,by simp;omega⟩,by rw[hr];simp only[List.map_append]⟩
 ·unfold f8
  rw[hv23]
  exact aQ (aa rfl)
 ·rw[Cn]at hr
  rw[hr]
  cases r with
  |inl st=>
   obtain⟨g1,g2,g3,g4⟩:=hs st rfl
   exact⟨rfl,g4⟩
  |inr r=>rfl
end
end Go.Proofs.Ytbpdbooalkkenaa
namespace Go.Proofs.Ytbpdbooalkkenaa
open Go Go.Av Go.Ev Go.Pl
noncomputable def encR(g:G)(F:List (List Int))(i:Nat)(S:SN):Int×Int×(List (List Int))×(List (Int×(Int×Unit)))×(List Int)×Int×(List (List Int))×(List Bool)×(List (List Bool))×Unit:=
 ((i:Int),(0:Int),F,gm g.sp,bK g,(0:Int),jT S.2.2,(S.1.take i).map (jQ g),S.1.map (ja g.sp.length),())
theorem ws{r:Rx}(hr:mf r=0):aP tbl iS [.d .rx r] [] dG (match jC (bC r 0) NL with| .inl _=>(dN (bC r 0),true,())| .inr _=>(zD,false,())):=by
 obtain⟨hw,hsz⟩:=pj hr
 have hg:=Co hw hsz
 have hem:=(cQ r hw 0).2
 have hcnt:=uY r
 refine aT (by cases jC (bC r 0) NL<;>rfl) (aU wI rfl (λO n=>wM O n r) ?_)
 unfold qp
 obtain⟨F,hF,hwalk⟩:=tC r hw (by omega) [] [] [] ⟨rfl,by simp,by simp,by simp⟩ (λp q h=>by cases h) (by simp;omega)
 simp only[List.length_nil,Nat.zero_add,List.nil_append]at hwalk hF
 refine ar hwalk ?_
 generalize bC r 0=g at*
 have hk:=ra hg
 have hn:=hg.n64
 refine ae (Ev.wp_mono (BZ hg (cL g.fi,cL g.la,gm g.sp,F,()) rfl F) ?_)
 rintro v5 rfl
 have hbl:=tP g.sp
 refine ar (w9 (nj g.sp) (by omega)) ?_
 have hll:=hg.lie.ll
 have hfl:=hg.lie.fl
 have hsl:((gm g.sp).length:Int)=((g.sp.length:Nat):Int):=by rw[i3]
 dsimp only
 rw[hsl]
 refine ar (y7 g.sp.length (by omega) g.la (λp hp=>by have:=hg.lie.la p hp;omega) (by omega)) ?_
 refine ap (po (by omega)) ?_
 rw[pq]
 show Wp (λn=>Option.bind (aF n (jr (mh tbl n) n r (cL g.fi,cL g.la,gm g.sp,F,()) ((0:Int),gm g.sp,F,nj g.sp,()) (aV g.sp.length (λp=>decide (p∈g.la)),())) (encR g F 0 ([none],[],[]))) _) _
 refine ae (Ev.wp_loop (λs=>∃i S,s=encR g F i S/\jC g i= .inl S/\i<=S.1.length) (λs=>NL - s.1.toNat) ⟨0,([none],[],[]),rfl,rfl,by simp⟩ ?_)
 rintro s ⟨i,S,rfl,hS,hiS⟩
 obtain⟨hSe,hq⟩:=(i5 i).1 S hS
 have hSe:S=bY g i:=hSe
 have hNL:=G4
 subst hSe
 have hok:Ok (ce g) none (bK g) (bY g i).1 (bY g i).2.1:=cI i
 have hlen:=vA hq
 have hrl:=xK (g:=g) i
 have hsts:=Lo hg hok
 have hml:((bY g i).1.map (ja g.sp.length)).length=(bY g i).1.length:=List.length_map _
 unfold jr
 simp only[encR]
 refine aN (λh=>?_) λh=>?_
 ·have hi:i<(bY g i).1.length:=by have:=of_decide_eq_true h;omega
  have hx:=List.getElem?_eq_getElem hi
  generalize hxe:(bY g i).1[i]=x at hx
  have hxm:((bY g i).1.map (ja g.sp.length))[i]? =some (ja g.sp.length x):=by rw[List.getElem?_map,hx];rfl
  have hx0:i=0->x=none:=λe=>by subst e;rw[hsts.hd]at hx;cases hx;rfl
  have hx1:i≠0->∃b,x=some b:=λe=>by obtain⟨b,hb,_⟩:=hsts.tl i (by omega) x hx;exact⟨b,hb⟩
  rw[hsl]
  refine ap (po (by omega)) ?_
  rw[pq]
  refine ae (Ev.wp_mono (Q:=λv=>v=(LD g x,(0:Int),F,gm g.sp,bK g,(0:Int),jT (bY g i).2.2,((bY g i).1.take i).map (jQ g),(bY g i).1.map (ja g.sp.length),aV g.sp.length (LK g x),())) (aN (λh=>?_) λh=>?_) ?_)
  ·have e:i=0:=Ow (b:=0) h
   have ex:=hx0 e
   refine ar (rX g.sp.length (by omega) g.fi (λp hp=>by have:=hg.lie.fi p hp;omega) (by omega)) (ar (jU r (by omega)) (aa ?_))
   rw[ex,<-hem]
   rfl
  ·have e:i≠0:=Ov (b:=0) h
   obtain⟨b,rfl⟩:=hx1 e
   exact aa rfl
  rintro v rfl
  dsimp only
  refine gF (x:=ja g.sp.length x) (by omega) (by rw[Int.toNat_natCast];exact hxm) (aW (x:=ja g.sp.length x) (by rw[Int.toNat_natCast];exact hxm) ?_)
  rw[Lr g.sp.length x]
  refine ae (Ev.wp_mono (Iz hg hF (bK g) _ _ _ _ _ _) ?_)
  rintro v rfl
  obtain⟨r1,r2⟩:=JR hg x
  rw[r1,r2]
  refine ap (decide_eq_true (by simp;omega)) (ae (Ev.wp_mono (I9 hg hok hlen hx F _ _ _ rfl _ rfl) λt ht=>?_))
  have hsucc:jC g (i+1)=match iq (kj (BI 4096) (ce g) x i) ((bY g i).1,(bY g i).2.1,[]) (bK g)with
   | .inl r=>.inl (r.1,r.2.1,(bY g i).2.2++[r.2.2])
   | .inr r=>.inr (r.1,r.2,(bY g i).2.2):=by
   have hS':gf (ce g) none (bK g) (BI 4096) i= .inl (bY g i):=hS
   simp only[jC,gf,hS',hx]
   generalize iq (kj (BI 4096) (ce g) x i) ((bY g i).1,(bY g i).2.1,[]) (bK g)=z
   cases z<;>rfl
  cases hf:iq (kj (BI 4096) (ce g) x i) ((bY g i).1,(bY g i).2.1,[]) (bK g)with
  |inl r'=>
   rw[hf]at ht hsucc
   obtain⟨rfl,h2⟩:=ht
   have hpre:=((i5 (i+1)).1 _ hsucc).1
   have hp:=(fI (f:=ce g) (s0:=none) (ls:=bK g) i).1
   rw[<-hpre]at hp
   have hpl:(bY g i).1.length<=r'.1.length:=hp.length_le
   refine ap (decide_eq_true (by simp[jT];omega)) (aa ?_)
   refine⟨⟨i+1,(r'.1,r'.2.1,(bY g i).2.2++[r'.2.2]),?_,hsucc,Nat.le_trans hi hpl⟩,?_⟩
   ·simp only[encR,jT,List.map_append,List.map_cons,List.map_nil]
    rw[an hi (by omega),show(r'.1.take (i+1)).map (jQ g)=((bY g i).1.take i).map (jQ g)++[jQ g x]from by rw[AD hx,EE (L':=r'.1) hp (Nat.succ_le_of_lt hi)]]
   ·rw[an hi (by omega)]
    simp only[Int.toNat_natCast]
    omega
  |inr r'=>
   rw[hf]at ht hsucc
   subst ht
   refine aa (aa ?_)
   have he:jC g NL= .inr (r'.1,r'.2,(bY g i).2.2):=xJ (by omega) hsucc
   rw[he]
   rfl
 ·have hi:(bY g i).1.length<=i:=by have:=of_decide_eq_false h;omega
  have he:jC g NL= .inl (bY g i):=AQ (by omega) hS hi
  have hfin:bY g NL=bY g i:=q6 (by omega) hi
  have hall:(pP g).length<=4096:=by unfold pP;rw[hfin];exact hlen
  have hd:((bK g,jT (bY g i).2.2,((bY g i).1.take i).map (jQ g),(0:Int),()):DF)=dN g:=by
   have h1:=Hk hall
   rw[hfin]at h1
   rw[<-h1,List.take_of_length_le hi,<-hfin]
   rfl
  rw[he]
  refine aa (aa ?_)
  show some (lO dG ((bK g,jT (bY g i).2.2,((bY g i).1.take i).map (jQ g),(0:Int),()),true,()))=_
  rw[hd]
theorem o8{r:Rx}(hr:mf r=0){m:DF}(hm:(pP (bC r 0)).length<=4096->aP tbl d5 [.d (pr [.list tI,.list (.list tI),.list tB,tI]) (dN (bC r 0))] [] cS (m,())):
 aP tbl ic [.d .rx r] [] dV (match jC (bC r 0) NL with| .inl _=>(m,0,())| .inr _=>(zD,8,())):=by
 obtain⟨hw,hsz⟩:=pj hr
 have h1:=ws hr
 refine aT (by cases jC (bC r 0) NL<;>rfl) (aU sQ rfl (λO n=>sS O n r) ?_)
 unfold oH
 refine ar (se r (by omega)) ?_
 rw[hr]
 refine b5 rfl ?_
 cases he:jC (bC r 0) NL with
 |inl S=>
  rw[he]at h1
  have hall:=(Df he).2
  exact ar h1 (b5 rfl (ar (hm hall) (aa rfl)))
 |inr S=>
  rw[he]at h1
  exact ar h1 (fE rfl (aa rfl))
structure BuildR(r:Rx)(c:DF×Int×Unit):Prop where
 err:c.2.1=0\/c.2.1≠0/\c.1=zD
 lang:c.2.1=0->mf r=0/\Canon c.1/\(∀w,Valid w->b6 c.1 (dx c.1 w)=gY (bC r 0) w)/\Good c.1
 ok:Fx c.1
 e8:mf r=0->c.2.1=0\/c.2.1=8
theorem xq(r:Rx)(hs:sz r<=1000000):∃c:DF×Int×Unit,BuildR r c/\aP tbl cU [.d .rx r] [] cb c/\aP tbl ic [.d .rx r] [] dV c:=by
 by_cases hr:mf r=0
 ·obtain⟨hw,hsz⟩:=pj hr
  have hg:=Co hw hsz
  cases he:jC (bC r 0) NL with
  |inr S=>
   have h1:=qA hr (m:=zD) (λh=>?_)
   have h2:=o8 hr (m:=zD) (λh=>?_)
   rw[he]at h1 h2
   ·exact⟨(zD,8,()),⟨.inr ⟨by decide,rfl⟩,(λh=>by cases h),HN,λ_=>.inr rfl⟩,h1,h2⟩
   all_goals
    exfalso
    obtain⟨L,y,g1,g2,g3,g4,g5,_⟩:=(i5 NL).2 S he
    have h5:=g5.length_le
    rw[g1,List.length_append]at h5
    have h6:4096<=L.length:=of_decide_eq_true g4
    have h7:(bY (bC r 0) NL).1.length<=4096:=h
    simp only[List.length_singleton]at h5
    have h8:L.length+1<=(bY (bC r 0) NL).1.length:=h5
    omega
  |inl S=>
   obtain⟨_,hall⟩:=Df he
   have hwf:=NQ hg hall
   have hk:=ra hg
   have hk1:(dN (bC r 0)).1.length<=129:=hk
   have hk2:(dN (bC r 0)).2.1.length<=4096:=by
    show((pP (bC r 0)).map _).length<=_
    rw[List.length_map];exact hall
   obtain⟨⟨m,_⟩,⟨⟨c1,c2⟩,c3,c4⟩,hm1⟩:=sd hwf (by omega) (by omega)
   obtain⟨⟨m',_⟩,⟨d1,d2⟩,hm2⟩:=m6 hwf (by omega) (by omega)
   have e:m'=m:=mE d1 c1 λw hw=>(d2 w hw).trans (c2 w hw).symm
   subst e
   have h1:=qA hr (m:=m') (λ_=>hm1)
   have h2:=o8 hr (m:=m') (λ_=>hm2)
   rw[he]at h1 h2
   have hgood:=I0 d1 (by show m'.1.length<=2000;simp only at c3;omega) (by show m'.2.1.length<=4096;simp only at c4;omega)
   refine⟨(m',0,()),⟨.inl rfl,λ_=>⟨hr,d1,λw hw=>(d2 w hw).trans (LM hg hall hw),hgood⟩,Bl hgood,λ_=>.inl rfl⟩,h1,h2⟩
 ·refine⟨(zD,mf r,()),⟨.inr ⟨hr,rfl⟩,λh=>absurd h hr,HN,λh=>absurd h hr⟩,?_,?_⟩
  ·refine aT rfl (aU wl rfl (λO n=>wo O n r) ?_)
   unfold qE
   exact ar (sg r hs) (fE (by show(mf r != 0)=true;simpa using hr) (aa rfl))
  ·refine aT rfl (aU sQ rfl (λO n=>sS O n r) ?_)
   unfold oH
   exact ar (se r hs) (fE (by show(mf r != 0)=true;simpa using hr) (aa rfl))
theorem Ct:LawOk kb [.rx]:=by
 rintro⟨r,_⟩ ⟨hr,_⟩
 have hr:IX r:=hr
 refine⟨lO gO (true,()),?_,rfl⟩
 refine aU vJ rfl (λO n=>vO O n r) ?_
 unfold o9
 refine ar (tA r hr 90 (by decide)) ?_
 refine aN (λ_=>ar tz (cE (λ_=>rfl) rfl)) λhs=>?_
 have hs:¬((min (sz r) (90+1):Nat):Int)>90:=of_decide_eq_false hs
 obtain⟨c,hc,h1,h2⟩:=xq r (by omega)
 refine ar h1 (ar h2 ?_)
 refine ae (eb (b:=true) (λ_=>ar (oF c.1 c.1 hc.ok) (aa (by simp))) ?_)
 rw[show(c.2.1==c.2.1)=true from beq_self_eq_true _]
 refine ae (eb (b:=true) (λ_=>ar tz (aa rfl)) (aa ?_))
 rfl
end Go.Proofs.Ytbpdbooalkkenaa
namespace Go.Proofs.Ytbpdbooalkkenaa
open Go Go.Av Go.Ev Go.Pl
theorem range_iff{path:List Int}:eU path=true↔∀v∈path,0<=v/\v<=4294967295:=by
 unfold eU
 rw[List.all_eq_true]
 constructor
 ·intro h v hv
  have:=h v hv
  simpa using this
 ·intro h v hv
  have:=h v hv
  simp[this.1,this.2]
theorem Ek{r:Rx}(hw:cZ r=true){d:DF}(hd:Good d)(hl:∀w,Valid w->b6 d (dx d w)=gY (bC r 0) w)(path:List Int):mo d path=gY (bC r 0) path:=by
 by_cases hv:∀v∈path,0<=v/\v<=4294967295
 ·rw[El hd hv]
  exact hl path hv
 ·have:∃v∈path,v<0\/v>4294967295:=by
   refine Classical.byContradiction λhn=>hv λv hv'=>?_
   have h1:¬(v<0\/v>4294967295):=λh=>hn ⟨v,hv',h⟩
   omega
  obtain⟨v,h1,h2⟩:=this
  have hr:eU path=false:=by
   cases e:eU path
   ·rfl
   ·exact absurd (range_iff.1 e) hv
  rw[IN h1 h2,Bh hw hr]
theorem Ee:LawOk mc [.rx,.list tI]:=by
 rintro⟨r,path,_⟩ ⟨hr,hp,_⟩
 have hr:IX r:=hr
 refine⟨lO dF (true,()),?_,rfl⟩
 refine aU wH rfl (λO n=>wL O n r path) ?_
 unfold qo
 refine ar (tA r hr 40 (by decide)) (ae (cg (b:=decide ((path.length:Int)>60)) (λ_=>aa rfl) ?_))
 refine aN (λ_=>ar tz (cE (λ_=>rfl) rfl)) λhs=>?_
 have hs:(decide (((min (sz r) (40+1):Nat):Int)>40)||decide ((path.length:Int)>60))=false:=hs
 simp only[Bool.or_eq_false_iff,decide_eq_false_iff_not]at hs
 obtain⟨hs1,hs2⟩:=hs
 obtain⟨c,hc,h1,_⟩:=xq r (by omega)
 refine ar h1 (ae (cg (λ_=>ar (yX c.1) (aa rfl)) ?_))
 refine aN (λ_=>ar tz (cE (λ_=>rfl) rfl)) λhb=>?_
 have h0:c.2.1=0:=by
  rw[Bool.or_eq_false_iff]at hb
  simpa using hb.1
 obtain⟨hchk,hcan,hl,hgood⟩:=hc.lang h0
 obtain⟨hw,_⟩:=pj hchk
 refine ar (oD c.1) ?_
 rw[good_iff.2 hgood]
 refine b5 rfl ?_
 obtain⟨x,x1,x2,x3,x4,_⟩:=Ko c.1
 have ex:x.1=c.1:=mE (x2 hgood).1 hcan (x2 hgood).2
 have ex1:x.2.1=0:=by rw[x1,good_iff.2 hgood]
 refine ar x4 (ae (cg (b:=false) (λ_=>ar (oF x.1 c.1 x3) (aa ?_)) ?_))
 ·rw[ex];simp
 rw[ex1]
 have hgl:=q9 hgood
 obtain⟨⟨m,_⟩,⟨d1,d2⟩,hm2⟩:=m6 hgood.wf (by omega) (by omega)
 have em:m=c.1:=mE d1 hcan d2
 refine ae (cg (b:=false) (λ_=>ar hm2 (ar (oF m c.1 (by rw[em];exact Bl hgood)) (aa ?_))) ?_)
 ·rw[em];simp
 refine b5 rfl ?_
 have hmb:=Ek hw hgood hl path
 refine ar (vQ c.1 path (by omega)) (ar (yY r (by omega) path (by omega)) ?_)
 rw[hmb,hw]
 have hrg:(eU path&&gY (bC r 0) path)=gY (bC r 0) path:=by
  cases e:eU path
  ·rw[Bh hw e];rfl
  ·rfl
 refine ae (eb (b:=true) (λ_=>ar (vQ c.1 path (by omega)) (ar (y9 r (by omega) path (by omega)) (aa ?_))) ?_)
 ·rw[hmb,hw,hrg];simp
 refine ae (eb (b:=true) (λ_=>ar tz (aa rfl)) (aa ?_))
 simp
end Go.Proofs.Ytbpdbooalkkenaa
