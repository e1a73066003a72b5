/- Part MAw: laws shown with the machine. -/
import Derived.Test.YtbpdbooalkkenaaKGlueB
import Derived.Test.YtbpdbooalkkenaaKL8
import Derived.Test.YtbpdbooalkkenaaKL5
set_option linter.unusedVariables false
set_option linter.unusedSimpArgs false
namespace Go.Proofs.Ytbpdbooalkkenaa
open Go Go.Av Go.Ev
theorem A0:aP tbl kC [] [] iv ((Rx.mk 3 0 0 [Rx.mk 1 65001 65001 [],Rx.mk 5 0 0 [Rx.mk 2 0 0 []]]),()):=eG (m:=90) λk=>by kernel_rfl
theorem A1:aP tbl cU [.d .rx (Rx.mk 3 0 0 [Rx.mk 1 65001 65001 [],Rx.mk 5 0 0 [Rx.mk 2 0 0 []]])] [] cb ((([0,65001,65002],([[1,2,1],[1,1,1],[2,2,2]],([false,false,true],(0,()))))),(0),()):=eG (m:=90) λk=>by kernel_rfl
theorem A2:aP tbl cU [.d .rx (Rx.mk 2 0 0 [])] [] cb ((([0],([[1],[2],[2]],([false,true,false],(0,()))))),(0),()):=eG (m:=90) λk=>by kernel_rfl
theorem A3:aP tbl cU [.d .rx (Rx.mk 1 65001 65001 [])] [] cb ((([0,65001,65002],([[1,2,1],[1,1,1],[1,1,1]],([false,false,true],(0,()))))),(0),()):=eG (m:=90) λk=>by kernel_rfl
theorem A4:aP tbl oN [.d (pr [(.list tI),(.list (.list tI)),(.list tB),tI]) (([0],([[1],[2],[2]],([false,true,false],(0,()))))),.d (pr [(.list tI),(.list (.list tI)),(.list tB),tI]) (([0,65001,65002],([[1,2,1],[1,1,1],[1,1,1]],([false,false,true],(0,())))))] [] lx (([0]),(true),()):=eG (m:=90) λk=>by kernel_rfl
theorem A5:aP tbl pg [.d (pr [(.list tI),(.list (.list tI)),(.list tB),tI]) (([0],([[1],[2],[2]],([false,true,false],(0,())))))] [] mZ ((([0],([[1],[2],[2]],([true,false,true],(0,()))))),()):=eG (m:=90) λk=>by kernel_rfl
theorem A6:aP tbl sX [.d (pr [(.list tI),(.list (.list tI)),(.list tB),tI]) (([0],([[1],[2],[2]],([false,true,false],(0,()))))),.d (pr [(.list tI),(.list (.list tI)),(.list tB),tI]) (([0],([[1],[2],[2]],([true,false,true],(0,())))))] [] qb ((([0],([[0]],([false],(0,()))))),(0),()):=eG (m:=90) λk=>by kernel_rfl
theorem A7:aP tbl dS [.d (pr [(.list tI),(.list (.list tI)),(.list tB),tI]) (([0,65001,65002],([[1,2,1],[1,1,1],[2,2,2]],([false,false,true],(0,()))))),.d (pr [(.list tI),(.list (.list tI)),(.list tB),tI]) (([0,65001,65002],([[1,2,1],[1,1,1],[2,2,2]],([false,false,true],(0,())))))] [] bD ((true),()):=eG (m:=90) λk=>by kernel_rfl
theorem A8:aP tbl qL [.d (pr [(.list tI),(.list (.list tI)),(.list tB),tI]) (([0,65001,65002],([[1,2,1],[1,1,1],[2,2,2]],([false,false,true],(0,()))))),.d (pr [(.list tI),(.list (.list tI)),(.list tB),tI]) (([0,65001,65002],([[1,2,1],[1,1,1],[2,2,2]],([false,false,true],(0,())))))] [] ou ((true),()):=eG (m:=90) λk=>by kernel_rfl
theorem A9:aP tbl eE [.d (pr [(.list tI),(.list (.list tI)),(.list tB),tI]) (([0,65001,65002],([[1,2,1],[1,1,1],[2,2,2]],([false,false,true],(0,())))))] [] bR ((0),()):=eG (m:=90) λk=>by kernel_rfl
theorem OM:aP tbl eE [.d (pr [(.list tI),(.list (.list tI)),(.list tB),tI]) (([],([],([],(0,())))))] [] bR ((16),()):=eG (m:=90) λk=>by kernel_rfl
theorem ON:aP tbl dn [.d (pr [(.list tI),(.list (.list tI)),(.list tB),tI]) (([0,65001,65002],([[1,2,1],[1,1,1],[2,2,2]],([false,false,true],(0,()))))),.d (.list tI) ([65001,7])] [] cm ((true),()):=eG (m:=90) λk=>by kernel_rfl
theorem OO:aP tbl dn [.d (pr [(.list tI),(.list (.list tI)),(.list tB),tI]) (([0,65001,65002],([[1,2,1],[1,1,1],[2,2,2]],([false,false,true],(0,()))))),.d (.list tI) ([])] [] cm ((false),()):=eG (m:=90) λk=>by kernel_rfl
theorem OP:aP tbl pg [.d (pr [(.list tI),(.list (.list tI)),(.list tB),tI]) (([0,65001,65002],([[1,2,1],[1,1,1],[2,2,2]],([false,false,true],(0,())))))] [] mZ ((([0,65001,65002],([[1,2,1],[1,1,1],[2,2,2]],([true,true,false],(0,()))))),()):=eG (m:=90) λk=>by kernel_rfl
theorem OQ:aP tbl dn [.d (pr [(.list tI),(.list (.list tI)),(.list tB),tI]) (([0,65001,65002],([[1,2,1],[1,1,1],[2,2,2]],([true,true,false],(0,()))))),.d (.list tI) ([])] [] cm ((true),()):=eG (m:=90) λk=>by kernel_rfl
theorem OR:aP tbl ng [.d (pr [(.list tI),(.list (.list tI)),(.list tB),tI]) (([0,65001,65002],([[1,2,1],[1,1,1],[2,2,2]],([false,false,true],(0,()))))),.d (pr [(.list tI),(.list (.list tI)),(.list tB),tI]) (([0,65001,65002],([[1,2,1],[1,1,1],[2,2,2]],([false,false,true],(0,())))))] [] kg ((true),()):=eG (m:=90) λk=>by kernel_rfl
theorem OS:aP tbl ng [.d (pr [(.list tI),(.list (.list tI)),(.list tB),tI]) (([0],([[1],[2],[2]],([false,true,false],(0,()))))),.d (pr [(.list tI),(.list (.list tI)),(.list tB),tI]) (([0,65001,65002],([[1,2,1],[1,1,1],[1,1,1]],([false,false,true],(0,())))))] [] kg ((false),()):=eG (m:=90) λk=>by kernel_rfl
theorem tz:aP tbl dR [] [] cK (true,()):=by
 refine aT rfl (aU zZ rfl (λO n=>Ai O n) ?_)
 unfold sn
 repeat first
  |refine ar A0 ?_
  |refine ar A1 ?_
  |refine ar A2 ?_
  |refine ar A3 ?_
  |refine ar A4 ?_
  |refine ar A5 ?_
  |refine ar A6 ?_
  |refine ar A7 ?_
  |refine ar A8 ?_
  |refine ar A9 ?_
  |refine ar OM ?_
  |refine ar ON ?_
  |refine ar OO ?_
  |refine ar OP ?_
  |refine ar OQ ?_
  |refine ar OR ?_
  |refine ar OS ?_
  |refine fE rfl ?_
  |refine b5 rfl ?_
  |refine aa ?_
  |refine gF (by decide) rfl ?_
  |refine ae ?_
 rfl
end Go.Proofs.Ytbpdbooalkkenaa
namespace Go.Proofs.Ytbpdbooalkkenaa
open Go Go.Av Go.Ev
abbrev DF:Type:=List Int×(List (List Int)×(List Bool×(Int×Unit)))
def b9(xs:List Int):Prop:=0<xs.length/\(∀(h:0<xs.length),xs[0]=0)/\(∀i (h:i+1<xs.length),xs[i]<xs[i+1])/\∀x∈xs,x<=4294967295
def Big(d:DF):Prop:=d.2.2.1.length>4096\/d.2.1.length>4096\/d.1.length>2000
open Classical in
noncomputable def bL(d:DF):Int:=
 if Big d then 4 else if ¬b9 d.1 then 16 else if d.2.1.length=0\/d.2.2.1.length≠d.2.1.length then 14
 else if ¬(∀r∈d.2.1,r.length=d.1.length)then 14 else if d.2.2.2.1<0\/d.2.2.2.1>=(d.2.1.length:Int)then 5
 else if ¬(∀r∈d.2.1,∀t∈r,0<=t/\t<(d.2.1.length:Int))then 5 else 0
theorem pF{i:Nat}(h0:0<i)(hi:i<=9223372036854775807):IntKind.wrap .i64 ((i:Int) - 1)=((i - 1:Nat):Int):=by
 rw[wrap_i64 (by omega) (by omega)];omega
theorem starts_dfa{xs:List Int}:b9 xs↔(0<xs.length/\∀i,(h:i<xs.length)->(i=0->xs[i]=0)/\(∀_:0<i,xs[i - 1]<xs[i])/\xs[i]<=4294967295):=by
 constructor
 ·rintro⟨h0,h1,h2,h3⟩
  refine⟨h0,λi h=>⟨λe=>?_,λe=>?_,h3 _ (List.getElem_mem h)⟩⟩
  ·subst e;exact h1 h0
  ·obtain⟨j,rfl⟩:∃j,i=j+1:=⟨i - 1,by omega⟩
   exact h2 j h
 ·rintro⟨h0,h⟩
  refine⟨h0,λ_=>(h 0 h0).1 rfl,λi hi=>(h (i+1) hi).2.1 (by omega),λx hx=>?_⟩
  obtain⟨i,hi,rfl⟩:=List.mem_iff_getElem.1 hx
  exact(h i hi).2.2
theorem starts_ref{xs:List Int}:b9 xs↔(0<xs.length/\(∀h:0<xs.length,xs[0]=0)/\∀i,(h:i<xs.length)->(∀_:0<i,xs[i - 1]<xs[i])/\xs[i]<=4294967295):=by
 rw[starts_dfa]
 constructor
 ·rintro⟨h0,h⟩
  exact⟨h0,λ_=>(h 0 h0).1 rfl,λi hi=>(h i hi).2⟩
 ·rintro⟨h0,h1,h2⟩
  refine⟨h0,λi hi=>⟨λe=>?_,h2 i hi⟩⟩
  subst e;exact h1 h0
theorem qB(d:DF):aP tbl eE [.d (pr [.list tI,.list (.list tI),.list tB,tI]) d] [] bR (bL d,()):=by
 refine aT rfl (aU Fe rfl (λO n=>Fo O n d) ?_)
 unfold vS
 refine ae (cg (λ_=>aa rfl) (ae (cg (λ_=>aa rfl) ?_)))
 refine aN (λh=>aa ?_) λh=>?_
 ·have:Big d:=by
   simp only[Bool.or_eq_true,decide_eq_true_eq]at h
   unfold Big;omega
  rw[show bL d=4 from by unfold bL;rw[if_pos this]]
 have nb:¬Big d:=by
  simp only[Bool.or_eq_false_iff,decide_eq_false_iff_not]at h
  unfold Big;omega
 have hl1:d.1.length<=2000:=by unfold Big at nb;omega
 have hl2:d.2.1.length<=4096:=by unfold Big at nb;omega
 refine ae (tw (N:=d.1.length) (good:=λi=>∀(h:i<d.1.length),(i=0->d.1[i]=0)/\(∀_:0<i,d.1[i - 1]<d.1[i])/\d.1[i]<=4294967295) (e:=((16:Int),())) (g:=()) (λi hi=>?_) ?_ (λhs=>?_) (λhb=>?_))
 ·unfold oI
  refine bc hi (au hi ?_)
  refine ae (eb (λ_=>aa rfl) (ae (cg (b:=decide (0<i)&&decide (d.1[i]<=d.1[i - 1])) (λ_=>ae (eb (b:=decide (d.1[i]<=d.1[i - 1])) (λh0=>?_) (aa ?_))) (ae (cg (λ_=>aa rfl) ?_)))))
  ·have h0:0<i:=by simpa using h0
   rw[pF h0 (by omega)]
   exact au (by omega) (aa rfl)
  ·congr 1
   exact decide_eq_decide.2 (by omega)
  ·refine gT ?_ (by rw[an hi (by omega)])
   simp only[Bool.or_eq_true,Bool.and_eq_true,decide_eq_true_eq,beq_iff_eq,bne_iff_ne]
   constructor
   ·intro h1 h2
    have h3:=h2 hi
    rcases h1 with(⟨h1,h4⟩|⟨h1,h4⟩)|h1
    ·exact h4 (h3.1 (by omega))
    ·have:=h3.2.1 h1;omega
    ·have:=h3.2.2;omega
   ·intro h1
    by_cases h2:i=0
    ·by_cases h3:d.1[i]=0
     ·exact absurd (λ_=>⟨λ_=>h3,λh=>absurd h (by omega),by omega⟩) h1
     ·exact .inl (.inl ⟨by omega,h3⟩)
    ·by_cases h3:d.1[i]<=d.1[i - 1]
     ·exact .inl (.inr ⟨by omega,h3⟩)
     ·by_cases h4:d.1[i]>4294967295
      ·exact .inr h4
      ·exact absurd (λ_=>⟨λh=>absurd h h2,λ_=>by omega,by omega⟩) h1
 ·unfold oI
  exact aQ (aa rfl)
 ·refine aN (λh=>aa ?_) λh=>?_
  ·have:¬b9 d.1:=λhs=>by have:=hs.1;simp at h;simp[h]at this
   rw[show bL d=16 from by unfold bL;rw[if_neg nb,if_pos this]]
  have hS:b9 d.1:=starts_dfa.2 ⟨by simp at h;exact List.length_pos_iff.2 h,λi hi=>hs i hi hi⟩
  refine ae (cg (λ_=>aa rfl) ?_)
  refine aN (λh=>aa ?_) λh=>?_
  ·have:d.2.1.length=0\/d.2.2.1.length≠d.2.1.length:=by
    simp only[Bool.or_eq_true,beq_iff_eq,bne_iff_ne]at h
    omega
   rw[show bL d=14 from by unfold bL;rw[if_neg nb,if_neg (not_not_intro hS),if_pos this]]
  have h1:¬(d.2.1.length=0\/d.2.2.1.length≠d.2.1.length):=by
   simp only[Bool.or_eq_false_iff,beq_eq_false_iff_ne,bne_eq_false_iff_eq]at h
   omega
  refine ae (mV (xs:=d.2.1) (P:=λr=>r.length=d.1.length) (e:=((14:Int),())) (g:=()) (λi hi=>?_) ?_ (λhr=>?_) (λhr=>?_))
  ·unfold oJ
   refine bc hi (au hi (gT ?_ (by rw[an hi (by omega)])))
   simp only[bne_iff_ne]
   omega
  ·unfold oJ
   exact aQ (aa rfl)
  ·refine ae (cg (λ_=>aa rfl) ?_)
   refine aN (λh=>aa ?_) λh=>?_
   ·have:d.2.2.2.1<0\/d.2.2.2.1>=(d.2.1.length:Int):=by simpa using h
    rw[show bL d=5 from by unfold bL;rw[if_neg nb,if_neg (not_not_intro hS),if_neg h1,if_neg (not_not_intro hr),if_pos this]]
   have h2:¬(d.2.2.2.1<0\/d.2.2.2.1>=(d.2.1.length:Int)):=by simpa using h
   refine ae (mV (xs:=d.2.1) (P:=λr=>∀t∈r,0<=t/\t<(d.2.1.length:Int)) (e:=((5:Int),())) (g:=()) (λi hi=>?_) ?_ (λht=>?_) (λht=>?_))
   ·unfold oL
    refine bc hi (au hi (ae (mV (xs:=d.2.1[i]) (P:=λt=>0<=t/\t<(d.2.1.length:Int)) (e:=((5:Int),())) (g:=()) (λk hk=>?_) ?_ (λh=>?_) (λh=>?_))))
    ·unfold oK
     have hk2:=hk
     rw[hr _ (List.getElem_mem hi)]at hk2
     refine bc hk (au hk (ae (cg (λ_=>aa rfl) (gT ?_ (by rw[an hk2 (by omega)])))))
     simp only[Bool.or_eq_true,decide_eq_true_eq]
     omega
    ·unfold oK
     exact aQ (aa rfl)
    ·exact aa (.inl ⟨h,by rw[an hi (by omega)]⟩)
    ·exact aa (.inr ⟨h,rfl⟩)
   ·unfold oL
    exact aQ (aa rfl)
   ·refine aa ?_
    rw[show bL d=0 from by unfold bL;rw[if_neg nb,if_neg (not_not_intro hS),if_neg h1,if_neg (not_not_intro hr),if_neg h2,if_neg (not_not_intro ht)]]
   ·refine aa ?_
    rw[show bL d=5 from by unfold bL;rw[if_neg nb,if_neg (not_not_intro hS),if_neg h1,if_neg (not_not_intro hr),if_neg h2,if_pos ht]]
  ·refine aa ?_
   rw[show bL d=14 from by unfold bL;rw[if_neg nb,if_neg (not_not_intro hS),if_neg h1,if_pos hr]]
 ·have:¬b9 d.1:=λhs=>by
   obtain⟨i,hi,hb⟩:=hb
   exact hb λh=>(starts_dfa.1 hs).2 i h
  refine aa ?_
  rw[show bL d=16 from by unfold bL;rw[if_neg nb,if_pos this]]
theorem oD(d:DF):aP tbl ig [.d (pr [.list tI,.list (.list tI),.list tB,tI]) d] [] bW (bL d,()):=by
 refine aT rfl (aU z6 rfl (λO n=>Am O n d) ?_)
 unfold sv
 refine ae (cg (λ_=>aa rfl) (ae (cg (λ_=>aa rfl) ?_)))
 refine aN (λh=>aa ?_) λh=>?_
 ·have:Big d:=by
   simp only[Bool.or_eq_true,decide_eq_true_eq]at h
   unfold Big;omega
  rw[show bL d=4 from by unfold bL;rw[if_pos this]]
 have nb:¬Big d:=by
  simp only[Bool.or_eq_false_iff,decide_eq_false_iff_not]at h
  unfold Big;omega
 have hl1:d.1.length<=2000:=by unfold Big at nb;omega
 have hl2:d.2.1.length<=4096:=by unfold Big at nb;omega
 refine ae (cg (b:=decide (∃h:0<d.1.length,d.1[0]≠0)) (λh0=>?_) ?_)
 ·have h0:0<d.1.length:=by simp at h0;exact List.length_pos_iff.2 h0
  refine au h0 (aa ?_)
  simp[h0]
  rfl
 refine aN (λh=>aa ?_) λh=>?_
 ·have:¬b9 d.1:=λhs=>by
   simp only[Bool.or_eq_true,beq_iff_eq,decide_eq_true_eq]at h
   rcases h with h|⟨h,h2⟩
   ·have:=hs.1;omega
   ·exact h2 (hs.2.1 h)
  rw[show bL d=16 from by unfold bL;rw[if_neg nb,if_pos this]]
 have hp:0<d.1.length/\∀h:0<d.1.length,d.1[0]=0:=by
  simp only[Bool.or_eq_false_iff,beq_eq_false_iff_ne,decide_eq_false_iff_not,not_exists,Decidable.not_not]at h
  exact⟨by omega,h.2⟩
 refine ae (tw (N:=d.1.length) (good:=λi=>∀(h:i<d.1.length),(∀_:0<i,d.1[i - 1]<d.1[i])/\d.1[i]<=4294967295) (e:=((16:Int),())) (g:=()) (λi hi=>?_) ?_ (λhs=>?_) (λhb=>?_))
 ·unfold lY
  refine bc hi (au hi ?_)
  refine ae (cg (b:=decide (0<i)&&decide (d.1[i]<=d.1[i - 1])) (λ_=>ae (eb (b:=decide (d.1[i]<=d.1[i - 1])) (λh0=>?_) (aa ?_))) ?_)
  ·have h0:0<i:=by simpa using h0
   rw[pF h0 (by omega)]
   exact au (by omega) (aa rfl)
  ·congr 1
   exact decide_eq_decide.2 (by omega)
  ·refine gT ?_ (by rw[an hi (by omega)])
   simp only[Bool.or_eq_true,Bool.and_eq_true,decide_eq_true_eq]
   constructor
   ·intro h1 h2
    have h3:=h2 hi
    rcases h1 with h1|⟨h1,h4⟩
    ·have:=h3.2;omega
    ·have:=h3.1 h1;omega
   ·intro h1
    by_cases h3:0<i/\d.1[i]<=d.1[i - 1]
    ·exact .inr h3
    ·by_cases h4:d.1[i]>4294967295
     ·exact .inl h4
     ·exact absurd (λ_=>⟨λh=>Int.not_le.1 λhle=>h3 ⟨h,hle⟩,Int.not_lt.1 h4⟩) h1
 ·unfold lY
  exact aQ (aa rfl)
 ·have hS:b9 d.1:=starts_ref.2 ⟨hp.1,hp.2,λi hi=>hs i hi hi⟩
  refine ae (cg (λ_=>aa rfl) ?_)
  refine aN (λh=>aa ?_) λh=>?_
  ·have:d.2.1.length=0\/d.2.2.1.length≠d.2.1.length:=by
    simp only[Bool.or_eq_true,beq_iff_eq,bne_iff_ne]at h
    omega
   rw[show bL d=14 from by unfold bL;rw[if_neg nb,if_neg (not_not_intro hS),if_pos this]]
  have h1:¬(d.2.1.length=0\/d.2.2.1.length≠d.2.1.length):=by
   simp only[Bool.or_eq_false_iff,beq_eq_false_iff_ne,bne_eq_false_iff_eq]at h
   omega
  refine ae (mV (xs:=d.2.1) (P:=λr=>r.length=d.1.length) (e:=((14:Int),())) (g:=()) (λi hi=>?_) ?_ (λhr=>?_) (λhr=>?_))
  ·unfold lZ
   refine bc hi (au hi (gT ?_ (by rw[an hi (by omega)])))
   simp only[bne_iff_ne]
   omega
  ·unfold lZ
   exact aQ (aa rfl)
  ·refine ae (cg (λ_=>aa rfl) ?_)
   refine aN (λh=>aa ?_) λh=>?_
   ·have:d.2.2.2.1<0\/d.2.2.2.1>=(d.2.1.length:Int):=by simpa using h
    rw[show bL d=5 from by unfold bL;rw[if_neg nb,if_neg (not_not_intro hS),if_neg h1,if_neg (not_not_intro hr),if_pos this]]
   have h2:¬(d.2.2.2.1<0\/d.2.2.2.1>=(d.2.1.length:Int)):=by simpa using h
   refine ae (mV (xs:=d.2.1) (P:=λr=>∀t∈r,0<=t/\t<(d.2.1.length:Int)) (e:=((5:Int),())) (g:=()) (λi hi=>?_) ?_ (λht=>?_) (λht=>?_))
   ·unfold l5
    refine bc hi (au hi (ae (mV (xs:=d.2.1[i]) (P:=λt=>0<=t/\t<(d.2.1.length:Int)) (e:=((5:Int),())) (g:=()) (λk hk=>?_) ?_ (λh=>?_) (λh=>?_))))
    ·unfold l4
     have hk2:=hk
     rw[hr _ (List.getElem_mem hi)]at hk2
     refine bc hk (au hk (ae (cg (λ_=>aa rfl) (gT ?_ (by rw[an hk2 (by omega)])))))
     simp only[Bool.or_eq_true,decide_eq_true_eq]
     omega
    ·unfold l4
     exact aQ (aa rfl)
    ·exact aa (.inl ⟨h,by rw[an hi (by omega)]⟩)
    ·exact aa (.inr ⟨h,rfl⟩)
   ·unfold l5
    exact aQ (aa rfl)
   ·refine aa ?_
    rw[show bL d=0 from by unfold bL;rw[if_neg nb,if_neg (not_not_intro hS),if_neg h1,if_neg (not_not_intro hr),if_neg h2,if_neg (not_not_intro ht)]]
   ·refine aa ?_
    rw[show bL d=5 from by unfold bL;rw[if_neg nb,if_neg (not_not_intro hS),if_neg h1,if_neg (not_not_intro hr),if_neg h2,if_pos ht]]
  ·refine aa ?_
   rw[show bL d=14 from by unfold bL;rw[if_neg nb,if_neg (not_not_intro hS),if_neg h1,if_pos hr]]
 ·have:¬b9 d.1:=λhs=>by
   obtain⟨i,hi,hb⟩:=hb
   exact hb λh=>(starts_ref.1 hs).2.2 i h
  refine aa ?_
  rw[show bL d=16 from by unfold bL;rw[if_neg nb,if_pos this]]
end Go.Proofs.Ytbpdbooalkkenaa
namespace Go.Proofs.Ytbpdbooalkkenaa
open Go Go.Av Go.Ev
def Fx(d:DF):Prop:=d.1.length<=9223372036854775807/\d.2.1.length<=9223372036854775807/\(∀r∈d.2.1,r.length<=9223372036854775807)/\d.2.2.1.length<=9223372036854775807
def td(d:DF):Bool:=decide (d.2.1.length>60)||decide (d.2.2.1.length>60)||decide (d.1.length>60)||d.2.1.any λr=>decide (r.length>60)
theorem yX(d:DF):aP tbl kB [.d (pr [.list tI,.list (.list tI),.list tB,tI]) d] [] eS (td d,()):=by
 refine aT rfl (aU zY rfl (λO n=>Ah O n d) ?_)
 unfold sj
 refine ae (cg (λ_=>aa rfl) (ae (cg (λ_=>aa rfl) ?_)))
 refine aN (λh=>aa ?_) λh=>?_
 ·simp only[Bool.or_eq_true,decide_eq_true_eq]at h
  have:td d=true:=by
   simp only[td,Bool.or_eq_true,decide_eq_true_eq]
   left;omega
  rw[this]
 simp only[Bool.or_eq_false_iff,decide_eq_false_iff_not]at h
 refine ae (mV (xs:=d.2.1) (P:=λr=>r.length<=60) (e:=(true,())) (g:=()) (λi hi=>?_) ?_ (λhr=>aa ?_) (λhr=>aa ?_))
 ·unfold lW
  refine bc hi (au hi (gT ?_ (by rw[an hi (by omega)])))
  simp only[decide_eq_true_eq]
  omega
 ·unfold lW
  exact aQ (aa rfl)
 ·have:td d=false:=by
   simp only[td,Bool.or_eq_false_iff,decide_eq_false_iff_not,List.any_eq_false,decide_eq_true_eq]
   exact⟨⟨⟨by omega,by omega⟩,by omega⟩,λr h=>by have:=hr r h;omega⟩
  rw[this]
 ·have:td d=true:=by
   simp only[td,Bool.or_eq_true,decide_eq_true_eq,List.any_eq_true]
   right
   exact Classical.byContradiction λhn=>hr λr h=>by
    apply Classical.byContradiction
    intro h2
    exact hn ⟨r,h,by omega⟩
  rw[this]
theorem same_iff{α:Type}{a b:List α}(hl:a.length=b.length):(∀i,i<a.length->a[i]? =b[i]?)↔a=b:=by
 constructor
 ·intro h
  refine List.ext_getElem? λi=>?_
  by_cases hi:i<a.length
  ·exact h i hi
  ·rw[List.getElem?_eq_none (by omega),List.getElem?_eq_none (by omega)]
 ·rintro rfl _ _;rfl
theorem sf(a b:List Int)(hl:a.length<=9223372036854775807):aP tbl ii [.d (.list tI) a,.d (.list tI) b] [] dW (decide (a=b),()):=by
 refine aT rfl (aU Aa rfl (λO n=>Aq O n a b) ?_)
 unfold sA
 refine aN (λh=>aa ?_) λh=>?_
 ·have:a≠b:=λe=>by subst e;simp at h
  simp[this]
 have hab:a.length=b.length:=by simp only[bne_eq_false_iff_eq]at h;omega
 refine ae (tw (N:=a.length) (good:=λi=>a[i]? =b[i]?) (e:=(false,())) (g:=()) (λi hi=>?_) ?_ (λhs=>aa ?_) (λhb=>aa ?_))
 ·unfold l8
  refine bc hi (au hi (au (by omega) (gT ?_ (by rw[an hi (by omega)]))))
  rw[List.getElem?_eq_getElem hi,List.getElem?_eq_getElem (by omega)]
  simp
 ·unfold l8
  exact aQ (aa rfl)
 ·simp[(same_iff hab).1 hs]
 ·have:a≠b:=λe=>by obtain⟨i,hi,hn⟩:=hb;subst e;exact hn rfl
  simp[this]
theorem vD(a b:DF)(ha:Fx a)(hn:a.2.1.length=b.2.1.length)(hm:a.2.2.1.length=b.2.2.1.length)(h1:a.1=b.1)(h2:a.2.2.2.1=b.2.2.2.1):Wp (λn=>
 Option.bind (aF n (iI (mh tbl n) n a b) ((0:Int),())) fun(v8:(Bool×Unit)⊕Unit)=>
 Sum.elim (λv9=>
 aZ bD (v9.1,())) (λv10=>
 Option.bind (aF n (iJ (mh tbl n) n a b) ((0:Int),())) fun(v14:(Bool×Unit)⊕Unit)=>
 Sum.elim (λv15=>
 aZ bD (v15.1,())) (λv16=>
 aZ bD (true,())) v14) v8) λo=>o=some (lO bD (decide (a=b),())):=by
 refine ae (tw (N:=a.2.1.length) (good:=λi=>a.2.1[i]? =b.2.1[i]?) (e:=(false,())) (g:=()) (λi hi=>?_) ?_ (λhs=>?_) (λhb=>aa ?_))
 ·unfold iI
  refine bc hi (au hi (au (by omega) (ar (sf _ _ (ha.2.2.1 _ (List.getElem_mem hi))) (gT ?_ (by rw[an hi ha.2.1])))))
  rw[List.getElem?_eq_getElem hi,List.getElem?_eq_getElem (by omega)]
  simp
 ·unfold iI
  exact aQ (aa rfl)
 ·have hs:=(same_iff hn).1 hs
  refine ae (tw (N:=a.2.2.1.length) (good:=λi=>a.2.2.1[i]? =b.2.2.1[i]?) (e:=(false,())) (g:=()) (λi hi=>?_) ?_ (λht=>aa ?_) (λhb=>aa ?_))
  ·unfold iJ
   refine bc hi (au hi (au (by omega) (gT ?_ (by rw[an hi ha.2.2.2]))))
   rw[List.getElem?_eq_getElem hi,List.getElem?_eq_getElem (by omega)]
   simp
  ·unfold iJ
   exact aQ (aa rfl)
  ·have ht:=(same_iff hm).1 ht
   have:a=b:=Prod.ext h1 (Prod.ext hs (Prod.ext ht (Prod.ext h2 rfl)))
   rw[decide_eq_true this]
  ·have:a≠b:=λe=>by obtain⟨i,hi,hn⟩:=hb;subst e;exact hn rfl
   rw[decide_eq_false this]
 ·have:a≠b:=λe=>by obtain⟨i,hi,hn⟩:=hb;subst e;exact hn rfl
  rw[decide_eq_false this]
theorem oF(a b:DF)(ha:Fx a):aP tbl dS [.d (pr [.list tI,.list (.list tI),.list tB,tI]) a,.d (pr [.list tI,.list (.list tI),.list tB,tI]) b] [] bD (decide (a=b),()):=by
 refine aT rfl (aU z7 rfl (λO n=>An O n a b) ?_)
 unfold sw
 refine ar (sf _ _ ha.1) ?_
 refine ae (cg (λ_=>aa rfl) (ae (cg (λ_=>aa rfl) (ae (cg (λ_=>aa rfl) ?_)))))
 refine aN (λh=>aa ?_) λh=>?_
 ·simp only[Bool.or_eq_true,bne_iff_ne,Bool.not_eq_true',decide_eq_false_iff_not]at h
  have:a≠b:=λe=>by subst e;simp at h
  rw[decide_eq_false this]
 ·simp only[Bool.or_eq_false_iff,bne_eq_false_iff_eq,Bool.not_eq_false',decide_eq_true_eq]at h
  exact vD a b ha (by omega) (by omega) h.1.1.1 h.2
end Go.Proofs.Ytbpdbooalkkenaa
namespace Go.Proofs.Ytbpdbooalkkenaa
open Go Go.Av Go.Ev
def fX(xs:List Int)(v:Int)(c:Nat):Prop:=∃h:c<xs.length,xs[c]<=v/\∀j (_:j<xs.length),c<j->v<xs[j]
theorem B5{xs:List Int}{v:Int}{c c':Nat}(h:fX xs v c)(h':fX xs v c'):c=c':=by
 obtain⟨h1,h2,h3⟩:=h
 obtain⟨g1,g2,g3⟩:=h'
 rcases Nat.lt_trichotomy c c' with hl|he|hl
 ·have:=h3 c' g1 hl;omega
 ·exact he
 ·have:=g3 c h1 hl;omega
open Classical in
noncomputable def fb(xs:List Int)(v:Int):Nat:=if h:∃c,fX xs v c then Classical.choose h else 0
theorem nk{xs:List Int}{v:Int}{c:Nat}(h:fX xs v c):fb xs v=c:=by
 have hx:∃c,fX xs v c:=⟨c,h⟩
 unfold fb
 rw[dif_pos hx]
 exact B5 (Classical.choose_spec hx) h
theorem jl{xs:List Int}(hs:b9 xs):∀(j i:Nat) (h:j<xs.length) (hij:i<j),xs[i]<xs[j]
 |0,i,h,hij=>absurd hij (by omega)
 |j+1,i,h,hij=>by
  have h1:=hs.2.2.1 j h
  rcases Nat.lt_succ_iff_lt_or_eq.1 hij with hl|rfl
  ·have:=jl hs j i (by omega) hl;omega
  ·exact h1
theorem C9(xs:List Int)(v:Int)(hs:b9 xs)(hl:xs.length<=4611686018427387903)(hv:0<=v):∃c,fX xs v c/\aP tbl je [.d (.list tI) xs,.d tI v] [] ft ((c:Int),()):=by
 suffices h:Conv tbl je [.d (.list tI) xs,.d tI v] [] λo=>∃c:Nat,o=some (lO ft ((c:Int),()))/\fX xs v c by
  obtain⟨c,⟨k,hk,hc⟩,hh⟩:=jA (sh:=ft) (R:=λc=>∃k:Nat,c=((k:Int),())/\fX xs v k) (λ_=>rfl) (AL h λo ⟨k,ho,hk⟩=>⟨((k:Int),()),ho,k,rfl,hk⟩)
  subst hk
  exact⟨k,hc,hh⟩
 refine aU Fg rfl (λO n=>Fq O n xs v) ?_
 unfold vU
 refine ae (Go.Ev.wp_loop (σ:=Int×Int×Unit) (λs=>∃lo hi:Nat,s=((lo:Int),(hi:Int),())/\lo<hi/\hi<=xs.length/\(∀h:lo<xs.length,xs[lo]<=v)/\∀h:hi<xs.length,v<xs[hi]) (λs=>(s.2.1 - s.1).toNat) ⟨0,xs.length,rfl,hs.1,Nat.le_refl _,λh=>by rw[hs.2.1 h];exact hv,λh=>absurd h (by omega)⟩ ?_)
 rintro s ⟨lo,hi,rfl,h1,h2,h3,h4⟩
 unfold sH
 have hw:IntKind.wrap .i64 ((hi:Int) - (lo:Int))=(hi:Int) - lo:=wrap_i64 (by omega) (by omega)
 refine aN (λhb=>?_) λhb=>?_
 ·rw[hw]at hb
  have hb:(hi:Int) - lo>1:=by simpa using hb
  refine ap rfl ?_
  have hm:IntKind.wrap .i64 (Int.tdiv (IntKind.wrap .i64 ((lo:Int)+(hi:Int))) (2:Int))=(((lo+hi)/2:Nat):Int):=by
   rw[wrap_i64 (n:=(lo:Int)+hi) (by omega) (by omega),show(lo:Int)+hi=((lo+hi:Nat):Int) by omega,show Int.tdiv ((lo+hi:Nat):Int) 2=(((lo+hi)/2:Nat):Int)from rfl]
   exact wrap_i64 (by omega) (by omega)
  simp only[hm]
  have hlt:(lo+hi)/2<xs.length:=by omega
  refine au hlt (aN (λhc=>aa ?_) λhc=>aa ?_)
  ·have hc:xs[(lo+hi)/2]<=v:=by simpa using hc
   refine⟨⟨(lo+hi)/2,hi,rfl,by omega,h2,λ_=>hc,h4⟩,?_⟩
   show((hi:Int) - (((lo+hi)/2:Nat):Int)).toNat<((hi:Int) - lo).toNat
   omega
  ·have hc:v<xs[(lo+hi)/2]:=by simpa using hc
   refine⟨⟨lo,(lo+hi)/2,rfl,by omega,by omega,h3,λ_=>hc⟩,?_⟩
   show((((lo+hi)/2:Nat):Int) - lo).toNat<((hi:Int) - lo).toNat
   omega
 ·rw[hw]at hb
  have hb:¬(hi:Int) - lo>1:=by simpa using hb
  refine aa (aa ⟨lo,rfl,by omega,h3 (by omega),λj hj hlj=>?_⟩)
  have h5:=h4 (by omega)
  rcases Nat.lt_or_eq_of_le (show hi<=j by omega)with hl|rfl
  ·have:=jl hs j hi hj hl;omega
  ·exact h5
theorem y6(xs:List Int)(v:Int)(hs:b9 xs)(hl:xs.length<=4611686018427387903)(hv:0<=v):∃c,fX xs v c/\aP tbl kG [.d (.list tI) xs,.d tI v] [] ix ((c:Int),()):=by
 suffices h:Conv tbl kG [.d (.list tI) xs,.d tI v] [] λo=>∃c:Nat,o=some (lO ix ((c:Int),()))/\fX xs v c by
  obtain⟨c,⟨k,hk,hc⟩,hh⟩:=jA (sh:=ix) (R:=λc=>∃k:Nat,c=((k:Int),())/\fX xs v k) (λ_=>rfl) (AL h λo ⟨k,ho,hk⟩=>⟨((k:Int),()),ho,k,rfl,hk⟩)
  subst hk
  exact⟨k,hc,hh⟩
 refine aU z9 rfl (λO n=>Ap O n xs v) ?_
 unfold sy
 refine ae (aJ (N:=xs.length) (I:=λi s=>∃c:Nat,s=((c:Int),(i:Int),())/\(∀h:c<xs.length,xs[c]<=v)/\c<xs.length/\∀j (_:j<xs.length),c<j->j<i->v<xs[j]) ⟨0,rfl,λh=>by rw[hs.2.1 h];exact hv,hs.1,λj _ _ h=>absurd h (by omega)⟩ ?_ ?_)
 ·rintro i s hi ⟨c,rfl,h1,h2,h3⟩
  unfold l7
  refine bc hi (ae (au hi (aN (λhc=>aa (aa ?_)) λhc=>aa (aa ?_))))
  ·have hc:xs[i]<=v:=by simpa using hc
   refine⟨i,by rw[an hi (by omega)],λ_=>hc,hi,λj _ h4 h5=>absurd h5 (by omega)⟩
  ·have hc:v<xs[i]:=by simpa using hc
   refine⟨c,by rw[an hi (by omega)],h1,h2,λj hj h4 h5=>?_⟩
   rcases Nat.lt_succ_iff_lt_or_eq.1 h5 with h6|rfl
   ·exact h3 j hj h4 h6
   ·exact hc
 ·rintro s ⟨c,rfl,h1,h2,h3⟩
  unfold l7
  exact aQ (aa (aa ⟨c,rfl,h2,h1 h2,λj hj h4=>h3 j hj h4 hj⟩))
theorem BR(xs:List Int)(v:Int)(hs:b9 xs)(hl:xs.length<=4611686018427387903)(hv:0<=v):aP tbl je [.d (.list tI) xs,.d tI v] [] ft ((fb xs v:Int),()):=by
 obtain⟨c,hc,h⟩:=C9 xs v hs hl hv
 rw[nk hc];exact h
theorem JU{xs:List Int}{v:Int}(hs:b9 xs)(hl:xs.length<=4611686018427387903)(hv:0<=v):fX xs v (fb xs v):=by
 obtain⟨c,hc,_⟩:=y6 xs v hs hl hv
 rw[nk hc];exact hc
structure Good(d:DF):Prop where
 starts:b9 d.1
 small:¬Big d
 len:0<d.2.1.length/\d.2.2.1.length=d.2.1.length
 rows:∀r∈d.2.1,r.length=d.1.length
 start:0<=d.2.2.2.1/\d.2.2.2.1<(d.2.1.length:Int)
 to:∀r∈d.2.1,∀t∈r,0<=t/\t<(d.2.1.length:Int)
theorem good_iff{d:DF}:bL d=0↔Good d:=by
 constructor
 ·intro h
  unfold bL at h
  by_cases h1:Big d
  ·rw[if_pos h1]at h;cases h
  rw[if_neg h1]at h
  by_cases h2:b9 d.1
  case neg=>rw[if_pos h2]at h;cases h
  rw[if_neg (not_not_intro h2)]at h
  by_cases h3:d.2.1.length=0\/d.2.2.1.length≠d.2.1.length
  ·rw[if_pos h3]at h;cases h
  rw[if_neg h3]at h
  by_cases h4:∀r∈d.2.1,r.length=d.1.length
  case neg=>rw[if_pos h4]at h;cases h
  rw[if_neg (not_not_intro h4)]at h
  by_cases h5:d.2.2.2.1<0\/d.2.2.2.1>=(d.2.1.length:Int)
  ·rw[if_pos h5]at h;cases h
  rw[if_neg h5]at h
  by_cases h6:∀r∈d.2.1,∀t∈r,0<=t/\t<(d.2.1.length:Int)
  case neg=>rw[if_pos h6]at h;cases h
  exact⟨h2,h1,by omega,h4,by omega,h6⟩
 ·intro h
  have h3:¬(d.2.1.length=0\/d.2.2.1.length≠d.2.1.length):=by have:=h.len;omega
  have h5:¬(d.2.2.2.1<0\/d.2.2.2.1>=(d.2.1.length:Int)):=by have:=h.start;omega
  unfold bL
  rw[if_neg h.small,if_neg (not_not_intro h.starts),if_neg h3,if_neg (not_not_intro h.rows),if_neg h5,if_neg (not_not_intro h.to)]
noncomputable def bE(d:DF)(s:Int)(v:Int):Int:=(d.2.1.getD s.toNat []).getD (fb d.1 v) 0
noncomputable def mA(d:DF)(s:Int)(v:Int):Int⊕Bool:=bif decide (v<0)||decide (v>4294967295)then .inr false else .inl (bE d s v)
open Classical in
noncomputable def mo(d:DF)(path:List Int):Bool:=if Good d then(match ip (mA d) d.2.2.2.1 path with| .inl s=>d.2.2.1.getD s.toNat false| .inr b=>b)else false
theorem q9{d:DF}(h:Good d):d.2.1.length<=4096/\d.1.length<=2000/\d.2.2.1.length<=4096:=by
 have:=h.small
 unfold Big at this
 omega
theorem Fa{d:DF}(h:Good d){s v:Int}(h0:0<=s)(hs:s<(d.2.1.length:Int))(hv:0<=v):∃h1:s.toNat<d.2.1.length,∃h2:fb d.1 v<d.2.1[s.toNat].length,d.2.1[s.toNat][fb d.1 v]=bE d s v/\0<=bE d s v/\bE d s v<(d.2.1.length:Int):=by
 have h1:s.toNat<d.2.1.length:=by omega
 have hl:=q9 h
 obtain⟨hc,_⟩:=JU h.starts (by omega) hv
 have h2:fb d.1 v<d.2.1[s.toNat].length:=by rw[h.rows _ (List.getElem_mem h1)];exact hc
 have e:d.2.1[s.toNat][fb d.1 v]=bE d s v:=by
  unfold bE
  simp only[List.getD_eq_getElem?_getD,List.getElem?_eq_getElem h1,Option.getD_some,List.getElem?_eq_getElem h2]
 refine⟨h1,h2,e,?_⟩
 rw[<-e]
 exact h.to _ (List.getElem_mem h1) _ (List.getElem_mem h2)
theorem vQ(d:DF)(path:List Int)(hp:path.length<=9223372036854775807):aP tbl dn [.d (pr [.list tI,.list (.list tI),.list tB,tI]) d,.d (.list tI) path] [] cm (mo d path,()):=by
 refine aT rfl (aU Ff rfl (λO n=>Fp O n d path) ?_)
 unfold vT
 refine ar (qB d) (aN (λh=>aa ?_) λh=>?_)
 ·have:¬Good d:=λhg=>by rw[good_iff.2 hg]at h;simp at h
  rw[show mo d path=false from by unfold mo;rw[if_neg this]]
 have hg:Good d:=good_iff.1 (by simpa using h)
 have hl:=q9 hg
 refine ae (Lt (xs:=path) (f:=mA d) (s0:=d.2.2.2.1) (Inv:=λs=>0<=s/\s<(d.2.1.length:Int)) (enc:=λi s=>(s,(i:Int),())) (oE:=λs=>.inr (s,())) (oB:=λb=>.inl (b,())) hg.start (λi hi s hs=>?_) (λs hs=>?_) ?_)
 ·unfold oM
  refine bc hi (au hi (ae (cg (λ_=>aa rfl) (aN (λhb=>aa ?_) λhb=>?_))))
  ·unfold mA
   rw[hb];rfl
  ·have hv:0<=path[i]:=by
    simp only[Bool.or_eq_false_iff,decide_eq_false_iff_not]at hb
    omega
   obtain⟨h1,h2,h3,h4⟩:=Fa hg hs.1 hs.2 hv
   refine a8 hs.1 h1 (ar (BR d.1 path[i] hg.starts (by omega) hv) (au h2 (aa ?_)))
   unfold mA
   rw[hb]
   exact⟨h4,by rw[h3,an hi hp]⟩
 ·unfold oM
  exact aQ (aa rfl)
 ·have hQ:∀r,ip (mA d) d.2.2.2.1 path=r->(∀s,r= .inl s->0<=s/\s<(d.2.1.length:Int)):=by
   have:∀(l:List Int) (s0:Int),0<=s0/\s0<(d.2.1.length:Int)->∀s,ip (mA d) s0 l= .inl s->0<=s/\s<(d.2.1.length:Int):=by
    intro l
    induction l with
    |nil=>intro s0 h0 s e;cases e;exact h0
    |cons x l ih=>
     intro s0 h0 s e
     simp only[ip]at e
     split at e
     ·rename_i s' e'
      refine ih s' ?_ s e
      unfold mA at e'
      cases hb:decide (x<0)||decide (x>4294967295)
      ·rw[hb]at e'
       cases e'
       simp only[Bool.or_eq_false_iff,decide_eq_false_iff_not]at hb
       obtain⟨_,_,_,h4⟩:=Fa hg h0.1 h0.2 (show 0<=x by omega)
       exact h4
      ·rw[hb]at e';cases e'
     ·cases e
   exact λr e s h=>this path _ hg.start s (e.trans h)
  cases hr:ip (mA d) d.2.2.2.1 path with
  |inl s=>
   obtain⟨g1,g2⟩:=hQ _ rfl s hr
   have h3:s.toNat<d.2.2.1.length:=by have:=hg.len;omega
   refine a8 g1 h3 (aa ?_)
   rw[show mo d path=d.2.2.1[s.toNat]from by unfold mo;rw[if_pos hg,hr];simp only[List.getD_eq_getElem?_getD,List.getElem?_eq_getElem h3,Option.getD_some]]
  |inr b=>
   refine aa ?_
   rw[show mo d path=b from by unfold mo;rw[if_pos hg,hr]]
end Go.Proofs.Ytbpdbooalkkenaa
namespace Go.Pl
def Asc(l:List Int):Prop:=l.Pairwise (·<·)
theorem sZ:∀(l l':List Int),Asc l->Asc l'->(∀x,x∈l↔x∈l')->l=l'
 |[],[],_,_,_=>rfl
 |[],y::l',_,_,h=>by have:=(h y).2 (List.mem_cons_self ..);cases this
 |x::l,[],_,_,h=>by have:=(h x).1 (List.mem_cons_self ..);cases this
 |x::l,y::l',h1,h2,h=>by
  have a1:=List.pairwise_cons.1 h1
  have a2:=List.pairwise_cons.1 h2
  have hxy:x=y:=by
   have b1:=(h x).1 (List.mem_cons_self ..)
   have b2:=(h y).2 (List.mem_cons_self ..)
   rcases List.mem_cons.1 b1 with e|m1
   ·exact e
   rcases List.mem_cons.1 b2 with e|m2
   ·exact e.symm
   have:=a1.1 y m2
   have:=a2.1 x m1
   omega
  subst hxy
  rw[sZ l l' a1.2 a2.2 λz=>?_]
  constructor
  ·intro hz
   rcases List.mem_cons.1 ((h z).1 (List.mem_cons_of_mem _ hz))with rfl|hz'
   ·have:=a1.1 z hz;omega
   ·exact hz'
  ·intro hz
   rcases List.mem_cons.1 ((h z).2 (List.mem_cons_of_mem _ hz))with rfl|hz'
   ·have:=a2.1 z hz;omega
   ·exact hz'
theorem nh{l l':List Int}(h:Asc l)(h':Asc l')(hlt:∀x∈l,∀y∈l',x<y):Asc (l++l'):=List.pairwise_append.2 ⟨h,h',hlt⟩
theorem BX{l:List Int}(h:Asc l){i j:Nat}(hij:i<j)(hj:j<l.length):l[i]<l[j]:=List.pairwise_iff_getElem.1 h i j (by omega) hj hij
open Classical in
noncomputable def qO(l:List Int):List Int:=if h:∃c,Asc c/\∀x,x∈c↔x∈l then Classical.choose h else []
theorem rD{l c:List Int}(hc:Asc c)(hm:∀x,x∈c↔x∈l):qO l=c:=by
 have hx:∃c,Asc c/\∀x,x∈c↔x∈l:=⟨c,hc,hm⟩
 unfold qO
 rw[dif_pos hx]
 have hs:=Classical.choose_spec hx
 exact sZ _ _ hs.1 hc λx=>(hs.2 x).trans (hm x).symm
end Go.Pl
namespace Go.Proofs.Ytbpdbooalkkenaa
open Go Go.Av Go.Ev Go.Pl
theorem yD{xs:List Int}(h:b9 xs):Asc xs:=List.pairwise_iff_getElem.2 λi j _ hj hij=>jl h j i hj hij
theorem xT(x:Int)(l:List Int):(((x::l).length:Int)==(0:Int))=false:=by
 simp only[List.length_cons,beq_eq_false_iff_ne];omega
theorem BJ(x:Int)(l:List Int):((x::l).take ((x::l).length)).drop (Int.toNat (1:Int))=l:=by simp
theorem vR(a b:List Int)(ha:Asc a)(hb:Asc b)(hla:a.length<=1000000000)(hlb:b.length<=1000000000):aP tbl lz [.d (.list tI) a,.d (.list tI) b] [] jk (qO (a++b),()):=by
 refine aT rfl (aU Fh rfl (λO n=>Fs O n a b) ?_)
 unfold vV
 refine ae (Go.Ev.wp_loop (σ:=List Int×List Int×List Int×Unit) (λs=>Asc s.1/\Asc s.2.1/\Asc s.2.2.1/\(∀x∈s.2.2.1,(∀y∈s.1,x<y)/\∀y∈s.2.1,x<y)/\(∀x,(x∈s.2.2.1\/x∈s.1\/x∈s.2.1)↔x∈a++b)/\s.2.2.1.length+s.1.length+s.2.1.length<=2000000000)
  (λs=>s.1.length+s.2.1.length) ⟨ha,hb,by simp[Asc],by simp,by simp,by simp;omega⟩ ?_)
 rintro⟨xs,ys,out,_⟩ ⟨h1,h2,h3,h4,h5,h6⟩
 simp only at h1 h2 h3 h4 h5 h6
 have snoc:∀v:Int,(∀x∈out,x<v)->Asc (out++[v]):=λv hv=>nh h3 (by simp[Asc]) λx hx y hy=>by simp at hy;subst hy;exact hv x hx
 unfold sI
 simp only
 refine ae (cg (λ_=>aa rfl) (aN (λhne=>?_) λhe=>?_))
 ·match xs,ys with
  |[],[]=>simp at hne
  |[],y::ys=>
   have hy:(∀z∈ys,y<z)/\Asc ys:=List.pairwise_cons.1 h2
   refine ae (cg (b:=false) (λ_=>ae (eb (b:=false) (λh=>absurd h (by simp)) (aa rfl))) (aN (λh=>(by rw[xT]at h;cases h)) λ_=>?_))
   refine ae (cg (b:=true) (λh=>absurd h (by simp)) (aN (λ_=>?_) λh=>absurd h (by simp)))
   refine gF (x:=y) (by simp) rfl (ap (decide_eq_true (by simp at h6⊢;omega)) (ap rfl (ap (by simp) (aa ?_))))
   refine⟨⟨h1,(by simpa only[BJ]using hy.2),snoc y λx hx=>(h4 x hx).2 y (by simp),λx hx=>⟨by simp,λz hz=>?_⟩,λx=>?_,by simp at h6⊢;omega⟩,by simp⟩
   ·simp at hz
    rcases List.mem_append.1 hx with hx|hx
    ·exact(h4 x hx).2 z (by simp[hz])
    ·simp at hx;subst hx;exact hy.1 z hz
   ·rw[<-h5 x];simp;grind
  |x::xs,[]=>
   have hx:(∀z∈xs,x<z)/\Asc xs:=List.pairwise_cons.1 h1
   refine ae (cg (b:=true) (λh=>absurd h (by simp)) (aN (λ_=>?_) λh=>absurd h (by simp)))
   refine gF (x:=x) (by simp) rfl (ap (decide_eq_true (by simp at h6⊢;omega)) (ap rfl (ap (by simp) (aa ?_))))
   refine⟨⟨(by simpa only[BJ]using hx.2),h2,snoc x λz hz=>(h4 z hz).1 x (by simp),λw hw=>⟨λz hz=>?_,by simp⟩,λw=>?_,by simp at h6⊢;omega⟩,by simp⟩
   ·simp at hz
    rcases List.mem_append.1 hw with hw|hw
    ·exact(h4 w hw).1 z (by simp[hz])
    ·simp at hw;subst hw;exact hx.1 z hz
   ·rw[<-h5 w];simp;grind
  |x::xs,y::ys=>
   have hx:(∀z∈xs,x<z)/\Asc xs:=List.pairwise_cons.1 h1
   have hy:(∀z∈ys,y<z)/\Asc ys:=List.pairwise_cons.1 h2
   refine ae (cg (b:=decide (x<y)) (λ_=>ae (eb (b:=decide (x<y)) (λ_=>gF (x:=x) (by simp) rfl (gF (x:=y) (by simp) rfl (aa rfl))) (aa (by simp)))) (aN (λh=>?_) λh=>?_))
   ·have hlt:x<y:=by rw[xT]at h;simpa using h
    refine gF (x:=x) (by simp) rfl (ap (decide_eq_true (by simp at h6⊢;omega)) (ap rfl (ap (by simp) (aa ?_))))
    refine⟨⟨(by simpa only[BJ]using hx.2),h2,snoc x λz hz=>(h4 z hz).1 x (by simp),λw hw=>⟨λz hz=>?_,λz hz=>?_⟩,λw=>?_,by simp at h6⊢;omega⟩,by simp⟩
    ·simp at hz
     rcases List.mem_append.1 hw with hw|hw
     ·exact(h4 w hw).1 z (by simp[hz])
     ·simp at hw;subst hw;exact hx.1 z hz
    ·rcases List.mem_append.1 hw with hw|hw
     ·exact(h4 w hw).2 z hz
     ·simp at hw;subst hw
      rcases List.mem_cons.1 hz with rfl|hz
      ·exact hlt
      ·have:=hy.1 z hz;omega
    ·rw[<-h5 w];simp;grind
   ·have hge:¬x<y:=by rw[xT]at h;simpa using h
    refine ae (cg (b:=decide (y<x)) (λ_=>gF (x:=y) (by simp) rfl (gF (x:=x) (by simp) rfl (aa rfl))) (aN (λh=>?_) λh=>?_))
    ·have hlt:y<x:=by rw[xT]at h;simpa using h
     refine gF (x:=y) (by simp) rfl (ap (decide_eq_true (by simp at h6⊢;omega)) (ap rfl (ap (by simp) (aa ?_))))
     refine⟨⟨h1,(by simpa only[BJ]using hy.2),snoc y λz hz=>(h4 z hz).2 y (by simp),λw hw=>⟨λz hz=>?_,λz hz=>?_⟩,λw=>?_,by simp at h6⊢;omega⟩,by simp⟩
     ·rcases List.mem_append.1 hw with hw|hw
      ·exact(h4 w hw).1 z hz
      ·simp at hw;subst hw
       rcases List.mem_cons.1 hz with rfl|hz
       ·exact hlt
       ·have:=hx.1 z hz;omega
     ·simp at hz
      rcases List.mem_append.1 hw with hw|hw
      ·exact(h4 w hw).2 z (by simp[hz])
      ·simp at hw;subst hw;exact hy.1 z hz
     ·rw[<-h5 w];simp;grind
    ·have hnl:¬y<x:=by rw[xT]at h;simpa using h
     have hxy:x=y:=by omega
     subst hxy
     refine gF (x:=x) (by simp) rfl (ap (decide_eq_true (by simp at h6⊢;omega)) (ap rfl (ap (by simp) (ap rfl (ap (by simp) (aa ?_))))))
     refine⟨⟨(by simpa only[BJ]using hx.2),(by simpa only[BJ]using hy.2),snoc x λz hz=>(h4 z hz).1 x (by simp),λw hw=>⟨λz hz=>?_,λz hz=>?_⟩,λw=>?_,by simp at h6⊢;omega⟩,by simp;omega⟩
     ·simp at hz
      rcases List.mem_append.1 hw with hw|hw
      ·exact(h4 w hw).1 z (by simp[hz])
      ·simp at hw;subst hw;exact hx.1 z hz
     ·simp at hz
      rcases List.mem_append.1 hw with hw|hw
      ·exact(h4 w hw).2 z (by simp[hz])
      ·simp at hw;subst hw;exact hy.1 z hz
     ·rw[<-h5 w];simp;grind
 ·have he1:xs=[]:=by cases xs with|nil=>rfl|cons _ _=>simp at he
  have he2:ys=[]:=by cases ys with|nil=>rfl|cons _ _=>simp at he
  subst he1 he2
  refine aa (aa ?_)
  rw[rD h3 λx=>by simpa using h5 x]
theorem w9(l:List Int)(hl:l.length<=1000000000):aP tbl jv [.d (.list tI) l] [] gz (qO l,()):=by
 refine aT rfl (aU yK rfl (λO n=>yV O n l) ?_)
 unfold qJ
 refine ae (aJ (N:=l.length) (I:=λi s=>∃out:List Int,s=((i:Int),out,())/\Asc out/\out.length<=i/\∀x,x∈out↔x∈l.take i) ⟨[],rfl,by simp[Asc],by simp,by simp⟩ ?_ ?_)
 ·rintro i s hi ⟨out,rfl,h1,h2,h3⟩
  unfold ka
  have hmem:∀c:List Int,(∀x,x∈c↔x=l[i]\/x∈out)->∀x,x∈c↔x∈l.take (i+1):=λc hc x=>by
   rw[hc x,h3 x,List.take_add_one,List.getElem?_eq_getElem hi,List.mem_append,Option.toList_some,List.mem_singleton]
   exact Or.comm
  refine bc hi (ae (au hi ?_))
  generalize hv:l[i]=v at hmem
  refine ae (Go.Ev.wp_loop (σ:=Int×List Int×Unit) (λs=>∃k:Nat,s=((k:Int),out,())/\k<=out.length/\∀j (hj:j<out.length),j<k->out[j]<v) (λs=>out.length - s.1.toNat) ⟨0,rfl,by omega,λj _ h=>absurd h (by omega)⟩ ?_)
  rintro s ⟨k,rfl,g1,g2⟩
  unfold pe
  refine ae (eb (b:=decide (∃h:k<out.length,out[k]<v)) (λh=>?_) (aN (λh=>aa ?_) λh=>aa ?_))
  ·have hk:k<out.length:=by simpa using h
   refine au hk (aW (x:=out[k]) (by simp) (aa ?_))
   exact decide_eq_decide.2 ⟨λh=>⟨hk,h⟩,fun⟨_,h⟩=>h⟩
  ·simp only[Bool.and_eq_true,decide_eq_true_eq]at h
   obtain⟨hk,hlt⟩:=h.2
   refine⟨⟨k+1,by rw[an hk (by omega)],by omega,λj hj hjk=>?_⟩,?_⟩
   ·rcases Nat.lt_succ_iff_lt_or_eq.1 hjk with h|rfl
    ·exact g2 j hj h
    ·exact hlt
   ·rw[an hk (by omega)]
    simp only[Int.toNat_natCast]
    omega
  ·have hge:∀h:k<out.length,v<=out[k]:=λhk=>by
    simp only[Bool.and_eq_false_iff,decide_eq_false_iff_not,not_exists]at h
    rcases h with h|h
    ·omega
    ·have:=h hk;omega
   have hbefore:∀x∈out.take k,x<v:=λx hx=>by
    obtain⟨j,hj,rfl⟩:=List.mem_iff_getElem.1 hx
    rw[List.getElem_take]
    exact g2 j (by simp at hj;omega) (by simp at hj;omega)
   refine ae (eb (b:=decide (∃h:k<out.length,out[k]=v)) (λh=>?_) (aN (λh=>aa ?_) λh=>?_))
   ·have hk:k<out.length:=by simpa using h
    refine au hk (aW (x:=out[k]) (by simp) (aa ?_))
    rw[show(out[k]==v)=decide (out[k]=v)from rfl]
    exact decide_eq_decide.2 ⟨λh=>⟨hk,h⟩,fun⟨_,h⟩=>h⟩
   ·simp only[Bool.and_eq_true,decide_eq_true_eq]at h
    obtain⟨hk,he⟩:=h.2
    refine aa ⟨out,by rw[an hi (by omega)],h1,by omega,hmem out λx=>⟨.inr,λh=>h.elim (λe=>by subst e;rw[<-he];exact List.getElem_mem hk) id⟩⟩
   ·have hgt:∀h:k<out.length,v<out[k]:=λhk=>by
     have h4:=hge hk
     simp only[Bool.and_eq_false_iff,decide_eq_false_iff_not,not_exists]at h
     rcases h with h|h
     ·omega
     ·have:=h hk;omega
    have hafter:∀x∈out.drop k,v<x:=λx hx=>by
     obtain⟨j,hj,rfl⟩:=List.mem_iff_getElem.1 hx
     rw[List.getElem_drop]
     simp at hj
     have hk:k<out.length:=by omega
     have h5:=hgt hk
     rcases Nat.eq_zero_or_pos j with rfl|hj0
     ·simpa using h5
     ·have:=BX h1 (i:=k) (j:=k+j) (by omega) (by omega);omega
    refine ap (decide_eq_true (by simp;omega)) ?_
    simp only
    have hw:IntKind.wrap .i64 ((((out++[(0:Int)]).length:Int)) - (1:Int))=(out.length:Int):=by
     rw[wrap_i64 (by simp only[List.length_append,List.length_singleton];omega) (by simp only[List.length_append,List.length_singleton];omega)];simp
    rw[hw]
    refine ae (Go.Ev.wp_loop (σ:=Int×List Int×Unit) (λs=>∃m y,s=(((m:Nat):Int),out.take m++[y]++out.drop m,())/\k<=m/\m<=out.length) (λs=>s.1.toNat) ⟨out.length,0,by simp,g1,Nat.le_refl _⟩ ?_)
    rintro s ⟨m,y,rfl,m1,m2⟩
    unfold pf
    refine aN (λh=>?_) λh=>?_
    ·have hkm:k<m:=by simp at h;omega
     have hlen:(out.take m++[y]++out.drop m).length=out.length+1:=by simp;omega
     simp only
     rw[pF (by omega) (by omega)]
     refine au (by omega) (aW (x:=out[m - 1]) ?_ (au (by omega) (aW (x:=y) ?_ (aa ?_))))
     ·simp only[Int.toNat_natCast]
      rw[List.append_assoc,List.getElem?_append_left (by simp;omega),List.getElem?_take_of_lt (by omega),List.getElem?_eq_getElem]
     ·simp only[Int.toNat_natCast]
      rw[List.append_assoc,List.getElem?_append_right (by simp;omega)]
      simp[Nat.min_eq_left m2]
     ·refine⟨⟨m - 1,out[m - 1],?_,by omega,by omega⟩,by simp only[Int.toNat_natCast];omega⟩
      congr 2
      simp only[Int.toNat_natCast]
      have e1:(out.take m++[y]++out.drop m).set m out[m - 1]=out.take m++[out[m - 1]]++out.drop m:=by
       rw[List.append_assoc,List.set_append_right _ _ (by simp;omega)]
       simp[Nat.min_eq_left m2]
      rw[e1]
      have e2:out.take m=out.take (m - 1)++[out[m - 1]]:=by
       have:=List.take_add_one (l:=out) (i:=m - 1)
       rw[show m - 1+1=m by omega,List.getElem?_eq_getElem (show m - 1<out.length by omega)]at this
       exact this
      have e3:out.drop (m - 1)=out[m - 1]::out.drop m:=by
       have:=List.drop_eq_getElem_cons (l:=out) (i:=m - 1) (by omega)
       rw[show m - 1+1=m by omega]at this
       exact this
      rw[e3]
      conv=>lhs;rw[e2]
      simp
    ·have hkm:k=m:=by simp at h;omega
     subst hkm
     have hlen:(out.take k++[y]++out.drop k).length=out.length+1:=by simp;omega
     refine aa (au (by show k<(out.take k++[y]++out.drop k).length;omega) (aW (x:=y) ?_ (aa (aa ?_))))
     ·simp only[Int.toNat_natCast]
      rw[List.append_assoc,List.getElem?_append_right (by simp;omega)]
      simp[Nat.min_eq_left m2]
     ·have e1:(out.take k++[y]++out.drop k).set k v=out.take k++([v]++out.drop k):=by
       rw[List.append_assoc,List.set_append_right _ _ (by simp;omega)]
       simp[Nat.min_eq_left m2]
      simp only[Int.toNat_natCast]
      rw[e1]
      refine⟨_,by rw[an hi (by omega)],?_,by simp;omega,hmem _ λx=>?_⟩
      ·refine nh (List.Pairwise.sublist (List.take_sublist ..) h1) (nh (by simp[Asc]) (List.Pairwise.sublist (List.drop_sublist ..) h1) λx hx z hz=>?_) λx hx z hz=>?_
       ·simp at hx;subst hx;exact hafter z hz
       ·have h5:=hbefore x hx
        rcases List.mem_append.1 hz with hz|hz
        ·simp at hz;subst hz;exact h5
        ·have:=hafter z hz;omega
      ·have:x∈out↔x∈out.take k\/x∈out.drop k:=by rw[<-List.mem_append,List.take_append_drop]
       rw[this];simp;grind
 ·rintro s ⟨out,rfl,h1,h2,h3⟩
  unfold ka
  refine aQ (aa (aa ?_))
  rw[rD h1 λx=>by rw[h3 x,List.take_length]]
end Go.Proofs.Ytbpdbooalkkenaa
namespace Go.Pl
section
variable {α β σ τ:Type}
def iq(f:σ->β->σ⊕τ):σ->List β->σ⊕τ
 |s,[]=>.inl s
 |s,x::xs=>match f s x with
  | .inl s'=>iq f s' xs
  | .inr b=>.inr b
theorem gM [DecidableEq α]:∀(l u:List α),l.Nodup->(∀x∈l,x∈u)->l.length<=u.length
 |[],_,_,_=>Nat.zero_le _
 |x::l,u,hn,hs=>by
  have hx:=hs x (List.mem_cons_self ..)
  have hn':=List.nodup_cons.1 hn
  have h:=gM l (u.erase x) hn'.2 λy hy=>by
   refine(List.mem_erase_of_ne ?_).2 (hs y (List.mem_cons_of_mem _ hy))
   rintro rfl
   exact hn'.1 hy
  have:=List.length_erase_of_mem hx
  have:=List.length_pos_of_mem hx
  simp only[List.length_cons]
  omega
theorem ED{L L':List τ}(h:L<+:L'){i:Nat}{x:τ}(hx:L[i]? =some x):L'[i]? =some x:=by
 obtain⟨t,rfl⟩:=h
 rw[List.getElem?_append_left (List.getElem?_eq_some_iff.1 hx).1];exact hx
section
variable {f:α->β->α} {s0:α} {ls:List β}
theorem ux{L L':List α}(h:L<+:L'){i:Nat}{x:α}(hx:L[i]? =some x):L'[i]? =some x:=by
 obtain⟨t,rfl⟩:=h
 rw[List.getElem?_append_left (List.getElem?_eq_some_iff.1 hx).1];exact hx
structure Ok(f:α->β->α)(s0:α)(ls:List β)(L:List α)(T:List (Nat×β)):Prop where
 nodup:L.Nodup
 len:L.length=T.length+1
 head:L[0]? =some s0
 link:∀k j c,T[k]? =some (j,c)->j<k+1/\c∈ls/\∃x,L[j]? =some x/\L[k+1]? =some (f x c)
theorem Ok.add{L:List α}{T:List (Nat×β)}(h:Ok f s0 ls L T){x:α}{i:Nat}{c:β}(hx:L[i]? =some x)(hc:c∈ls)(hn:f x c∉L):Ok f s0 ls (L++[f x c]) (T++[(i,c)]):=by
 have hi:i<L.length:=(List.getElem?_eq_some_iff.1 hx).1
 have hl:=h.len
 refine⟨?_,by simp[hl],?_,λk j c' hk=>?_⟩
 ·rw[List.nodup_append]
  exact⟨h.nodup,by simp,λa ha b hb=>by simp at hb;subst hb;rintro rfl;exact hn ha⟩
 ·rw[List.getElem?_append_left (by omega)];exact h.head
 ·by_cases hk2:k<T.length
  ·rw[List.getElem?_append_left hk2]at hk
   obtain⟨h1,h2,y,h3,h4⟩:=h.link k j c' hk
   exact⟨h1,h2,y,by rw[List.getElem?_append_left (by omega)];exact h3,by rw[List.getElem?_append_left (by omega)];exact h4⟩
  ·rw[List.getElem?_append_right (by omega)]at hk
   have hk3:k=T.length:=by
    have:=(List.getElem?_eq_some_iff.1 hk).1
    simp at this;omega
   subst hk3
   simp at hk
   obtain⟨rfl,rfl⟩:=hk
   refine⟨by omega,hc,x,by rw[List.getElem?_append_left hi];exact hx,?_⟩
   rw[show T.length+1=L.length by omega]
   simp
theorem Ok.inv{P:α->Prop}{L:List α}{T:List (Nat×β)}(h:Ok f s0 ls L T)(h0:P s0)(hP:∀x c,c∈ls->P x->P (f x c)):∀(k:Nat) (x:α),L[k]? =some x->P x:=by
 intro k
 induction k using Nat.strongRecOn with
 |ind k ih=>
  intro x hx
  match k with
  |0=>rw[h.head]at hx;cases hx;exact h0
  |k+1=>
   have hk:=(List.getElem?_eq_some_iff.1 hx).1
   have hT:=List.getElem?_eq_getElem (l:=T) (i:=k) (by have:=h.len;omega)
   obtain⟨h1,h2,y,h3,h4⟩:=h.link k _ _ hT
   rw[h4]at hx
   cases hx
   exact hP _ _ h2 (ih _ h1 y h3)
def Quiet(sp:List α->α->Bool)(L:List α):Prop:=∀k x,L[k+1]? =some x->sp (L.take (k+1)) x=false
theorem Quiet.add{sp:List α->α->Bool}{L:List α}{y:α}(h:Quiet sp L)(hs:sp L y=false):Quiet sp (L++[y]):=by
 intro k x hx
 by_cases hk:k+1<L.length
 ·rw[List.getElem?_append_left hk]at hx
  rw[List.take_append_of_le_length (by omega)]
  exact h k x hx
 ·have hk2:=(List.getElem?_eq_some_iff.1 hx).1
  simp at hk2
  have:k+1=L.length:=by omega
  rw[this]at hx⊢
  simp at hx
  subst hx
  simpa using hs
theorem Ok.pre{L L':List α}{T T':List (Nat×β)}(h:Ok f s0 ls L T)(hL:L'<+:L)(hT:T'<+:T)(hl:L'.length=T'.length+1):Ok f s0 ls L' T':=by
 have hget:∀k,k<L'.length->L'[k]? =L[k]? :=λk hk=>by
  obtain⟨t,rfl⟩:=hL
  rw[List.getElem?_append_left hk]
 refine⟨h.nodup.sublist hL.sublist,hl,by rw[hget 0 (by omega)];exact h.head,λk j c hk=>?_⟩
 have hk':=(List.getElem?_eq_some_iff.1 hk).1
 obtain⟨h1,h2,x,h3,h4⟩:=h.link k j c (ED hT hk)
 exact⟨h1,h2,x,by rw[hget j (by omega)];exact h3,by rw[hget (k+1) (by omega)];exact h4⟩
inductive Tr(T:List (Nat×β)):Nat->List β->Prop
 |zero:Tr T 0 []
 |step {k j:Nat} {c:β} {p:List β}:T[k]? =some (j,c)->Tr T j p->Tr T (k+1) (p++[c])
theorem Tr.mono{T T':List (Nat×β)}(hp:T<+:T'){k:Nat}{p:List β}(h:Tr T k p):Tr T' k p:=by
 induction h with
 |zero=>exact .zero
 |step h1 _ ih=>exact .step (ED hp h1) ih
theorem Tr.reaches{L:List α}{T:List (Nat×β)}(h:Ok f s0 ls L T){k:Nat}{p:List β}(ht:Tr T k p):L[k]? =some (p.foldl f s0)/\∀c∈p,c∈ls:=by
 induction ht with
 |zero=>exact⟨h.head,by simp⟩
 |step h1 _ ih=>
  obtain⟨_,h2,x,h3,h4⟩:=h.link _ _ _ h1
  rw[ih.1]at h3
  cases h3
  refine⟨by rw[h4,List.foldl_append];rfl,λc hc=>?_⟩
  rcases List.mem_append.1 hc with hc|hc
  ·exact ih.2 c hc
  ·simp at hc;subst hc;exact h2
theorem Ok.tr{L:List α}{T:List (Nat×β)}(h:Ok f s0 ls L T):∀k,k<L.length->∃p,Tr T k p:=by
 intro k
 induction k using Nat.strongRecOn with
 |ind k ih=>
  intro hk
  match k with
  |0=>exact⟨[],.zero⟩
  |k+1=>
   have hT:=List.getElem?_eq_getElem (l:=T) (i:=k) (by have:=h.len;omega)
   obtain⟨h1,_⟩:=h.link k _ _ hT
   obtain⟨p,hp⟩:=ih _ h1 (by omega)
   exact⟨_,.step hT hp⟩
theorem Tr.len{L:List α}{T:List (Nat×β)}(h:Ok f s0 ls L T){k:Nat}{p:List β}(ht:Tr T k p):p.length<=k:=by
 induction ht with
 |zero=>exact Nat.le_refl _
 |step h1 _ ih=>
  have:=(h.link _ _ _ h1).1
  simp only[List.length_append,List.length_singleton]
  omega
end
variable [DecidableEq α]
abbrev pos(L:List α)(x:α):Nat:=L.idxOf x
theorem yf{x y:α}{L:List α}(h:x≠y):pos (x::L) y=pos L y+1:=by
 unfold pos
 rw[List.idxOf_cons,show(x==y)=false from by simpa using h];rfl
theorem pos_eq{x:α}{L:List α}:pos (x::L) x=0:=by
 unfold pos
 rw[List.idxOf_cons];simp
def a6(f:α->β->α)(x:α)(i:Nat)(st:List α×List (Nat×β)×List Nat)(c:β):List α×List (Nat×β)×List Nat:=
 if f x c∈st.1 then(st.1,st.2.1,st.2.2++[st.1.idxOf (f x c)])else(st.1++[f x c],st.2.1++[(i,c)],st.2.2++[st.1.length])
def kj(sp:List α->α->Bool)(f:α->β->α)(x:α)(i:Nat)(st:List α×List (Nat×β)×List Nat)(c:β):(List α×List (Nat×β)×List Nat)⊕(List α×List (Nat×β)):=
 if f x c∈st.1 then .inl (st.1,st.2.1,st.2.2++[st.1.idxOf (f x c)])
 else if sp st.1 (f x c)then .inr (st.1++[f x c],st.2.1++[(i,c)])else .inl (st.1++[f x c],st.2.1++[(i,c)],st.2.2++[st.1.length])
theorem EQ{sp:List α->α->Bool}{f:α->β->α}{x:α}{i:Nat}{c:β}{L:List α}{T:List (Nat×β)}{r:List Nat}{y:α}(hy:f x c=y)(h:y∈L):kj sp f x i (L,T,r) c= .inl (L,T,r++[L.idxOf y]):=by
 subst hy;simp only[kj,if_pos h]
theorem By{sp:List α->α->Bool}{f:α->β->α}{x:α}{i:Nat}{c:β}{L:List α}{T:List (Nat×β)}{r:List Nat}{y:α}(hy:f x c=y)(h:y∉L)(hs:sp L y=true):kj sp f x i (L,T,r) c= .inr (L++[y],T++[(i,c)]):=by
 subst hy;simp only[kj,if_neg h,if_pos hs]
theorem ER{sp:List α->α->Bool}{f:α->β->α}{x:α}{i:Nat}{c:β}{L:List α}{T:List (Nat×β)}{r:List Nat}{y:α}(hy:f x c=y)(h:y∉L)(hs:sp L y=false):kj sp f x i (L,T,r) c= .inl (L++[y],T++[(i,c)],r++[L.length]):=by
 subst hy;simp only[kj,if_neg h,hs,Bool.false_eq_true,if_false]
variable (f:α->β->α) (s0:α) (ls:List β)
def bk:Nat->List α×List (Nat×β)×List (List Nat)
 |0=>([s0],[],[])
 |i+1=>match(bk i).1[i]? with
  |none=>bk i
  |some x=>let r:=ls.foldl (a6 f x i) ((bk i).1,(bk i).2.1,[])
   (r.1,r.2.1,(bk i).2.2++[r.2.2])
def gf(sp:List α->α->Bool):Nat->(List α×List (Nat×β)×List (List Nat))⊕(List α×List (Nat×β)×List (List Nat))
 |0=>.inl ([s0],[],[])
 |i+1=>match gf sp i with
  | .inr r=>.inr r
  | .inl S=>match S.1[i]? with
   |none=>.inl S
   |some x=>match iq (kj sp f x i) (S.1,S.2.1,[]) ls with
    | .inl r=>.inl (r.1,r.2.1,S.2.2++[r.2.2])
    | .inr r=>.inr (r.1,r.2,S.2.2)
variable {f s0 ls}
theorem ow(x:α)(i:Nat)(st:List α×List (Nat×β)×List Nat)(c:β):st.1<+:(a6 f x i st c).1/\st.2.1<+:(a6 f x i st c).2.1:=by
 unfold a6
 split
 ·exact⟨List.prefix_refl _,List.prefix_refl _⟩
 ·exact⟨List.prefix_append _ _,List.prefix_append _ _⟩
theorem ug(x:α)(i:Nat):∀(l:List β) (st:List α×List (Nat×β)×List Nat),st.1<+:(l.foldl (a6 f x i) st).1/\st.2.1<+:(l.foldl (a6 f x i) st).2.1
 |[],st=>⟨List.prefix_refl _,List.prefix_refl _⟩
 |c::l,st=>by
  have h1:=ow (f:=f) x i st c
  have h2:=ug x i l (a6 f x i st c)
  exact⟨h1.1.trans h2.1,h1.2.trans h2.2⟩
theorem vh{L L':List α}(h:L<+:L'){x:α}(hx:x∈L):L'.idxOf x=L.idxOf x:=by
 obtain⟨t,rfl⟩:=h
 rw[List.idxOf_append,if_pos hx]
theorem wO{x:α}{i:Nat}:∀(l:List β) (st:List α×List (Nat×β)×List Nat),Ok f s0 ls st.1 st.2.1->st.1[i]? =some x->(∀c∈l,c∈ls)->
 Ok f s0 ls (l.foldl (a6 f x i) st).1 (l.foldl (a6 f x i) st).2.1/\(∀c∈l,f x c∈(l.foldl (a6 f x i) st).1)/\
 (l.foldl (a6 f x i) st).2.2=st.2.2++l.map λc=>(l.foldl (a6 f x i) st).1.idxOf (f x c)
 |[],st,h,_,_=>⟨h,by simp,by simp⟩
 |c::l,st,h,hx,hc=>by
  have hst:Ok f s0 ls (a6 f x i st c).1 (a6 f x i st c).2.1/\f x c∈(a6 f x i st c).1/\(a6 f x i st c).2.2=st.2.2++[(a6 f x i st c).1.idxOf (f x c)]:=by
   unfold a6
   split
   ·exact⟨h,by assumption,rfl⟩
   ·rename_i hn
    refine⟨h.add hx (hc c (List.mem_cons_self ..)) hn,by simp,?_⟩
    simp[List.idxOf_append,hn]
  obtain⟨h1,h2,h3⟩:=wO l (a6 f x i st c) hst.1 (ux (ow x i st c).1 hx) λc' hc'=>hc c' (List.mem_cons_of_mem _ hc')
  have hp:=(ug (f:=f) x i l (a6 f x i st c)).1
  refine⟨h1,λc' hc'=>?_,?_⟩
  ·rcases List.mem_cons.1 hc' with rfl|hc'
   ·exact hp.subset hst.2.1
   ·exact h2 c' hc'
  ·rw[List.foldl_cons,h3,hst.2.2,<-vh hp hst.2.1]
   simp
theorem bG{i:Nat}{x:α}(hx:(bk f s0 ls i).1[i]? =some x):bk f s0 ls (i+1)=((ls.foldl (a6 f x i) ((bk f s0 ls i).1,(bk f s0 ls i).2.1,[])).1,(ls.foldl (a6 f x i) ((bk f s0 ls i).1,(bk f s0 ls i).2.1,[])).2.1,(bk f s0 ls i).2.2++[(ls.foldl (a6 f x i) ((bk f s0 ls i).1,(bk f s0 ls i).2.1,[])).2.2]):=by
 simp only[bk,hx]
theorem cp{i:Nat}(hx:(bk f s0 ls i).1[i]? =none):bk f s0 ls (i+1)=bk f s0 ls i:=by
 simp only[bk,hx]
theorem cI:∀i,Ok f s0 ls (bk f s0 ls i).1 (bk f s0 ls i).2.1
 |0=>⟨by simp[bk],rfl,rfl,by simp[bk]⟩
 |i+1=>by
  cases hx:(bk f s0 ls i).1[i]? with
  |none=>rw[cp hx];exact cI i
  |some x=>
   rw[bG hx]
   exact(wO ls ((bk f s0 ls i).1,(bk f s0 ls i).2.1,[]) (cI i) hx λ_ h=>h).1
theorem fI(i:Nat):(bk f s0 ls i).1<+:(bk f s0 ls (i+1)).1/\(bk f s0 ls i).2.1<+:(bk f s0 ls (i+1)).2.1:=by
 cases hx:(bk f s0 ls i).1[i]? with
 |none=>rw[cp hx];exact⟨List.prefix_refl _,List.prefix_refl _⟩
 |some x=>
  rw[bG hx]
  exact ug x i ls ((bk f s0 ls i).1,(bk f s0 ls i).2.1,[])
theorem DW{i j:Nat}(h:i<=j):(bk f s0 ls i).1<+:(bk f s0 ls j).1/\(bk f s0 ls i).2.1<+:(bk f s0 ls j).2.1:=by
 induction h with
 |refl=>exact⟨List.prefix_refl _,List.prefix_refl _⟩
 |step _ ih=>exact⟨ih.1.trans (fI _).1,ih.2.trans (fI _).2⟩
theorem q6{i j:Nat}(h:i<=j)(hf:(bk f s0 ls i).1.length<=i):bk f s0 ls j=bk f s0 ls i:=by
 induction h with
 |refl=>rfl
 | @step m h ih=>
  have h:i<=m:=h
  rw[cp (by rw[ih];exact List.getElem?_eq_none (by omega)),ih]
theorem rN:∀i,∀j≥i,(bk f s0 ls i).2.2=((bk f s0 ls i).1.take i).map λx=>ls.map λc=>(bk f s0 ls j).1.idxOf (f x c)
 |0,j,_=>by simp[bk]
 |i+1,j,hj=>by
  cases hx:(bk f s0 ls i).1[i]? with
  |none=>
   have hle:=List.getElem?_eq_none_iff.1 hx
   rw[cp hx,rN i j (by omega),List.take_of_length_le hle,List.take_of_length_le (by omega)]
  |some x=>
   have hi:=(List.getElem?_eq_some_iff.1 hx).1
   have hk:=wO ls ((bk f s0 ls i).1,(bk f s0 ls i).2.1,[]) (cI i) hx λ_ h=>h
   have hp:=(fI (f:=f) (s0:=s0) (ls:=ls) i).1
   have hx':=ux hp hx
   have e1:(bk f s0 ls (i+1)).1.take (i+1)=(bk f s0 ls i).1.take i++[x]:=by
    rw[List.take_add_one,hx']
    congr 1
    obtain⟨t,ht⟩:=hp
    rw[<-ht,List.take_append_of_le_length (by omega)]
   rw[e1,List.map_append,<-rN i j (by omega)]
   have e2:(bk f s0 ls (i+1)).2.2=(bk f s0 ls i).2.2++[(ls.foldl (a6 f x i) ((bk f s0 ls i).1,(bk f s0 ls i).2.1,[])).2.2]:=by rw[bG hx]
   rw[e2,hk.2.2]
   congr 1
   simp only[List.nil_append,List.map_cons,List.map_nil,List.cons.injEq,and_true]
   refine List.map_congr_left λc hc=>?_
   have hm:f x c∈(bk f s0 ls (i+1)).1:=by rw[bG hx];exact hk.2.1 c hc
   have e3:(ls.foldl (a6 f x i) ((bk f s0 ls i).1,(bk f s0 ls i).2.1,[])).1=(bk f s0 ls (i+1)).1:=by rw[bG hx]
   rw[e3]
   exact(vh (DW hj).1 hm).symm
theorem nY:∀i,∀x∈(bk f s0 ls i).1.take i,∀c∈ls,f x c∈(bk f s0 ls i).1
 |0,x,hx,_,_=>by simp at hx
 |i+1,y,hy,c,hc=>by
  cases hx:(bk f s0 ls i).1[i]? with
  |none=>
   have hle:=List.getElem?_eq_none_iff.1 hx
   rw[cp hx]at hy⊢
   refine nY i y ?_ c hc
   rw[List.take_of_length_le (by omega)]at hy⊢;exact hy
  |some x=>
   have hi:=(List.getElem?_eq_some_iff.1 hx).1
   have hp:=(fI (f:=f) (s0:=s0) (ls:=ls) i).1
   have e1:(bk f s0 ls (i+1)).1.take (i+1)=(bk f s0 ls i).1.take i++[x]:=by
    rw[List.take_add_one,ux hp hx]
    congr 1
    obtain⟨t,ht⟩:=hp
    rw[<-ht,List.take_append_of_le_length (by omega)]
   rw[e1]at hy
   rcases List.mem_append.1 hy with h|h
   ·exact hp.subset (nY i y h c hc)
   ·simp at h
    subst h
    have hk:=wO ls ((bk f s0 ls i).1,(bk f s0 ls i).2.1,[]) (cI i) hx λ_ h=>h
    rw[bG hx]
    exact hk.2.1 c hc
theorem ve{sp:List α->α->Bool}{x:α}{i:Nat}:∀(l:List β) (st:List α×List (Nat×β)×List Nat),Quiet sp st.1->
 (∀r,iq (kj sp f x i) st l= .inl r->r=l.foldl (a6 f x i) st/\Quiet sp r.1)/\
 (∀r,iq (kj sp f x i) st l= .inr r->∃L y,r.1=L++[y]/\Quiet sp L/\sp L y=true/\r.1<+:(l.foldl (a6 f x i) st).1/\r.2<+:(l.foldl (a6 f x i) st).2.1/\st.1<+:L)
 |[],st,h=>⟨λr hr=>by cases hr;exact⟨rfl,h⟩,λr hr=>by cases hr⟩
 |c::l,st,h=>by
  by_cases hm:f x c∈st.1
  ·have e1:kj sp f x i st c= .inl (a6 f x i st c):=by unfold kj a6;rw[if_pos hm,if_pos hm]
   have ih:=ve (sp:=sp) (x:=x) (i:=i) l (a6 f x i st c) (by unfold a6;rw[if_pos hm];exact h)
   have hp:=(ow (f:=f) x i st c).1
   refine⟨λr hr=>?_,λr hr=>?_⟩
   ·simp only[iq,e1]at hr;exact ih.1 r hr
   ·simp only[iq,e1]at hr
    obtain⟨L,y,g1,g2,g3,g4,g5,g6⟩:=ih.2 r hr
    exact⟨L,y,g1,g2,g3,g4,g5,hp.trans g6⟩
  ·cases hs:sp st.1 (f x c)
   ·have e1:kj sp f x i st c= .inl (a6 f x i st c):=by unfold kj a6;rw[if_neg hm,if_neg hm,if_neg (by rw[hs];simp)]
    have ih:=ve (sp:=sp) (x:=x) (i:=i) l (a6 f x i st c) (by unfold a6;rw[if_neg hm];exact h.add hs)
    have hp:=(ow (f:=f) x i st c).1
    refine⟨λr hr=>?_,λr hr=>?_⟩
    ·simp only[iq,e1]at hr;exact ih.1 r hr
    ·simp only[iq,e1]at hr
     obtain⟨L,y,g1,g2,g3,g4,g5,g6⟩:=ih.2 r hr
     exact⟨L,y,g1,g2,g3,g4,g5,hp.trans g6⟩
   ·have e1:kj sp f x i st c= .inr (st.1++[f x c],st.2.1++[(i,c)]):=by unfold kj;rw[if_neg hm,if_pos hs]
    have e2:a6 f x i st c=(st.1++[f x c],st.2.1++[(i,c)],st.2.2++[st.1.length]):=by unfold a6;rw[if_neg hm]
    refine⟨λr hr=>?_,λr hr=>?_⟩
    ·simp only[iq,e1]at hr;cases hr
    ·simp only[iq,e1]at hr
     cases hr
     have hp:=ug (f:=f) x i l (a6 f x i st c)
     rw[e2]at hp
     refine⟨st.1,f x c,rfl,h,hs,?_,?_,List.prefix_refl _⟩
     ·rw[List.foldl_cons,e2];exact hp.1
     ·rw[List.foldl_cons,e2];exact hp.2
theorem i5{sp:List α->α->Bool}:∀i,
 (∀S,gf f s0 ls sp i= .inl S->S=bk f s0 ls i/\Quiet sp S.1)/\
 (∀r,gf f s0 ls sp i= .inr r->∃L y,r.1=L++[y]/\L≠[]/\Quiet sp L/\sp L y=true/\r.1<+:(bk f s0 ls i).1/\r.2.1<+:(bk f s0 ls i).2.1)
 |0=>⟨λS h=>by cases h;exact⟨rfl,λk x hx=>by simp at hx⟩,λr h=>by cases h⟩
 |i+1=>by
  have ih:=i5 (sp:=sp) i
  cases h:gf f s0 ls sp i with
  |inr r=>
   have e:gf f s0 ls sp (i+1)= .inr r:=by simp only[gf,h]
   refine⟨λS hS=>(by rw[e]at hS;cases hS),λr' hr=>?_⟩
   rw[e]at hr;cases hr
   obtain⟨L,y,g1,g2,g3,g4,g5,g6⟩:=ih.2 r h
   exact⟨L,y,g1,g2,g3,g4,g5.trans (fI i).1,g6.trans (fI i).2⟩
  |inl S=>
   obtain⟨rfl,hq⟩:=ih.1 S h
   cases hx:(bk f s0 ls i).1[i]? with
   |none=>
    have e:gf f s0 ls sp (i+1)= .inl (bk f s0 ls i):=by simp only[gf,h,hx]
    refine⟨λS hS=>?_,λr hr=>by rw[e]at hr;cases hr⟩
    rw[e]at hS;cases hS
    exact⟨(cp hx).symm,hq⟩
   |some x=>
    have hf:=ve (f:=f) (sp:=sp) (x:=x) (i:=i) ls ((bk f s0 ls i).1,(bk f s0 ls i).2.1,[]) hq
    cases hr:iq (kj sp f x i) ((bk f s0 ls i).1,(bk f s0 ls i).2.1,[]) ls with
    |inl r=>
     have e:gf f s0 ls sp (i+1)= .inl (r.1,r.2.1,(bk f s0 ls i).2.2++[r.2.2]):=by simp only[gf,h,hx,hr]
     refine⟨λS hS=>?_,λr hr=>by rw[e]at hr;cases hr⟩
     rw[e]at hS;cases hS
     obtain⟨rfl,hq'⟩:=hf.1 r hr
     exact⟨(bG hx).symm,hq'⟩
    |inr r=>
     have e:gf f s0 ls sp (i+1)= .inr (r.1,r.2,(bk f s0 ls i).2.2):=by simp only[gf,h,hx,hr]
     refine⟨λS hS=>(by rw[e]at hS;cases hS),λr' hr'=>?_⟩
     rw[e]at hr';cases hr'
     obtain⟨L,y,g1,g2,g3,g4,g5,g6⟩:=hf.2 r hr
     rw[bG hx]
     refine⟨L,y,g1,?_,g2,g3,g4,g5⟩
     rintro rfl
     have h0:=(cI (f:=f) (s0:=s0) (ls:=ls) i).head
     have h1:=List.prefix_nil.1 g6
     simp only at h1
     rw[h1]at h0;cases h0
theorem xJ{sp:List α->α->Bool}{i j:Nat}(hij:i<=j){r:List α×List (Nat×β)×List (List Nat)}(h:gf f s0 ls sp i= .inr r):gf f s0 ls sp j= .inr r:=by
 induction hij with
 |refl=>exact h
 |step _ ih=>simp only[gf,ih]
theorem AQ{sp:List α->α->Bool}{i j:Nat}(hij:i<=j){S:List α×List (Nat×β)×List (List Nat)}(h:gf f s0 ls sp i= .inl S)(hf:S.1.length<=i):gf f s0 ls sp j= .inl S:=by
 induction hij with
 |refl=>exact h
 | @step m hm ih=>
  have hm:i<=m:=hm
  simp only[gf,ih,List.getElem?_eq_none (show S.1.length<=m from by omega)]
theorem vz{L:List α}{y:α}:∀{k:Nat},k<=L.length->(∀j z,j<k->L[j]? =some z->z≠y)->(∀z,L[k]? =some z->z=y)->k=pos L y:=by
 induction L with
 |nil=>intro k hk _ _;simp at hk;subst hk;simp[pos]
 |cons x L ih=>
  intro k hk h1 h2
  cases k with
  |zero=>rw[<-h2 x rfl];exact pos_eq.symm
  |succ k=>
   rw[yf (h1 0 x (by omega) rfl),<-ih (k:=k) (by simpa using hk) (λj z hj hz=>h1 (j+1) z (by omega) (by simpa using hz)) (λz hz=>h2 z (by simpa using hz))]
theorem pos_lt{L:List α}{y:α}:y∈L↔pos L y<L.length:=by unfold pos;exact List.idxOf_lt_length_iff.symm
theorem CF{L:List α}{y:α}(h:y∉L):pos L y=L.length:=by unfold pos;exact List.idxOf_eq_length h
end
end Go.Pl
namespace Go.Proofs.Ytbpdbooalkkenaa
open Go Go.Av Go.Ev Go.Pl
theorem Cn{σ α β:Type}(f:σ->α->σ⊕β):∀(l:List α) (s:σ),ip f s l=iq f s l
 |[],_=>rfl
 |x::l,s=>by
  simp only[ip,iq]
  cases f s x with
  |inl s'=>exact Cn f l s'
  |inr b=>rfl
theorem Eo{k:Nat}(h:k<=1000000000):(decide (0<=(k:Int))&&decide ((k:Int)<=(k:Int))&&decide ((k:Int)<=9223372036854775807)&&decide (8*(k:Int)<=281474976710656))=true:=by
 simp only[Bool.and_eq_true,decide_eq_true_eq];omega
abbrev PR:Type:=Int×(Int×Unit)
noncomputable def Oj(a b:DF)(x:PR)(v:Int):PR:=(bE a x.1 v,bE b x.2.1 v,())
def Nz(a b:DF):PR:=(a.2.2.2.1,b.2.2.2.1,())
noncomputable def NY(a b:DF):List Int:=qO (a.1++b.1)
def b6(d:DF)(s:Int):Bool:=d.2.2.1.getD s.toNat false
def NV(T:List (Nat×Int)):List Int:=(-1)::T.map λt=>(t.1:Int)
def OU(T:List (Nat×Int)):List Int:=0::T.map (·.2)
def jT(R:List (List Nat)):List (List Int):=R.map λr=>r.map fun(k:Nat)=>(k:Int)
abbrev SR:Type:=List PR×List (Nat×Int)×List (List Nat)
def oU(k:Nat)(r:List Nat):List Int:=(r.map fun(k:Nat)=>(k:Int))++List.replicate (k - r.length) 0
theorem yu{k:Nat}{r:List Nat}{n:Nat}(h:r.length<k):(oU k r).set r.length (n:Int)=oU k (r++[n]):=by
 unfold oU
 rw[List.set_append_right _ _ (by simp),List.length_map,Nat.sub_self]
 obtain⟨m,hm⟩:∃m,k - r.length=m+1:=⟨k - r.length - 1,by omega⟩
 rw[hm,List.replicate_succ,List.set_cons_zero,List.length_append,show k - (r.length+[n].length)=m by simp;omega]
 simp
end Go.Proofs.Ytbpdbooalkkenaa
namespace Go.Pl
section
variable {σ β σ' β':Type}
inductive F2(R:σ->σ'->Prop):List σ->List σ'->Prop
 |nil:F2 R [] []
 |cons {x:σ} {y:σ'} {l:List σ} {l':List σ'}:R x y->F2 R l l'->F2 R (x::l) (y::l')
theorem F2.len{R:σ->σ'->Prop}{l:List σ}{l':List σ'}(h:F2 R l l'):l.length=l'.length:=by
 induction h with
 |nil=>rfl
 |cons _ _ ih=>simp[ih]
theorem F2.get{R:σ->σ'->Prop}{l:List σ}{l':List σ'}(h:F2 R l l'):∀{i:Nat} {x:σ} {y:σ'},l[i]? =some x->l'[i]? =some y->R x y:=by
 induction h with
 |nil=>intro i x y h;simp at h
 |cons hr _ ih=>
  intro i x y hx hy
  cases i with
  |zero=>simp at hx hy;subst hx hy;exact hr
  |succ i=>exact ih (by simpa using hx) (by simpa using hy)
theorem F2.app{R:σ->σ'->Prop}{l k:List σ}{l' k':List σ'}(h:F2 R l l')(h':F2 R k k'):F2 R (l++k) (l'++k'):=by
 induction h with
 |nil=>exact h'
 |cons hr _ ih=>exact .cons hr ih
def Eqv(f:σ->β->σ)(acc:σ->Bool)(ls:List β)(s t:σ):Prop:=∀w:List β,(∀c∈w,c∈ls)->acc (w.foldl f s)=acc (w.foldl f t)
variable {f:σ->β->σ} {acc:σ->Bool} {ls:List β}
theorem Eqv.refl(s:σ):Eqv f acc ls s s:=λ_ _=>rfl
theorem Eqv.symm{s t:σ}(h:Eqv f acc ls s t):Eqv f acc ls t s:=λw hw=>(h w hw).symm
theorem Eqv.trans{s t u:σ}(h:Eqv f acc ls s t)(h':Eqv f acc ls t u):Eqv f acc ls s u:=λw hw=>(h w hw).trans (h' w hw)
theorem Eqv.nil{s t:σ}(h:Eqv f acc ls s t):acc s=acc t:=h [] (by simp)
theorem Eqv.step{s t:σ}(h:Eqv f acc ls s t){c:β}(hc:c∈ls):Eqv f acc ls (f s c) (f t c):=λw hw=>h (c::w) λx hx=>by
 rcases List.mem_cons.1 hx with rfl|hx
 ·exact hc
 ·exact hw x hx
theorem GU{P:σ->Prop}{b:σ->Int}(hP:∀s c,c∈ls->P s->P (f s c))(ha:∀s t,P s->P t->b s=b t->acc s=acc t)
 (hs:∀s t c,c∈ls->P s->P t->b s=b t->b (f s c)=b (f t c)) {s t:σ} (h1:P s) (h2:P t) (h:b s=b t):Eqv f acc ls s t:=by
 intro w
 induction w generalizing s t with
 |nil=>intro _;exact ha s t h1 h2 h
 |cons c w ih=>
  intro hw
  have hc:=hw c (List.mem_cons_self ..)
  exact ih (hP s c hc h1) (hP t c hc h2) (hs s t c hc h1 h2 h) λx hx=>hw x (List.mem_cons_of_mem _ hx)
theorem CJ{P:σ->Prop}{b b':σ->Int}{m:Nat}(hon:∀i:Nat,i<m->∃s,P s/\b s=(i:Int))(hb':∀s,P s->0<=b' s/\b' s<(m:Int))
 (href:∀s t,P s->P t->b' s=b' t->b s=b t) {s t:σ} (h1:P s) (h2:P t) (h:b s=b t):b' s=b' t:=by
 obtain⟨rep,hrep⟩:∃rep:Nat->σ,∀i,i<m->P (rep i)/\b (rep i)=(i:Int):=
  ⟨λi=>if h:i<m then Classical.choose (hon i h)else s,λi hi=>by simp only[hi,dif_pos];exact Classical.choose_spec (hon i hi)⟩
 have hnd:((List.range m).map λi=>b' (rep i)).Nodup:=by
  rw[List.nodup_iff_pairwise_ne,List.pairwise_map]
  refine List.Pairwise.imp_of_mem ?_ (List.nodup_iff_pairwise_ne.1 List.nodup_range)
  intro i j hi hj hij he
  have hi:=List.mem_range.1 hi
  have hj:=List.mem_range.1 hj
  have:=href _ _ (hrep i hi).1 (hrep j hj).1 he
  rw[(hrep i hi).2,(hrep j hj).2]at this
  omega
 have hall:∀x:Int,0<=x->x<(m:Int)->x∈(List.range m).map λi=>b' (rep i):=by
  intro x h0 hx
  refine Classical.byContradiction λhn=>?_
  have hm:x∈(List.range m).map fun(i:Nat)=>(i:Int):=List.mem_map.2 ⟨x.toNat,List.mem_range.2 (by omega),by omega⟩
  have:=gM ((List.range m).map λi=>b' (rep i)) (((List.range m).map fun(i:Nat)=>(i:Int)).erase x) hnd λy hy=>by
   obtain⟨i,hi,rfl⟩:=List.mem_map.1 hy
   have hi:=List.mem_range.1 hi
   have hbi:=hb' _ (hrep i hi).1
   refine(List.mem_erase_of_ne ?_).2 (List.mem_map.2 ⟨(b' (rep i)).toNat,List.mem_range.2 (by omega),by omega⟩)
   rintro rfl
   exact hn (List.mem_map.2 ⟨i,List.mem_range.2 hi,rfl⟩)
  have h3:=List.length_erase_of_mem hm
  have h4:=List.length_pos_of_mem hm
  simp only[List.length_map,List.length_range]at this h3 h4
  omega
 have key:∀u,P u->b' u=b' (rep (b u).toNat):=by
  intro u hu
  obtain⟨i,hi,he⟩:=List.mem_map.1 (hall _ (hb' u hu).1 (hb' u hu).2)
  have hi:=List.mem_range.1 hi
  have:=href _ _ (hrep i hi).1 hu he
  rw[(hrep i hi).2]at this
  rw[<-this]
  simp only[Int.toNat_natCast]
  exact he.symm
 rw[key s h1,key t h2,h]
variable [DecidableEq σ] [DecidableEq σ']
theorem Ib{Rel:σ->σ'->Prop}{g:σ'->β'->σ'}{h:β->β'}{x:σ}{y:σ'}{i:Nat}(hinj:∀a a' b b',Rel a b->Rel a' b'->(a=a'↔b=b')):
 ∀(l:List β),(∀c∈l,Rel (f x c) (g y (h c)))->∀(L:List σ) (L':List σ') (T:List (Nat×β)) (R:List Nat),F2 Rel L L'->
 F2 Rel (l.foldl (a6 f x i) (L,T,R)).1 ((l.map h).foldl (a6 g y i) (L',T.map (λt=>(t.1,h t.2)),R)).1/\
 ((l.map h).foldl (a6 g y i) (L',T.map (λt=>(t.1,h t.2)),R)).2.1=(l.foldl (a6 f x i) (L,T,R)).2.1.map (λt=>(t.1,h t.2))/\
 ((l.map h).foldl (a6 g y i) (L',T.map (λt=>(t.1,h t.2)),R)).2.2=(l.foldl (a6 f x i) (L,T,R)).2.2
 |[],_,_,_,_,_,hL=>⟨hL,rfl,rfl⟩
 |c::l,hst,L,L',T,R,hL=>by
  have hc:=hst c (List.mem_cons_self ..)
  have hmem:∀(L:List σ) (L':List σ'),F2 Rel L L'->(f x c∈L↔g y (h c)∈L')/\pos L (f x c)=pos L' (g y (h c)):=by
   intro L L' hL
   induction hL with
   |nil=>simp[pos]
   | @cons a b L L' hab hL ih=>
    have he:=hinj a (f x c) b (g y (h c)) hab hc
    by_cases e:a=f x c
    ·have e':=he.1 e
     subst e e'
     exact⟨by simp,by rw[pos_eq,pos_eq]⟩
    ·have e':¬b=g y (h c):=λh=>e (he.2 h)
     refine⟨?_,by rw[yf e,yf e',ih.2]⟩
     simp only[List.mem_cons,ih.1]
     constructor
     ·rintro(h|h)
      ·exact absurd h.symm e
      ·exact .inr h
     ·rintro(h|h)
      ·exact absurd h.symm e'
      ·exact .inr h
  have hm:=hmem L L' hL
  have hlen:L.length=L'.length:=F2.len hL
  have ih:=Ib (Rel:=Rel) (g:=g) (h:=h) (x:=x) (y:=y) (i:=i) hinj l λc' hc'=>hst c' (List.mem_cons_of_mem _ hc')
  rw[List.foldl_cons,List.map_cons,List.foldl_cons]
  by_cases hin:f x c∈L
  ·have hin':=hm.1.1 hin
   have e1:a6 f x i (L,T,R) c=(L,T,R++[pos L (f x c)]):=by simp only[a6,if_pos hin]
   have e2:a6 g y i (L',T.map (λt=>(t.1,h t.2)),R) (h c)=(L',T.map (λt=>(t.1,h t.2)),R++[pos L (f x c)]):=by simp only[a6,if_pos hin',hm.2]
   rw[e1,e2]
   exact ih L L' T _ hL
  ·have hin':g y (h c)∉L':=λe=>hin (hm.1.2 e)
   have e1:a6 f x i (L,T,R) c=(L++[f x c],T++[(i,c)],R++[L.length]):=by simp only[a6,if_neg hin]
   have e2:a6 g y i (L',T.map (λt=>(t.1,h t.2)),R) (h c)=(L'++[g y (h c)],(T++[(i,c)]).map (λt=>(t.1,h t.2)),R++[L.length]):=by
    simp only[a6,if_neg hin',hlen,List.map_append,List.map_cons,List.map_nil]
   rw[e1,e2]
   refine ih _ _ _ _ (F2.app hL ?_)
   exact .cons hc .nil
theorem uc{Rel:σ->σ'->Prop}{g:σ'->β'->σ'}{h:β->β'}{s0:σ}{t0:σ'}(h0:Rel s0 t0)(hst:∀x y c,c∈ls->Rel x y->Rel (f x c) (g y (h c)))
 (hinj:∀a a' b b',Rel a b->Rel a' b'->(a=a'↔b=b')):∀i,F2 Rel (bk f s0 ls i).1 (bk g t0 (ls.map h) i).1/\
 (bk g t0 (ls.map h) i).2.1=(bk f s0 ls i).2.1.map (λt=>(t.1,h t.2))/\(bk g t0 (ls.map h) i).2.2=(bk f s0 ls i).2.2
 |0=>⟨.cons h0 .nil,rfl,rfl⟩
 |i+1=>by
  obtain⟨h1,h2,h3⟩:=uc h0 hst hinj i
  have hlen:=F2.len h1
  by_cases hi:i<(bk f s0 ls i).1.length
  ·have hx:=List.getElem?_eq_getElem hi
   have hy:=List.getElem?_eq_getElem (l:=(bk g t0 (ls.map h) i).1) (i:=i) (by omega)
   rw[bG hx,bG hy,h2,h3]
   have hr:Rel (bk f s0 ls i).1[i] (bk g t0 (ls.map h) i).1[i]:=F2.get h1 hx hy
   obtain⟨g1,g2,g3⟩:=Ib (f:=f) (g:=g) (h:=h) (i:=i) (x:=(bk f s0 ls i).1[i]) (y:=(bk g t0 (ls.map h) i).1[i]) hinj ls (λc hc=>hst _ _ c hc hr) _ _ (bk f s0 ls i).2.1 [] h1
   exact⟨g1,g2,by rw[g3]⟩
  ·rw[cp (List.getElem?_eq_none (by omega)),cp (List.getElem?_eq_none (by omega))]
   exact⟨h1,h2,h3⟩
def bp(L:List σ)(ys:List σ):List σ:=ys.foldl (λL y=>if y∈L then L else L++[y]) L
theorem nG{x:σ}{i:Nat}:∀(l:List β) (st:List σ×List (Nat×β)×List Nat),(l.foldl (a6 f x i) st).1=bp st.1 (l.map (f x))
 |[],_=>rfl
 |c::l,st=>by
  rw[List.foldl_cons,nG l,List.map_cons]
  unfold bp
  rw[List.foldl_cons]
  congr 1
  unfold a6
  split<;>rfl
theorem kL(L ys zs:List σ):bp L (ys++zs)=bp (bp L ys) zs:=List.foldl_append
theorem xd:∀(ys L:List σ),(∀x∈L,x∈bp L ys)/\∀y∈ys,y∈bp L ys
 |[],L=>⟨λ_ h=>h,by simp⟩
 |y::ys,L=>by
  have h1:y∈(if y∈L then L else L++[y]):=by split<;>simp_all
  have h2:∀x∈L,x∈(if y∈L then L else L++[y]):=λx hx=>by split<;>simp_all
  have ih:=xd ys (if y∈L then L else L++[y])
  refine⟨λx hx=>ih.1 x (h2 x hx),λz hz=>?_⟩
  rcases List.mem_cons.1 hz with rfl|hz
  ·exact ih.1 _ h1
  ·exact ih.2 z hz
theorem uQ{L:List σ}{y:σ}(h:y∈L):bp L [y]=L:=by simp[bp,h]
theorem xe{L:List σ}{y:σ}(h:y∉L):bp L [y]=L++[y]:=by simp[bp,h]
theorem sJ(y:Nat->σ)(kp:Nat->Bool):∀(k:Nat) (L:List σ),(∀c,c<k->kp c=false->0<c/\y c=y (c - 1))->bp L (((List.range k).filter kp).map y)=bp L ((List.range k).map y)
 |0,_,_=>rfl
 |k+1,L,h=>by
  have ih:=sJ y kp k L λc hc=>h c (by omega)
  rw[List.range_succ,List.filter_append,List.map_append,List.map_append,kL,kL,ih]
  cases hk:kp k
  ·obtain⟨h0,he⟩:=h k (by omega) hk
   have:y k∈bp L ((List.range k).map y):=(xd _ _).2 _ (List.mem_map.2 ⟨k - 1,List.mem_range.2 (by omega),he.symm⟩)
   rw[show [k].filter kp=[]from by simp[hk]]
   simp only[List.map_nil,List.map_cons]
   rw[uQ this];rfl
  ·rw[show [k].filter kp=[k]from by simp[hk]]
theorem vd{f:σ->Nat->σ}{s0:σ}{k:Nat}{kp:Nat->Bool}:∀i,(∀x∈(bk f s0 (List.range k) i).1,∀c,c<k->kp c=false->0<c/\f x c=f x (c - 1))->
 (bk f s0 ((List.range k).filter kp) i).1=(bk f s0 (List.range k) i).1
 |0,_=>rfl
 |i+1,h=>by
  have ih:=vd (f:=f) (s0:=s0) (k:=k) (kp:=kp) i λx hx=>h x ((fI i).1.subset hx)
  by_cases hi:i<(bk f s0 (List.range k) i).1.length
  ·have hx:=List.getElem?_eq_getElem hi
   have hx':(bk f s0 ((List.range k).filter kp) i).1[i]? =some (bk f s0 (List.range k) i).1[i]:=by rw[ih];exact hx
   rw[bG hx,bG hx']
   simp only
   rw[nG,nG]
   simp only[ih]
   exact sJ _ _ _ _ λc hc hk=>h _ ((fI i).1.subset (List.getElem_mem hi)) c hc hk
  ·rw[cp (f:=f) (ls:=List.range k) (List.getElem?_eq_none (by omega)),cp (List.getElem?_eq_none (by rw[ih];omega)),ih]
end
end Go.Pl
namespace Go.Proofs.Ytbpdbooalkkenaa
open Go Go.Av Go.Ev Go.Pl
structure WF(d:DF):Prop where
 starts:b9 d.1
 len:0<d.2.1.length/\d.2.2.1.length=d.2.1.length
 rows:∀r∈d.2.1,r.length=d.1.length
 start:0<=d.2.2.2.1/\d.2.2.2.1<(d.2.1.length:Int)
 to:∀r∈d.2.1,∀t∈r,0<=t/\t<(d.2.1.length:Int)
theorem Good.wf{d:DF}(h:Good d):WF d:=⟨h.starts,h.len,h.rows,h.start,h.to⟩
theorem nm{xs:List Int}{v:Int}(hs:b9 xs)(hv:0<=v):fX xs v (fb xs v):=by
 have key:∀n,0<n->∃c,∃h:c<xs.length,xs[c]<=v/\∀j (_:j<xs.length),c<j->j<n->v<xs[j]:=by
  intro n
  induction n with
  |zero=>intro h;omega
  |succ n ih=>
   intro _
   rcases Nat.eq_zero_or_pos n with rfl|hn
   ·exact⟨0,hs.1,by rw[hs.2.1 hs.1];exact hv,λj _ h1 h2=>by omega⟩
   ·obtain⟨c,h1,h2,h3⟩:=ih hn
    by_cases hnl:n<xs.length
    ·by_cases hle:xs[n]<=v
     ·exact⟨n,hnl,hle,λj _ h4 h5=>by omega⟩
     ·refine⟨c,h1,h2,λj hj h4 h5=>?_⟩
      rcases Nat.lt_succ_iff_lt_or_eq.1 h5 with h6|rfl
      ·exact h3 j hj h4 h6
      ·omega
    ·exact⟨c,h1,h2,λj hj h4 h5=>h3 j hj h4 (by omega)⟩
 obtain⟨c,h1,h2,h3⟩:=key xs.length hs.1
 have hc:fX xs v c:=⟨h1,h2,λj hj h4=>h3 j hj h4 hj⟩
 rw[nk hc];exact hc
theorem Dw{xs:List Int}(hs:b9 xs){c:Nat}(hc:c<xs.length):fb xs xs[c]=c:=
 nk ⟨hc,Int.le_refl _,λj hj h=>jl hs j c hj h⟩
theorem fR{xs:List Int}(hs:b9 xs):∀v∈xs,0<=v/\v<=4294967295:=λv hv=>by
 refine⟨?_,hs.2.2.2 v hv⟩
 obtain⟨i,hi,rfl⟩:=List.mem_iff_getElem.1 hv
 have h0:=hs.2.1 hs.1
 rcases Nat.eq_zero_or_pos i with rfl|hp
 ·omega
 ·have:=jl hs i 0 hi hp;omega
def In(d:DF)(s:Int):Prop:=0<=s/\s<(d.2.1.length:Int)
def a9(d:DF)(s:Int)(c:Nat):Int:=(d.2.1.getD s.toNat []).getD c 0
theorem iC(d:DF)(s v:Int):bE d s v=a9 d s (fb d.1 v):=rfl
theorem FL{d:DF}(h:WF d){s:Int}(hs:In d s){c:Nat}(hc:c<d.1.length):∃h1:s.toNat<d.2.1.length,∃h2:c<d.2.1[s.toNat].length,d.2.1[s.toNat][c]=a9 d s c/\In d (a9 d s c):=by
 have h1:s.toNat<d.2.1.length:=by have:=hs.1;have:=hs.2;omega
 have h2:c<d.2.1[s.toNat].length:=by rw[h.rows _ (List.getElem_mem h1)];exact hc
 have e:d.2.1[s.toNat][c]=a9 d s c:=by
  unfold a9
  simp only[List.getD_eq_getElem?_getD,List.getElem?_eq_getElem h1,Option.getD_some,List.getElem?_eq_getElem h2]
 exact⟨h1,h2,e,e▸h.to _ (List.getElem_mem h1) _ (List.getElem_mem h2)⟩
theorem Ij{d:DF}(h:WF d){s v:Int}(hs:In d s)(hv:0<=v):In d (bE d s v):=
 (FL h hs (nm h.starts hv).1).2.2.2
theorem fS{d:DF}(h:WF d)(s:Int){c:Nat}(hc:c<d.1.length):bE d s d.1[c]=a9 d s c:=by
 rw[iC,Dw h.starts hc]
def Valid(w:List Int):Prop:=∀v∈w,0<=v/\v<=4294967295
theorem Valid.app{w u:List Int}(h:Valid w)(h':Valid u):Valid (w++u):=λv hv=>(List.mem_append.1 hv).elim (h v) (h' v)
theorem m5{v:Int}(h:0<=v/\v<=4294967295):Valid [v]:=λu hu=>by simp at hu;subst hu;exact h
noncomputable def dx(d:DF)(w:List Int):Int:=w.foldl (bE d) d.2.2.2.1
theorem fL(d:DF)(w u:List Int):dx d (w++u)=u.foldl (bE d) (dx d w):=List.foldl_append
def MX(d:DF)(s t:Int):Prop:=∀w,Valid w->b6 d (w.foldl (bE d) s)=b6 d (w.foldl (bE d) t)
theorem Hw{d:DF}(h:WF d):∀(w:List Int) (s:Int),In d s->Valid w->In d (w.foldl (bE d) s)
 |[],_,hs,_=>hs
 |v::w,s,hs,hw=>Hw h w _ (Ij h hs (hw v (List.mem_cons_self ..)).1) λu hu=>hw u (List.mem_cons_of_mem _ hu)
theorem ES{d:DF}(h:WF d){w:List Int}(hw:Valid w):In d (dx d w):=Hw h w _ h.start hw
def cy(n:Nat):List Int:=(List.range n).map fun(k:Nat)=>(k:Int)
theorem rangeI_mem{n:Nat}{s:Int}:s∈cy n↔0<=s/\s<(n:Int):=by
 unfold cy
 rw[List.mem_map]
 constructor
 ·rintro⟨k,hk,rfl⟩;have:=List.mem_range.1 hk;omega
 ·rintro⟨h1,h2⟩;exact⟨s.toNat,List.mem_range.2 (by omega),by omega⟩
theorem i6{n k:Nat}(h:k<n):(cy n)[k]? =some (k:Int):=by simp[cy,h]
theorem fB(n:Nat):(cy n).length=n:=by simp[cy]
structure Canon(d:DF):Prop where
 wf:WF d
 bfs:∃i0,∀i,i0<=i->(bk (bE d) d.2.2.2.1 d.1 i).1=cy d.2.1.length
 red:∀s t,In d s->In d t->MX d s t->s=t
 cols:∀c (h:c+1<d.1.length),∃s,In d s/\bE d s d.1[c+1]≠bE d s d.1[c]
theorem uU{d:DF}(hw:WF d){i:Nat}(hb:(bk (bE d) d.2.2.2.1 d.1 i).1=cy d.2.1.length){s:Int}(hs:In d s):∃w,Valid w/\dx d w=s:=by
 have hm:=rangeI_mem.2 hs
 rw[<-hb]at hm
 obtain⟨k,hk,hk2⟩:=List.mem_iff_getElem.1 hm
 obtain⟨p,hp⟩:=(cI (f:=bE d) (s0:=d.2.2.2.1) (ls:=d.1) i).tr k hk
 obtain⟨h1,h2⟩:=hp.reaches (cI i)
 rw[List.getElem?_eq_getElem hk,hk2]at h1
 exact⟨p,λv hv=>fR hw.starts v (h2 v hv),(Option.some.inj h1).symm⟩
theorem xZ{d:DF}(h:Canon d)(v:Int):v∈d.1↔v=0\/(0<v/\v<=4294967295/\∃w,Valid w/\dx d (w++[v])≠dx d (w++[v - 1])):=by
 have hst:=h.wf.starts
 constructor
 ·intro hv
  have hv2:=fR hst v hv
  obtain⟨i,hi,rfl⟩:=List.mem_iff_getElem.1 hv
  cases i with
  |zero=>exact .inl (hst.2.1 hst.1)
  |succ c=>
   have hlt:=hst.2.2.1 c hi
   have h0:=(fR hst d.1[c] (List.getElem_mem _)).1
   refine .inr ⟨by omega,hv2.2,?_⟩
   obtain⟨s,hs,hne⟩:=h.cols c hi
   obtain⟨i0,hb⟩:=h.bfs
   obtain⟨w,hw,rfl⟩:=uU h.wf (hb i0 (Nat.le_refl _)) hs
   refine⟨w,hw,?_⟩
   rw[fL,fL]
   show bE d (dx d w) d.1[c+1]≠bE d (dx d w) (d.1[c+1] - 1)
   have e:bE d (dx d w) (d.1[c+1] - 1)=bE d (dx d w) d.1[c]:=by
    rw[iC,iC,Dw hst (by omega)]
    congr 1
    refine nk ⟨by omega,by omega,λj hj hcj=>?_⟩
    rcases Nat.lt_or_eq_of_le (show c+1<=j by omega)with h1|rfl
    ·have:=jl hst j (c+1) hj h1;omega
    ·omega
   rw[e];exact hne
 ·rintro(rfl|⟨h0,hm,w,hw,hne⟩)
  ·have:=hst.2.1 hst.1
   rw[<-this];exact List.getElem_mem _
  ·refine Classical.byContradiction λhn=>hne ?_
   rw[fL,fL]
   show bE d (dx d w) v=bE d (dx d w) (v - 1)
   rw[iC,iC]
   congr 1
   obtain⟨h1,h2,h3⟩:=nm hst (show 0<=v by omega)
   symm
   refine nk ⟨h1,?_,λj hj hcj=>by have:=h3 j hj hcj;omega⟩
   have:d.1[fb d.1 v]≠v:=λe=>hn (e▸List.getElem_mem h1)
   omega
theorem mE{a b:DF}(ha:Canon a)(hb:Canon b)(hl:∀w,Valid w->b6 a (dx a w)=b6 b (dx b w)):a=b:=by
 have half:∀{a b:DF},Canon b->(∀w,Valid w->b6 a (dx a w)=b6 b (dx b w))->∀w u,Valid w->Valid u->dx a w=dx a u->dx b w=dx b u:=by
  intro a b hb hl w u hw hu he
  refine hb.red _ _ (ES hb.wf hw) (ES hb.wf hu) λx hx=>?_
  rw[<-fL,<-fL,<-hl _ (hw.app hx),<-hl _ (hu.app hx),fL,fL,he]
 have hR:∀w u,Valid w->Valid u->(dx a w=dx a u↔dx b w=dx b u):=λw u hw hu=>
  ⟨half hb hl w u hw hu,half ha (λw hw=>(hl w hw).symm) w u hw hu⟩
 have hst:a.1=b.1:=by
  refine sZ _ _ (yD ha.wf.starts) (yD hb.wf.starts) λv=>?_
  rw[xZ ha,xZ hb]
  refine or_congr Iff.rfl ⟨fun⟨h0,hm,w,hw,hne⟩=>⟨h0,hm,w,hw,λe=>hne ?_⟩,fun⟨h0,hm,w,hw,hne⟩=>⟨h0,hm,w,hw,λe=>hne ?_⟩⟩
  ·exact(hR _ _ (hw.app (m5 (by omega))) (hw.app (m5 (by omega)))).2 e
  ·exact(hR _ _ (hw.app (m5 (by omega))) (hw.app (m5 (by omega)))).1 e
 have hrel:=uc (f:=bE a) (g:=bE b) (h:=id) (s0:=a.2.2.2.1) (t0:=b.2.2.2.1) (ls:=a.1) (Rel:=λs t=>∃w,Valid w/\dx a w=s/\dx b w=t)
  ⟨[],(λ_ h=>by cases h),rfl,rfl⟩
  (λx y c hc ⟨w,hw,h1,h2⟩=>⟨w++[c],hw.app (m5 (fR ha.wf.starts c hc)),by rw[fL,h1];rfl,by rw[fL,h2];rfl⟩)
  (λs s' t t' ⟨w,hw,h1,h2⟩ ⟨u,hu,g1,g2⟩=>by subst h1 h2 g1 g2;exact hR w u hw hu)
 obtain⟨i1,hba⟩:=ha.bfs
 obtain⟨i2,hbb⟩:=hb.bfs
 have hF:=(hrel (max i1 i2)).1
 rw[List.map_id,hba _ (by omega),hst,hbb _ (by omega)]at hF
 have hn:a.2.1.length=b.2.1.length:=by have:=hF.len;rwa [fB,fB]at this
 have hk:∀s,In a s->∃w,Valid w/\dx a w=s/\dx b w=s:=by
  intro s hs
  have h1:s.toNat<a.2.1.length:=by have:=hs.1;have:=hs.2;omega
  have e1:=i6 h1
  have e2:=i6 (n:=b.2.1.length) (k:=s.toNat) (by omega)
  rw[show((s.toNat:Nat):Int)=s from Int.toNat_of_nonneg hs.1]at e1 e2
  exact hF.get e1 e2
 have hstep:∀s v,In a s->0<=v/\v<=4294967295->bE a s v=bE b s v:=by
  intro s v hs hv
  obtain⟨w,hw,h1,h2⟩:=hk s hs
  obtain⟨u,hu,g1,g2⟩:=hk _ (Ij ha.wf hs hv.1)
  have h3:dx a (w++[v])=bE a s v:=by rw[fL,h1];rfl
  have h4:dx b (w++[v])=bE b s v:=by rw[fL,h2];rfl
  have:=(hR _ _ (hw.app (m5 hv)) hu).1 (h3.trans g1.symm)
  rw[<-h4,this,g2]
 refine Prod.ext hst (Prod.ext ?_ (Prod.ext ?_ (Prod.ext ?_ rfl)))
 ·refine List.ext_getElem hn λk h1 h2=>?_
  have hin:In a (k:Int):=⟨by omega,by omega⟩
  have hin':In b (k:Int):=⟨by omega,by omega⟩
  refine List.ext_getElem (by rw[ha.wf.rows _ (List.getElem_mem h1),hb.wf.rows _ (List.getElem_mem h2),hst]) λc g1 g2=>?_
  have hca:c<a.1.length:=by rw[<-ha.wf.rows _ (List.getElem_mem h1)];exact g1
  have hcb:c<b.1.length:=by rw[<-hst];exact hca
  obtain⟨_,_,e1,_⟩:=FL ha.wf hin hca
  obtain⟨_,_,e2,_⟩:=FL hb.wf hin' hcb
  simp only[Int.toNat_natCast]at e1 e2
  rw[e1,e2,<-fS ha.wf _ hca,<-fS hb.wf _ hcb]
  have e3:b.1[c]=a.1[c]:=by simp only[hst]
  rw[e3]
  exact hstep _ _ hin (fR ha.wf.starts _ (List.getElem_mem _))
 ·refine List.ext_getElem (by rw[ha.wf.len.2,hb.wf.len.2,hn]) λk h1 h2=>?_
  have hin:In a (k:Int):=⟨by omega,by have:=ha.wf.len.2;omega⟩
  obtain⟨w,hw,e1,e2⟩:=hk _ hin
  have:=hl w hw
  rw[e1,e2]at this
  unfold b6 at this
  simpa[List.getD_eq_getElem?_getD,List.getElem?_eq_getElem h1,List.getElem?_eq_getElem h2]using this
 ·have h0:=(cI (f:=bE a) (s0:=a.2.2.2.1) (ls:=a.1) (max i1 i2)).head
  have h0':=(cI (f:=bE b) (s0:=b.2.2.2.1) (ls:=b.1) (max i1 i2)).head
  rw[hba _ (by omega),i6 ha.wf.len.1]at h0
  rw[hbb _ (by omega),i6 hb.wf.len.1]at h0'
  rw[<-Option.some.inj h0,<-Option.some.inj h0']
theorem Gf{d m:DF}(hm:WF m){ψ:Int->Int}{P:Int->Prop}(hP0:P d.2.2.2.1)(hPs:∀s v,P s->0<=v->P (bE d s v))(h1:ψ d.2.2.2.1=m.2.2.2.1)
 (h2:∀s v,P s->0<=v->ψ (bE d s v)=bE m (ψ s) v) (h3:∀s,P s->b6 m (ψ s)=b6 d s) (h4:∀s t,P s->P t->MX d s t->ψ s=ψ t)
 (hb:∃i0,∀i,i0<=i->(bk (bE m) m.2.2.2.1 m.1 i).1=cy m.2.1.length) (hc:∀c (h:c+1<m.1.length),∃s,In m s/\bE m s m.1[c+1]≠bE m s m.1[c]):
 Canon m/\∀w,Valid w->b6 m (dx m w)=b6 d (dx d w):=by
 have hf:∀(w:List Int) (s:Int),P s->Valid w->ψ (w.foldl (bE d) s)=w.foldl (bE m) (ψ s)/\P (w.foldl (bE d) s):=by
  intro w
  induction w with
  |nil=>intro s hs _;exact⟨rfl,hs⟩
  |cons v w ih=>
   intro s hs hw
   have hv:=(hw v (List.mem_cons_self ..)).1
   have:=ih (bE d s v) (hPs s v hs hv) λu hu=>hw u (List.mem_cons_of_mem _ hu)
   rw[h2 s v hs hv]at this
   exact this
 have hrun:∀w,Valid w->ψ (dx d w)=dx m w/\P (dx d w):=λw hw=>by
  have:=hf w _ hP0 hw
  rw[h1]at this
  exact this
 refine⟨⟨hm,hb,λs t hs ht he=>?_,hc⟩,λw hw=>?_⟩
 ·obtain⟨i0,hb0⟩:=hb
  obtain⟨w,hw,rfl⟩:=uU hm (hb0 i0 (Nat.le_refl _)) hs
  obtain⟨u,hu,rfl⟩:=uU hm (hb0 i0 (Nat.le_refl _)) ht
  obtain⟨e1,p1⟩:=hrun w hw
  obtain⟨e2,p2⟩:=hrun u hu
  rw[<-e1,<-e2]
  refine h4 _ _ p1 p2 λx hx=>?_
  have f1:=hf x _ p1 hx
  have f2:=hf x _ p2 hx
  rw[<-h3 _ f1.2,<-h3 _ f2.2,f1.1,f2.1,e1,e2]
  exact he x hx
 ·obtain⟨e1,p1⟩:=hrun w hw
  rw[<-e1,h3 _ p1]
end Go.Proofs.Ytbpdbooalkkenaa
namespace Go.Proofs.Ytbpdbooalkkenaa
open Go Go.Av Go.Ev Go.Pl
structure RW(d:DF):Prop where
 len:0<d.2.1.length/\d.2.2.1.length=d.2.1.length
 rows:∀r∈d.2.1,r.length=d.1.length
 start:In d d.2.2.2.1
 to:∀r∈d.2.1,∀t∈r,In d t
theorem WF.rw{d:DF}(h:WF d):RW d:=⟨h.len,h.rows,h.start,h.to⟩
theorem oV{d:DF}(h:RW d){s:Int}(hs:In d s):∃h1:s.toNat<d.2.1.length,d.2.1[s.toNat]=(List.range d.1.length).map (a9 d s):=by
 have h1:s.toNat<d.2.1.length:=by have:=hs.1;have:=hs.2;omega
 refine⟨h1,?_⟩
 have hr:=h.rows _ (List.getElem_mem h1)
 refine List.ext_getElem (by simp[hr]) λc g1 g2=>?_
 simp only[List.getElem_map,List.getElem_range]
 unfold a9
 simp only[List.getD_eq_getElem?_getD,List.getElem?_eq_getElem h1,Option.getD_some,List.getElem?_eq_getElem g1]
theorem oO{d:DF}(h:RW d){s:Int}(hs:In d s){c:Nat}(hc:c<d.1.length):In d (a9 d s c):=by
 obtain⟨h1,e⟩:=oV h hs
 refine h.to _ (List.getElem_mem h1) _ ?_
 rw[e]
 exact List.mem_map.2 ⟨c,List.mem_range.2 hc,rfl⟩
abbrev io(d:DF)(i:Nat):List Int×List (Nat×Nat)×List (List Nat):=bk (a9 d) d.2.2.2.1 (List.range d.1.length) i
def ao(d:DF):List Int:=(io d d.2.1.length).1
theorem fy{d:DF}(h:RW d)(i:Nat):∀x∈(io d i).1,In d x:=λx hx=>by
 obtain⟨k,hk,rfl⟩:=List.mem_iff_getElem.1 hx
 exact(cI i).inv (P:=In d) h.start (λ_ c hc hx=>oO h hx (List.mem_range.1 hc)) k _ (List.getElem?_eq_getElem hk)
theorem F9{d:DF}{L:List Int}(hn:L.Nodup)(hi:∀x∈L,In d x):L.length<=d.2.1.length:=by
 have:=gM L (cy d.2.1.length) hn λx hx=>rangeI_mem.2 (hi x hx)
 rwa [fB]at this
theorem gv{d:DF}(h:RW d)(i:Nat):(io d i).1.length<=d.2.1.length:=F9 (cI i).nodup (fy h i)
theorem yk{d:DF}(h:RW d){i:Nat}(hi:(io d i).1.length<=i):ao d=(io d i).1:=by
 have hl:=gv h d.2.1.length
 have e1:io d (max i d.2.1.length)=io d i:=q6 (by omega) hi
 have e2:io d (max i d.2.1.length)=io d d.2.1.length:=q6 (by omega) hl
 unfold ao
 rw[<-e2,e1]
theorem bJ{d:DF}(h:RW d):∀x∈ao d,∀c,c<d.1.length->a9 d x c∈ao d:=λx hx c hc=>by
 have hl:=gv h d.2.1.length
 exact nY _ x (by rw[List.take_of_length_le hl];exact hx) c (List.mem_range.2 hc)
theorem dQ{d:DF}:d.2.2.2.1∈ao d:=List.mem_of_getElem? (cI _).head
def marks(n:Nat)(L:List Int):List Bool:=(List.range n).map fun(k:Nat)=>decide ((k:Int)∈L)
theorem Ej{n:Nat}{L:List Int}{v:Int}(h0:0<=v)(hv:v<(n:Int)):∃h1:v.toNat<(marks n L).length,(marks n L)[v.toNat]=decide (v∈L):=by
 have h1:v.toNat<(marks n L).length:=by simp[marks];omega
 refine⟨h1,?_⟩
 simp only[marks,List.getElem_map,List.getElem_range]
 rw[Int.toNat_of_nonneg h0]
theorem vp{n:Nat}{L:List Int}{v:Int}(h0:0<=v):(marks n L).set v.toNat true=marks n (L++[v]):=by
 refine List.ext_getElem (by simp[marks]) λk g1 g2=>?_
 rw[List.getElem_set]
 simp only[marks,List.getElem_map,List.getElem_range,List.mem_append,List.mem_singleton]
 split
 ·rename_i h;subst h;simp[Int.toNat_of_nonneg h0]
 ·rename_i h
  have:¬(k:Int)=v:=λe=>h (by omega)
  simp[this]
theorem Bg{n:Nat}{v:Int}(h0:0<=v):(List.replicate n false).set v.toNat true=marks n [v]:=by
 have:List.replicate n false=marks n []:=by
  refine List.ext_getElem (by simp[marks]) λk g1 g2=>?_
  simp[marks]
 rw[this,vp h0];rfl
theorem uF{d:DF}(hn:d.2.1.length<=16777216){L:List Int}(hL:L.Nodup)(hi:∀x∈L,In d x)(r:List Int)(hr:∀x∈r,In d x)(hrl:r.length<=16777216):
 Wp (λn=>aF n (fY (mh tbl n) n r) ((0:Int),marks d.2.1.length L,L,())) λt=>t=(marks d.2.1.length (bp L r),bp L r,()):=by
 refine aJ (N:=r.length) (I:=λi s=>s=((i:Int),marks d.2.1.length (bp L (r.take i)),bp L (r.take i),())/\(bp L (r.take i)).Nodup/\∀x∈bp L (r.take i),In d x) ⟨rfl,hL,hi⟩ ?_ ?_
 ·rintro i s hir ⟨rfl,h1,h2⟩
  have hx:=hr _ (List.getElem_mem hir)
  have hlen:=F9 h1 h2
  obtain⟨g1,g2⟩:=Ej (L:=bp L (r.take i)) hx.1 hx.2
  have hs:bp L (r.take (i+1))=bp (bp L (r.take i)) [r[i]]:=by
   rw[List.take_add_one,List.getElem?_eq_getElem hir,kL];rfl
  unfold fY
  refine bc hir (ae (au hir (a8 hx.1 g1 (aW (x:=decide (r[i]∈bp L (r.take i))) (by rw[List.getElem?_eq_getElem g1,g2]) (aN (λhb=>?_) λhb=>aa (aa ?_))))))
  ·have hb:r[i]∉bp L (r.take i):=by simpa using hb
   refine a8 hx.1 g1 (aW (x:=decide (r[i]∈bp L (r.take i))) (by rw[List.getElem?_eq_getElem g1,g2]) (ap (decide_eq_true (by simp;omega)) (aa (aa ?_))))
   have e:bp (bp L (r.take i)) [r[i]]=bp L (r.take i)++[r[i]]:=xe hb
   rw[hs,e,an hir (by omega),vp hx.1]
   refine⟨rfl,?_,λx hx'=>?_⟩
   ·rw[List.nodup_append]
    exact⟨h1,by simp,λa ha b hb'=>by simp at hb';subst hb';rintro rfl;exact hb ha⟩
   ·rcases List.mem_append.1 hx' with h|h
    ·exact h2 x h
    ·simp at h;subst h;exact hx
  ·have hb:r[i]∈bp L (r.take i):=by simpa using hb
   rw[hs,uQ hb,an hir (by omega)]
   exact⟨rfl,h1,h2⟩
 ·rintro s ⟨rfl,h1,h2⟩
  unfold fY
  refine aQ (aa ?_)
  simp only[List.take_length]
theorem ql{d:DF}(h:RW d)(hn:d.2.1.length<=16777216)(hk:d.1.length<=16777216):aP tbl fF [.d (pr [.list tI,.list (.list tI),.list tB,tI]) d] [] eD (ao d,()):=by
 refine aT rfl (aU wF rfl (λO n=>wJ O n d) ?_)
 unfold qm
 have hs:=h.start
 have hsn:d.2.2.2.1.toNat<(List.replicate d.2.1.length false).length:=by have:=hs.1;have:=hs.2;simp;omega
 refine ap (by simp only[Bool.and_eq_true,decide_eq_true_eq];omega) (a8 hs.1 hsn (aW (x:=false) (show(List.replicate d.2.1.length false)[d.2.2.2.1.toNat]? =some false from by rw[List.getElem?_eq_getElem hsn];simp) ?_))
 simp only
 refine ae (Go.Ev.wp_loop (σ:=Int×List Bool×List Int×Unit) (λs=>∃i:Nat,s=((i:Int),marks d.2.1.length (io d i).1,(io d i).1,())/\i<=(io d i).1.length) (λs=>d.2.1.length - s.1.toNat) ⟨0,?_,Nat.zero_le _⟩ ?_)
 ·rw[show(io d 0).1=[d.2.2.2.1]from rfl,<-Bg hs.1]
  rfl
 rintro s ⟨i,rfl,hil⟩
 have hlen:=gv h i
 unfold nV
 simp only
 refine aN (λhb=>?_) λhb=>aa (aa ?_)
 ·have hi:i<(io d i).1.length:=by simp only[decide_eq_true_eq]at hb;omega
  have hx:=List.getElem?_eq_getElem hi
  have hin:=fy h i _ (List.getElem_mem hi)
  obtain⟨h1,e⟩:=oV h hin
  refine au hi (aW (x:=(io d i).1[i]) hx (a8 hin.1 h1 ?_))
  refine ae (Wp.imp (uF (d:=d) hn (cI i).nodup (fy h i) _ (h.to _ (List.getElem_mem h1)) (by rw[h.rows _ (List.getElem_mem h1)];exact hk)) λr hr=>aa ?_)
  subst hr
  have es:(io d (i+1)).1=bp (io d i).1 d.2.1[(io d i).1[i].toNat]:=by
   unfold io
   rw[bG hx,e]
   simp only
   rw[nG]
  rw[an hi (by omega)]
  refine⟨⟨i+1,by rw[es],?_⟩,by simp only[Int.toNat_natCast];omega⟩
  have:=(fI (f:=a9 d) (s0:=d.2.2.2.1) (ls:=List.range d.1.length) i).1.length_le
  exact Nat.le_trans hi this
 ·have hi:(io d i).1.length<=i:=by simp only[decide_eq_false_iff_not]at hb;omega
  rw[yk h hi]
theorem r9{d:DF}(hn:d.2.1.length<=16777216){L:List Int}(hL:L.Nodup)(hi:∀x∈L,In d x)(r:List Int)(hr:∀x∈r,In d x)(hrl:r.length<=16777216):
 Wp (λn=>aF n (eW (mh tbl n) n r) ((0:Int),marks d.2.1.length L,L,())) λt=>t=(marks d.2.1.length (bp L r),bp L r,()):=by
 refine aJ (N:=r.length) (I:=λi s=>s=((i:Int),marks d.2.1.length (bp L (r.take i)),bp L (r.take i),())/\(bp L (r.take i)).Nodup/\∀x∈bp L (r.take i),In d x) ⟨rfl,hL,hi⟩ ?_ ?_
 ·rintro i s hir ⟨rfl,h1,h2⟩
  have hx:=hr _ (List.getElem_mem hir)
  have hlen:=F9 h1 h2
  obtain⟨g1,g2⟩:=Ej (L:=bp L (r.take i)) hx.1 hx.2
  have hs:bp L (r.take (i+1))=bp (bp L (r.take i)) [r[i]]:=by
   rw[List.take_add_one,List.getElem?_eq_getElem hir,kL];rfl
  unfold eW
  refine bc hir (ae (au hir (a8 hx.1 g1 (aW (x:=decide (r[i]∈bp L (r.take i))) (by rw[List.getElem?_eq_getElem g1,g2]) (aN (λhb=>?_) λhb=>aa (aa ?_))))))
  ·have hb:r[i]∉bp L (r.take i):=by simpa using hb
   refine a8 hx.1 g1 (aW (x:=decide (r[i]∈bp L (r.take i))) (by rw[List.getElem?_eq_getElem g1,g2]) (ap (decide_eq_true (by simp;omega)) (aa (aa ?_))))
   have e:bp (bp L (r.take i)) [r[i]]=bp L (r.take i)++[r[i]]:=xe hb
   rw[hs,e,an hir (by omega),vp hx.1]
   refine⟨rfl,?_,λx hx'=>?_⟩
   ·rw[List.nodup_append]
    exact⟨h1,by simp,λa ha b hb'=>by simp at hb';subst hb';rintro rfl;exact hb ha⟩
   ·rcases List.mem_append.1 hx' with h|h
    ·exact h2 x h
    ·simp at h;subst h;exact hx
  ·have hb:r[i]∈bp L (r.take i):=by simpa using hb
   rw[hs,uQ hb,an hir (by omega)]
   exact⟨rfl,h1,h2⟩
 ·rintro s ⟨rfl,h1,h2⟩
  unfold eW
  refine aQ (aa ?_)
  simp only[List.take_length]
theorem tE{d:DF}(h:RW d)(hn:d.2.1.length<=16777216)(hk:d.1.length<=16777216):aP tbl f9 [.d (pr [.list tI,.list (.list tI),.list tB,tI]) d] [] eN (ao d,()):=by
 refine aT rfl (aU uJ rfl (λO n=>uM O n d) ?_)
 unfold nT
 have hs:=h.start
 have hsn:d.2.2.2.1.toNat<(List.replicate d.2.1.length false).length:=by have:=hs.1;have:=hs.2;simp;omega
 refine ap (by simp only[Bool.and_eq_true,decide_eq_true_eq];omega) (a8 hs.1 hsn (aW (x:=false) (show(List.replicate d.2.1.length false)[d.2.2.2.1.toNat]? =some false from by rw[List.getElem?_eq_getElem hsn];simp) ?_))
 simp only
 refine ae (Go.Ev.wp_loop (σ:=Int×List Bool×List Int×Unit) (λs=>∃i:Nat,s=((i:Int),marks d.2.1.length (io d i).1,(io d i).1,())/\i<=(io d i).1.length) (λs=>d.2.1.length - s.1.toNat) ⟨0,?_,Nat.zero_le _⟩ ?_)
 ·rw[show(io d 0).1=[d.2.2.2.1]from rfl,<-Bg hs.1]
  rfl
 rintro s ⟨i,rfl,hil⟩
 have hlen:=gv h i
 unfold mt
 simp only
 refine aN (λhb=>?_) λhb=>aa (aa ?_)
 ·have hi:i<(io d i).1.length:=by simp only[decide_eq_true_eq]at hb;omega
  have hx:=List.getElem?_eq_getElem hi
  have hin:=fy h i _ (List.getElem_mem hi)
  obtain⟨h1,e⟩:=oV h hin
  refine au hi (aW (x:=(io d i).1[i]) hx (a8 hin.1 h1 ?_))
  refine ae (Wp.imp (r9 (d:=d) hn (cI i).nodup (fy h i) _ (h.to _ (List.getElem_mem h1)) (by rw[h.rows _ (List.getElem_mem h1)];exact hk)) λr hr=>aa ?_)
  subst hr
  have es:(io d (i+1)).1=bp (io d i).1 d.2.1[(io d i).1[i].toNat]:=by
   unfold io
   rw[bG hx,e]
   simp only
   rw[nG]
  rw[an hi (by omega)]
  refine⟨⟨i+1,by rw[es],?_⟩,by simp only[Int.toNat_natCast];omega⟩
  have:=(fI (f:=a9 d) (s0:=d.2.2.2.1) (ls:=List.range d.1.length) i).1.length_le
  exact Nat.le_trans hi this
 ·have hi:(io d i).1.length<=i:=by simp only[decide_eq_false_iff_not]at hb;omega
  rw[yk h hi]
end Go.Proofs.Ytbpdbooalkkenaa
namespace Go.Proofs.Ytbpdbooalkkenaa
open Go Go.Av Go.Ev Go.Pl
abbrev MW(d:DF)(s t:Int):Prop:=Eqv (a9 d) (b6 d) (List.range d.1.length) s t
def bv(B:List Int)(s:Int):Int:=B.getD s.toNat 0
theorem mu{B:List Int}{s:Int}(h:s.toNat<B.length):B[s.toNat]=bv B s:=by
 unfold bv
 simp only[List.getD_eq_getElem?_getD,List.getElem?_eq_getElem h,Option.getD_some]
theorem qR{B:List Int}{s t x:Int}(hs:0<=s)(ht:0<=t)(hl:s.toNat<B.length):bv (B.set s.toNat x) t=if t=s then x else bv B t:=by
 unfold bv
 simp only[List.getD_eq_getElem?_getD,List.getElem?_set]
 by_cases h:t=s
 ·subst h;simp[hl]
 ·have:s.toNat≠t.toNat:=λe=>h (by omega)
  simp[this,h]
def Ot(d:DF)(B:List Int)(s t:Int):Prop:=bv B s=bv B t/\∀c,c<d.1.length->bv B (a9 d s c)=bv B (a9 d t c)
section
variable {d:DF} {P:Int->Prop} {B B':List Int} {m m':Nat}
structure Rng(P:Int->Prop)(B:List Int)(m:Nat):Prop where
 rng:∀s,P s->0<=bv B s/\bv B s<(m:Int)
 onto:∀i:Nat,i<m->∃s,P s/\bv B s=(i:Int)
structure Weak(d:DF)(P:Int->Prop)(B:List Int):Prop where
 coarse:∀s t,P s->P t->MW d s t->bv B s=bv B t
 acc:∀s t,P s->P t->bv B s=bv B t->b6 d s=b6 d t
structure RefOk(d:DF)(P:Int->Prop)(B B':List Int)(m':Nat):Prop where
 rng:Rng P B' m'
 ref:∀s t,P s->P t->(bv B' s=bv B' t↔Ot d B s t)
structure BlkOk(d:DF)(P:Int->Prop)(B:List Int)(m:Nat):Prop where
 rng:Rng P B m
 eqv:∀s t,P s->P t->(bv B s=bv B t↔MW d s t)
theorem wW{l:List Int}(hg:Rng (·∈l) B m):m<=l.length:=by
 obtain⟨rep,hrep⟩:∃rep:Nat->Int,∀i,i<m->rep i∈l/\bv B (rep i)=(i:Int):=
  ⟨λi=>if h:i<m then Classical.choose (hg.onto i h)else 0,λi hi=>by simp only[hi,dif_pos];exact Classical.choose_spec (hg.onto i hi)⟩
 have hnd:((List.range m).map rep).Nodup:=by
  rw[List.nodup_iff_pairwise_ne,List.pairwise_map]
  refine List.Pairwise.imp_of_mem ?_ (List.nodup_iff_pairwise_ne.1 List.nodup_range)
  intro i j hi hj hij he
  have:=(hrep i (List.mem_range.1 hi)).2
  rw[he,(hrep j (List.mem_range.1 hj)).2]at this
  omega
 have:=gM _ l hnd λx hx=>by
  obtain⟨i,hi,rfl⟩:=List.mem_map.1 hx
  exact(hrep i (List.mem_range.1 hi)).1
 simpa using this
theorem Hc(n:Nat)(s:Int):bv (List.replicate n 0) s=0:=by
 unfold bv
 rw[List.getD_eq_getElem?_getD,List.getElem?_replicate]
 split<;>rfl
theorem uC(hP:∀s c,c<d.1.length->P s->P (a9 d s c))(hw:Weak d P B)(hr:RefOk d P B B' m'):Weak d P B':=
 ⟨λs t hs ht he=>(hr.ref s t hs ht).2 ⟨hw.coarse s t hs ht he,λc hc=>hw.coarse _ _ (hP s c hc hs) (hP t c hc ht) (he.step (List.mem_range.2 hc))⟩,
  λs t hs ht he=>hw.acc s t hs ht ((hr.ref s t hs ht).1 he).1⟩
theorem EK(hg:Rng P B m)(hr:RefOk d P B B' m'):m<=m':=by
 rcases Nat.eq_zero_or_pos m with rfl|hm
 ·exact Nat.zero_le _
 obtain⟨s0,hs0,_⟩:=hg.onto 0 hm
 obtain⟨rep,hrep⟩:∃rep:Nat->Int,∀i,i<m->P (rep i)/\bv B (rep i)=(i:Int):=
  ⟨λi=>if h:i<m then Classical.choose (hg.onto i h)else 0,λi hi=>by simp only[hi,dif_pos];exact Classical.choose_spec (hg.onto i hi)⟩
 have hnd:((List.range m).map λi=>bv B' (rep i)).Nodup:=by
  rw[List.nodup_iff_pairwise_ne,List.pairwise_map]
  refine List.Pairwise.imp_of_mem ?_ (List.nodup_iff_pairwise_ne.1 List.nodup_range)
  intro i j hi hj hij he
  have hi:=List.mem_range.1 hi
  have hj:=List.mem_range.1 hj
  have:=((hr.ref _ _ (hrep i hi).1 (hrep j hj).1).1 he).1
  rw[(hrep i hi).2,(hrep j hj).2]at this
  omega
 have:=gM _ (cy m') hnd λx hx=>by
  obtain⟨i,hi,rfl⟩:=List.mem_map.1 hx
  exact rangeI_mem.2 (hr.rng.rng _ (hrep i (List.mem_range.1 hi)).1)
 simpa[fB]using this
theorem EL(hP:∀s c,c<d.1.length->P s->P (a9 d s c))(hw:Weak d P B)(hg:Rng P B m)(hr:RefOk d P B B' m):BlkOk d P B' m:=by
 have hsame:∀s t,P s->P t->bv B s=bv B t->bv B' s=bv B' t:=λs t hs ht he=>
  CJ (P:=P) (b:=bv B) (b':=bv B') hg.onto hr.rng.rng (λs t hs ht he=>((hr.ref s t hs ht).1 he).1) hs ht he
 refine⟨hr.rng,λs t hs ht=>⟨λhe=>?_,λhe=>(uC hP hw hr).coarse s t hs ht he⟩⟩
 refine GU (P:=P) (b:=bv B') (λs c hc=>hP s c (List.mem_range.1 hc)) (uC hP hw hr).acc (λs t c hc hs ht he=>?_) hs ht he
 have hc:=List.mem_range.1 hc
 exact hsame _ _ (hP s c hc hs) (hP t c hc ht) (((hr.ref s t hs ht).1 he).2 c hc)
end
section
variable {κ:Type} [DecidableEq κ]
structure Keyed(key:Int->κ)(l:List Int)(K:List κ)(B:List Int):Prop where
 nodup:K.Nodup
 num:∀s∈l,bv B s=(pos K (key s):Int)/\key s∈K
 onto:∀x∈K,∃s∈l,key s=x
theorem CE{K:List κ}{x y:κ}(hx:x∈K)(h:pos K x=pos K y):x=y:=by
 have h1:=pos_lt.1 hx
 have e1:K[pos K x]? =some x:=by
  unfold pos at h1⊢
  rw[List.getElem?_eq_getElem h1,List.getElem_idxOf]
 have h2:pos K y<K.length:=by rw[<-h];exact h1
 have e2:K[pos K y]? =some y:=by
  unfold pos at h2⊢
  rw[List.getElem?_eq_getElem h2,List.getElem_idxOf]
 rw[h]at e1
 exact Option.some.inj (e1.symm.trans e2)
theorem Keyed.refOk{key:Int->κ}{l:List Int}{K:List κ}{d:DF}{B B':List Int}(h:Keyed key l K B')(hk:∀s∈l,∀t∈l,key s=key t↔Ot d B s t):RefOk d (·∈l) B B' K.length:=by
 refine⟨⟨λs hs=>?_,λi hi=>?_⟩,λs t hs ht=>?_⟩
 ·obtain⟨h1,h2⟩:=h.num s hs
  have:=pos_lt.1 h2
  omega
 ·obtain⟨s,hs,e⟩:=h.onto _ (List.getElem_mem hi)
  refine⟨s,hs,?_⟩
  rw[(h.num s hs).1,e]
  unfold pos
  rw[List.Nodup.idxOf_getElem h.nodup]
 ·obtain⟨h1,h2⟩:=h.num s hs
  obtain⟨g1,g2⟩:=h.num t ht
  rw[<-hk s hs t ht,h1,g1]
  exact⟨λe=>CE h2 (by omega),λe=>by rw[e]⟩
theorem Keyed.old{key:Int->κ}{l:List Int}{K:List κ}{B:List Int}(h:Keyed key l K B)(hl:∀s∈l,0<=s){v:Int}(hv:0<=v)(hb:v.toNat<B.length)(hk:key v∈K):Keyed key (l++[v]) K (B.set v.toNat (pos K (key v):Int)):=by
 refine⟨h.nodup,λs hs=>?_,λx hx=>?_⟩
 ·rcases List.mem_append.1 hs with hs|hs
  ·rw[qR hv (hl s hs) hb]
   split
   ·rename_i e;subst e;exact⟨rfl,hk⟩
   ·exact h.num s hs
  ·simp at hs;subst hs
   rw[qR hv hv hb,if_pos rfl];exact⟨rfl,hk⟩
 ·obtain⟨s,hs,e⟩:=h.onto x hx
  exact⟨s,List.mem_append_left _ hs,e⟩
theorem Keyed.new{key:Int->κ}{l:List Int}{K:List κ}{B:List Int}(h:Keyed key l K B)(hl:∀s∈l,0<=s){v:Int}(hv:0<=v)(hb:v.toNat<B.length)(hk:key v∉K):Keyed key (l++[v]) (K++[key v]) (B.set v.toNat (K.length:Int)):=by
 have hp:pos (K++[key v]) (key v)=K.length:=by
  unfold pos
  rw[List.idxOf_append,if_neg hk];simp
 have hold:∀s∈l,pos (K++[key v]) (key s)=pos K (key s):=λs hs=>vh (List.prefix_append _ _) (h.num s hs).2
 refine⟨?_,λs hs=>?_,λx hx=>?_⟩
 ·rw[List.nodup_append]
  exact⟨h.nodup,by simp,λa ha b hb=>by simp at hb;subst hb;rintro rfl;exact hk ha⟩
 ·rcases List.mem_append.1 hs with hs1|hs
  ·rw[qR hv (hl s hs1) hb]
   split
   ·rename_i e;rw[e]at hs1;exact absurd (h.num v hs1).2 hk
   ·rw[hold s hs1];exact⟨(h.num s hs1).1,List.mem_append_left _ (h.num s hs1).2⟩
  ·simp at hs;subst hs
   rw[qR hv hv hb,if_pos rfl,hp];exact⟨rfl,by simp⟩
 ·rcases List.mem_append.1 hx with hx|hx
  ·obtain⟨s,hs,e⟩:=h.onto x hx
   exact⟨s,List.mem_append_left _ hs,e⟩
  ·simp at hx;subst hx;exact⟨v,by simp,rfl⟩
theorem Keyed.len{key:Int->κ}{l:List Int}{K:List κ}{B:List Int}(h:Keyed key l K B):K.length<=l.length:=by
 have:=gM K (l.map key) h.nodup λx hx=>by
  obtain⟨s,hs,e⟩:=h.onto x hx
  exact List.mem_map.2 ⟨s,hs,e⟩
 simpa using this
end
end Go.Proofs.Ytbpdbooalkkenaa
namespace Go.Proofs.Ytbpdbooalkkenaa
open Go Go.Av Go.Ev Go.Pl
def Lv(v:Int):List Int:=[IntKind.wrap .u8 (Int.fdiv v (2^(min (Int.toNat (8:Int)) (IntKind.bits .i64)))),IntKind.wrap .u8 v]
def NH(n:Int):UInt8:=UInt8.ofNat n.toNat
def gw(d:DF)(B:List Int)(s:Int):List Int:=bv B s::(List.range d.1.length).map λc=>bv B (a9 d s c)
def CK(d:DF)(B:List Int)(s:Int):List UInt8:=((gw d B s).flatMap Lv).map NH
theorem Im{x y:Int}(hx:0<=x/\x<256)(hy:0<=y/\y<256)(h:NH x=NH y):x=y:=by
 have:=congrArg UInt8.toNat h
 unfold NH at this
 rw[UInt8.toNat_ofNat',UInt8.toNat_ofNat']at this
 omega
theorem B0{v:Int}(h:0<=v/\v<65536):Lv v=[v/256,v%256]:=by
 unfold Lv
 rw[wrap_u8,wrap_u8,show(2:Int)^(min (Int.toNat (8:Int)) (IntKind.bits .i64))=256 from rfl,Int.fdiv_eq_ediv_of_nonneg _ (by omega)]
 rw[Int.emod_eq_of_lt (show 0<=v/256 by omega) (by omega)]
theorem Ig:∀(l l':List Int),(∀v∈l,0<=v/\v<65536)->(∀v∈l',0<=v/\v<65536)->(l.flatMap Lv).map NH=(l'.flatMap Lv).map NH->l=l'
 |[],[],_,_,_=>rfl
 |[],v::l',_,h',h=>by
  rw[List.flatMap_cons,B0 (h' v (by simp))]at h;simp at h
 |v::l,[],h',_,h=>by
  rw[List.flatMap_cons,B0 (h' v (by simp))]at h;simp at h
 |v::l,u::l',hl,hl',h=>by
  have hv:=hl v (by simp)
  have hu:=hl' u (by simp)
  rw[List.flatMap_cons,List.flatMap_cons,B0 hv,B0 hu]at h
  simp only[List.cons_append,List.nil_append,List.map_cons,List.cons.injEq]at h
  have h1:=Im (by omega) (by omega) h.1
  have h2:=Im (by omega) (by omega) h.2.1
  rw[Ig l l' (λx hx=>hl x (List.mem_cons_of_mem _ hx)) (λx hx=>hl' x (List.mem_cons_of_mem _ hx)) h.2.2,show v=u by omega]
theorem key_ref{d:DF}{B:List Int}{s t:Int}:gw d B s=gw d B t↔Ot d B s t:=by
 unfold gw Ot
 rw[List.cons.injEq]
 refine and_congr Iff.rfl ?_
 rw[List.map_inj_left]
 exact⟨λh c hc=>h c (List.mem_range.2 hc),λh c hc=>h c (List.mem_range.1 hc)⟩
theorem wq{d:DF}(h:RW d)(hk:d.1.length<=16777216){B:List Int}(hB:B.length=d.2.1.length){s:Int}(hs:In d s):aP tbl iR [.d (pr [.list tI,.list (.list tI),.list tB,tI]) d,.d (.list tI) B,.d tI s] [] fK (CK d B s,()):=by
 refine aT rfl (aU wG rfl (λO n=>wK O n d B s) ?_)
 unfold qn
 simp only
 rw[wrap_i64 (n:=(2:Int)*(d.1.length:Int)) (by omega) (by omega),wrap_i64 (by omega) (by omega)]
 have hsl:s.toNat<B.length:=by have:=hs.1;have:=hs.2;omega
 obtain⟨h1,e⟩:=oV h hs
 refine ap (by simp only[Bool.and_eq_true,decide_eq_true_eq];omega) (a8 hs.1 hsl (ap rfl (a8 hs.1 hsl (ap rfl (a8 hs.1 h1 ?_)))))
 rw[mu hsl,e]
 have hrow:∀i (hi:i<((List.range d.1.length).map (a9 d s)).length),((List.range d.1.length).map (a9 d s))[i]=a9 d s i:=λi hi=>by simp
 refine ae (aJ (N:=((List.range d.1.length).map (a9 d s)).length) (I:=λi t=>t=((i:Int),(bv B s::(List.range i).map λc=>bv B (a9 d s c)).flatMap Lv,())) (by simp[Lv]) ?_ ?_)
 ·rintro i t hi rfl
  have hik:i<d.1.length:=by simpa using hi
  have hin:=oO h hs hik
  have hcl:(a9 d s i).toNat<B.length:=by have:=hin.1;have:=hin.2;omega
  unfold jq
  refine bc hi (au hi ?_)
  rw[hrow i hi]
  refine a8 hin.1 hcl (ap rfl (a8 hin.1 hcl (ap (decide_eq_true ?_) (aa ?_))))
  ·have hfl:((bv B s::(List.range i).map λc=>bv B (a9 d s c)).flatMap Lv).length=2*(i+1):=by
    rw[List.length_flatMap,show(λa=>(Lv a).length)=λ_=>2 from rfl,List.map_const',List.sum_replicate_nat]
    simp;omega
   simp only[hfl,List.length_cons,List.length_nil]
   omega
  ·rw[mu hcl,an hi (by simp at hi⊢;omega),List.range_succ,List.map_append,<-List.cons_append,List.flatMap_append]
   simp[Lv]
 ·rintro t rfl
  unfold jq
  refine aQ (aa (aa ?_))
  simp only[List.length_map,List.length_range]
  rfl
def Jz:Nat->List (List UInt8)->List (List UInt8×Int)
 |_,[]=>[]
 |k,x::l=>(x,(k:Int))::Jz (k+1) l
theorem Hp(x y:List UInt8):wB tS x y=decide (x=y):=by
 show(x==y)=_
 by_cases h:x=y<;>simp[h]
theorem Kd(y:List UInt8):∀(L:List (List UInt8)) (k:Nat),fJ tS tI (Jz k L) y=if y∈L then some (((k+pos L y:Nat):Int))else none
 |[],k=>by simp[Jz,fJ]
 |x::L,k=>by
  have ih:=Kd y L (k+1)
  simp only[Jz,fJ]
  rw[Hp y x,ih]
  by_cases h:y=x
  ·subst h;simp[pos_eq]
  ·have h':x≠y:=λe=>h e.symm
   rw[decide_eq_false h]
   have e:pos (x::L) y=pos L y+1:=yf h'
   simp only[cond_false,List.mem_cons,h,false_or,e]
   split
   ·congr 1;omega
   ·rfl
theorem Ke(y:List UInt8):∀(L:List (List UInt8)) (k:Nat),y∉L->jS tS tI (Jz k L) y (((k+L.length:Nat):Int))=Jz k (L++[y])
 |[],k,_=>by simp[Jz,jS]
 |x::L,k,h=>by
  have h1:y≠x:=λe=>h (by simp[e])
  have h2:y∉L:=λe=>h (by simp[e])
  have ih:=Ke y L (k+1) h2
  simp only[List.cons_append,Jz,jS]
  rw[Hp y x,decide_eq_false h1]
  simp only[cond_false,List.length_cons]
  rw[show k+(L.length+1)=k+1+L.length by omega,ih]
theorem rS:∀(L:List (List UInt8)) (k:Nat),(Jz k L).length=L.length
 |[],_=>rfl
 |_::L,k=>by simp[Jz,rS L (k+1)]
theorem uD{d:DF}(h:RW d)(hk:d.1.length<=16777216){B:List Int}(hB:B.length=d.2.1.length){l:List Int}(hl:∀s∈l,In d s)(hll:l.length<=16777216):
 Wp (λn=>aF n (jp (mh tbl n) n d l) ((0:Int),B,([]:List (List UInt8×Int)),List.replicate d.2.1.length 0,())) λr=>∃K B',r=(Jz 0 K,B',())/\Keyed (CK d B) l K B'/\B'.length=d.2.1.length:=by
 refine aJ (N:=l.length) (I:=λi s=>∃K B',s=((i:Int),B,Jz 0 K,B',())/\Keyed (CK d B) (l.take i) K B'/\B'.length=d.2.1.length) ⟨[],List.replicate d.2.1.length 0,rfl,⟨by simp,by simp,by simp⟩,by simp⟩ ?_ ?_
 ·rintro i s hi ⟨K,B',rfl,hK,hB'⟩
  have hin:=hl _ (List.getElem_mem hi)
  have hbl:(l[i]).toNat<B'.length:=by have:=hin.1;have:=hin.2;omega
  have htake:l.take (i+1)=l.take i++[l[i]]:=by rw[List.take_add_one,List.getElem?_eq_getElem hi];rfl
  have hnn:∀s∈l.take i,0<=s:=λs hs=>(hl s (List.mem_of_mem_take hs)).1
  have hKl:=hK.len
  have hti:(l.take i).length<=l.length:=by simp;omega
  unfold jp
  refine bc hi (au hi (ar (wq h hk hB hin) ?_))
  have hkv:=Kd (CK d B l[i]) K 0
  by_cases hm:CK d B l[i]∈K
  ·rw[if_pos hm]at hkv
   refine ae (aN (λhc=>by rw[hkv]at hc;simp at hc) λ_=>aa ?_)
   refine a8 hin.1 hbl (aW (x:=B'[(l[i]).toNat]) (List.getElem?_eq_getElem hbl) (aa ?_))
   rw[hkv,an hi (by omega),htake]
   refine⟨K,B'.set (l[i]).toNat (pos K (CK d B l[i]):Int),by simp,hK.old hnn hin.1 hbl hm,by simpa using hB'⟩
  ·rw[if_neg hm]at hkv
   have hset:=Ke (CK d B l[i]) K 0 hm
   simp only[Nat.zero_add]at hset
   refine ae (aN (λ_=>ap (decide_eq_true (by rw[rS];simp only[maxLen];omega)) (aa ?_)) λhc=>by rw[hkv]at hc;simp at hc)
   refine a8 hin.1 hbl (aW (x:=B'[(l[i]).toNat]) (List.getElem?_eq_getElem hbl) (aa ?_))
   rw[an hi (by omega),htake]
   refine⟨K++[CK d B l[i]],B'.set (l[i]).toNat (K.length:Int),?_,hK.new hnn hin.1 hbl hm,by simpa using hB'⟩
   rw[<-hset,rS]
 ·rintro s ⟨K,B',rfl,hK,hB'⟩
  rw[List.take_length]at hK
  unfold jp
  exact aQ (aa ⟨K,B',rfl,hK,hB'⟩)
theorem BN{d:DF}(h:RW d)(hk:d.1.length<=16777216)(hn:d.2.1.length<=65536):∃c:List Int×Int×Unit,(∃m:Nat,c.2.1=(m:Int)/\m<=d.2.1.length/\BlkOk d (·∈ao d) c.1 m/\c.1.length=d.2.1.length)/\
 aP tbl mC [.d (pr [.list tI,.list (.list tI),.list tB,tI]) d,.d (.list tI) (ao d)] [] gN c:=by
 refine jA (sh:=gN) (λ_=>rfl) (aU CV rfl (λO n=>C2 O n d (ao d)) ?_)
 unfold tG
 have hl:∀s∈ao d,In d s:=fy h _
 have hll:(ao d).length<=d.2.1.length:=gv h _
 have hl0:(ao d)[0]? =some d.2.2.2.1:=(cI _).head
 have hlp:0<(ao d).length:=(List.getElem?_eq_some_iff.1 hl0).1
 have hP:∀s c,c<d.1.length->s∈ao d->a9 d s c∈ao d:=λs c hc hs=>bJ h s hs c hc
 have hacc:∀s,In d s->∃h1:s.toNat<d.2.2.1.length,d.2.2.1[s.toNat]=b6 d s:=λs hs=>by
  have h1:s.toNat<d.2.2.1.length:=by have:=h.len.2;have:=hs.1;have:=hs.2;omega
  exact⟨h1,by unfold b6;simp only[List.getD_eq_getElem?_getD,List.getElem?_eq_getElem h1,Option.getD_some]⟩
 refine ap (by simp only[Bool.and_eq_true,decide_eq_true_eq];omega) ?_
 refine ae (aJ (N:=(ao d).length) (I:=λi s=>∃(B:List Int) (cnt:Int),s=(cnt,(i:Int),B,())/\B.length=d.2.1.length/\
  (∀s,0<=s->bv B s=if s∈(ao d).take i/\b6 d s≠b6 d d.2.2.2.1 then 1 else 0)/\
  ((cnt=1/\∀s∈(ao d).take i,b6 d s=b6 d d.2.2.2.1)\/(cnt=2/\∃s∈(ao d).take i,b6 d s≠b6 d d.2.2.2.1)))
  ⟨List.replicate d.2.1.length 0,1,rfl,by simp,λs _=>by rw[Hc];simp,.inl ⟨rfl,by simp⟩⟩ ?_ ?_)
 ·rintro i s hi ⟨B,cnt,rfl,hB,hbv,hcnt⟩
  have hin:=hl _ (List.getElem_mem hi)
  obtain⟨a1,a2⟩:=hacc _ hin
  obtain⟨b1,b2⟩:=hacc _ h.start
  have htake:(ao d).take (i+1)=(ao d).take i++[(ao d)[i]]:=by rw[List.take_add_one,List.getElem?_eq_getElem hi];rfl
  have hbl:((ao d)[i]).toNat<B.length:=by have:=hin.1;have:=hin.2;omega
  unfold m9
  refine bc hi (ae (au hi (a8 hin.1 a1 (gF (x:=d.2.2.2.1) (by simp) hl0 (a8 h.start.1 b1 ?_)))))
  rw[a2,b2]
  refine aN (λhc=>?_) λhc=>aa (aa ?_)
  ·have hc:b6 d (ao d)[i]≠b6 d d.2.2.2.1:=by simpa using hc
   refine a8 hin.1 hbl (aW (x:=B[((ao d)[i]).toNat]) (List.getElem?_eq_getElem hbl) (aa (aa ?_)))
   rw[an hi (by omega)]
   refine⟨_,2,rfl,by simpa using hB,λs hs=>?_,.inr ⟨rfl,(ao d)[i],(by rw[htake];exact List.mem_append_right _ (List.mem_singleton_self _)),hc⟩⟩
   rw[qR hin.1 hs hbl,hbv s hs,htake]
   by_cases e:s=(ao d)[i]
   ·rw[if_pos e,if_pos ⟨by rw[e];exact List.mem_append_right _ (List.mem_singleton_self _),by rw[e];exact hc⟩]
   ·rw[if_neg e]
    have hm:s∈(ao d).take i++[(ao d)[i]]↔s∈(ao d).take i:=by rw[List.mem_append,List.mem_singleton];exact⟨λh=>h.resolve_right e,.inl⟩
    simp only[hm]
  ·have hc:b6 d (ao d)[i]=b6 d d.2.2.2.1:=by simpa using hc
   rw[an hi (by omega)]
   refine⟨B,cnt,rfl,hB,λs hs=>?_,?_⟩
   ·rw[hbv s hs,htake]
    by_cases e:s=(ao d)[i]
    ·rw[if_neg λh=>h.2 (by rw[e];exact hc),if_neg λh=>h.2 (by rw[e];exact hc)]
    ·have hm:s∈(ao d).take i++[(ao d)[i]]↔s∈(ao d).take i:=by rw[List.mem_append,List.mem_singleton];exact⟨λh=>h.resolve_right e,.inl⟩
     simp only[hm]
   ·rw[htake]
    rcases hcnt with⟨h1,h2⟩|⟨h1,s,h2,h3⟩
    ·refine .inl ⟨h1,λs hs=>?_⟩
     rcases List.mem_append.1 hs with hs|hs
     ·exact h2 s hs
     ·simp at hs;subst hs;exact hc
    ·exact .inr ⟨h1,s,List.mem_append_left _ h2,h3⟩
 ·rintro s ⟨B,cnt,rfl,hB,hbv,hcnt⟩
  rw[List.take_length]at hbv hcnt
  unfold m9
  refine aQ (aa ?_)
  have hst:=dQ (d:=d)
  have hw:Weak d (·∈ao d) B:=by
   refine⟨λs t hs ht he=>?_,λs t hs ht he=>?_⟩
   ·rw[hbv s (hl s hs).1,hbv t (hl t ht).1,he.nil]
    simp[hs,ht]
   ·rw[hbv s (hl s hs).1,hbv t (hl t ht).1]at he
    simp only[hs,ht,true_and]at he
    generalize b6 d d.2.2.2.1=z at he
    cases h1:b6 d s<;>cases h2:b6 d t<;>cases z<;>simp_all
  have hg:∃m:Nat,cnt=(m:Int)/\Rng (·∈ao d) B m:=by
   rcases hcnt with⟨rfl,h2⟩|⟨rfl,s1,h2,h3⟩
   ·refine⟨1,rfl,λs hs=>?_,λi hi=>⟨_,hst,?_⟩⟩
    ·rw[hbv s (hl s hs).1];simp[h2 s hs]
    ·rw[hbv _ h.start.1];simp;omega
   ·refine⟨2,rfl,λs hs=>?_,λi hi=>?_⟩
    ·rw[hbv s (hl s hs).1];split<;>omega
    ·rcases Nat.eq_zero_or_pos i with rfl|hp
     ·exact⟨_,hst,by rw[hbv _ h.start.1];simp⟩
     ·exact⟨s1,h2,by rw[hbv _ (hl _ h2).1,if_pos ⟨h2,h3⟩];omega⟩
  obtain⟨m,rfl,hg⟩:=hg
  refine ae (Go.Ev.wp_loop (σ:=Int×List Int×Unit) (λs=>∃(m:Nat) (B:List Int),s=((m:Int),B,())/\B.length=d.2.1.length/\Weak d (·∈ao d) B/\Rng (·∈ao d) B m) (λs=>d.2.1.length+1 - s.1.toNat) ⟨m,B,rfl,hB,hw,hg⟩ ?_)
  rintro s ⟨m,B,rfl,hB,hw,hg⟩
  have hmn:m<=d.2.1.length:=Nat.le_trans (wW hg) hll
  unfold qK
  refine ap (by simp only[Bool.and_eq_true,decide_eq_true_eq];omega) (ae (Wp.imp (uD h hk hB hl (by omega)) λr hr=>?_))
  obtain⟨K,B',rfl,hK,hB'⟩:=hr
  have hr:RefOk d (·∈ao d) B B' K.length:=hK.refOk λs hs t ht=>by
   rw[<-key_ref]
   have hrange:∀s∈ao d,∀v∈gw d B s,0<=v/\v<65536:=λs hs v hv=>by
    have hb:∀s∈ao d,0<=bv B s/\bv B s<65536:=λs hs=>by have:=hg.rng s hs;omega
    rcases List.mem_cons.1 hv with rfl|hv
    ·exact hb s hs
    ·obtain⟨c,hc,rfl⟩:=List.mem_map.1 hv
     exact hb _ (hP s c (List.mem_range.1 hc) hs)
   exact⟨λe=>Ig _ _ (hrange s hs) (hrange t ht) e,λe=>by unfold CK;rw[e]⟩
  have hgrow:=EK hg hr
  refine aN (λhc=>aa (aa ⟨_,rfl,K.length,?_,Nat.le_trans (wW hr.rng) hll,?_,hB'⟩)) λhc=>aa ?_
  ·rw[rS]at hc
   have hc:(K.length:Int)=(m:Int):=by simpa using hc
   exact hc.symm
  ·rw[rS]at hc
   have hc:(K.length:Int)=(m:Int):=by simpa using hc
   have hc:K.length=m:=by omega
   rw[hc]at hr⊢
   exact EL hP hw hg hr
  ·rw[rS]at hc⊢
   have hc:(K.length:Int)≠(m:Int):=by simpa using hc
   have hK2:=wW hr.rng
   refine⟨⟨K.length,B',rfl,hB',uC hP hw hr,hr.rng⟩,?_⟩
   simp only[Int.toNat_natCast]
   omega
end Go.Proofs.Ytbpdbooalkkenaa
namespace Go.Proofs.Ytbpdbooalkkenaa
open Go Go.Av Go.Ev Go.Pl
theorem y5{d:DF}(h:RW d)(hk:d.1.length<=16777216){B:List Int}(hB:B.length=d.2.1.length){s t:Int}(hs:In d s)(ht:In d t):aP tbl kF [.d (pr [.list tI,.list (.list tI),.list tB,tI]) d,.d (.list tI) B,.d tI s,.d tI t] [] eT (decide (gw d B s=gw d B t),()):=by
 refine aT rfl (aU z8 rfl (λO n=>Ao O n d B s t) ?_)
 unfold sx
 have hsl:s.toNat<B.length:=by have:=hs.1;have:=hs.2;omega
 have htl:t.toNat<B.length:=by have:=ht.1;have:=ht.2;omega
 obtain⟨h1,e⟩:=oV h hs
 obtain⟨h2,e2⟩:=oV h ht
 refine a8 hs.1 hsl (a8 ht.1 htl ?_)
 rw[mu hsl,mu htl]
 refine aN (λhc=>aa ?_) λhc=>?_
 ·have hc:bv B s≠bv B t:=by simpa using hc
  rw[decide_eq_false λe=>hc (key_ref.1 e).1]
 have hc:bv B s=bv B t:=by simpa using hc
 refine a8 hs.1 h1 ?_
 rw[e]
 refine ae (tw (N:=((List.range d.1.length).map (a9 d s)).length) (good:=λi=>bv B (a9 d s i)=bv B (a9 d t i)) (e:=(false,())) (g:=()) (λi hi=>?_) ?_ (λhg=>aa ?_) (λhb=>aa ?_))
 ·have hik:i<d.1.length:=by simpa using hi
  have hml:((List.range d.1.length).map (a9 d s)).length=d.1.length:=by simp
  have hin:=oO h hs hik
  have hin2:=oO h ht hik
  have hcl:(a9 d s i).toNat<B.length:=by have:=hin.1;have:=hin.2;omega
  have hcl2:(a9 d t i).toNat<B.length:=by have:=hin2.1;have:=hin2.2;omega
  unfold l6
  refine bc hi (ly (x:=a9 d s i) (by simp[hik]) (a8 hin.1 hcl (a8 ht.1 h2 ?_)))
  rw[e2]
  refine ly (x:=a9 d t i) (by simp[hik]) (a8 hin2.1 hcl2 (gT ?_ (by rw[an hi (by omega)])))
  rw[mu hcl,mu hcl2]
  simp
 ·unfold l6
  exact aQ (aa rfl)
 ·rw[decide_eq_true (key_ref.2 ⟨hc,λc hcc=>hg c (by simpa using hcc)⟩)]
 ·obtain⟨i,hi,hn⟩:=hb
  rw[decide_eq_false λe=>hn ((key_ref.1 e).2 i (by simpa using hi))]
theorem uf{d:DF}(h:RW d)(hk:d.1.length<=16777216){B:List Int}(hB:B.length=d.2.1.length){s:Int}(hs:In d s){F:List Int}(hF:∀x∈F,In d x)(hFl:F.length<=16777216)(nx:List Int)(z:Int×List Int×List Int×List Int×Unit)(hz:z.1=s):
 Wp (λn=>aF n (j9 (mh tbl n) n d z) ((0:Int),B,F,nx,())) λr=>r=((pos (F.map (gw d B)) (gw d B s):Int),B,F,nx,()):=by
 subst hz
 refine Go.Ev.wp_loop (σ:=Int×List Int×List Int×List Int×Unit) (λs=>∃k:Nat,s=((k:Int),B,F,nx,())/\k<=F.length/\∀j x,j<k->(F.map (gw d B))[j]? =some x->x≠gw d B z.1) (λs=>F.length - s.1.toNat) ⟨0,rfl,by omega,λj x h=>absurd h (by omega)⟩ ?_
 rintro s ⟨k,rfl,h1,h2⟩
 unfold j9
 simp only
 by_cases hkl:k<F.length
 ·have hx:=List.getElem?_eq_getElem hkl
  have hxm:(F.map (gw d B))[k]? =some (gw d B F[k]):=by rw[List.getElem?_map,hx];rfl
  refine ae (eb (b:=decide (gw d B F[k]≠gw d B z.1)) (λ_=>au hkl (aW (x:=F[k]) hx (ar (y5 h hk hB hs (hF _ (List.getElem_mem hkl))) (aa ?_)))) ?_)
  ·show(!decide (gw d B z.1=gw d B F[k]))=_
   by_cases e:gw d B z.1=gw d B F[k]
   ·simp[e]
   ·have e':gw d B F[k]≠gw d B z.1:=λh=>e h.symm
    simp[e,e']
  ·have hlt:decide ((k:Int)<(F.length:Int))=true:=decide_eq_true (by omega)
   rw[hlt,Bool.true_and]
   refine aN (λhc=>aa ?_) λhc=>aa ?_
   ·have hc:gw d B F[k]≠gw d B z.1:=by simpa using hc
    rw[an hkl (by omega)]
    refine⟨⟨k+1,rfl,hkl,λj x hj hx'=>?_⟩,by simp only[Int.toNat_natCast];omega⟩
    rcases Nat.lt_succ_iff_lt_or_eq.1 hj with hl|rfl
    ·exact h2 j x hl hx'
    ·rw[hxm]at hx';cases hx';exact hc
   ·have hc:gw d B F[k]=gw d B z.1:=by simpa using hc
    rw[vz (by simpa using h1) h2 λx hx'=>by rw[hxm]at hx';cases hx';exact hc]
 ·have hlt:decide ((k:Int)<(F.length:Int))=false:=decide_eq_false (by omega)
  rw[hlt]
  refine ae (aa (aa ?_))
  rw[vz (by simpa using h1) h2 λx hx'=>by rw[List.getElem?_eq_none (by simp;omega)]at hx';cases hx']
theorem I5{n i:Nat}(h:i<n):∃h1:i<(cy n).length,(cy n)[i]=(i:Int):=by
 have h1:i<(cy n).length:=by rw[fB];exact h
 have:=i6 h
 rw[List.getElem?_eq_getElem h1]at this
 exact⟨h1,Option.some.inj this⟩
theorem r8{d:DF}(h:RW d)(hk:d.1.length<=16777216)(hn:d.2.1.length<=16777216){B:List Int}(hB:B.length=d.2.1.length):
 Wp (λn=>aF n (gH (mh tbl n) n d) ((0:Int),B,([]:List Int),List.replicate d.2.1.length 0,())) λr=>∃F B',r=(F,B',())/\Keyed (gw d B) (cy d.2.1.length) (F.map (gw d B)) B'/\B'.length=d.2.1.length:=by
 refine aJ (N:=d.2.1.length) (I:=λi s=>∃F B',s=((i:Int),B,F,B',())/\Keyed (gw d B) ((cy d.2.1.length).take i) (F.map (gw d B)) B'/\B'.length=d.2.1.length/\∀x∈F,In d x) ⟨[],List.replicate d.2.1.length 0,rfl,⟨by simp,by simp,by simp⟩,by simp,by simp⟩ ?_ ?_
 ·rintro i s hi ⟨F,B',rfl,hK,hB',hF⟩
  obtain⟨hi',ei⟩:=I5 hi
  have hin:In d (i:Int):=⟨by omega,by omega⟩
  have hbl:((i:Int)).toNat<B'.length:=by omega
  have htake:(cy d.2.1.length).take (i+1)=(cy d.2.1.length).take i++[(i:Int)]:=by rw[List.take_add_one,i6 hi];rfl
  have hnn:∀s∈(cy d.2.1.length).take i,0<=s:=λs hs=>(rangeI_mem.1 (List.mem_of_mem_take hs)).1
  have hFl:F.length<=d.2.1.length:=by
   have:=hK.len
   simp only[List.length_map,List.length_take,fB]at this
   omega
  unfold gH
  refine bc hi (ae (Wp.imp (uf h hk hB hin hF (by omega) B' _ rfl) λr hr=>?_))
  subst hr
  simp only
  by_cases hm:gw d B (i:Int)∈F.map (gw d B)
  ·have hlt:=pos_lt.1 hm
   rw[List.length_map]at hlt
   have hne:((pos (F.map (gw d B)) (gw d B (i:Int)):Int)==(F.length:Int))=false:=by simp only[beq_eq_false_iff_ne];omega
   rw[hne]
   refine ae (aa (a8 hin.1 hbl (aW (x:=B'[((i:Int)).toNat]) (List.getElem?_eq_getElem hbl) (aa ?_))))
   rw[an hi (by omega),htake]
   exact⟨F,_,rfl,hK.old hnn hin.1 hbl hm,by simpa using hB',hF⟩
  ·have hpos:=CF hm
   rw[List.length_map]at hpos
   have heq:((pos (F.map (gw d B)) (gw d B (i:Int)):Int)==(F.length:Int))=true:=by simp only[beq_iff_eq];omega
   rw[heq]
   refine ae (aN (λ_=>ap (decide_eq_true (by simp;omega)) (aa ?_)) λh=>by cases h)
   refine a8 hin.1 hbl (aW (x:=B'[((i:Int)).toNat]) (List.getElem?_eq_getElem hbl) (aa ?_))
   rw[an hi (by omega),htake]
   have hnew:=hK.new hnn hin.1 hbl hm
   rw[List.length_map]at hnew
   refine⟨F++[(i:Int)],_,rfl,?_,by simpa using hB',λx hx=>?_⟩
   ·rw[hpos,List.map_append];exact hnew
   ·rcases List.mem_append.1 hx with hx|hx
    ·exact hF x hx
    ·simp at hx;subst hx;exact hin
 ·rintro s ⟨F,B',rfl,hK,hB',_⟩
  rw[List.take_of_length_le (by rw[fB];exact Nat.le_refl _)]at hK
  unfold gH
  exact aQ (aa ⟨F,B',rfl,hK,hB'⟩)
theorem w8{d:DF}(h:RW d)(hk:d.1.length<=16777216)(hn:d.2.1.length<=16777216):∃c:List Int×Unit,(∃m:Nat,m<=d.2.1.length/\BlkOk d (·∈cy d.2.1.length) c.1 m/\c.1.length=d.2.1.length)/\
 aP tbl ju [.d (pr [.list tI,.list (.list tI),.list tB,tI]) d] [] fg c:=by
 refine jA (sh:=fg) (λ_=>rfl) (aU yJ rfl (λO n=>yU O n d) ?_)
 unfold qI
 have hmem:∀s,s∈cy d.2.1.length↔In d s:=λs=>rangeI_mem
 have hP:∀s c,c<d.1.length->s∈cy d.2.1.length->a9 d s c∈cy d.2.1.length:=λs c hc hs=>(hmem _).2 (oO h ((hmem s).1 hs) hc)
 have hal:=h.len.2
 refine ap (by simp only[Bool.and_eq_true,decide_eq_true_eq];omega) ?_
 refine ae (aJ (N:=d.2.2.1.length) (I:=λi s=>∃(B:List Int),s=((i:Int),B,())/\B.length=d.2.1.length/\(∀s,0<=s->bv B s=if s<(i:Int)/\b6 d s=true then 1 else 0))
  ⟨List.replicate d.2.1.length 0,rfl,by simp,λs hs=>by rw[Hc,if_neg λh=>by have:=h.1;omega]⟩ ?_ ?_)
 ·rintro i s hi ⟨B,rfl,hB,hbv⟩
  have hin:In d (i:Int):=⟨by omega,by omega⟩
  have hbl:((i:Int)).toNat<B.length:=by omega
  have ea:d.2.2.1[i]=b6 d (i:Int):=by
   unfold b6
   simp only[Int.toNat_natCast,List.getD_eq_getElem?_getD,List.getElem?_eq_getElem hi,Option.getD_some]
  unfold j8
  refine bc hi (ae (au hi ?_))
  rw[ea]
  refine aN (λhc=>?_) λhc=>aa (aa ?_)
  ·refine a8 hin.1 hbl (aW (x:=B[((i:Int)).toNat]) (List.getElem?_eq_getElem hbl) (aa (aa ?_)))
   rw[an hi (by omega)]
   refine⟨_,rfl,by simpa using hB,λs hs=>?_⟩
   rw[qR hin.1 hs hbl,hbv s hs]
   by_cases e:s=(i:Int)
   ·rw[if_pos e,if_pos ⟨by omega,by rw[e];exact hc⟩]
   ·rw[if_neg e]
    have hm:s<(i:Int)↔s<((i+1:Nat):Int):=by omega
    simp only[hm]
  ·rw[an hi (by omega)]
   refine⟨B,rfl,hB,λs hs=>?_⟩
   rw[hbv s hs]
   by_cases e:s=(i:Int)
   ·rw[if_neg λh=>by have:=h.1;omega,if_neg λh=>by rw[e,hc]at h;exact absurd h.2 (by simp)]
   ·have hm:s<(i:Int)↔s<((i+1:Nat):Int):=by omega
    simp only[hm]
 ·rintro s ⟨B,rfl,hB,hbv⟩
  unfold j8
  refine aQ (aa ?_)
  have hw:Weak d (·∈cy d.2.1.length) B:=by
   refine⟨λs t hs ht he=>?_,λs t hs ht he=>?_⟩
   ·have h1:=(hmem s).1 hs
    have h2:=(hmem t).1 ht
    have h1':s<(d.2.2.1.length:Int):=by have:=h1.2;omega
    have h2':t<(d.2.2.1.length:Int):=by have:=h2.2;omega
    rw[hbv s h1.1,hbv t h2.1,he.nil]
    simp[h1',h2']
   ·have h1:=(hmem s).1 hs
    have h2:=(hmem t).1 ht
    have h1':s<(d.2.2.1.length:Int):=by have:=h1.2;omega
    have h2':t<(d.2.2.1.length:Int):=by have:=h2.2;omega
    rw[hbv s h1.1,hbv t h2.1]at he
    simp only[h1',h2',true_and]at he
    cases e1:b6 d s<;>cases e2:b6 d t<;>simp_all
  refine ae (Go.Ev.wp_loop (σ:=Int×List Int×Unit) (λs=>∃(m:Nat) (B:List Int),s=((m:Int),B,())/\B.length=d.2.1.length/\Weak d (·∈cy d.2.1.length) B/\(m=0\/Rng (·∈cy d.2.1.length) B m)) (λs=>d.2.1.length+1 - s.1.toNat) ⟨0,B,rfl,hB,hw,.inl rfl⟩ ?_)
  rintro s ⟨m,B,rfl,hB,hw,hg⟩
  unfold pd
  refine ap (by simp only[Bool.and_eq_true,decide_eq_true_eq,hB];omega) ?_
  simp only[hB]
  refine ae (Wp.imp (r8 h hk hn hB) λr hr=>?_)
  obtain⟨F,B',rfl,hK,hB'⟩:=hr
  have hr:RefOk d (·∈cy d.2.1.length) B B' F.length:=by
   have:=hK.refOk (B:=B) λs hs t ht=>key_ref
   rwa [List.length_map]at this
  have hr0:0<F.length:=by
   have h0:=(hK.num _ ((hmem _).2 h.start)).2
   have:=List.length_pos_of_mem h0
   rwa [List.length_map]at this
  have hFn:F.length<=d.2.1.length:=by have:=wW hr.rng;rwa [fB]at this
  refine aN (λhc=>aa (aa ⟨_,rfl,F.length,hFn,?_,hB'⟩)) λhc=>aa ?_
  ·have hc:(F.length:Int)=(m:Int):=by simpa using hc
   have hc:F.length=m:=by omega
   rcases hg with rfl|hg
   ·omega
   ·rw[hc]at hr⊢
    exact EL hP hw hg hr
  ·have hc:(F.length:Int)≠(m:Int):=by simpa using hc
   refine⟨⟨F.length,B',rfl,hB',uC hP hw hr,.inr hr.rng⟩,?_⟩
   have hgrow:m<=F.length:=by
    rcases hg with rfl|hg
    ·exact Nat.zero_le _
    ·exact EK hg hr
   simp only[Int.toNat_natCast]
   omega
end Go.Proofs.Ytbpdbooalkkenaa
namespace Go.Proofs.Ytbpdbooalkkenaa
open Go Go.Av Go.Ev Go.Pl
def br(q:DF)(cs:List Nat):DF:=
 (cs.map λc=>q.1.getD c 0,(ao q).map λb=>cs.map λc=>(pos (ao q) (a9 q b c):Int),(ao q).map (b6 q),0,())
structure Keeps(q:DF)(kp:Nat->Bool):Prop where
 zero:kp 0=true
 drop:∀s∈ao q,∀c,c<q.1.length->kp c=false->0<c/\a9 q s c=a9 q s (c - 1)
 keep:∀c,c+1<q.1.length->kp (c+1)=true->∃s∈ao q,a9 q s (c+1)≠a9 q s c
section
variable {q:DF} {kp:Nat->Bool}
abbrev fo(q:DF)(kp:Nat->Bool):List Nat:=(List.range q.1.length).filter kp
theorem cls_mem{c:Nat}:c∈fo q kp↔c<q.1.length/\kp c=true:=by
 rw[List.mem_filter,List.mem_range]
theorem LL:(fo q kp).Pairwise (·<·):=List.Pairwise.sublist (List.filter_sublist ..) List.pairwise_lt_range
theorem uX{i j:Nat}(hij:i<j)(hj:j<(fo q kp).length):(fo q kp)[i]<(fo q kp)[j]:=List.pairwise_iff_getElem.1 LL i j (by omega) hj hij
theorem rJ{i:Nat}(hi:i<(fo q kp).length):(fo q kp)[i]<q.1.length:=(cls_mem.1 (List.getElem_mem hi)).1
theorem Dy(hk:Keeps q kp)(hq:0<q.1.length):∃h:0<(fo q kp).length,(fo q kp)[0]=0:=by
 have hm:0∈fo q kp:=cls_mem.2 ⟨hq,hk.zero⟩
 have hp:=List.length_pos_of_mem hm
 refine⟨hp,?_⟩
 obtain⟨i,hi,e⟩:=List.mem_iff_getElem.1 hm
 rcases Nat.eq_zero_or_pos i with rfl|h0
 ·exact e
 ·have:=uX (q:=q) (kp:=kp) h0 hi;omega
theorem xu(hk:Keeps q kp):∀c,c<q.1.length->∃j,∃h:j<(fo q kp).length,(fo q kp)[j]<=c/\(∀j' (_:j'<(fo q kp).length),j<j'->c<(fo q kp)[j'])/\∀s∈ao q,a9 q s c=a9 q s (fo q kp)[j]
 |0,hc=>by
  obtain⟨h,e⟩:=Dy hk hc
  exact⟨0,h,by omega,λj' hj' h0=>by have:=uX (q:=q) (kp:=kp) h0 hj';omega,λs _=>by rw[e]⟩
 |c+1,hc=>by
  cases hkc:kp (c+1)
  ·obtain⟨j,h,h1,h2,h3⟩:=xu hk c (by omega)
   refine⟨j,h,by omega,λj' hj' h0=>?_,λs hs=>?_⟩
   ·have:=h2 j' hj' h0
    have hm:=(cls_mem.1 (List.getElem_mem hj')).2
    rcases Nat.lt_or_eq_of_le (show c+1<=(fo q kp)[j'] by omega)with h4|h4
    ·exact h4
    ·rw[<-h4,hkc]at hm;cases hm
   ·rw[(hk.drop s hs (c+1) hc hkc).2]
    exact h3 s hs
  ·obtain⟨j,hj,e⟩:=List.mem_iff_getElem.1 (cls_mem.2 ⟨hc,hkc⟩:c+1∈fo q kp)
   exact⟨j,hj,by omega,λj' hj' h0=>by have:=uX (q:=q) (kp:=kp) h0 hj';omega,λs _=>by rw[e]⟩
theorem getD_at{α:Type}{xs:List α}{i:Nat}{z:α}(h:i<xs.length):xs.getD i z=xs[i]:=by
 simp only[List.getD_eq_getElem?_getD,List.getElem?_eq_getElem h,Option.getD_some]
theorem fC(hq:RW q)(hs:b9 q.1)(hk:Keeps q kp){j:Nat}(hj:j<(fo q kp).length):∃h:j<(br q (fo q kp)).1.length,(br q (fo q kp)).1[j]=q.1[(fo q kp)[j]]'(rJ hj):=by
 have h:j<(br q (fo q kp)).1.length:=by unfold br;simpa using hj
 refine⟨h,?_⟩
 simp only[br,List.getElem_map]
 exact getD_at (rJ hj)
theorem rq(hq:RW q)(hs:b9 q.1)(hk:Keeps q kp):(br q (fo q kp)).1.length=(fo q kp).length:=by simp[br]
theorem Gr(hq:RW q)(hs:b9 q.1)(hk:Keeps q kp):b9 (br q (fo q kp)).1:=by
 obtain⟨h0,e0⟩:=Dy hk hs.1
 refine⟨by rw[rq hq hs hk];exact h0,λh=>?_,λi hi=>?_,λx hx=>?_⟩
 ·obtain⟨_,e⟩:=fC hq hs hk h0
  rw[e]
  simp only[e0]
  exact hs.2.1 hs.1
 ·rw[rq hq hs hk]at hi
  obtain⟨_,e1⟩:=fC hq hs hk (j:=i) (by omega)
  obtain⟨_,e2⟩:=fC hq hs hk hi
  rw[e1,e2]
  exact jl hs _ _ _ (uX (by omega) hi)
 ·obtain⟨i,hi,rfl⟩:=List.mem_iff_getElem.1 hx
  rw[rq hq hs hk]at hi
  obtain⟨_,e1⟩:=fC hq hs hk hi
  rw[e1]
  exact hs.2.2.2 _ (List.getElem_mem _)
theorem Nu(hq:RW q)(hs:b9 q.1)(hk:Keeps q kp):RW (br q (fo q kp)):=by
 have hpos:0<(ao q).length:=List.length_pos_of_mem dQ
 refine⟨⟨by simpa[br]using hpos,by simp[br]⟩,λr hr=>?_,⟨Int.le_refl _,by simpa[br]using hpos⟩,λr hr t ht=>?_⟩
 ·simp only[br,List.mem_map]at hr
  obtain⟨b,_,rfl⟩:=hr
  simp[br]
 ·simp only[br,List.mem_map]at hr
  obtain⟨b,hb,rfl⟩:=hr
  obtain⟨c,hc,rfl⟩:=List.mem_map.1 ht
  have:=pos_lt.1 (bJ hq b hb c (cls_mem.1 hc).1)
  refine⟨by omega,?_⟩
  simp only[br,List.length_map]
  omega
theorem Gs(hq:RW q)(hs:b9 q.1)(hk:Keeps q kp):WF (br q (fo q kp)):=by
 have h:=Nu hq hs hk
 exact⟨Gr hq hs hk,h.len,h.rows,h.start,h.to⟩
theorem wV(hq:RW q)(hs:b9 q.1)(hk:Keeps q kp){b:Int}(hb:b∈ao q){j:Nat}(hj:j<(fo q kp).length):a9 (br q (fo q kp)) (pos (ao q) b:Int) j=(pos (ao q) (a9 q b (fo q kp)[j]):Int):=by
 have hp:=pos_lt.1 hb
 have e:(ao q)[pos (ao q) b]? =some b:=by
  unfold pos at hp⊢
  rw[List.getElem?_eq_getElem hp,List.getElem_idxOf]
 unfold a9
 simp only[br,Int.toNat_natCast,List.getD_eq_getElem?_getD,List.getElem?_map,e,Option.map_some,Option.getD_some,List.getElem?_eq_getElem hj]
 rfl
theorem K8(hq:RW q)(hs:b9 q.1)(hk:Keeps q kp){b:Int}(hb:b∈ao q){v:Int}(hv:0<=v):bE (br q (fo q kp)) (pos (ao q) b:Int) v=(pos (ao q) (bE q b v):Int):=by
 obtain⟨hc,hc1,hc2⟩:=nm hs hv
 obtain⟨j,hj,h1,h2,h3⟩:=xu hk _ hc
 have hcl:fb (br q (fo q kp)).1 v=j:=by
  obtain⟨g1,e1⟩:=fC hq hs hk hj
  refine nk ⟨g1,?_,λj' hj' hlt=>?_⟩
  ·rw[e1]
   rcases Nat.lt_or_eq_of_le h1 with hl|he
   ·have:=jl hs _ _ hc hl;omega
   ·simp only[he];exact hc1
  ·rw[rq hq hs hk]at hj'
   obtain⟨_,e2⟩:=fC hq hs hk hj'
   rw[e2]
   exact hc2 _ _ (h2 j' hj' hlt)
 rw[iC,hcl,wV hq hs hk hb hj,iC,h3 b hb]
theorem Mr(hq:RW q)(hs:b9 q.1)(hk:Keeps q kp){b:Int}(hb:b∈ao q):b6 (br q (fo q kp)) (pos (ao q) b:Int)=b6 q b:=by
 have hp:=pos_lt.1 hb
 have e:(ao q)[pos (ao q) b]? =some b:=by
  unfold pos at hp⊢
  rw[List.getElem?_eq_getElem hp,List.getElem_idxOf]
 unfold b6
 simp only[br,Int.toNat_natCast,List.getD_eq_getElem?_getD,List.getElem?_map,e,Option.map_some,Option.getD_some]
 simp only[b6,List.getD_eq_getElem?_getD]
theorem Ms(hq:RW q)(hs:b9 q.1)(hk:Keeps q kp):∃i0,∀i,i0<=i->(bk (bE (br q (fo q kp))) (br q (fo q kp)).2.2.2.1 (br q (fo q kp)).1 i).1=cy (br q (fo q kp)).2.1.length:=by
 refine⟨q.2.1.length,λi hi=>?_⟩
 have hord:(bk (a9 q) q.2.2.2.1 (List.range q.1.length) i).1=ao q:=by
  have:=q6 (f:=a9 q) (s0:=q.2.2.2.1) (ls:=List.range q.1.length) hi (gv hq _)
  rw[this];rfl
 have hdrop:(bk (a9 q) q.2.2.2.1 (fo q kp) i).1=ao q:=by
  rw[vd i λx hx c hc hkc=>hk.drop x (by rw[<-hord];exact hx) c hc hkc,hord]
 have hrel:=uc (f:=a9 q) (g:=bE (br q (fo q kp))) (h:=λc=>q.1.getD c 0) (s0:=q.2.2.2.1) (t0:=0) (ls:=fo q kp) (Rel:=λb t=>b∈ao q/\t=(pos (ao q) b:Int))
  ⟨dQ,?_⟩ (λx y c hc ⟨hx,hy⟩=>?_) (λa a' b b' ⟨ha,hb⟩ ⟨ha',hb'⟩=>?_) i
 ·have hF:=hrel.1
  rw[hdrop]at hF
  have hl:=hF.len
  have hN:(br q (fo q kp)).2.1.length=(ao q).length:=by simp[br]
  rw[hN]
  refine List.ext_getElem? λk=>?_
  by_cases hkl:k<(ao q).length
  ·have hx:=List.getElem?_eq_getElem hkl
   have hy:=List.getElem?_eq_getElem (l:=(bk (bE (br q (fo q kp))) 0 ((fo q kp).map λc=>q.1.getD c 0) i).1) (i:=k) (by omega)
   have hr:=(hF.get hx hy).2
   have hp:pos (ao q) (ao q)[k]=k:=by
    unfold pos
    exact List.Nodup.idxOf_getElem (cI (f:=a9 q) (s0:=q.2.2.2.1) (ls:=List.range q.1.length) _).nodup k hkl
   rw[hp]at hr
   rw[i6 hkl,<-hr]
   exact hy
  ·rw[List.getElem?_eq_none (show(cy (ao q).length).length<=k by rw[fB];omega)]
   exact List.getElem?_eq_none (by show(bk (bE (br q (fo q kp))) 0 ((fo q kp).map λc=>q.1.getD c 0) i).1.length<=k;omega)
 ·rw[show pos (ao q) q.2.2.2.1=0 from ?_];rfl
  have h0:(ao q)[0]? =some q.2.2.2.1:=(cI _).head
  exact(vz (Nat.zero_le _) (λj z hj=>by omega) (λz hz=>by rw[h0]at hz;cases hz;rfl)).symm
 ·have hcm:=cls_mem.1 hc
  obtain⟨j,hj,e⟩:=List.mem_iff_getElem.1 hc
  obtain⟨g1,e1⟩:=fC hq hs hk hj
  refine⟨bJ hq x hx c hcm.1,?_⟩
  rw[hy,getD_at hcm.1]
  have e2:q.1[c]=(br q (fo q kp)).1[j]:=by rw[e1];simp only[e]
  rw[e2,fS (Gs hq hs hk) _ g1,wV hq hs hk hx hj]
  simp only[e]
 ·subst hb hb'
  exact⟨λe=>by rw[e],λe=>CE ha (by omega)⟩
theorem K7(hq:RW q)(hs:b9 q.1)(hk:Keeps q kp):∀c (h:c+1<(br q (fo q kp)).1.length),∃s,In (br q (fo q kp)) s/\bE (br q (fo q kp)) s (br q (fo q kp)).1[c+1]≠bE (br q (fo q kp)) s (br q (fo q kp)).1[c]:=by
 intro c h
 have hw:=Gs hq hs hk
 have h':c+1<(fo q kp).length:=by rwa [rq hq hs hk]at h
 have hlt:=uX (q:=q) (kp:=kp) (show c<c+1 by omega) h'
 have hb:=rJ h'
 have hm:=cls_mem.1 (List.getElem_mem h')
 obtain⟨e,he⟩:∃e,(fo q kp)[c+1]=e+1:=⟨(fo q kp)[c+1] - 1,by omega⟩
 rw[he]at hm hb
 obtain⟨b,hbm,hne⟩:=hk.keep e hm.1 hm.2
 obtain⟨j,hj,h1,h2,h3⟩:=xu hk e (by omega)
 have hjc:j=c:=by
  rcases Nat.lt_trichotomy j c with hl|he'|hl
  ·have:=h2 c (by omega) hl;omega
  ·exact he'
  ·rcases Nat.lt_or_eq_of_le (show c+1<=j by omega)with h5|rfl
   ·have:=uX (q:=q) (kp:=kp) h5 hj;omega
   ·omega
 subst hjc
 refine⟨(pos (ao q) b:Int),⟨by omega,?_⟩,?_⟩
 ·have:=pos_lt.1 hbm
  simp only[br,List.length_map]
  omega
 ·rw[fS hw _ h,fS hw _ (by omega),wV hq hs hk hbm h',wV hq hs hk hbm hj]
  intro e2
  apply hne
  have hin1:=bJ hq b hbm (e+1) hm.1
  have e3:=CE (x:=a9 q b (e+1)) (y:=a9 q b (fo q kp)[j]) hin1 (by rw[<-he];omega)
  rw[e3,h3 b hbm]
end
theorem M7{d:DF}(hd:WF d){s t:Int}(h:MX d s t):MW d s t:=by
 have hcol:∀(w:List Nat),(∀c∈w,c∈List.range d.1.length)->∀s,(w.map λc=>d.1.getD c 0).foldl (bE d) s=w.foldl (a9 d) s:=by
  intro w
  induction w with
  |nil=>intro _ s;rfl
  |cons c w ih=>
   intro hw s
   have hc:=List.mem_range.1 (hw c (List.mem_cons_self ..))
   rw[List.map_cons,List.foldl_cons,List.foldl_cons,ih λx hx=>hw x (List.mem_cons_of_mem _ hx)]
   congr 1
   rw[getD_at hc,fS hd _ hc]
 intro w hw
 rw[<-hcol w hw,<-hcol w hw]
 refine h _ λv hv=>?_
 obtain⟨c,hc,rfl⟩:=List.mem_map.1 hv
 have hc:=List.mem_range.1 (hw c hc)
 rw[getD_at hc]
 exact fR hd.starts _ (List.getElem_mem hc)
theorem yj{d q:DF}(hd:WF d)(hq:RW q)(h1:q.1=d.1){P:Int->Prop}{B:List Int}{m:Nat}(hB:BlkOk d P B m)(hPr:∀s∈ao d,P s)(hst:q.2.2.2.1=bv B d.2.2.2.1)
 (hcol:∀s∈ao d,∀c,c<d.1.length->a9 q (bv B s) c=bv B (a9 d s c)) (hacc:∀s∈ao d,b6 q (bv B s)=b6 d s) {kp:Nat->Bool} (hk:Keeps q kp):
 Canon (br q (fo q kp))/\∀w,Valid w->b6 (br q (fo q kp)) (dx (br q (fo q kp)) w)=b6 d (dx d w):=by
 have hs:b9 q.1:=h1▸hd.starts
 have hin:∀s∈ao d,bv B s∈ao q:=by
  intro s hs'
  obtain⟨k,hkk,rfl⟩:=List.mem_iff_getElem.1 hs'
  refine(cI (f:=a9 d) (s0:=d.2.2.2.1) (ls:=List.range d.1.length) d.2.1.length).inv (P:=λs=>s∈ao d/\bv B s∈ao q) ⟨dQ,by rw[<-hst];exact dQ⟩ (λx c hc ⟨hx,hx2⟩=>?_) k _ (List.getElem?_eq_getElem hkk) |>.2
  have hc:=List.mem_range.1 hc
  exact⟨bJ hd.rw x hx c hc,by rw[<-hcol x hx c hc];exact bJ hq _ hx2 c (by rw[h1];exact hc)⟩
 refine Gf (Gs hq hs hk) (ψ:=λs=>(pos (ao q) (bv B s):Int)) (P:=(·∈ao d)) dQ (λs v hs' hv=>?_) ?_ (λs v hs' hv=>?_) (λs hs'=>?_) (λs t hs' ht' he=>?_) (Ms hq hs hk) (K7 hq hs hk)
 ·exact bJ hd.rw s hs' _ (nm hd.starts hv).1
 ·show(pos (ao q) (bv B d.2.2.2.1):Int)=0
  rw[<-hst]
  have h0:(ao q)[0]? =some q.2.2.2.1:=(cI _).head
  rw[<-vz (L:=ao q) (y:=q.2.2.2.1) (k:=0) (Nat.zero_le _) (λj z hj=>by omega) (λz hz=>by rw[h0]at hz;cases hz;rfl)]
  rfl
 ·show(pos (ao q) (bv B (bE d s v)):Int)=_
  rw[K8 hq hs hk (hin s hs') hv,iC,iC,h1,hcol s hs' _ (nm hd.starts hv).1]
 ·exact(Mr hq hs hk (hin s hs')).trans (hacc s hs')
 ·show(pos (ao q) (bv B s):Int)=(pos (ao q) (bv B t):Int)
  rw[(hB.eqv s t (hPr s hs') (hPr t ht')).2 (M7 hd he)]
end Go.Proofs.Ytbpdbooalkkenaa
namespace Go.Proofs.Ytbpdbooalkkenaa
open Go Go.Av Go.Ev Go.Pl
theorem I8{k i:Nat}{r:List Nat}{n:Nat}(hr:r.length=i)(h:i<k):(oU k r).set i (n:Int)=oU k (r++[n]):=by
 subst hr;exact yu h
theorem Lc{k:Nat}{r:List Nat}(h:r.length<=k):(oU k r).length=k:=by unfold oU;simp;omega
theorem I7{k:Nat}{r:List Nat}(h:r.length=k):oU k r=r.map fun(n:Nat)=>(n:Int):=by
 unfold oU;rw[h];simp
def ru(d:DF):DF:=(d.1,(ao d).map λb=>(List.range d.1.length).map λc=>(pos (ao d) (a9 d b c):Int),(ao d).map (b6 d),0,())
theorem BU{d:DF}(h:RW d){s:Int}(hs:In d s):∃h1:s.toNat<d.2.2.1.length,d.2.2.1[s.toNat]=b6 d s:=by
 have h1:s.toNat<d.2.2.1.length:=by have:=h.len.2;have:=hs.1;have:=hs.2;omega
 exact⟨h1,by unfold b6;simp only[List.getD_eq_getElem?_getD,List.getElem?_eq_getElem h1,Option.getD_some]⟩
theorem uB{d:DF}:(ao d).Nodup:=(cI (f:=a9 d) (s0:=d.2.2.2.1) (ls:=List.range d.1.length) _).nodup
theorem KG{L:List Int}(hn:L.Nodup){i:Nat}(hi:i<L.length):pos L L[i]=i:=by
 unfold pos;exact List.Nodup.idxOf_getElem hn i hi
theorem wZ{d:DF}(h:RW d)(hk:d.1.length<=16777216)(hn:d.2.1.length<=16777216):aP tbl jt [.d (pr [.list tI,.list (.list tI),.list tB,tI]) d] [] gy (ru d,()):=by
 refine aT rfl (aU yG rfl (λO n=>yQ O n d) ?_)
 unfold qF
 have hl:∀s∈ao d,In d s:=fy h _
 have hll:(ao d).length<=d.2.1.length:=gv h _
 refine ar (ql h hn hk) (ap (by simp only[Bool.and_eq_true,decide_eq_true_eq];omega) ?_)
 refine ae (aJ (N:=(ao d).length) (I:=λi s=>∃A:List Int,s=((i:Int),(0:Int),A,())/\A.length=d.2.1.length/\∀x∈(ao d).take i,bv A x=(pos (ao d) x:Int)) ⟨List.replicate d.2.1.length 0,rfl,by simp,by simp⟩ ?_ ?_)
 ·rintro i s hi ⟨A,rfl,hA,hb⟩
  have hin:=hl _ (List.getElem_mem hi)
  have hbl:((ao d)[i]).toNat<A.length:=by have:=hin.1;have:=hin.2;omega
  unfold jV
  refine bc hi (au hi (a8 hin.1 hbl (aW (x:=A[((ao d)[i]).toNat]) (List.getElem?_eq_getElem hbl) (aa ?_))))
  rw[an hi (by omega)]
  refine⟨_,rfl,by simpa using hA,λx hx=>?_⟩
  rw[List.take_add_one,List.getElem?_eq_getElem hi]at hx
  have hx0:0<=x:=by
   rcases List.mem_append.1 hx with h1|h1
   ·exact(hl x (List.mem_of_mem_take h1)).1
   ·simp at h1;subst h1;exact hin.1
  rw[qR hin.1 hx0 hbl]
  split
  ·rename_i e;rw[e,KG uB hi]
  ·rename_i e
   rcases List.mem_append.1 hx with h1|h1
   ·exact hb x h1
   ·simp at h1;exact absurd h1 e
 ·rintro s ⟨A,rfl,hA,hb⟩
  rw[List.take_length]at hb
  unfold jV
  refine aQ (aa ?_)
  refine ae (aJ (N:=(ao d).length) (I:=λi s=>s=((i:Int),(0:Int),A,d.1,(0:Int),((ao d).take i).map (λb=>(List.range d.1.length).map λc=>(pos (ao d) (a9 d b c):Int)),((ao d).take i).map (b6 d),())) rfl ?_ ?_)
  ·rintro i s hi rfl
   have hin:=hl _ (List.getElem_mem hi)
   obtain⟨h1,e⟩:=oV h hin
   obtain⟨h2,e2⟩:=BU h hin
   unfold jX
   refine bc hi (au hi (ap (Eo (by omega)) (a8 hin.1 h1 ?_)))
   rw[e]
   generalize hNX:((ao d).take i).map (λb=>(List.range d.1.length).map λc=>(pos (ao d) (a9 d b c):Int))=NX
   generalize hAC:((ao d).take i).map (b6 d)=AC
   refine ae (aJ (N:=d.1.length) (I:=λc s=>s=((c:Int),(0:Int),A,d.1,(0:Int),NX,AC,oU d.1.length ((List.range c).map λc=>pos (ao d) (a9 d (ao d)[i] c)),())) (by rw[List.range_zero,List.map_nil,show oU d.1.length []=List.replicate d.1.length 0 from by simp[oU]];rfl) ?_ ?_)
   ·rintro c s hc rfl
    have hcin:=bJ h _ (List.getElem_mem hi) c hc
    have hci:=hl _ hcin
    have hcl:(a9 d (ao d)[i] c).toNat<A.length:=by have:=hci.1;have:=hci.2;omega
    have hrl:(oU d.1.length ((List.range c).map λc=>pos (ao d) (a9 d (ao d)[i] c))).length=d.1.length:=Lc (by simp;omega)
    have hml:((List.range d.1.length).map (a9 d (ao d)[i])).length=d.1.length:=by simp
    unfold jW
    rw[hml]
    refine bc hc (ly (x:=a9 d (ao d)[i] c) (by simp[hc]) (a8 hci.1 hcl (aW (x:=A[(a9 d (ao d)[i] c).toNat]) (List.getElem?_eq_getElem hcl) ?_)))
    refine au (by rw[hrl];exact hc) (aW (x:=(oU d.1.length ((List.range c).map λc=>pos (ao d) (a9 d (ao d)[i] c)))[c]'(by rw[hrl];exact hc)) (List.getElem?_eq_getElem _) (aa ?_))
    rw[an hc (by omega),mu hcl,hb _ hcin]
    simp only[Int.toNat_natCast]
    rw[I8 (by simp) hc,List.range_succ,List.map_append]
    rfl
   ·rintro s rfl
    unfold jW
    have hml:((List.range d.1.length).map (a9 d (ao d)[i])).length=d.1.length:=by simp
    rw[hml]
    refine aQ (aa ?_)
    have hNl:NX.length=i:=by rw[<-hNX];simp;omega
    have hAl:AC.length=i:=by rw[<-hAC];simp;omega
    refine ap (decide_eq_true (by simp;omega)) (a8 hin.1 h2 (ap (decide_eq_true (by simp;omega)) (aa ?_)))
    rw[an hi (by omega),e2,I7 (by simp),<-hNX,<-hAC]
    simp only[List.take_add_one,List.getElem?_eq_getElem hi,List.map_append,Option.toList_some,List.map_cons,List.map_nil,List.map_map]
    rfl
  ·rintro s rfl
   unfold jX
   refine aQ (aa (aa ?_))
   simp only[List.take_length]
   rfl
end Go.Proofs.Ytbpdbooalkkenaa
namespace Go.Proofs.Ytbpdbooalkkenaa
open Go Go.Av Go.Ev Go.Pl
def jm(q:DF)(kp:Nat->Bool):DF:=((fo q kp).map λc=>q.1.getD c 0,q.2.1.map λr=>(fo q kp).map λc=>r.getD c 0,q.2.2.1,q.2.2.2.1,())
theorem Ie{q:DF}(kp:Nat->Bool){s:Int}(hs:In q s){j:Nat}(hj:j<(fo q kp).length):a9 (jm q kp) s j=a9 q s (fo q kp)[j]:=by
 have h1:s.toNat<q.2.1.length:=by have:=hs.1;have:=hs.2;omega
 unfold a9
 simp only[jm,List.getD_eq_getElem?_getD,List.getElem?_map,List.getElem?_eq_getElem h1,Option.map_some,Option.getD_some,List.getElem?_eq_getElem hj]
theorem Nx{q:DF}(kp:Nat->Bool)(hq:RW q):RW (jm q kp):=by
 refine⟨⟨by simpa[jm]using hq.len.1,by simpa[jm]using hq.len.2⟩,λr hr=>?_,?_,λr hr t ht=>?_⟩
 ·simp only[jm,List.mem_map]at hr
  obtain⟨r,_,rfl⟩:=hr
  simp[jm]
 ·have:=hq.start
  exact⟨this.1,by simpa[jm]using this.2⟩
 ·simp only[jm,List.mem_map]at hr
  obtain⟨r,hr,rfl⟩:=hr
  obtain⟨c,hc,rfl⟩:=List.mem_map.1 ht
  have hcl:c<r.length:=by rw[hq.rows r hr];exact(cls_mem.1 hc).1
  rw[getD_at hcl]
  have:=hq.to r hr _ (List.getElem_mem hcl)
  exact⟨this.1,by simpa[jm]using this.2⟩
theorem Jd{q:DF}{kp:Nat->Bool}(hq:RW q)(hk:Keeps q kp):ao (jm q kp)=ao q:=by
 have hn:(jm q kp).2.1.length=q.2.1.length:=by simp[jm]
 have hl:(jm q kp).1.length=(fo q kp).length:=by simp[jm]
 have hord:(bk (a9 q) q.2.2.2.1 (fo q kp) q.2.1.length).1=ao q:=by
  rw[vd _ λx hx c hc hkc=>hk.drop x hx c hc hkc];rfl
 have hrel:=uc (f:=a9 (jm q kp)) (g:=a9 q) (h:=λj=>(fo q kp).getD j 0) (s0:=q.2.2.2.1) (t0:=q.2.2.2.1) (ls:=List.range (fo q kp).length) (Rel:=λx y=>x=y/\In q x)
  ⟨rfl,hq.start⟩ (λx y c hc ⟨hx,hy⟩=>by
   subst hx
   have hc:=List.mem_range.1 hc
   rw[Ie kp hy hc,getD_at hc]
   exact⟨rfl,oO hq hy (rJ hc)⟩) (λa a' b b' ⟨ha,_⟩ ⟨hb,_⟩=>by subst ha hb;exact Iff.rfl) q.2.1.length
 have hmap:(List.range (fo q kp).length).map (λj=>(fo q kp).getD j 0)=fo q kp:=by
  refine List.ext_getElem (by simp) λi h1 h2=>?_
  simp only[List.getElem_map,List.getElem_range]
  exact getD_at h2
 have hF:=hrel.1
 rw[hmap,hord]at hF
 unfold ao io
 rw[hn,hl]
 refine List.ext_getElem? λk=>?_
 have hlen:=hF.len
 by_cases hkl:k<(bk (a9 (jm q kp)) q.2.2.2.1 (List.range (fo q kp).length) q.2.1.length).1.length
 ·have hx:=List.getElem?_eq_getElem hkl
  have hy:=List.getElem?_eq_getElem (l:=ao q) (i:=k) (by omega)
  have:=(hF.get hx hy).1
  exact hx.trans ((congrArg some this).trans hy.symm)
 ·rw[show(bk (a9 (jm q kp)) (jm q kp).2.2.2.1 (List.range (fo q kp).length) q.2.1.length).1[k]? =none from List.getElem?_eq_none (by show(bk (a9 (jm q kp)) q.2.2.2.1 (List.range (fo q kp).length) q.2.1.length).1.length<=k;omega)]
  exact(List.getElem?_eq_none (show(ao q).length<=k by omega)).symm
theorem Mv{q:DF}{kp:Nat->Bool}(hq:RW q)(hk:Keeps q kp):ru (jm q kp)=br q (fo q kp):=by
 have hr:=Jd hq hk
 unfold ru br
 rw[hr]
 refine Prod.ext rfl (Prod.ext ?_ (Prod.ext ?_ rfl))
 ·refine List.map_congr_left λb hb=>?_
  have hin:=fy hq _ b hb
  refine List.ext_getElem (by simp[jm]) λj h1 h2=>?_
  have hj:j<(fo q kp).length:=by simpa using h2
  simp only[List.getElem_map,List.getElem_range]
  rw[Ie kp hin hj]
 ·rfl
def ff(NX:List (List Int))(c:Nat):Bool:=decide (c=0)||NX.any λr=>r.getD c 0 != r.getD (c - 1) 0
def wE(k:Nat)(r:List Int):List Int:=r++List.replicate (k - r.length) 0
theorem Lb{k i:Nat}{r:List Int}{x:Int}(hr:r.length=i)(h:i<k):(wE k r).set i x=wE k (r++[x]):=by
 subst hr
 unfold wE
 rw[List.set_append_right _ _ (Nat.le_refl _),Nat.sub_self]
 obtain⟨m,hm⟩:∃m,k - r.length=m+1:=⟨k - r.length - 1,by omega⟩
 rw[hm,List.replicate_succ,List.set_cons_zero,List.length_append,show k - (r.length+[x].length)=m by simp;omega]
 simp
theorem La{k:Nat}{r:List Int}(h:r.length<=k):(wE k r).length=k:=by unfold wE;simp;omega
theorem I6{k:Nat}{r:List Int}(h:r.length=k):wE k r=r:=by unfold wE;rw[h];simp
theorem Md{α β:Type}{g g':α->β}{xs:List α}{j:Nat}(hj:j<xs.length):((xs.take j).map g'++(xs.drop j).map g)[j]? =some (g xs[j]):=by
 rw[List.getElem?_append_right (by simp;omega)]
 simp[Nat.min_eq_left (Nat.le_of_lt hj),hj]
theorem Me{α β:Type}{g g':α->β}{xs:List α}{j:Nat}(hj:j<xs.length):((xs.take j).map g'++(xs.drop j).map g).set j (g' xs[j])=(xs.take (j+1)).map g'++(xs.drop (j+1)).map g:=by
 rw[List.set_append_right _ _ (by simp;omega),List.drop_eq_getElem_cons hj,List.take_add_one,List.getElem?_eq_getElem hj]
 simp only[List.length_map,List.length_take,Nat.min_eq_left (Nat.le_of_lt hj),Nat.sub_self,List.map_cons,List.set_cons_zero,List.map_append,Option.toList_some,List.map_nil,List.append_assoc,List.cons_append,List.nil_append]
structure Quo(d:DF)(B:List Int)(m:Nat)(NX:List (List Int))(AC:List Bool):Prop where
 blk:BlkOk d (·∈ao d) B m
 le:m<=d.2.1.length
 len:NX.length=m/\AC.length=m
 at_:∀s∈ao d,NX[(bv B s).toNat]? =some ((List.range d.1.length).map λc=>bv B (a9 d s c))/\AC[(bv B s).toNat]? =some (b6 d s)
theorem Quo.rw{d:DF}(hd:RW d){B:List Int}{m:Nat}{NX:List (List Int)}{AC:List Bool}(h:Quo d B m NX AC):RW (d.1,NX,AC,bv B d.2.2.2.1,()):=by
 have hst:=h.blk.rng.rng _ (dQ (d:=d))
 have hrow:∀r∈NX,∃s∈ao d,r=(List.range d.1.length).map λc=>bv B (a9 d s c):=λr hr=>by
  obtain⟨b,hb,rfl⟩:=List.mem_iff_getElem.1 hr
  obtain⟨s,hs,e⟩:=h.blk.rng.onto b (by rw[<-h.len.1];exact hb)
  refine⟨s,hs,?_⟩
  have:=(h.at_ s hs).1
  rw[e,Int.toNat_natCast,List.getElem?_eq_getElem hb]at this
  exact Option.some.inj this
 refine⟨⟨?_,?_⟩,λr hr=>?_,⟨hst.1,?_⟩,λr hr t ht=>?_⟩
 ·show 0<NX.length
  rw[h.len.1];omega
 ·show AC.length=NX.length
  rw[h.len.1,h.len.2]
 ·obtain⟨s,_,rfl⟩:=hrow r hr
  simp
 ·show bv B d.2.2.2.1<(NX.length:Int)
  rw[h.len.1];exact hst.2
 ·obtain⟨s,hs,rfl⟩:=hrow r hr
  obtain⟨c,hc,rfl⟩:=List.mem_map.1 ht
  have:=h.blk.rng.rng _ (bJ hd s hs c (List.mem_range.1 hc))
  refine⟨this.1,?_⟩
  show bv B (a9 d s c)<(NX.length:Int)
  rw[h.len.1];exact this.2
theorem Quo.col{d:DF}{B:List Int}{m:Nat}{NX:List (List Int)}{AC:List Bool}(h:Quo d B m NX AC){s:Int}(hs:s∈ao d){c:Nat}(hc:c<d.1.length):a9 (d.1,NX,AC,bv B d.2.2.2.1,()) (bv B s) c=bv B (a9 d s c):=by
 show(NX.getD (bv B s).toNat []).getD c 0=_
 simp only[List.getD_eq_getElem?_getD,(h.at_ s hs).1,Option.getD_some,List.getElem?_map,List.getElem?_range hc,Option.map_some]
theorem Quo.acc{d:DF}{B:List Int}{m:Nat}{NX:List (List Int)}{AC:List Bool}(h:Quo d B m NX AC){s:Int}(hs:s∈ao d):b6 (d.1,NX,AC,bv B d.2.2.2.1,()) (bv B s)=b6 d s:=by
 show AC.getD (bv B s).toNat false=_
 rw[List.getD_eq_getElem?_getD,(h.at_ s hs).2];rfl
theorem Quo.reach{d:DF}(hd:RW d){B:List Int}{m:Nat}{NX:List (List Int)}{AC:List Bool}(h:Quo d B m NX AC){s:Int}(hs:s∈ao d):bv B s∈ao (d.1,NX,AC,bv B d.2.2.2.1,()):=by
 obtain⟨k,hkk,rfl⟩:=List.mem_iff_getElem.1 hs
 refine((cI (f:=a9 d) (s0:=d.2.2.2.1) (ls:=List.range d.1.length) d.2.1.length).inv (P:=λs=>s∈ao d/\bv B s∈ao (d.1,NX,AC,bv B d.2.2.2.1,())) ⟨dQ,dQ (d:=(d.1,NX,AC,bv B d.2.2.2.1,()))⟩ (λx c hc ⟨hx,hx2⟩=>?_) k _ (List.getElem?_eq_getElem hkk)).2
 have hc:=List.mem_range.1 hc
 exact⟨bJ hd x hx c hc,by rw[<-h.col hx hc];exact bJ (h.rw hd) _ hx2 c hc⟩
theorem Quo.keeps{d:DF}(hd:RW d){B:List Int}{m:Nat}{NX:List (List Int)}{AC:List Bool}(h:Quo d B m NX AC):Keeps (d.1,NX,AC,bv B d.2.2.2.1,()) (ff NX):=by
 have hq:=h.rw hd
 have hrow:∀b,b∈ao (d.1,NX,AC,bv B d.2.2.2.1,())->∃r∈NX,∀c,a9 (d.1,NX,AC,bv B d.2.2.2.1,()) b c=r.getD c 0:=λb hb=>by
  have hin:=fy hq _ b hb
  have h1:b.toNat<NX.length:=by have:=hin.1;have:=hin.2;simp only at this;omega
  refine⟨NX[b.toNat],List.getElem_mem h1,λc=>?_⟩
  unfold a9
  simp only[List.getD_eq_getElem?_getD,List.getElem?_eq_getElem h1,Option.getD_some]
 refine⟨rfl,λb hb c hc hk=>?_,λc hc hk=>?_⟩
 ·simp only[ff,Bool.or_eq_false_iff,decide_eq_false_iff_not,List.any_eq_false]at hk
  obtain⟨r,hr,e⟩:=hrow b hb
  refine⟨by omega,?_⟩
  rw[e,e]
  simpa using hk.2 r hr
 ·simp only[ff,Bool.or_eq_true,decide_eq_true_eq,List.any_eq_true]at hk
  rcases hk with hk|⟨r,hr,hk⟩
  ·omega
  obtain⟨b,hb,rfl⟩:=List.mem_iff_getElem.1 hr
  obtain⟨s,hs,e⟩:=h.blk.rng.onto b (by rw[<-h.len.1];exact hb)
  have hbr:=h.reach hd hs
  rw[e]at hbr
  refine⟨(b:Int),hbr,?_⟩
  unfold a9
  simp only[Int.toNat_natCast,List.getD_eq_getElem?_getD,List.getElem?_eq_getElem hb,Option.getD_some]
  simpa[List.getD_eq_getElem?_getD]using hk
theorem Quo.canon{d:DF}(hd:WF d){B:List Int}{m:Nat}{NX:List (List Int)}{AC:List Bool}(h:Quo d B m NX AC):
 Canon (ru (jm (d.1,NX,AC,bv B d.2.2.2.1,()) (ff NX)))/\∀w,Valid w->b6 (ru (jm (d.1,NX,AC,bv B d.2.2.2.1,()) (ff NX))) (dx (ru (jm (d.1,NX,AC,bv B d.2.2.2.1,()) (ff NX))) w)=b6 d (dx d w):=by
 rw[Mv (h.rw hd.rw) (h.keeps hd.rw)]
 exact yj hd (h.rw hd.rw) rfl h.blk (λ_ hs=>hs) rfl (λs hs c hc=>h.col hs hc) (λs hs=>h.acc hs) (h.keeps hd.rw)
end Go.Proofs.Ytbpdbooalkkenaa
namespace Go.Proofs.Ytbpdbooalkkenaa
open Go Go.Av Go.Ev Go.Pl
theorem Gb{NX:List (List Int)}{c j:Nat}(hj:j<NX.length):(decide (c=0)||(NX.take (j+1)).any λr=>r.getD c 0 != r.getD (c - 1) 0)=((decide (c=0)||(NX.take j).any λr=>r.getD c 0 != r.getD (c - 1) 0)||(NX[j].getD c 0 != NX[j].getD (c - 1) 0)):=by
 rw[List.take_add_one,List.getElem?_eq_getElem hj,List.any_append]
 simp[Bool.or_assoc]
theorem uZ{d:DF}(hs:d.1.length<=16777216){NX:List (List Int)}(AC:List Bool)(st:Int)(hr:∀r∈NX,r.length=d.1.length)(hn:NX.length<=16777216):
 Wp (λn=>aF n (iD (mh tbl n) n d) ((0:Int),(0:Int),st,([]:List Int),NX,AC,List.replicate NX.length ([]:List Int),()))
  λr=>r=((0:Int),st,((List.range d.1.length).filter (ff NX)).map (λc=>d.1.getD c 0),NX,AC,NX.map (λr=>((List.range d.1.length).filter (ff NX)).map λc=>r.getD c 0),()):=by
 refine aJ (N:=d.1.length) (I:=λc s=>s=((c:Int),(0:Int),st,((List.range c).filter (ff NX)).map (λc=>d.1.getD c 0),NX,AC,NX.map (λr=>((List.range c).filter (ff NX)).map λc=>r.getD c 0),())) ?_ ?_ ?_
 ·show _=((0:Int),(0:Int),st,[],NX,AC,NX.map (λ_=>[]),())
  rw[List.map_const']
 ·rintro c s hc rfl
  generalize hS:((List.range c).filter (ff NX)).map (λc=>d.1.getD c 0)=S1
  have hSl:S1.length<=c:=by
   rw[<-hS,List.length_map]
   exact Nat.le_trans (List.length_filter_le ..) (by simp)
  generalize hg:(λr:List Int=>((List.range c).filter (ff NX)).map λc=>r.getD c 0)=g
  have hgl:∀r,(g r).length<=c:=λr=>by
   rw[<-hg,List.length_map]
   exact Nat.le_trans (List.length_filter_le ..) (by simp)
  unfold iD
  refine bc hc (ae (au hc ?_))
  refine ae (aJ (N:=NX.length) (I:=λj s=>s=((decide (c=0)||(NX.take j).any λr=>r.getD c 0 != r.getD (c - 1) 0),(j:Int),(0:Int),st,S1,NX,AC,NX.map g,())) ?_ ?_ ?_)
  ·rw[List.take_zero,List.any_nil,Bool.or_false,show(((c:Int)==(0:Int)))=decide (c=0)from ?_]
   ·rfl
   ·by_cases e:c=0<;>simp[e]
  ·rintro j s hj rfl
   have hjl:=hr _ (List.getElem_mem hj)
   unfold lU
   refine bc hj (au hj (aW (x:=NX[j]) (List.getElem?_eq_getElem hj) ?_))
   refine ae (cg (b:=NX[j].getD c 0 != NX[j].getD (c - 1) 0) (λhf=>?_) (aa ?_))
   ·have h0:0<c:=by
     simp only[Bool.or_eq_false_iff,decide_eq_false_iff_not]at hf
     omega
    rw[pF h0 (by omega)]
    refine au (by omega) (au (by omega) (aa ?_))
    rw[getD_at (by omega),getD_at (by omega)]
   ·rw[an hj (by omega),Gb hj]
  ·rintro s rfl
   unfold lU
   refine aQ (aa ?_)
   rw[List.take_length]
   have hkc:(decide (c=0)||NX.any λr=>r.getD c 0 != r.getD (c - 1) 0)=ff NX c:=rfl
   rw[hkc]
   have hfil:(List.range (c+1)).filter (ff NX)=(List.range c).filter (ff NX)++(if ff NX c=true then [c]else []):=by
    rw[List.range_succ,List.filter_append]
    congr 1
    cases h:ff NX c<;>simp[h]
   refine aN (λhk=>?_) λhk=>aa (aa ?_)
   ·have hk:ff NX c=true:=hk
    have hg':(λr:List Int=>((List.range (c+1)).filter (ff NX)).map λc=>r.getD c 0)=λr=>g r++[r.getD c 0]:=by
     funext r
     rw[hfil,if_pos hk,List.map_append,<-hg];rfl
    have hS':((List.range (c+1)).filter (ff NX)).map (λc=>d.1.getD c 0)=S1++[d.1[c]]:=by
     rw[hfil,if_pos hk,List.map_append,<-hS,List.map_cons,List.map_nil,getD_at hc]
    refine ap (decide_eq_true (by simp;omega)) ?_
    refine ae (aJ (N:=NX.length) (I:=λj s=>s=((j:Int),(0:Int),st,S1++[d.1[c]],NX,AC,(NX.take j).map (λr=>g r++[r.getD c 0])++(NX.drop j).map g,())) rfl ?_ ?_)
    ·rintro j s hj rfl
     have hjl:=hr _ (List.getElem_mem hj)
     have hgj:=hgl NX[j]
     have hmx:=Md (g:=g) (g':=λr=>g r++[r.getD c 0]) hj
     have hml:j<((NX.take j).map (λr=>g r++[r.getD c 0])++(NX.drop j).map g).length:=(List.getElem?_eq_some_iff.1 hmx).1
     unfold lV
     refine bc hj (au hj (aW (x:=NX[j]) (List.getElem?_eq_getElem hj) (ap (decide_eq_true (by show(0:Int)<=(j:Int);omega)) ?_)))
     refine aW (x:=g NX[j]) hmx (ly hmx (aW (x:=g NX[j]) hmx (ap (by simp) (au (by omega) (ap (decide_eq_true (by simp;omega)) ?_)))))
     refine ly hmx (aW (x:=g NX[j]) hmx (ap (by simp) (aW (x:=g NX[j]) hmx (aa ?_))))
     have hset:=Me (g:=g) (g':=λr=>g r++[r.getD c 0]) hj
     simp only[getD_at (show c<NX[j].length by omega)]at hset
     rw[an hj (by omega)]
     simp only[Int.toNat_natCast]
     rw[hset]
    ·rintro s rfl
     unfold lV
     refine aQ (aa (aa (aa ?_)))
     rw[an hc (by omega),hS',hg',List.take_length,List.drop_length,List.map_nil,List.append_nil]
   ·have hk:ff NX c=false:=hk
    have hfil':(List.range (c+1)).filter (ff NX)=(List.range c).filter (ff NX):=by rw[hfil,hk];simp
    rw[an hc (by omega),hfil',hS,hg]
 ·rintro s rfl
  unfold iD
  exact aQ (aa rfl)
theorem vq{m:Nat}{b:Int}(hb:b<=24)(hm:m<=65536)(h0:0<=b):(decide (0<=(m:Int))&&decide ((m:Int)<=(m:Int))&&decide ((m:Int)<=9223372036854775807)&&decide (b*(m:Int)<=281474976710656))=true:=by
 have:b*(m:Int)<=24*65536:=Int.mul_le_mul hb (by omega) (by omega) (by omega)
 simp only[Bool.and_eq_true,decide_eq_true_eq];omega
theorem sd{d:DF}(hd:WF d)(hk:d.1.length<=16777216)(hn:d.2.1.length<=65536):∃c:DF×Unit,((Canon c.1/\∀w,Valid w->b6 c.1 (dx c.1 w)=b6 d (dx d w))/\c.1.1.length<=d.1.length/\c.1.2.1.length<=d.2.1.length)/\
 aP tbl eQ [.d (pr [.list tI,.list (.list tI),.list tB,tI]) d] [] dj c:=by
 refine jA (sh:=dj) (λ_=>rfl) (aU zW rfl (λO n=>Ag O n d) ?_)
 unfold si
 have h:=hd.rw
 have hl:∀s∈ao d,In d s:=fy h _
 have hll:(ao d).length<=d.2.1.length:=gv h _
 obtain⟨⟨B,mi,_⟩,⟨m,hmi,hm,hB,hBl⟩,hc⟩:=BN h hk hn
 simp only at hmi hB hBl
 subst hmi
 have hst:d.2.2.2.1.toNat<B.length:=by have:=h.start.1;have:=h.start.2;omega
 refine ar (ql h (by omega) hk) (ar hc ?_)
 refine ap (vq (m:=m) (by omega) (by omega) (by omega)) (ap (vq (m:=m) (by omega) (by omega) (by omega)) (a8 h.start.1 hst ?_))
 rw[mu hst]
 refine ae (aJ (N:=(ao d).length) (I:=λi s=>∃NX AC,s=((i:Int),(0:Int),bv B d.2.2.2.1,NX,AC,())/\NX.length=m/\AC.length=m/\
  ∀s∈(ao d).take i,NX[(bv B s).toNat]? =some ((List.range d.1.length).map λc=>bv B (a9 d s c))/\AC[(bv B s).toNat]? =some (b6 d s))
  ⟨List.replicate m [],List.replicate m false,rfl,by simp,by simp,by simp⟩ ?_ ?_)
 ·rintro i s hi ⟨NX,AC,rfl,hNX,hAC,hat⟩
  have hmem:=List.getElem_mem hi
  have hin:=hl _ hmem
  obtain⟨h1,e⟩:=oV h hin
  obtain⟨h2,e2⟩:=BU h hin
  have hbl:((ao d)[i]).toNat<B.length:=by have:=hin.1;have:=hin.2;omega
  have hbr:=hB.rng.rng _ hmem
  unfold lT
  refine bc hi (au hi (ap (by simp only[Bool.and_eq_true,decide_eq_true_eq];omega) (a8 hin.1 h1 ?_)))
  rw[e]
  refine ae (aJ (N:=d.1.length) (I:=λc s=>s=((c:Int),(0:Int),bv B d.2.2.2.1,NX,AC,wE d.1.length ((List.range c).map λc=>bv B (a9 d (ao d)[i] c)),())) (by rw[List.range_zero,List.map_nil,show wE d.1.length []=List.replicate d.1.length 0 from by simp[wE]];rfl) ?_ ?_)
  ·rintro c s hc rfl
   have hcin:=bJ h _ hmem c hc
   have hci:=hl _ hcin
   have hcl:(a9 d (ao d)[i] c).toNat<B.length:=by have:=hci.1;have:=hci.2;omega
   have hrl:(wE d.1.length ((List.range c).map λc=>bv B (a9 d (ao d)[i] c))).length=d.1.length:=La (by simp;omega)
   have hml:((List.range d.1.length).map (a9 d (ao d)[i])).length=d.1.length:=by simp
   unfold lS
   rw[hml]
   refine bc hc (ly (x:=a9 d (ao d)[i] c) (by simp[hc]) (a8 hci.1 hcl ?_))
   refine au (by rw[hrl];exact hc) (aW (x:=(wE d.1.length ((List.range c).map λc=>bv B (a9 d (ao d)[i] c)))[c]'(by rw[hrl];exact hc)) (List.getElem?_eq_getElem _) (aa ?_))
   rw[an hc (by omega),mu hcl]
   simp only[Int.toNat_natCast]
   rw[Lb (by simp) hc,List.range_succ,List.map_append]
   rfl
  ·rintro s rfl
   unfold lS
   have hml:((List.range d.1.length).map (a9 d (ao d)[i])).length=d.1.length:=by simp
   rw[hml]
   have hNl:(bv B (ao d)[i]).toNat<NX.length:=by omega
   have hAl:(bv B (ao d)[i]).toNat<AC.length:=by omega
   refine aQ (aa (a8 hin.1 hbl ?_))
   rw[mu hbl]
   refine a8 hbr.1 hNl (aW (x:=NX[(bv B (ao d)[i]).toNat]) (List.getElem?_eq_getElem hNl) (a8 hin.1 hbl ?_))
   rw[mu hbl]
   refine a8 hin.1 h2 (a8 hbr.1 hAl (aW (x:=AC[(bv B (ao d)[i]).toNat]) (List.getElem?_eq_getElem hAl) (aa ?_)))
   rw[an hi (by omega),e2,I6 (by simp)]
   refine⟨_,_,rfl,by simpa using hNX,by simpa using hAC,λs hs=>?_⟩
   rw[List.take_add_one,List.getElem?_eq_getElem hi]at hs
   have hsm:s∈ao d:=by
    rcases List.mem_append.1 hs with h3|h3
    ·exact List.mem_of_mem_take h3
    ·simp at h3;subst h3;exact hmem
   have hsr:=hB.rng.rng s hsm
   by_cases hsame:bv B s=bv B (ao d)[i]
   ·have he:=(hB.eqv s _ hsm hmem).1 hsame
    rw[hsame,List.getElem?_set_self hNl,List.getElem?_set_self hAl]
    refine⟨?_,by rw[he.nil]⟩
    congr 1
    refine List.map_congr_left λc hc=>?_
    have hc':=List.mem_range.1 hc
    exact((hB.eqv _ _ (bJ h s hsm c hc') (bJ h _ hmem c hc')).2 (he.step hc)).symm
   ·have hne:(bv B (ao d)[i]).toNat≠(bv B s).toNat:=λe=>hsame (by omega)
    rw[List.getElem?_set_ne hne,List.getElem?_set_ne hne]
    rcases List.mem_append.1 hs with h3|h3
    ·exact hat s h3
    ·simp at h3;subst h3;exact absurd rfl hsame
 ·rintro s ⟨NX,AC,rfl,hNX,hAC,hat⟩
  rw[List.take_length]at hat
  unfold lT
  refine aQ (aa ?_)
  have hQ:Quo d B m NX AC:=⟨hB,hm,⟨hNX,hAC⟩,hat⟩
  have hQr:=hQ.rw h
  refine ap (vq (m:=m) (by omega) (by omega) (by omega)) ?_
  have hcols:=uZ hk (NX:=NX) AC (bv B d.2.2.2.1) (λr hr=>hQr.rows r hr) (by omega)
  rw[hNX]at hcols
  refine ae (Wp.imp hcols λr hr=>?_)
  subst hr
  have hsel:=Nx (ff NX) hQr
  refine ar (wZ (d:=jm (d.1,NX,AC,bv B d.2.2.2.1,()) (ff NX)) hsel ?_ ?_) (aa ⟨_,rfl,hQ.canon hd,?_,?_⟩)
  ·simp only[jm,List.length_map]
   exact Nat.le_trans (List.length_filter_le ..) (by simpa using hk)
  ·simp only[jm,List.length_map]
   omega
  ·simp only[ru,jm,List.length_map]
   exact Nat.le_trans (List.length_filter_le ..) (by simp)
  ·simp only[ru,List.length_map]
   refine Nat.le_trans (gv hsel _) ?_
   simp only[jm,List.length_map]
   omega
end Go.Proofs.Ytbpdbooalkkenaa
namespace Go.Proofs.Ytbpdbooalkkenaa
open Go Go.Av Go.Ev Go.Pl
structure Quo2(d:DF)(B:List Int)(m:Nat)(NX:List (List Int))(AC:List Bool):Prop where
 blk:BlkOk d (·∈cy d.2.1.length) B m
 len:NX.length=m/\AC.length=m
 at_:∀s,In d s->NX[(bv B s).toNat]? =some ((List.range d.1.length).map λc=>bv B (a9 d s c))/\AC[(bv B s).toNat]? =some (b6 d s)
section
variable {d:DF} {B:List Int} {m:Nat} {NX:List (List Int)} {AC:List Bool}
abbrev qD(d:DF)(B:List Int)(NX:List (List Int))(AC:List Bool):DF:=(d.1,NX,AC,bv B d.2.2.2.1,())
theorem Quo2.rw(hd:RW d)(h:Quo2 d B m NX AC):RW (qD d B NX AC):=by
 have hst:=h.blk.rng.rng _ (rangeI_mem.2 hd.start)
 have hrow:∀r∈NX,∃s,In d s/\r=(List.range d.1.length).map λc=>bv B (a9 d s c):=λr hr=>by
  obtain⟨b,hb,rfl⟩:=List.mem_iff_getElem.1 hr
  obtain⟨s,hs,e⟩:=h.blk.rng.onto b (by rw[<-h.len.1];exact hb)
  refine⟨s,rangeI_mem.1 hs,?_⟩
  have:=(h.at_ s (rangeI_mem.1 hs)).1
  rw[e,Int.toNat_natCast,List.getElem?_eq_getElem hb]at this
  exact Option.some.inj this
 refine⟨⟨?_,?_⟩,λr hr=>?_,⟨hst.1,?_⟩,λr hr t ht=>?_⟩
 ·show 0<NX.length
  rw[h.len.1];omega
 ·show AC.length=NX.length
  rw[h.len.1,h.len.2]
 ·obtain⟨s,_,rfl⟩:=hrow r hr
  simp
 ·show bv B d.2.2.2.1<(NX.length:Int)
  rw[h.len.1];exact hst.2
 ·obtain⟨s,hs,rfl⟩:=hrow r hr
  obtain⟨c,hc,rfl⟩:=List.mem_map.1 ht
  have:=h.blk.rng.rng _ (rangeI_mem.2 (oO hd hs (List.mem_range.1 hc)))
  refine⟨this.1,?_⟩
  show bv B (a9 d s c)<(NX.length:Int)
  rw[h.len.1];exact this.2
theorem Quo2.col(h:Quo2 d B m NX AC){s:Int}(hs:In d s){c:Nat}(hc:c<d.1.length):a9 (qD d B NX AC) (bv B s) c=bv B (a9 d s c):=by
 show(NX.getD (bv B s).toNat []).getD c 0=_
 simp only[List.getD_eq_getElem?_getD,(h.at_ s hs).1,Option.getD_some,List.getElem?_map,List.getElem?_range hc,Option.map_some]
theorem Quo2.acc(h:Quo2 d B m NX AC){s:Int}(hs:In d s):b6 (qD d B NX AC) (bv B s)=b6 d s:=by
 show AC.getD (bv B s).toNat false=_
 rw[List.getD_eq_getElem?_getD,(h.at_ s hs).2];rfl
def lG(q:DF)(c:Nat):Bool:=decide (c=0)||(ao q).any λs=>a9 q s c != a9 q s (c - 1)
theorem Ec(q:DF):Keeps q (lG q):=by
 refine⟨rfl,λb hb c hc hk=>?_,λc hc hk=>?_⟩
 ·simp only[lG,Bool.or_eq_false_iff,decide_eq_false_iff_not,List.any_eq_false]at hk
  exact⟨by omega,by simpa using hk.2 b hb⟩
 ·simp only[lG,Bool.or_eq_true,decide_eq_true_eq,List.any_eq_true]at hk
  rcases hk with hk|⟨b,hb,hk⟩
  ·omega
  ·exact⟨b,hb,by simpa using hk⟩
theorem Quo2.canon(hd:WF d)(h:Quo2 d B m NX AC):Canon (br (qD d B NX AC) (fo (qD d B NX AC) (lG (qD d B NX AC))))/\∀w,Valid w->b6 (br (qD d B NX AC) (fo (qD d B NX AC) (lG (qD d B NX AC)))) (dx (br (qD d B NX AC) (fo (qD d B NX AC) (lG (qD d B NX AC)))) w)=b6 d (dx d w):=
 yj hd (h.rw hd.rw) rfl h.blk (λs hs=>rangeI_mem.2 (fy hd.rw _ s hs)) rfl (λs hs c hc=>h.col (fy hd.rw _ s hs) hc) (λs hs=>h.acc (fy hd.rw _ s hs)) (Ec _)
end
theorem ue{B:List Int}(hBl:B.length<=16777216)(b:Nat)(st:Int)(S1:List Int)(NX:List (List Int))(AC:List Bool)(z:Int×Int×List Int×Int×List (List Int)×List Bool×Unit)(hz:z.1=(b:Int)):
 Wp (λn=>aF n (jY (mh tbl n) n (B,()) z) ((0:Int),(0:Int),S1,st,NX,AC,())) λr=>∃k:Nat,r=((k:Int),(0:Int),S1,st,NX,AC,())/\k<=B.length/\(∀h:k<B.length,B[k]=(b:Int))/\(k=B.length->∀x∈B,x≠(b:Int)):=by
 refine Go.Ev.wp_loop (σ:=Int×Int×List Int×Int×List (List Int)×List Bool×Unit) (λs=>∃k:Nat,s=((k:Int),(0:Int),S1,st,NX,AC,())/\k<=B.length/\∀j (h:j<B.length),j<k->B[j]≠(b:Int)) (λs=>B.length - s.1.toNat) ⟨0,rfl,by omega,λj _ h=>absurd h (by omega)⟩ ?_
 rintro s ⟨k,rfl,h1,h2⟩
 unfold jY
 simp only
 by_cases hk:k<B.length
 ·refine ae (eb (b:=decide (B[k]≠(b:Int))) (λ_=>au hk (aa ?_)) ?_)
  ·rw[hz]
   by_cases e:B[k]=(b:Int)<;>simp[e]
  ·rw[show decide ((k:Int)<(B.length:Int))=true from decide_eq_true (by omega),Bool.true_and]
   refine aN (λhc=>aa ?_) λhc=>aa ⟨k,rfl,h1,λ_=>by simpa using hc,λe=>by omega⟩
   have hc:B[k]≠(b:Int):=by simpa using hc
   rw[an hk (by omega)]
   refine⟨⟨k+1,rfl,hk,λj hj hjk=>?_⟩,by simp only[Int.toNat_natCast];omega⟩
   rcases Nat.lt_succ_iff_lt_or_eq.1 hjk with hl|rfl
   ·exact h2 j hj hl
   ·exact hc
 ·rw[show decide ((k:Int)<(B.length:Int))=false from decide_eq_false (by omega)]
  refine ae (aa (aa ⟨k,rfl,h1,λh=>absurd h hk,λ_ x hx=>?_⟩))
  obtain⟨j,hj,rfl⟩:=List.mem_iff_getElem.1 hx
  exact h2 j hj (by omega)
theorem uz{d:DF}(h:RW d)(hk:d.1.length<=16777216)(hn:d.2.1.length<=16777216){B:List Int}{m:Nat}(hm:m<=d.2.1.length)(hB:BlkOk d (·∈cy d.2.1.length) B m)(hBl:B.length=d.2.1.length):
 Wp (λn=>aF n (j0 (mh tbl n) n d (B,())) ((0:Int),(0:Int),d.1,bv B d.2.2.2.1,([]:List (List Int)),([]:List Bool),()))
  λr=>∃NX AC,r=((0:Int),d.1,bv B d.2.2.2.1,NX,AC,())/\Quo2 d B m NX AC:=by
 refine Go.Ev.wp_loop (σ:=Int×Int×List Int×Int×List (List Int)×List Bool×Unit) (λs=>∃(b:Nat) (NX:List (List Int)) (AC:List Bool),s=((b:Int),(0:Int),d.1,bv B d.2.2.2.1,NX,AC,())/\b<=m/\NX.length=b/\AC.length=b/\
  ∀s,In d s->bv B s<(b:Int)->NX[(bv B s).toNat]? =some ((List.range d.1.length).map λc=>bv B (a9 d s c))/\AC[(bv B s).toNat]? =some (b6 d s)) (λs=>m - s.1.toNat)
  ⟨0,[],[],rfl,Nat.zero_le _,rfl,rfl,λs hs hb=>by have:=(hB.rng.rng s (rangeI_mem.2 hs)).1;omega⟩ ?_
 rintro s ⟨b,NX,AC,rfl,hbm,hNX,hAC,hat⟩
 unfold j0
 refine ae (Wp.imp (ue (by omega) b _ _ NX AC _ rfl) λr hr=>?_)
 obtain⟨k,rfl,hkl,hfound,hnone⟩:=hr
 simp only
 by_cases hlt:k<B.length
 ·have hkin:In d (k:Int):=⟨by omega,by omega⟩
  have hbk:bv B (k:Int)=(b:Int):=by
   rw[<-hfound hlt,<-mu (B:=B) (s:=(k:Int)) (by simpa using hlt)];rfl
  have hbr:=hB.rng.rng _ (rangeI_mem.2 hkin)
  obtain⟨h1,e⟩:=oV h hkin
  obtain⟨h2,e2⟩:=BU h hkin
  rw[show(((k:Int))==(B.length:Int))=false from by simp only[beq_eq_false_iff_ne];omega]
  refine aN (λh=>by cases h) λ_=>a8 hkin.1 h1 ?_
  rw[e]
  refine ae (aJ (N:=d.1.length) (I:=λc s=>s=((c:Int),(0:Int),d.1,bv B d.2.2.2.1,NX,AC,(List.range c).map (λc=>bv B (a9 d (k:Int) c)),())) rfl ?_ ?_)
  ·rintro c s hc rfl
   have hci:=oO h hkin hc
   have hcl:(a9 d (k:Int) c).toNat<B.length:=by have:=hci.1;have:=hci.2;omega
   have hml:((List.range d.1.length).map (a9 d (k:Int))).length=d.1.length:=by simp
   unfold jZ
   rw[hml]
   refine bc hc (ly (x:=a9 d (k:Int) c) (by simp[hc]) (a8 hci.1 hcl (ap (decide_eq_true (by simp;omega)) (aa ?_))))
   rw[an hc (by omega),mu hcl,List.range_succ,List.map_append]
   rfl
  ·rintro s rfl
   unfold jZ
   have hml:((List.range d.1.length).map (a9 d (k:Int))).length=d.1.length:=by simp
   rw[hml]
   refine aQ (aa (ap (decide_eq_true (by simp;omega)) (a8 hkin.1 h2 (ap (decide_eq_true (by simp;omega)) (aa ?_)))))
   rw[e2]
   have hw:IntKind.wrap .i64 ((b:Int)+1)=((b+1:Nat):Int):=an (n:=b+1) (by omega) (by omega)
   refine⟨⟨b+1,_,_,by rw[hw],by omega,by simpa using hNX,by simpa using hAC,λs hs hsb=>?_⟩,?_⟩
   ·have hs0:=(hB.rng.rng s (rangeI_mem.2 hs)).1
    by_cases hsame:bv B s=(b:Int)
    ·have he:=(hB.eqv s (k:Int) (rangeI_mem.2 hs) (rangeI_mem.2 hkin)).1 (hsame.trans hbk.symm)
     dsimp only
     rw[hsame,Int.toNat_natCast,List.getElem?_append_right (by omega),List.getElem?_append_right (by omega),hNX,hAC,Nat.sub_self]
     refine⟨?_,by rw[he.nil];rfl⟩
     show some _=some _
     congr 1
     refine List.map_congr_left λc hc=>?_
     have hc':=List.mem_range.1 hc
     exact((hB.eqv _ _ (rangeI_mem.2 (oO h hs hc')) (rangeI_mem.2 (oO h hkin hc'))).2 (he.step hc)).symm
    ·dsimp only
     have hlt2:bv B s<(b:Int):=by omega
     rw[List.getElem?_append_left (show(bv B s).toNat<NX.length by omega),List.getElem?_append_left (show(bv B s).toNat<AC.length by omega)]
     exact hat s hs hlt2
   ·rw[hw]
    simp only[Int.toNat_natCast]
    omega
 ·have hke:k=B.length:=by omega
  rw[show(((k:Int))==(B.length:Int))=true from by simp only[beq_iff_eq];omega]
  refine aN (λ_=>aa ⟨NX,AC,rfl,?_⟩) λh=>by cases h
  have hbe:b=m:=by
   refine Classical.byContradiction λhne=>?_
   obtain⟨s,hs,e⟩:=hB.rng.onto b (by omega)
   have hs:=rangeI_mem.1 hs
   have hsl:s.toNat<B.length:=by omega
   exact hnone hke _ (List.getElem_mem hsl) ((mu hsl).trans e)
  subst hbe
  exact⟨hB,⟨hNX,hAC⟩,λs hs=>hat s hs (hB.rng.rng s (rangeI_mem.2 hs)).2⟩
end Go.Proofs.Ytbpdbooalkkenaa
namespace Go.Proofs.Ytbpdbooalkkenaa
open Go Go.Av Go.Ev Go.Pl
abbrev nI:Nat->Int:=λk=>(k:Int)
theorem Hi{q:DF}(h:RW q){s:Int}(hs:In q s):∃h1:s.toNat<q.2.1.length,∀c,(hc:c<q.1.length)->∃h2:c<q.2.1[s.toNat].length,q.2.1[s.toNat][c]=a9 q s c:=by
 obtain⟨h1,e⟩:=oV h hs
 refine⟨h1,λc hc=>?_⟩
 have h2:c<q.2.1[s.toNat].length:=by rw[h.rows _ (List.getElem_mem h1)];exact hc
 refine⟨h2,?_⟩
 unfold a9
 simp only[List.getD_eq_getElem?_getD,List.getElem?_eq_getElem h1,Option.getD_some,List.getElem?_eq_getElem h2]
theorem t4{q:DF}(h:RW q)(hk:q.1.length<=16777216)(hn:q.2.1.length<=16777216):
 Wp (λn=>aF n (gG (mh tbl n) n ((0:Int),q.1,q.2.2.2.1,q.2.1,q.2.2.1,()) (ao q,())) ((0:Int),(0:Int),q.1,q.2.1,q.2.2.1,q.2.2.2.1,([]:List Int),()))
  λr=>r=((0:Int),q.1,q.2.1,q.2.2.1,q.2.2.2.1,(fo q (lG q)).map nI,()):=by
 have hl:∀s∈ao q,In q s:=fy h _
 have hll:(ao q).length<=q.2.1.length:=gv h _
 refine aJ (N:=q.1.length) (I:=λc s=>s=((c:Int),(0:Int),q.1,q.2.1,q.2.2.1,q.2.2.2.1,((List.range c).filter (lG q)).map nI,())) rfl ?_ ?_
 ·rintro c s hc rfl
  generalize hS:((List.range c).filter (lG q)).map nI=S1
  have hSl:S1.length<=c:=by
   rw[<-hS,List.length_map]
   exact Nat.le_trans (List.length_filter_le ..) (by simp)
  unfold gG
  refine bc hc (ae ?_)
  refine ae (aJ (N:=(ao q).length) (I:=λj s=>s=((decide (c=0)||((ao q).take j).any λs=>a9 q s c != a9 q s (c - 1)),(j:Int),(0:Int),q.1,q.2.1,q.2.2.1,q.2.2.2.1,S1,())) ?_ ?_ ?_)
  ·rw[List.take_zero,List.any_nil,Bool.or_false,show(((c:Int)==(0:Int)))=decide (c=0)from ?_]
   ·rfl
   ·by_cases e:c=0<;>simp[e]
  ·rintro j s hj rfl
   have hin:=hl _ (List.getElem_mem hj)
   obtain⟨h1,hcol⟩:=Hi h hin
   unfold j3
   refine bc hj (au hj ?_)
   refine ae (cg (b:=decide (0<c)&&(a9 q (ao q)[j] c != a9 q (ao q)[j] (c - 1))) (λhf=>ae (eb (b:=a9 q (ao q)[j] c != a9 q (ao q)[j] (c - 1)) (λh0=>?_) (aa ?_))) (aa ?_))
   ·have h0:0<c:=by simpa using h0
    obtain⟨g1,e1⟩:=hcol c hc
    obtain⟨g2,e2⟩:=hcol (c - 1) (by omega)
    rw[pF h0 (by omega)]
    refine a8 hin.1 h1 (au g1 (a8 hin.1 h1 (au g2 (aa ?_))))
    rw[e1,e2]
   ·congr 1
    exact decide_eq_decide.2 (by omega)
   ·rw[an hj (by omega),List.take_add_one,List.getElem?_eq_getElem hj,List.any_append]
    congr 1
    by_cases e:c=0
    ·simp[e]
    ·simp only[Option.toList_some,List.any_cons,List.any_nil,Bool.or_false,decide_eq_true (show 0<c by omega),Bool.true_and,Bool.or_assoc]
  ·rintro s rfl
   unfold j3
   refine aQ (aa ?_)
   rw[List.take_length]
   have hkc:(decide (c=0)||(ao q).any λs=>a9 q s c != a9 q s (c - 1))=lG q c:=rfl
   rw[hkc]
   have hfil:(List.range (c+1)).filter (lG q)=(List.range c).filter (lG q)++(if lG q c=true then [c]else []):=by
    rw[List.range_succ,List.filter_append]
    congr 1
    cases h:lG q c<;>simp[h]
   refine aN (λhkk=>ap (decide_eq_true (by simp;omega)) (aa (aa ?_))) λhkk=>aa (aa ?_)
   ·have hkk:lG q c=true:=hkk
    rw[an hc (by omega),hfil,if_pos hkk,List.map_append,hS]
    rfl
   ·have hkk:lG q c=false:=hkk
    rw[an hc (by omega),hfil,hkk,if_neg (by simp),List.append_nil,hS]
 ·rintro s rfl
  unfold gG
  exact aQ (aa rfl)
theorem m6{d:DF}(hd:WF d)(hk:d.1.length<=16777216)(hn:d.2.1.length<=65536):∃c:DF×Unit,(Canon c.1/\∀w,Valid w->b6 c.1 (dx c.1 w)=b6 d (dx d w))/\
 aP tbl d5 [.d (pr [.list tI,.list (.list tI),.list tB,tI]) d] [] cS c:=by
 refine jA (sh:=cS) (λ_=>rfl) (aU yI rfl (λO n=>yS O n d) ?_)
 unfold qH
 have h:=hd.rw
 obtain⟨⟨B,_⟩,⟨m,hm,hB,hBl⟩,hc⟩:=w8 h hk (by omega)
 simp only at hB hBl
 have hst:d.2.2.2.1.toNat<B.length:=by have:=h.start.1;have:=h.start.2;omega
 refine ar hc (a8 h.start.1 hst ?_)
 rw[mu hst]
 refine ae (Wp.imp (uz h hk (by omega) hm hB hBl) λr hr=>?_)
 obtain⟨NX,AC,rfl,hQ⟩:=hr
 have hcanon:=hQ.canon hd
 have hq:=hQ.rw h
 have hqn:(qD d B NX AC).2.1.length<=65536:=by show NX.length<=_;rw[hQ.len.1];omega
 generalize hqe:qD d B NX AC=q at hcanon hq hqn
 have e1:d.1=q.1:=by rw[<-hqe]
 have e2:NX=q.2.1:=by rw[<-hqe]
 have e3:AC=q.2.2.1:=by rw[<-hqe]
 have e4:bv B d.2.2.2.1=q.2.2.2.1:=by rw[<-hqe]
 rw[e4,e1,e2,e3]
 rw[e1]at hk
 have hl:∀s∈ao q,In q s:=fy hq _
 have hll:(ao q).length<=q.2.1.length:=gv hq _
 refine ar (tE (d:=q) hq (by omega) hk) ?_
 refine ae (Wp.imp (t4 hq hk (by omega)) λr hr=>?_)
 subst hr
 simp only
 generalize hcs:fo q (lG q)=cs at hcanon
 have hcl:cs.length<=q.1.length:=by rw[<-hcs];exact Nat.le_trans (List.length_filter_le ..) (by simp)
 have hcb:∀c∈cs,c<q.1.length:=λc hc=>by rw[<-hcs]at hc;exact(cls_mem.1 hc).1
 refine ap (by simp only[Bool.and_eq_true,decide_eq_true_eq];omega) ?_
 refine ae (aJ (N:=(ao q).length) (I:=λi s=>∃A:List Int,s=((i:Int),(0:Int),q.1,q.2.1,q.2.2.1,q.2.2.2.1,cs.map nI,A,())/\A.length=q.2.1.length/\∀x∈(ao q).take i,bv A x=(pos (ao q) x:Int)) ⟨List.replicate q.2.1.length 0,rfl,by simp,by simp⟩ ?_ ?_)
 ·rintro i s hi ⟨A,rfl,hA,hb⟩
  have hin:=hl _ (List.getElem_mem hi)
  have hbl:((ao q)[i]).toNat<A.length:=by have:=hin.1;have:=hin.2;omega
  unfold j4
  refine bc hi (au hi (a8 hin.1 hbl (aW (x:=A[((ao q)[i]).toNat]) (List.getElem?_eq_getElem hbl) (aa ?_))))
  rw[an hi (by omega)]
  refine⟨_,rfl,by simpa using hA,λx hx=>?_⟩
  rw[List.take_add_one,List.getElem?_eq_getElem hi]at hx
  have hx0:0<=x:=by
   rcases List.mem_append.1 hx with h1|h1
   ·exact(hl x (List.mem_of_mem_take h1)).1
   ·simp at h1;subst h1;exact hin.1
  rw[qR hin.1 hx0 hbl]
  split
  ·rename_i e;rw[e,KG uB hi]
  ·rename_i e
   rcases List.mem_append.1 hx with h1|h1
   ·exact hb x h1
   ·simp at h1;exact absurd h1 e
 ·rintro s ⟨A,rfl,hA,hb⟩
  rw[List.take_length]at hb
  unfold j4
  refine aQ (aa ?_)
  have hml:(cs.map nI).length=cs.length:=by simp
  have hcat:∀j (hj:j<cs.length),(cs.map nI)[j]? =some ((cs[j]:Nat):Int):=λj hj=>by simp[hj]
  refine ae (aJ (N:=cs.length) (I:=λj s=>s=((j:Int),(0:Int),q.1,q.2.1,q.2.2.1,q.2.2.2.1,cs.map nI,A,(0:Int),(cs.take j).map (λc=>q.1.getD c 0),())) rfl ?_ ?_)
  ·rintro j s hj rfl
   have hcj:=hcb _ (List.getElem_mem hj)
   unfold j5
   simp only[hml]
   refine bc hj (ly (hcat j hj) (aW (x:=((cs[j]:Nat):Int)) (hcat j hj) (au hcj (ap (decide_eq_true (by simp;omega)) (aa ?_)))))
   rw[an hj (by omega),List.take_add_one,List.getElem?_eq_getElem hj,List.map_append,<-getD_at (z:=0) hcj]
   rfl
  ·rintro s rfl
   unfold j5
   simp only[hml]
   refine aQ (aa ?_)
   rw[List.take_length]
   generalize hST:cs.map (λc=>q.1.getD c 0)=ST
   refine ae (aJ (N:=(ao q).length) (I:=λi s=>s=((i:Int),(0:Int),q.1,q.2.1,q.2.2.1,q.2.2.2.1,cs.map nI,A,(0:Int),ST,((ao q).take i).map (λb=>cs.map λc=>(pos (ao q) (a9 q b c):Int)),((ao q).take i).map (b6 q),())) rfl ?_ ?_)
   ·rintro i s hi rfl
    have hin:=hl _ (List.getElem_mem hi)
    obtain⟨h1,hcol⟩:=Hi hq hin
    obtain⟨h2,ea⟩:=BU hq hin
    generalize hNX:((ao q).take i).map (λb=>cs.map λc=>(pos (ao q) (a9 q b c):Int))=NO
    generalize hAC:((ao q).take i).map (b6 q)=AO
    have hNl:NO.length=i:=by rw[<-hNX];simp;omega
    have hAl:AO.length=i:=by rw[<-hAC];simp;omega
    unfold j7
    refine bc hi (au hi ?_)
    refine ae (aJ (N:=cs.length) (I:=λj s=>s=((j:Int),(0:Int),q.1,q.2.1,q.2.2.1,q.2.2.2.1,cs.map nI,A,(0:Int),ST,NO,AO,(cs.take j).map (λc=>(pos (ao q) (a9 q (ao q)[i] c):Int)),())) rfl ?_ ?_)
    ·rintro j s hj rfl
     have hcj:=hcb _ (List.getElem_mem hj)
     obtain⟨g1,eg⟩:=hcol _ hcj
     have hcin:=bJ hq _ (List.getElem_mem hi) _ hcj
     have hci:=hl _ hcin
     have hcl2:(a9 q (ao q)[i] cs[j]).toNat<A.length:=by have:=hci.1;have:=hci.2;omega
     unfold j6
     simp only[hml]
     refine bc hj (ly (hcat j hj) (aW (x:=((cs[j]:Nat):Int)) (hcat j hj) (a8 hin.1 h1 (au g1 ?_))))
     rw[eg]
     refine a8 hci.1 hcl2 (aW (x:=A[(a9 q (ao q)[i] cs[j]).toNat]) (List.getElem?_eq_getElem hcl2) (ap (decide_eq_true (by simp;omega)) (aa ?_)))
     rw[an hj (by omega),mu hcl2,hb _ hcin,List.take_add_one,List.getElem?_eq_getElem hj,List.map_append]
     rfl
    ·rintro s rfl
     unfold j6
     simp only[hml]
     refine aQ (aa (ap (decide_eq_true (by simp;omega)) ?_))
     simp only
     refine a8 hin.1 h2 (ap (decide_eq_true (by simp;omega)) (aa ?_))
     rw[an hi (by omega),ea,<-hNX,<-hAC,List.take_length]
     simp only[List.take_add_one,List.getElem?_eq_getElem hi,List.map_append,Option.toList_some,List.map_cons,List.map_nil]
   ·rintro s rfl
    unfold j7
    refine aQ (aa (aa ⟨_,rfl,?_⟩))
    rw[List.take_length,<-hST]
    exact hcanon
end Go.Proofs.Ytbpdbooalkkenaa
namespace Go.Proofs.Ytbpdbooalkkenaa
open Go Go.Av Go.Ev Go.Pl
noncomputable abbrev NU(a b:DF)(sp:List PR->PR->Bool)(i:Nat):SR⊕SR:=gf (Oj a b) (Nz a b) (NY a b) sp i
noncomputable def EO(a b:DF)(f:Bool)(S:SR):Bool×List Int×List PR×List Int×List Int×List (List Int)×Unit:=(f,NY a b,S.1,NV S.2.1,OU S.2.1,jT S.2.2,())
end Go.Proofs.Ytbpdbooalkkenaa
namespace Go.Proofs.Ytbpdbooalkkenaa
open Go Go.Av Go.Ev Go.Pl
theorem wb{d:DF}:∀(l:List Int) (s0:Int),(∀v∈l,0<=v/\v<=4294967295)->ip (mA d) s0 l= .inl (l.foldl (bE d) s0)
 |[],_,_=>rfl
 |x::l,s0,hv=>by
  have hx:=hv x (List.mem_cons_self ..)
  have e:mA d s0 x= .inl (bE d s0 x):=by
   unfold mA
   rw[show(decide (x<0)||decide (x>4294967295))=false by simp;omega];rfl
  simp only[ip,e,List.foldl_cons]
  exact wb l _ λv hv'=>hv v (List.mem_cons_of_mem _ hv')
theorem El{d:DF}(hg:Good d){l:List Int}(hv:∀v∈l,0<=v/\v<=4294967295):mo d l=b6 d (l.foldl (bE d) d.2.2.2.1):=by
 unfold mo
 rw[if_pos hg,wb l _ hv];rfl
end Go.Proofs.Ytbpdbooalkkenaa
namespace Go.Proofs.Ytbpdbooalkkenaa
open Go Go.Av Go.Ev Go.Pl
theorem sY:∀l:List Int,∃c,Asc c/\∀x,x∈c↔x∈l
 |[]=>⟨[],by simp[Asc],by simp⟩
 |v::l=>by
  obtain⟨c,hc,hm⟩:=sY l
  refine⟨c.filter (λy=>decide (y<v))++([v]++c.filter λy=>decide (v<y)),?_,λx=>?_⟩
  ·refine nh (List.Pairwise.sublist (List.filter_sublist ..) hc) (nh (by simp[Asc]) (List.Pairwise.sublist (List.filter_sublist ..) hc) λx hx y hy=>?_) λx hx y hy=>?_
   ·simp at hx hy;omega
   ·simp at hx hy
    rcases hy with rfl|hy<;>omega
  ·simp only[List.mem_append,List.mem_filter,decide_eq_true_eq,List.mem_cons,List.not_mem_nil,or_false,hm]
   constructor
   ·rintro(⟨h,_⟩|h|⟨h,_⟩)
    ·exact .inr h
    ·exact .inl h
    ·exact .inr h
   ·rintro(h|h)
    ·exact .inr (.inl h)
    ·rcases Int.lt_trichotomy x v with hl|he|hg
     ·exact .inl ⟨h,hl⟩
     ·exact .inr (.inl he)
     ·exact .inr (.inr ⟨h,hg⟩)
theorem Ko(d:DF):∃c:DF×Int×Unit,c.2.1=bL d/\(Good d->Canon c.1/\∀w,Valid w->b6 c.1 (dx c.1 w)=b6 d (dx d w))/\Fx c.1/\
 aP tbl kA [.d (pr [.list tI,.list (.list tI),.list tB,tI]) d] [] fO c/\aP tbl md [.d (pr [.list tI,.list (.list tI),.list tB,tI]) d] [] iZ c:=by
 by_cases hg:Good d
 ·have hl:=q9 hg
  obtain⟨⟨x,_⟩,⟨⟨h1,h2⟩,hx1,hx2⟩,h3⟩:=sd hg.wf (by omega) (by omega)
  obtain⟨⟨y,_⟩,⟨g1,g2⟩,g3⟩:=m6 hg.wf (by omega) (by omega)
  have hxy:x=y:=mE h1 g1 λw hw=>(h2 w hw).trans (g2 w hw).symm
  subst hxy
  have hc:bL d=0:=good_iff.2 hg
  refine⟨(x,0,()),hc.symm,λ_=>⟨h1,h2⟩,?_,?_,?_⟩
  ·have hw:WF x:=h1.wf
   simp only at hx1 hx2
   show Fx x
   exact⟨by omega,by omega,λr hr=>by rw[hw.rows r hr];omega,by rw[hw.len.2];omega⟩
  ·refine aT rfl (aU sP rfl (λO n=>sR O n d) ?_)
   unfold oG
   refine ar (qB d) ?_
   rw[hc]
   exact aN (λh=>by cases h) λ_=>ar h3 (aa rfl)
  ·refine aT rfl (aU qv rfl (λO n=>qw O n d) ?_)
   unfold lR
   refine ar (oD d) ?_
   rw[hc]
   exact aN (λh=>by cases h) λ_=>ar g3 (aa rfl)
 ·have hc:bL d≠0:=λe=>hg (good_iff.1 e)
  have hb:(bL d != (0:Int))=true:=by simpa using hc
  refine⟨(([],[],[],0,()),bL d,()),rfl,λh=>absurd h hg,⟨by simp,by simp,by simp,by simp⟩,?_,?_⟩
  ·refine aT rfl (aU sP rfl (λO n=>sR O n d) ?_)
   unfold oG
   refine ar (qB d) ?_
   exact aN (λ_=>aa rfl) λh=>by rw[hb]at h;cases h
  ·refine aT rfl (aU qv rfl (λO n=>qw O n d) ?_)
   unfold lR
   refine ar (oD d) ?_
   exact aN (λ_=>aa rfl) λh=>by rw[hb]at h;cases h
end Go.Proofs.Ytbpdbooalkkenaa
namespace Go.Proofs.Ytbpdbooalkkenaa
open Go Go.Av Go.Ev Go.Pl
abbrev OV(lim:Nat):List PR->PR->Bool:=λL _=>decide (lim<=L.length)
end Go.Proofs.Ytbpdbooalkkenaa
