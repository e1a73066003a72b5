import Derived.Test.YteemihfpamlccaaGreatDoorMGlueB
import Derived.Test.YteemihfpamlccaaGreatDoorML7
import Derived.Test.YteemihfpamlccaaGreatDoorML5
import Derived.Test.YteemihfpamlccaaGreatDoorMLawTopUse
set_option linter.unusedVariables false
set_option linter.unusedSimpArgs false
open Classical renaming byContradiction->a_
namespace Go.Proofs.YteemihfpamlccaaGreatDoor
open Go Go.Av Go.Ev
theorem A0:aU tbl vD [.d (pr [(.list (pr [tS,(.list (pr [tB,(pr [tW,tI]),tI,tI]))])),(.list (pr [tS,(.list (pr [tB,tS]))])),(.list (pr [tS,(.list (pr [tB,tI,tI]))])),(.list (pr [tS,(.list (pr [tS,(.list (pr [tI,tS,tI,(pr [tW,tI]),tB])),(.list (pr [tI,tI,tI,tW,tW])),tI])),tI]))]) (([],([],([],([([112],([],(1,())))],()))))),.d tS ([112]),.d (pr [(pr [tW,tI]),tI,tW,(.list tI),(.list tW),tI,tI,tI,tI]) (((0,(0,())),(2,(0,([],([],(100,(0,(0,(0,()))))))))))] [] rQ (((true,(((0,(0,())),(2,(0,([],([],(100,(0,(0,(0,()))))))))),()))),(0),()):=Ab (m:=90) λk=>by kernel_rfl
theorem A1:aU tbl ot [.d (pr [(.list (pr [tS,(.list (pr [tB,(pr [tW,tI]),tI,tI]))])),(.list (pr [tS,(.list (pr [tB,tS]))])),(.list (pr [tS,(.list (pr [tB,tI,tI]))])),(.list (pr [tS,(.list (pr [tS,(.list (pr [tI,tS,tI,(pr [tW,tI]),tB])),(.list (pr [tI,tI,tI,tW,tW])),tI])),tI]))]) (([],([],([],([([112],([],(1,())))],()))))),.d tS ([112])] [] j8 ((([],([],([(true,([],()))],((-1),()))))),(0),()):=Ab (m:=90) λk=>by kernel_rfl
theorem A2:aU tbl pY [.d (pr [(.list (pr [tI,tI,(pr [tW,tI]),(.list (pr [tB,(pr [tW,tI]),tI,tI])),(pr [(.list tI),(.list (.list tI)),(.list tB),tI]),(.list (pr [tB,tI,tI]))])),(.list (pr [tI,tI,tI])),(.list (pr [tB,(.list (pr [tI,tI,tI,tW,tW]))])),tI]) (([],([],([(true,([],()))],((-1),()))))),.d (pr [(pr [tW,tI]),tI,tW,(.list tI),(.list tW),tI,tI,tI,tI]) (((0,(0,())),(2,(0,([],([],(100,(0,(0,(0,()))))))))))] [] lT (((true,(((0,(0,())),(2,(0,([],([],(100,(0,(0,(0,()))))))))),()))),(0),(0),()):=Ab (m:=90) λk=>by kernel_rfl
theorem A3:aU tbl gV [.d tS ([54,53,48,48,49,32,46,42])] [] di ((Rx.mk 3 0 0 [Rx.mk 1 65001 65001 [],Rx.mk 5 0 0 [Rx.mk 2 0 0 []]]),(0),()):=Ab (m:=90) λk=>by kernel_rfl
theorem A4:aU tbl gU [.d .rx (Rx.mk 3 0 0 [Rx.mk 1 65001 65001 [],Rx.mk 5 0 0 [Rx.mk 2 0 0 []]]),.d (.list tI) ([65001,7])] [] cM ((true),()):=Ab (m:=90) λk=>by kernel_rfl
theorem Ec:aU tbl fJ [] [] eP (true,()):=by
 refine aZ rfl (aV HS rfl (λO n=>H7 O n) ?_)
 unfold yf
 repeat first
  |refine au A0 ?_
  |refine au A1 ?_
  |refine au A2 ?_
  |refine au A3 ?_
  |refine au A4 ?_
  |refine db rfl ?_
  |refine aX rfl ?_
  |refine aa ?_
  |refine dZ (by decide) rfl ?_
  |refine ae ?_
 rfl
open Go Go.Av Go.Ev Go.Pl
theorem range_all{path:List Int}:eK path=true↔∀v∈path,0<=v/\v<=4294967295:=by
 unfold eK
 rw[List.all_eq_true]
 constructor
 ·intro h v hv
  have:=h v hv
  simpa using this
 ·intro h v hv
  have:=h v hv
  simp[this.1,this.2]
theorem IV{path:List Int}(h:¬∀v∈path,0<=v/\v<=4294967295):eK path=false/\∃v∈path,v<0\/v>4294967295:=by
 refine⟨?_,a_ λhn=>h λv hv'=>?_⟩
 ·cases e:eK path
  ·rfl
  ·exact absurd (range_all.1 e) h
 ·have h1:¬(v<0\/v>4294967295):=λh=>hn ⟨v,hv',h⟩
  omega
theorem Q9{r:Rx}(hw:cO r=true){d:DF}(hd:Good d)(hl:∀w,Valid w->cE d (eC d w)=lR (bR r 0) w)(path:List Int):kb d path=lR (bR r 0) path:=by
 by_cases hv:∀v∈path,0<=v/\v<=4294967295
 ·rw[L9 hd hv]
  exact hl path hv
 ·obtain⟨hr,v,h1,h2⟩:=IV hv
  rw[Q7 h1 h2,IJ hw hr]
theorem QK{r:Rx}(hr:eD r=0):(aU tbl kq [.d .rx r] [] fF (zD,8,())/\aU tbl jz [.d .rx r] [] eO (zD,8,()))\/
 ∃d:DF,aU tbl kq [.d .rx r] [] fF (d,0,())/\Good d/\Canon d/\∀w,Valid w->cE d (eC d w)=lR (bR r 0) w:=by
 obtain⟨hw,hsz⟩:=mA hr
 have hg:=JZ hw hsz
 cases he:lE (bR r 0) NL with
 |inr S=>
  refine .inl ?_
  have hno:¬(sR (bR r 0)).length<=4096:=by
   intro h
   obtain⟨L,y,g1,g2,g3,g4,g5,_⟩:=(ka NL).2 S he
   have h5:=g5.length_le
   rw[g1,List.length_append]at h5
   have h6:4096<=L.length:=of_decide_eq_true g4
   have h7:(cn (bR r 0) NL).1.length<=4096:=h
   simp only[List.length_singleton]at h5
   have h8:L.length+1<=(cn (bR r 0) NL).1.length:=h5
   omega
  have h1:=vq hr (m:=zD) (λh=>absurd h hno)
  have h2:=Bs hr (m:=zD) (λh=>absurd h hno)
  rw[he]at h1 h2
  exact⟨h1,h2⟩
 |inl S=>
  refine .inr ?_
  obtain⟨_,hall⟩:=K4 he
  have hwf:=Xc hg hall
  have hk:=wx hg
  have hk1:(dN (bR r 0)).1.length<=129:=hk
  have hk2:(dN (bR r 0)).2.1.length<=4096:=by
   show((sR (bR r 0)).map _).length<=_
   rw[List.length_map];exact hall
  obtain⟨⟨m,_⟩,⟨⟨c1,c2⟩,c3,c4⟩,hm1⟩:=xW hwf (by omega) (by omega)
  have h1:=vq hr (m:=m) (λ_=>hm1)
  rw[he]at h1
  have hgood:=Rq c1 (by show m.1.length<=2000;simp only at c3;omega) (by show m.2.1.length<=4096;simp only at c4;omega)
  exact⟨m,h1,hgood,c1,λw hw=>(c2 w hw).trans (U6 hg hall hw)⟩
theorem C3{d:DF}(hg:Good d):∃x:DF,aU tbl jx [.d (pr [.list tI,.list (.list tI),.list tB,tI]) d] [] fM (x,0,())/\Canon x/\∀w,Valid w->cE x (eC x w)=cE d (eC d w):=by
 have hl:=ww hg
 obtain⟨⟨x,_⟩,⟨⟨h1,h2⟩,hx1,hx2⟩,h3⟩:=xW hg.wf (by omega) (by omega)
 have hc:fK d=0:=good_iff.2 hg
 refine⟨x,?_,h1,h2⟩
 refine aZ rfl (aV HE rfl (λO n=>HU O n d) ?_)
 unfold xY
 refine au (vr d) ?_
 rw[hc]
 exact aJ (λh=>by cases h) λ_=>au h3 (aa rfl)
theorem O9{d:DF}(hg:Good d){s:Int}(hs:In d s):cE (sC d) s= !cE d s:=by
 have h3:s.toNat<d.2.2.1.length:=by have:=hg.len;have:=hs.1;have:=hs.2;omega
 unfold cE
 rw[show(sC d).2.2.1=d.2.2.1.map (!·)from by rw[fY hg]]
 simp only[List.getD_eq_getElem?_getD,List.getElem?_map,List.getElem?_eq_getElem h3,Option.map_some,Option.getD_some]
theorem QP{d:DF}(hg:Good d)(hc:Canon d):Canon (sC d):=by
 have e1:bL (sC d)=bL d:=by rw[fY hg];rfl
 have e2:(sC d).2.2.2.1=d.2.2.2.1:=by rw[fY hg]
 have e3:(sC d).1=d.1:=by rw[fY hg]
 have e4:(sC d).2.1=d.2.1:=by rw[fY hg]
 refine⟨(FD hg).wf,?_,λs t hs ht h=>?_,λc h=>?_⟩
 ·obtain⟨i0,h0⟩:=hc.bfs
  exact⟨i0,λi hi=>by rw[e1,e2,e3,e4];exact h0 i hi⟩
 ·have hs:In d s:=by unfold In at hs⊢;rw[e4]at hs;exact hs
  have ht:In d t:=by unfold In at ht⊢;rw[e4]at ht;exact ht
  refine hc.red s t hs ht λw hw=>?_
  have:=h w hw
  rw[e1,O9 hg (Ef hc.wf w s hs hw),O9 hg (Ef hc.wf w t ht hw)]at this
  simpa using this
 ·obtain⟨s,h1,h2⟩:=hc.cols c (by rw[<-e3];exact h)
  exact⟨s,by unfold In at h1⊢;rw[e4];exact h1,by simp only[e1,e3];exact h2⟩
theorem KU(path:List Int)(hp:path.length<=1000000):aU tbl rf [.d (.list tI) path] [] kM (eK path,()):=by
 refine aZ rfl (aV M8 rfl (λO n=>Nm O n path) ?_)
 unfold CL
 refine ae (Bi (xs:=path) (P:=λv=>0<=v/\v<=4294967295) (e:=(false,())) (g:=()) (λi hi=>?_) ?_ (λh=>?_) λh=>?_)
 ·unfold sn
  refine bT hi (aB hi (ae (dw (b:=decide (path[i]>4294967295)) (λ_=>aB hi (aa rfl)) (r9 ?_ (by rw[an hi (by omega)])))))
  simp only[Bool.or_eq_true,decide_eq_true_eq]
  omega
 ·unfold sn
  exact br (aa rfl)
 ·refine aa ?_
  rw[range_all.2 h]
 ·refine aa ?_
  rw[(IV h).1]
theorem Ke(s:List UInt8)(path:List Int):Conv tbl iv [.d tS s,.d (.list tI) path] [] (·=some (ii cD (true,()))):=by
 refine aV Be rfl (λO n=>Bn O n s path) ?_
 unfold ra
 refine ae (dw (b:=decide ((path.length:Int)>20)) (λ_=>aa rfl) ?_)
 refine aJ (λ_=>au Ec (cY (λ_=>rfl) rfl)) λhs=>?_
 simp only[Bool.or_eq_false_iff,decide_eq_false_iff_not]at hs
 obtain⟨hs1,hs2⟩:=hs
 obtain⟨c,hc1,hc2⟩:=GM s (by omega)
 refine au hc2 ?_
 refine aJ (λ_=>au Ec (cY (λ_=>rfl) rfl)) λhe=>?_
 obtain⟨r,hr,rfl⟩:∃r,eD r=0/\c=(r,0,()):=by
  rcases hc1 with⟨r,hr,_,rfl⟩|⟨_,rfl⟩
  ·exact⟨r,hr,rfl⟩
  ·cases he
 obtain⟨hw,hsz⟩:=mA hr
 rw[f7]
 rcases QK hr with⟨h1,h2⟩|⟨d,h1,hgood,hcan,hl⟩
 ·refine au h1 (db rfl (au h2 ?_))
  refine ae (db rfl (aa ?_))
  exact ae (db rfl (au Ec (aa (aa rfl))))
 refine au h1 (aX rfl ?_)
 obtain⟨x,x1,x2,x3⟩:=C3 hgood
 have ex:x=d:=Ac x2 hcan x3
 subst ex
 have hgn:=FD hgood
 obtain⟨y,y1,y2,y3⟩:=C3 hgn
 have ey:y=sC x:=Ac y2 (QP hgood hcan) y3
 subst ey
 have hmb:=Q9 hw hgood hl path
 have hrg:(eK path&&lR (bR r 0) path)=lR (bR r 0) path:=by
  cases e:eK path
  ·rw[IJ hw e];rfl
  ·rfl
 refine au x1 (au (Qx x) (au y1 (au (GL r (by omega) path (by omega)) ?_)))
 rw[hw,hrg]
 refine ae (dw (b:=false) (λ_=>aa rfl) ?_)
 refine ae (dw (b:=false) (λ_=>au (Cv x path (by omega)) (aa ?_)) ?_)
 ·rw[hmb];simp
 refine ae (dw (b:=false) (λ_=>au (Cv (sC x) path (by omega)) (ae (gf (b:=eK path) (λ_=>au (KU path (by omega)) (aa rfl)) (aa ?_)))) ?_)
 ·cases e:eK path
  ·rw[Bool.and_false]
  ·rw[Q8 hgood (range_all.1 e),hmb]
   cases lR (bR r 0) path<;>rfl
 refine aX rfl ?_
 refine au (KT x x (Rl hgood)) ?_
 have e4:(sC x).2.1=x.2.1:=by rw[fY hgood]
 refine ae (gf (b:=true) (λ_=>aa ?_) ?_)
 ·show(((sC x).2.1.length:Int)==(x.2.1.length:Int))=true
  rw[e4];exact beq_self_eq_true _
 refine ae (gf (b:=true) (λ_=>au Ec (aa rfl)) (aa ?_))
 simp
theorem DU:LawOk iv [tS,.list tI]:=by
 rintro⟨s,path,_⟩ _
 exact⟨ii cD (true,()),Ke s path,rfl⟩
end Go.Proofs.YteemihfpamlccaaGreatDoor
