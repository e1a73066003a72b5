import Derived.Test.YthjnceggmnicmaaGreatDoorKLawPfx
import Derived.Test.YthjnceggmnicmaaGreatDoorKPlPfx
import Derived.Test.YthjnceggmnicmaaGreatDoorKL7
import Derived.Test.YthjnceggmnicmaaGreatDoorKGlueB
import Derived.Test.YthjnceggmnicmaaGreatDoorKL5
set_option linter.unusedVariables false
set_option linter.unusedSimpArgs false
open Bool renaming false_eq_true->p_,true_and->u_,or_eq_false_iff->v_,and_eq_true->z_,false_and->F_,not_false->G_,not_eq_true'->K_,or_eq_true->P_,not_true->S_
open Classical renaming byContradiction->c_
open Int renaming toNat_natCast->q_,eq_ofNat_of_zero_le->A_,toNat->B_
open Go.IntKind renaming wrap->b_,bits->V_,max->X_,min->Y_
open List renaming getElem_mem->a_,take_succ_eq_append_getElem->d_,length_map->e_,replicate->f_,getElem?_eq_getElem->g_,getElem?_eq_some_iff->i_,mem_of_find?_eq_some->k_,append_nil->l_,getElem?_eq_none->m_,take_length->n_,drop_eq_getElem_cons->o_,drop_zero->r_,foldl_append->s_,getElem_map->t_,mem_singleton->x_,length->y_,drop_length->C_,length_filter_le->D_,length_replicate->E_,replicate_succ'->H_,length_pos_iff->I_,filter_append->J_,ext_getElem?->L_,map->M_,all_eq_true->N_,length_take->O_,mem_append->Q_,map_cons->T_,sum_cons->U_,filter->Z_
open Nat renaming zero_le->j_,le_trans->w_,sub_self->W_
open Option renaming bind->h_
open Sum renaming inl->R_
namespace Go.Proofs.YthjnceggmnicmaaGreatDoor
open Go Go.Av Go.Ev Go.Pl
theorem ne_eqD{a b:zJ}:(true ^^ uy yA a b)=true↔¬a=b:=by rw[<-zeX];cases uy yA a b<;>simp
theorem Ca(a:zJ):aC tbl iF [.d yA a] [] br (iw a,()):=by
 refine aw rfl (aA Dj rfl (λO n=>Ds O n a) ?_);unfold tx;refine ae (ae ?_);by_cases y:a.1<1\/8<a.1;·have j:∀k:Int,1<=k->k<=8->(a.1==k)=false:=λk l p=>beq_eq_false_iff_ne.2 (by omega);refine an (j 1 (by simp) (by simp)) (an (j 2 (by simp) (by simp)) (aa (an (j 4 (by simp) (by simp)) (an (j 3 (by simp) (by simp)) (an (j 5 (by simp) (by simp)) ?_)))));refine ae (an (j 6 (by simp) (by simp)) (aa (an (j 7 (by simp) (by simp)) (an (j 8 (by simp) (by simp)) (aa (aa ?_))))));rw[show iw a=15 from if_pos y]
 have d:∀(only:zJ) (f:Bool),rh a=only->mG a=f->Wp (λ_=>bif (true ^^ uy yA a only)then aB br ((1:Int),())else bif (!f)then aB br ((5:Int),())else aB br ((0:Int),())) (λx=>x=some (kJ br (iw a,()))):=λonly f l p=>by
  have e:iw a=if ¬a=only then 1 else if f=false then 5 else 0:=by unfold iw;grind
  rw[e]
  refine au (λh=>aa ?_) λh=>au (λh'=>aa ?_) λh'=>aa ?_
  ·rw[if_pos (ne_eqD.1 h)]
  ·rw[if_neg (λx=>by rw[ne_eqD.2 x]at h;grind),if_pos (by grind)]
  ·rw[if_neg (λx=>by rw[ne_eqD.2 x]at h;grind),if_neg (by grind)]
 have g:∀{k:Int},a.1≠k->(a.1==k)=false:=λh=>beq_eq_false_iff_ne.2 h;have c:∀{k:Int},a.1=k->(a.1==k)=true:=λh=>beq_iff_eq.2 h;by_cases l:a.1=1
 ·refine aJ (c l) (aa (aJ (c l) (aj (cK a.2.1 0 4294967295) (aa (d _ _ ?_ ?_)))));·unfold rh;grind
  ·unfold mG;grind
 refine an (g l) ?_;by_cases p:a.1=2
 ·refine aJ (c p) (aa (aJ (c p) (aj (cK a.2.1 0 4294967295) (aa (d _ _ ?_ ?_)))));·unfold rh;grind
  ·unfold mG;grind
 refine an (g p) (aa ?_);by_cases u:a.1=4
 ·refine aJ (c u) (aj (cK a.2.1 0 4294967295) (aa (d _ _ ?_ ?_)));·unfold rh;grind
  ·unfold mG;grind
 refine an (g u) ?_;by_cases s:a.1=3
 ·refine aJ (c s) (aj (cK a.2.1 0 16777216) (aa (d _ _ ?_ ?_)));·unfold rh;grind
  ·unfold mG;grind
 refine an (g s) ?_;by_cases v:a.1=5
 ·refine aJ (c v) (aa (d _ _ ?_ ?_));·unfold rh;grind
  ·unfold mG;grind
 refine an (g v) (ae ?_);by_cases r:a.1=6
 ·refine aJ (c r) (aa (aJ (c r) (aa (d _ _ ?_ ?_))));·unfold rh;grind
  ·unfold mG;grind
 refine an (g r) (aa ?_);by_cases w:a.1=7
 ·refine aJ (c w) (aa (d _ _ ?_ ?_));·unfold rh;grind
  ·unfold mG;grind
 refine an (g w) (aJ (c (by omega)) (aj (cK a.2.2.1 1 4294967295) ?_));refine ae (bz (b:=decide (1<=a.2.1)&&decide (a.2.1<=16)) (λ_=>aj (cK a.2.1 1 16) (aa rfl)) (aa (d _ _ ?_ ?_)));·unfold rh;grind
 ·unfold mG;grind
theorem zL(r:CRU):aC tbl gm [.d yC r] [] cQ (ow r,()):=by
 refine aw rfl (aA AM rfl (λO n=>AX O n r) ?_);unfold ql;refine aj (cK r.2.1 (-1) 65535) (ae (bG (b:= !(decide (-1<=r.2.2.1)&&decide (r.2.2.1<=65535))) (λ_=>aj (cK r.2.2.1 (-1) 65535) (aa rfl)) ?_));refine au (λh=>aa ?_) λh=>aa ?_;·rw[show ow r=5 from if_pos (by grind)]
 ·rw[show ow r=0 from if_neg (by grind)]
theorem Hp{α:Type}{p:α->Bool}{l:List α}:l.any p=(l.find? p).isSome:=by grind
theorem F7(s:PS)(hs:okD yS s)(a:List y9)(t:y9)(w:a.length<=9223372036854775807)(v:okD yT t):aC tbl kB [.d yN (cp s),.d (.list yT) a,.d yT t] [] bK (gg s a t,()):=by
 refine aw rfl (aA GI rfl (λO n=>GO O n (cp s) a t) ?_);unfold vU;have j:∀m∈t.2.1,hZ m.2.2.2.1.1:=λm j=>((v.2.1.2 m j).2.2.2.1).1;refine aj (Bg t.1 v.1) (au (λh=>aa ?_) λh=>?_);·rw[show gg s a t=1 from if_pos (by grind)]
 have hn:¬mh t.1=false:=by grind
 refine ae (ye (xs:=a) (p:=(·.1==t.1)) (g:=λ_=>((7:Int),())) (e:=()) (λi r c=>?_) ?_ ?_)
 ·unfold mr;have d:=(i_.1 c).1;refine a8 d (IQ c (au (λh=>aa ?_) λh=>aa ?_));·grind
  ·rw[if_neg (by grind),ap d w]
 ·unfold mr;exact aR (aa rfl)
 have b:a.any (·.1==t.1)=(a.find? (·.1==t.1)).isSome:=Hp;cases e:a.find? (·.1==t.1)with
 |some r=>rw[e]at b;refine aa ?_;have b:a.any (·.1==t.1)=true:=b;rw[show gg s a t=7 from by unfold gg;grind]|none=>
  rw[e]at b;have z:¬a.any (·.1==t.1)=true:=by grind
  refine au (λh=>aa ?_) λh=>?_;·rw[show gg s a t=4 from by unfold gg;grind]
  have x:¬t.2.1.length>64:=by grind
  refine ae (tu (l:=t.2.1) (f:=gP s) (enc:=λi=>((i:Int),())) (oB:=λe=>(e,())) (oE:=()) (λi c=>?_) ?_ ?_)
  ·unfold mu;refine a8 c (aI c (aj (Eb s _ hs (j _ (a_ c))) (au (λh=>aa ?_) λh=>aa ?_)));·grind
   ·rw[if_pos (by grind),ap c (by omega)]
  ·unfold mu;exact aR (aa rfl)
  by_cases k:cf (gP s) t.2.1=0
  ·rw[if_pos k];refine au (λh=>aa ?_) λh=>?_;·rw[show gg s a t=4 from by unfold gg;grind]
   have y:¬t.2.2.1.length>64:=by grind
   refine ae (tu (l:=t.2.2.1) (f:=iw) (enc:=λi=>((i:Int),())) (oB:=λe=>(e,())) (oE:=()) (λi c=>?_) ?_ ?_)
   ·unfold mw;refine a8 c (aI c (aj (Ca _) (au (λh=>aa ?_) λh=>aa ?_)));·grind
    ·rw[if_pos (by grind),ap c (by omega)]
   ·unfold mw;exact aR (aa rfl)
   by_cases u:cf iw t.2.2.1=0
   ·rw[if_pos u];refine aj (cK t.2.2.2.1 1 3) (au (λh=>aa ?_) λh=>aa ?_);·rw[show gg s a t=15 from by unfold gg;grind]
    ·rw[show gg s a t=0 from by unfold gg;grind]
   ·rw[if_neg u];refine aa ?_;rw[show gg s a t=cf iw t.2.2.1 from by unfold gg;grind]
  ·rw[if_neg k];refine aa ?_;rw[show gg s a t=cf (gP s) t.2.1 from by unfold gg;grind]
def Xd(s:PS)(l:List y9)(i:Nat):Int:=match l[i]? with|some t=>gg s (l.take i) t|none=>0
theorem zaS(s:PS)(p:FM):oH s p=if lM (Xd s p.2.1) p.2.1.length≠0 then lM (Xd s p.2.1) p.2.1.length else if p.2.2.1≠1/\p.2.2.1≠2 then 15 else 0:=rfl
theorem Xe{s:PS}{l:List y9}{i:Nat}(a:i<l.length):Xd s l i=gg s (l.take i) l[i]:=by unfold Xd;rw[g_ a]
theorem Cb(s:PS)(hs:okD yS s)(p:FM)(hp:okD yO p):aC tbl iG [.d yN (cp s),.d yO p] [] cF (oH s p,()):=by
 refine aw rfl (aA Dk rfl (λO n=>Dt O n (cp s) p) ?_);unfold tz;have hl:p.2.1.length<=9223372036854775807:=hp.2.1.1;refine ae (uG (N:=p.2.1.length) (f:=Xd s p.2.1) (enc:=λi=>((i:Int),())) (oB:=λe=>(e,())) (oE:=()) (λi a=>?_) ?_ ?_)
 ·unfold kt;refine a8 a (aI a (aE (decide_eq_true (by simp)) (aE (by grind) ?_)));rw[r_,q_];refine aj (F7 s hs _ _ (by grind) (hp.2.1.2 _ (a_ a))) ?_;rw[<-Xe a];refine au (λh=>aa ?_) λh=>aa ?_;·grind
  ·rw[if_pos (by grind),ap a hl]
 ·unfold kt;exact aR (aa rfl)
 rw[zaS];by_cases e:lM (Xd s p.2.1) p.2.1.length=0;·rw[if_pos e,if_neg (not_not_intro e)];refine ae (bz (b:=(p.2.2.1 != 2)) (λ_=>aa rfl) (au (λh=>aa ?_) λh=>aa ?_));all_goals grind
 ·rw[if_neg e,if_pos e];exact aa rfl
theorem zeA(v:List PRU)(b:∀r∈v,hZ r.2.1.1)(i:Nat)(a:i<v.length):aC tbl eh [.d tI (i:Int),.ptr 0 0] [.box bS [.d (.list yR) v]] eu (mI v[i],v,()):=by refine aw rfl (aA BW rfl (λO n=>B2 O n (i:Int) v) ?_);unfold rH;exact aI a (aj (EW _ (b _ (a_ a))) (aa rfl))
theorem zeB(v:List HRU)(e:∀r∈v,r.2.1.length<=1048576)(i:Nat)(a:i<v.length):aC tbl ei [.d tI (i:Int),.ptr 0 0] [.box b7 [.d (.list yH) v]] ev (ig v[i].2.1,v,()):=by refine aw rfl (aA BX rfl (λO n=>B3 O n (i:Int) v) ?_);unfold rI;obtain⟨c,b,d⟩:=E8 v[i].2.1 (e _ (a_ a));rw[<-zaR b];exact aI a (aj d (aa rfl))
theorem zeC(v:List CRU)(b:∀r∈v,True)(i:Nat)(a:i<v.length):aC tbl ek [.d tI (i:Int),.ptr 0 0] [.box bI [.d (.list yC) v]] ey (ow v[i],v,()):=by refine aw rfl (aA BY rfl (λO n=>B4 O n (i:Int) v) ?_);unfold rJ;exact aI a (aj (zL _) (aa rfl))
theorem zcw(v:List PRU)(hl:v.length<=9223372036854775807)(b:∀r∈v,hZ r.2.1.1):aC tbl lV [.d tI (v.length:Int),.clo kh [0]] [.box bS [.d (.list yR) v]] fx (cf mI v,v,()):=by
 refine aw rfl (aA II rfl (λO n=>IX O n (v.length:Int) v) ?_);unfold xq;refine ae (tu (l:=v) (f:=mI) (enc:=λi=>((i:Int),v,())) (oB:=λe=>(e,v,())) (oE:=(v,())) (λi a=>?_) ?_ ?_)
 ·unfold nT;refine a8 a (aj (zeA v b i a) (au (λh=>aa ?_) λh=>aa ?_));·rw[if_neg (by simpa using h)]
  ·rw[if_pos (by simpa using h),ap a hl]
 ·unfold nT;exact aR (aa rfl)
 by_cases e:cf mI v=0;·rw[if_pos e];refine aa ?_;rw[e]
 ·rw[if_neg e];exact aa rfl
theorem zcx(v:List HRU)(hl:v.length<=9223372036854775807)(b:∀r∈v,r.2.1.length<=1048576):aC tbl iK [.d tI (v.length:Int),.clo ki [0]] [.box b7 [.d (.list yH) v]] dz (cf (λr=>ig r.2.1) v,v,()):=by
 refine aw rfl (aA Do rfl (λO n=>Dx O n (v.length:Int) v) ?_);unfold tE;refine ae (tu (l:=v) (f:=(λr=>ig r.2.1)) (enc:=λi=>((i:Int),v,())) (oB:=λe=>(e,v,())) (oE:=(v,())) (λi a=>?_) ?_ ?_)
 ·unfold kz;refine a8 a (aj (zeB v b i a) (au (λh=>aa ?_) λh=>aa ?_));·rw[if_neg (by simpa using h)]
  ·rw[if_pos (by simpa using h),ap a hl]
 ·unfold kz;exact aR (aa rfl)
 by_cases e:cf (λr=>ig r.2.1) v=0;·rw[if_pos e];refine aa ?_;rw[e]
 ·rw[if_neg e];exact aa rfl
theorem zcy(v:List CRU)(hl:v.length<=9223372036854775807)(b:∀r∈v,True):aC tbl iL [.d tI (v.length:Int),.clo kj [0]] [.box bI [.d (.list yC) v]] dA (cf ow v,v,()):=by
 refine aw rfl (aA Dp rfl (λO n=>Dy O n (v.length:Int) v) ?_);unfold tF;refine ae (tu (l:=v) (f:=ow) (enc:=λi=>((i:Int),v,())) (oB:=λe=>(e,v,())) (oE:=(v,())) (λi a=>?_) ?_ ?_)
 ·unfold kA;refine a8 a (aj (zeC v b i a) (au (λh=>aa ?_) λh=>aa ?_));·rw[if_neg (by simpa using h)]
  ·rw[if_pos (by simpa using h),ap a hl]
 ·unfold kA;exact aR (aa rfl)
 by_cases e:cf ow v=0;·rw[if_pos e];refine aa ?_;rw[e]
 ·rw[if_neg e];exact aa rfl
theorem HU{α:Type}{nm:α->List UInt8}{sz:α->Nat}{ck:α->Int}{l:List α}{i:Nat}(a:i<l.length):HT nm sz ck l i=if tR (l.map nm) i≠0 then tR (l.map nm) i else if sz l[i]>64 then 4 else ck l[i]:=by unfold HT;grind
theorem zhh{s:PS}(h:SmP s){i:Nat}(a:i<s.1.length):s.1[i].2.1.length<=9223372036854775807/\∀r∈s.1[i].2.1,hZ r.2.1.1:=⟨(h.ok.1.2 _ (a_ a)).2.1.1,λr hr=>((h.ok.1.2 _ (a_ a)).2.1.2 r hr).2.1.1⟩
theorem zhi{s:PS}(h:SmP s){i:Nat}(a:i<s.2.1.length):s.2.1[i].2.1.length<=9223372036854775807/\∀r∈s.2.1[i].2.1,r.2.1.length<=1048576:=⟨(h.ok.2.1.2 _ (a_ a)).2.1.1,λr hr=>h.pt _ (a_ a) r hr⟩
theorem zhj{s:PS}(h:SmP s){i:Nat}(a:i<s.2.2.1.length):s.2.2.1[i].2.1.length<=9223372036854775807/\∀r∈s.2.2.1[i].2.1,True:=⟨(h.ok.2.2.1.2 _ (a_ a)).2.1.1,λ_ _=>trivial⟩
theorem zhz{s:PS}(h:SmP s){i:Nat}(a:i<s.1.length):s.1[i].1.length<=9223372036854775807:=(h.ok.1.2 _ (a_ a)).1
theorem zhA{s:PS}(h:SmP s){i:Nat}(a:i<s.2.1.length):s.2.1[i].1.length<=9223372036854775807:=(h.ok.2.1.2 _ (a_ a)).1
theorem zhB{s:PS}(h:SmP s){i:Nat}(a:i<s.2.2.1.length):s.2.2.1[i].1.length<=9223372036854775807:=(h.ok.2.2.1.2 _ (a_ a)).1
theorem zhC{s:PS}(h:SmP s){i:Nat}(a:i<s.2.2.2.1.length):s.2.2.2.1[i].1.length<=9223372036854775807:=(h.ok.2.2.2.1.2 _ (a_ a)).1
abbrev bxS(s:PS):Ob:=.box aD [.d (.list yL) s.1,.d (.list yG) s.2.1,.d (.list yD) s.2.2.1,.d (.list yO) s.2.2.2.1]
theorem zeD(s:PS)(i:Nat)(a:i<s.1.length):aC tbl fJ [.d tI (i:Int),.ptr 0 0] [bxS s] fX ((s.1[i].2.1.length:Int),s.1,s.2.1,s.2.2.1,s.2.2.2.1,()):=by refine aw rfl (aA Ex rfl (λO n=>EJ O n (i:Int) s.1 s.2.1 s.2.2.1 s.2.2.2.1) ?_);unfold uK;exact aI a (aa rfl)
theorem zcA(s:PS)(hs:SmP s)(i:Nat)(a:i<s.1.length):aC tbl fK [.d tI (i:Int),.ptr 0 0] [bxS s] fY (cf mI s.1[i].2.1,s.1,s.2.1,s.2.2.1,s.2.2.2.1,()):=by refine aw rfl (aA Ey rfl (λO n=>EK O n (i:Int) s.1 s.2.1 s.2.2.1 s.2.2.2.1) ?_);unfold uL;refine aI a (aj (zcw _ (zhh hs a).1 (zhh hs a).2) (aa rfl))
theorem zev(s:PS)(hs:SmP s):aC tbl lU [.d (.list tS) (s.1.map (·.1)),.clo mV [0],.clo mW [0]] [bxS s] dR (gB (·.1) (λl=>l.2.1.length) (λl=>cf mI l.2.1) s.1,s.1,s.2.1,s.2.2.1,s.2.2.2.1,()):=by
 refine aw rfl (aA IH rfl (λO n=>IW O n (s.1.map (·.1)) s.1 s.2.1 s.2.2.1 s.2.2.2.1) ?_);unfold xp;refine au (λh=>aa ?_) λh=>?_;·rw[show gB (·.1) (λl=>l.2.1.length) (λl=>cf mI l.2.1) s.1=4 from if_pos (by have:=of_decide_eq_true h;rw[e_]at this;omega)]
 have d:¬s.1.length>64:=by have:=of_decide_eq_false h;rw[e_]at this;omega
 rw[show gB (·.1) (λl=>l.2.1.length) (λl=>cf mI l.2.1) s.1=lM (HT (·.1) (λl=>l.2.1.length) (λl=>cf mI l.2.1) s.1) (s.1.map (·.1)).length from by unfold gB;rw[if_neg d,e_]];generalize g:HT (·.1) (λl=>l.2.1.length) (λl=>cf mI l.2.1) s.1=E;refine ae (uG (N:=(s.1.map (·.1)).length) (f:=E) (enc:=λi=>((i:Int),s.1,s.2.1,s.2.2.1,s.2.2.2.1,())) (oB:=λe=>(e,s.1,s.2.1,s.2.2.1,s.2.2.2.1,())) (oE:=(s.1,s.2.1,s.2.2.1,s.2.2.2.1,())) (λi c=>?_) ?_ ?_)
 ·unfold nS;have a:i<s.1.length:=by rw[e_]at c;exact c
  have b:E i=if tR (s.1.map (·.1)) i≠0 then tR (s.1.map (·.1)) i else if s.1[i].2.1.length>64 then 4 else cf mI s.1[i].2.1:=by rw[<-g];exact HU a
  refine a8 c (aI c (aE (decide_eq_true (by omega)) (aE (by simp;omega) ?_)));refine aj (qi _ i c (by rw[e_];omega) (by rw[t_];exact zhz hs a)) ?_;refine au (λh=>aa ?_) λh=>?_
  ·have h:tR (s.1.map (·.1)) i≠0:=by simpa using h
   rw[if_pos h]at b;rw[b,if_neg h]
  rw[if_neg (by simpa using h)]at b;refine aj (zeD s i a) (au (λh=>aa ?_) λh=>?_);·have h:decide ((s.1[i].2.1.length:Int)>64)=true:=h;rw[if_pos (by have:=of_decide_eq_true h;omega)]at b;rw[b,if_neg (by decide)]
  have h:decide ((s.1[i].2.1.length:Int)>64)=false:=h;rw[if_neg (by have:=of_decide_eq_false h;omega)]at b;refine aj (zcA s hs i a) (au (λh=>aa ?_) λh=>aa ?_);·rw[b,if_neg (by simpa using h)]
  ·rw[b,if_pos (by simpa using h),ap a (by omega)]
 ·unfold nS;exact aR (aa rfl)
 by_cases e:lM E (s.1.map (·.1)).length=0;·rw[if_pos e];refine aa ?_;rw[e]
 ·rw[if_neg e];exact aa rfl
theorem zeE(s:PS)(i:Nat)(a:i<s.2.1.length):aC tbl fL [.d tI (i:Int),.ptr 0 0] [bxS s] fZ ((s.2.1[i].2.1.length:Int),s.1,s.2.1,s.2.2.1,s.2.2.2.1,()):=by refine aw rfl (aA Ez rfl (λO n=>EL O n (i:Int) s.1 s.2.1 s.2.2.1 s.2.2.2.1) ?_);unfold uM;exact aI a (aa rfl)
theorem zcB(s:PS)(hs:SmP s)(i:Nat)(a:i<s.2.1.length):aC tbl fM [.d tI (i:Int),.ptr 0 0] [bxS s] f5 (cf (λr=>ig r.2.1) s.2.1[i].2.1,s.1,s.2.1,s.2.2.1,s.2.2.2.1,()):=by refine aw rfl (aA EA rfl (λO n=>EM O n (i:Int) s.1 s.2.1 s.2.2.1 s.2.2.2.1) ?_);unfold uN;refine aI a (aj (zcx _ (zhi hs a).1 (zhi hs a).2) (aa rfl))
theorem zew(s:PS)(hs:SmP s):aC tbl iH [.d (.list tS) (s.2.1.map (·.1)),.clo mX [0],.clo mY [0]] [bxS s] cG (gB (·.1) (λl=>l.2.1.length) (λl=>cf (λr=>ig r.2.1) l.2.1) s.2.1,s.1,s.2.1,s.2.2.1,s.2.2.2.1,()):=by
 refine aw rfl (aA Dl rfl (λO n=>Du O n (s.2.1.map (·.1)) s.1 s.2.1 s.2.2.1 s.2.2.2.1) ?_);unfold tA;refine au (λh=>aa ?_) λh=>?_;·rw[show gB (·.1) (λl=>l.2.1.length) (λl=>cf (λr=>ig r.2.1) l.2.1) s.2.1=4 from if_pos (by have:=of_decide_eq_true h;rw[e_]at this;omega)]
 have d:¬s.2.1.length>64:=by have:=of_decide_eq_false h;rw[e_]at this;omega
 rw[show gB (·.1) (λl=>l.2.1.length) (λl=>cf (λr=>ig r.2.1) l.2.1) s.2.1=lM (HT (·.1) (λl=>l.2.1.length) (λl=>cf (λr=>ig r.2.1) l.2.1) s.2.1) (s.2.1.map (·.1)).length from by unfold gB;rw[if_neg d,e_]];generalize g:HT (·.1) (λl=>l.2.1.length) (λl=>cf (λr=>ig r.2.1) l.2.1) s.2.1=E;refine ae (uG (N:=(s.2.1.map (·.1)).length) (f:=E) (enc:=λi=>((i:Int),s.1,s.2.1,s.2.2.1,s.2.2.2.1,())) (oB:=λe=>(e,s.1,s.2.1,s.2.2.1,s.2.2.2.1,())) (oE:=(s.1,s.2.1,s.2.2.1,s.2.2.2.1,())) (λi c=>?_) ?_ ?_)
 ·unfold ku;have a:i<s.2.1.length:=by rw[e_]at c;exact c
  have b:E i=if tR (s.2.1.map (·.1)) i≠0 then tR (s.2.1.map (·.1)) i else if s.2.1[i].2.1.length>64 then 4 else cf (λr=>ig r.2.1) s.2.1[i].2.1:=by rw[<-g];exact HU a
  refine a8 c (aI c (aE (decide_eq_true (by omega)) (aE (by simp;omega) ?_)));refine aj (qi _ i c (by rw[e_];omega) (by rw[t_];exact zhA hs a)) ?_;refine au (λh=>aa ?_) λh=>?_
  ·have h:tR (s.2.1.map (·.1)) i≠0:=by simpa using h
   rw[if_pos h]at b;rw[b,if_neg h]
  rw[if_neg (by simpa using h)]at b;refine aj (zeE s i a) (au (λh=>aa ?_) λh=>?_);·have h:decide ((s.2.1[i].2.1.length:Int)>64)=true:=h;rw[if_pos (by have:=of_decide_eq_true h;omega)]at b;rw[b,if_neg (by decide)]
  have h:decide ((s.2.1[i].2.1.length:Int)>64)=false:=h;rw[if_neg (by have:=of_decide_eq_false h;omega)]at b;refine aj (zcB s hs i a) (au (λh=>aa ?_) λh=>aa ?_);·rw[b,if_neg (by simpa using h)]
  ·rw[b,if_pos (by simpa using h),ap a (by omega)]
 ·unfold ku;exact aR (aa rfl)
 by_cases e:lM E (s.2.1.map (·.1)).length=0;·rw[if_pos e];refine aa ?_;rw[e]
 ·rw[if_neg e];exact aa rfl
theorem zeF(s:PS)(i:Nat)(a:i<s.2.2.1.length):aC tbl fN [.d tI (i:Int),.ptr 0 0] [bxS s] f8 ((s.2.2.1[i].2.1.length:Int),s.1,s.2.1,s.2.2.1,s.2.2.2.1,()):=by refine aw rfl (aA EB rfl (λO n=>EN O n (i:Int) s.1 s.2.1 s.2.2.1 s.2.2.2.1) ?_);unfold uO;exact aI a (aa rfl)
theorem zcC(s:PS)(hs:SmP s)(i:Nat)(a:i<s.2.2.1.length):aC tbl fO [.d tI (i:Int),.ptr 0 0] [bxS s] f9 (cf ow s.2.2.1[i].2.1,s.1,s.2.1,s.2.2.1,s.2.2.2.1,()):=by refine aw rfl (aA EC rfl (λO n=>EO O n (i:Int) s.1 s.2.1 s.2.2.1 s.2.2.2.1) ?_);unfold uP;refine aI a (aj (zcy _ (zhj hs a).1 (zhj hs a).2) (aa rfl))
theorem zex(s:PS)(hs:SmP s):aC tbl iI [.d (.list tS) (s.2.2.1.map (·.1)),.clo mZ [0],.clo m4 [0]] [bxS s] cH (gB (·.1) (λl=>l.2.1.length) (λl=>cf ow l.2.1) s.2.2.1,s.1,s.2.1,s.2.2.1,s.2.2.2.1,()):=by
 refine aw rfl (aA Dm rfl (λO n=>Dv O n (s.2.2.1.map (·.1)) s.1 s.2.1 s.2.2.1 s.2.2.2.1) ?_);unfold tC;refine au (λh=>aa ?_) λh=>?_;·rw[show gB (·.1) (λl=>l.2.1.length) (λl=>cf ow l.2.1) s.2.2.1=4 from if_pos (by have:=of_decide_eq_true h;rw[e_]at this;omega)]
 have d:¬s.2.2.1.length>64:=by have:=of_decide_eq_false h;rw[e_]at this;omega
 rw[show gB (·.1) (λl=>l.2.1.length) (λl=>cf ow l.2.1) s.2.2.1=lM (HT (·.1) (λl=>l.2.1.length) (λl=>cf ow l.2.1) s.2.2.1) (s.2.2.1.map (·.1)).length from by unfold gB;rw[if_neg d,e_]];generalize g:HT (·.1) (λl=>l.2.1.length) (λl=>cf ow l.2.1) s.2.2.1=E;refine ae (uG (N:=(s.2.2.1.map (·.1)).length) (f:=E) (enc:=λi=>((i:Int),s.1,s.2.1,s.2.2.1,s.2.2.2.1,())) (oB:=λe=>(e,s.1,s.2.1,s.2.2.1,s.2.2.2.1,())) (oE:=(s.1,s.2.1,s.2.2.1,s.2.2.2.1,())) (λi c=>?_) ?_ ?_)
 ·unfold kw;have a:i<s.2.2.1.length:=by rw[e_]at c;exact c
  have b:E i=if tR (s.2.2.1.map (·.1)) i≠0 then tR (s.2.2.1.map (·.1)) i else if s.2.2.1[i].2.1.length>64 then 4 else cf ow s.2.2.1[i].2.1:=by rw[<-g];exact HU a
  refine a8 c (aI c (aE (decide_eq_true (by omega)) (aE (by simp;omega) ?_)));refine aj (qi _ i c (by rw[e_];omega) (by rw[t_];exact zhB hs a)) ?_;refine au (λh=>aa ?_) λh=>?_
  ·have h:tR (s.2.2.1.map (·.1)) i≠0:=by simpa using h
   rw[if_pos h]at b;rw[b,if_neg h]
  rw[if_neg (by simpa using h)]at b;refine aj (zeF s i a) (au (λh=>aa ?_) λh=>?_);·have h:decide ((s.2.2.1[i].2.1.length:Int)>64)=true:=h;rw[if_pos (by have:=of_decide_eq_true h;omega)]at b;rw[b,if_neg (by decide)]
  have h:decide ((s.2.2.1[i].2.1.length:Int)>64)=false:=h;rw[if_neg (by have:=of_decide_eq_false h;omega)]at b;refine aj (zcC s hs i a) (au (λh=>aa ?_) λh=>aa ?_);·rw[b,if_neg (by simpa using h)]
  ·rw[b,if_pos (by simpa using h),ap a (by omega)]
 ·unfold kw;exact aR (aa rfl)
 by_cases e:lM E (s.2.2.1.map (·.1)).length=0;·rw[if_pos e];refine aa ?_;rw[e]
 ·rw[if_neg e];exact aa rfl
abbrev bxN(s:PS):Ob:=.box fE [.d (.list tS) (cp s).1,.d (.list tS) (cp s).2.1,.d (.list tS) (cp s).2.2.1,.d (.list tS) (cp s).2.2.2.1]
theorem pk8(x:HL q_policy_Check_8_drr.sl):C4 q_policy_Check_8_drr (kJ q_policy_Check_8_drr x)=some x:=by kernel_rfl
theorem zhw(x:HL q_policy_each_dcc_v3.sl):C4 q_policy_each_dcc_v3 (kJ q_policy_each_dcc_v3 x)=some x:=by kernel_rfl
theorem zeG(s:PS)(i:Nat)(a:i<s.2.2.2.1.length):aC tbl fP [.d tI (i:Int),.ptr 0 0] [bxS s] gf ((s.2.2.2.1[i].2.1.length:Int),s.1,s.2.1,s.2.2.1,s.2.2.2.1,()):=by refine aw rfl (aA ED rfl (λO n=>EP O n (i:Int) s.1 s.2.1 s.2.2.1 s.2.2.2.1) ?_);unfold uQ;exact aI a (aa rfl)
theorem zcD(s:PS)(hs:SmP s)(i:Nat)(a:i<s.2.2.2.1.length):aC tbl eW [.d tI (i:Int),.ptr 0 0,.ptr 1 0] [bxN s,bxS s] q_policy_Check_8_drr (oH s s.2.2.2.1[i],(cp s).1,(cp s).2.1,(cp s).2.2.1,(cp s).2.2.2.1,s.1,s.2.1,s.2.2.1,s.2.2.2.1,()):=by refine aw (pk8 _) (aA Di rfl (λO n=>Dr O n (i:Int) (cp s).1 (cp s).2.1 (cp s).2.2.1 (cp s).2.2.2.1 s.1 s.2.1 s.2.2.1 s.2.2.2.1) ?_);unfold tw;exact aI a (aj (Cb s hs.ok _ (hs.ok.2.2.2.1.2 _ (a_ a))) (aa rfl))
theorem zey(s:PS)(hs:SmP s):aC tbl iJ [.d (.list tS) (s.2.2.2.1.map (·.1)),.clo m5 [0],.clo m6 [1,0]] [bxS s,bxN s] q_policy_each_dcc_v3 (gB (·.1) (λp=>p.2.1.length) (oH s) s.2.2.2.1,s.1,s.2.1,s.2.2.1,s.2.2.2.1,(cp s).1,(cp s).2.1,(cp s).2.2.1,(cp s).2.2.2.1,()):=by
 refine aw (zhw _) (aA Dn rfl (λO n=>Dw O n (s.2.2.2.1.map (·.1)) s.1 s.2.1 s.2.2.1 s.2.2.2.1 (cp s).1 (cp s).2.1 (cp s).2.2.1 (cp s).2.2.2.1) ?_);unfold tD;refine au (λh=>aa ?_) λh=>?_;·rw[show gB (·.1) (λp=>p.2.1.length) (oH s) s.2.2.2.1=4 from if_pos (by grind)]
 have d:¬s.2.2.2.1.length>64:=by grind
 rw[show gB (·.1) (λp=>p.2.1.length) (oH s) s.2.2.2.1=lM (HT (·.1) (λp=>p.2.1.length) (oH s) s.2.2.2.1) (s.2.2.2.1.map (·.1)).length from by unfold gB;grind];generalize g:HT (·.1) (λp=>p.2.1.length) (oH s) s.2.2.2.1=E;refine ae (uG (N:=(s.2.2.2.1.map (·.1)).length) (f:=E) (enc:=λi=>((i:Int),s.1,s.2.1,s.2.2.1,s.2.2.2.1,(cp s).1,(cp s).2.1,(cp s).2.2.1,(cp s).2.2.2.1,())) (oB:=λe=>(e,s.1,s.2.1,s.2.2.1,s.2.2.2.1,(cp s).1,(cp s).2.1,(cp s).2.2.1,(cp s).2.2.2.1,())) (oE:=(s.1,s.2.1,s.2.2.1,s.2.2.2.1,(cp s).1,(cp s).2.1,(cp s).2.2.1,(cp s).2.2.2.1,())) (λi c=>?_) ?_ ?_)
 ·unfold ky;have a:i<s.2.2.2.1.length:=by grind
  have b:E i=if tR (s.2.2.2.1.map (·.1)) i≠0 then tR (s.2.2.2.1.map (·.1)) i else if s.2.2.2.1[i].2.1.length>64 then 4 else oH s s.2.2.2.1[i]:=by rw[<-g];exact HU a
  refine a8 c (aI c (aE (decide_eq_true (by simp)) (aE (by grind) ?_)));refine aj (qi _ i c (by grind) (by rw[t_];exact zhC hs a)) ?_;refine au (λh=>aa ?_) λh=>?_;·grind
  rw[if_neg (by grind)]at b;refine aj (zeG s i a) (au (λh=>aa ?_) λh=>?_);·grind
  have h:decide ((s.2.2.2.1[i].2.1.length:Int)>64)=false:=h;rw[if_neg (by grind)]at b;refine aj (zcD s hs i a) (au (λh=>aa ?_) λh=>aa ?_);·grind
  ·rw[b,if_pos (by grind),ap a (by omega)]
 ·unfold ky;exact aR (aa rfl)
 by_cases e:lM E (s.2.2.2.1.map (·.1)).length=0;·rw[if_pos e];refine aa ?_;rw[e]
 ·rw[if_neg e];exact aa rfl
theorem qg(s:PS)(hs:SmP s):aC tbl gW [.d yS s] [] cE (rG ig s,()):=by
 refine aw rfl (aA Nw rfl (λO n=>NP O n s) ?_);unfold Ch;refine aj (LQ s hs.l1 hs.l2 hs.l3 hs.l4) (aE rfl (aj (zev s hs) ?_));generalize k:gB (·.1) (λl=>l.2.1.length) (λl=>cf mI l.2.1) s.1=b;generalize g:gB (·.1) (λl=>l.2.1.length) (λl=>cf (λr=>ig r.2.1) l.2.1) s.2.1=c;generalize j:gB (·.1) (λl=>l.2.1.length) (λl=>cf ow l.2.1) s.2.2.1=d;have hp:rG ig s=if b≠0 then b else if c≠0 then c else if d≠0 then d else gB (·.1) (λp=>p.2.1.length) (oH s) s.2.2.2.1:=by unfold rG;omega
 have e:=zew s hs;have f:=zex s hs;rw[g]at e;rw[j]at f;rw[hp];refine au (λh=>aa ?_) λh=>aE rfl (aj e (au (λh'=>aa ?_) λh'=>aE rfl (aj f (au (λa=>aa ?_) λa=>aE rfl (aj (zey s hs) (aa ?_))))));·grind
 all_goals grind
theorem GZ(r:CRU):aC tbl iO [.d yC r] [] dU (ow r,()):=by
 refine aw rfl (aA IL rfl (λO n=>I0 O n r) ?_);unfold xu;refine ae (bG (b:=decide (r.2.1>65535)) (λ_=>aa rfl) (ae (bG (b:=decide (r.2.2.1< -1)) (λ_=>aa rfl) (ae (bG (b:=decide (r.2.2.1>65535)) (λ_=>aa rfl) ?_)))));refine au (λh=>aa ?_) λh=>aa ?_;·rw[show ow r=5 from if_pos (by grind)]
 ·rw[show ow r=0 from if_neg (by grind)]
def YE(k:Int):Bool:=decide (k=4\/k=5\/k=6\/k=8)
theorem RZ(k:Int):∃lo g:Int,(YE k=true->lo=zfg k/\g=VP k)/\aC tbl u9 [.d tI k] [] gC (lo,g,YE k,()):=by
 have a:∀{j:Int},k≠j->(k==j)=false:=λh=>beq_eq_false_iff_ne.2 h;by_cases b:k=4;·subst b;exact⟨1,7,λ_=>⟨rfl,rfl⟩,aw rfl (aA rB rfl (λO n=>rF O n 4) (by unfold m7;exact aJ rfl (aa rfl)))⟩
 by_cases c:k=5;·subst c;exact⟨0,4294967295,λ_=>⟨rfl,rfl⟩,aw rfl (aA rB rfl (λO n=>rF O n 5) (by unfold m7;exact an rfl (aJ rfl (aa rfl))))⟩
 by_cases d:k=6;·subst d;exact⟨0,16777216,λ_=>⟨rfl,rfl⟩,aw rfl (aA rB rfl (λO n=>rF O n 6) (by unfold m7;exact an rfl (an rfl (aJ rfl (aa rfl)))))⟩
 by_cases f:k=8;·subst f;exact⟨0,2000,λ_=>⟨rfl,rfl⟩,aw rfl (aA rB rfl (λO n=>rF O n 8) (by unfold m7;exact an rfl (an rfl (an rfl (aJ rfl (aa rfl))))))⟩
 have e:YE k=false:=decide_eq_false (by omega);rw[e];exact⟨0,0,(λh=>by grind),aw rfl (aA rB rfl (λO n=>rF O n k) (by unfold m7;exact an (a b) (an (a c) (an (a d) (an (a f) (aa rfl))))))⟩
def gI(s:PS)(n:List UInt8):Option PLS:=s.1.find? (·.1==n)
theorem yV(s:PS)(n:List UInt8)(hl:s.1.length<=9223372036854775807):aC tbl jQ [.d yS s,.d tS n] [] eF ((gI s n).getD ([],[],()),(gI s n).isSome,()):=by
 refine aw rfl (aA JX rfl (λO k=>Ka O k s n) ?_);unfold y7;refine ae (mU (xs:=s.1) (p:=(·.1==n)) (enc:=λi=>((i:Int),([]:List UInt8),())) (g:=λx=>(true,x.1,x.2.1,())) (e:=(([]:List UInt8),())) (λi a=>?_) ?_ ?_)
 ·unfold pK;refine a8 a (aI a (au (λh=>aa ?_) λh=>aa ?_));·rw[if_pos h]
  ·rw[if_neg (by simp[h]),ap a hl]
 ·unfold pK;exact aR (aa rfl)
 ·unfold gI;cases s.1.find? (·.1==n)with|some r=>exact aa rfl|none=>exact aa rfl
def oF(s:PS)(n:List UInt8):Option HLS:=s.2.1.find? (·.1==n)
theorem E5(s:PS)(n:List UInt8)(hl:s.2.1.length<=9223372036854775807):aC tbl om [.d yS s,.d tS n] [] jk ((oF s n).getD ([],[],()),(oF s n).isSome,()):=by
 refine aw rfl (aA P0 rfl (λO k=>QA O k s n) ?_);unfold Fz;refine ae (mU (xs:=s.2.1) (p:=(·.1==n)) (enc:=λi=>((i:Int),([]:List UInt8),())) (g:=λx=>(true,x.1,x.2.1,())) (e:=(([]:List UInt8),())) (λi a=>?_) ?_ ?_)
 ·unfold um;refine a8 a (aI a (au (λh=>aa ?_) λh=>aa ?_));·rw[if_pos h]
  ·rw[if_neg (by simp[h]),ap a hl]
 ·unfold um;exact aR (aa rfl)
 ·unfold oF;cases s.2.1.find? (·.1==n)with|some r=>exact aa rfl|none=>exact aa rfl
def da(s:PS)(n:List UInt8):Option CLS:=s.2.2.1.find? (·.1==n)
theorem uH(s:PS)(n:List UInt8)(hl:s.2.2.1.length<=9223372036854775807):aC tbl fQ [.d yS s,.d tS n] [] cV ((da s n).getD ([],[],()),(da s n).isSome,()):=by
 refine aw rfl (aA EF rfl (λO k=>ER O k s n) ?_);unfold uS;refine ae (mU (xs:=s.2.2.1) (p:=(·.1==n)) (enc:=λi=>((i:Int),([]:List UInt8),())) (g:=λx=>(true,x.1,x.2.1,())) (e:=(([]:List UInt8),())) (λi a=>?_) ?_ ?_)
 ·unfold lE;refine a8 a (aI a (au (λh=>aa ?_) λh=>aa ?_));·rw[if_pos h]
  ·rw[if_neg (by simp[h]),ap a hl]
 ·unfold lE;exact aR (aa rfl)
 ·unfold da;cases s.2.2.1.find? (·.1==n)with|some r=>exact aa rfl|none=>exact aa rfl
theorem zf7{s:PS}{n:List UInt8}:K6 s 1 n=(gI s n).isSome:=by unfold K6 gI;rw[if_pos rfl,Hp]
theorem zf8{s:PS}{n:List UInt8}:K6 s 2 n=(oF s n).isSome:=by unfold K6 oF;rw[if_neg (by decide),if_pos rfl,Hp]
theorem zf9{s:PS}{n:List UInt8}:K6 s 3 n=(da s n).isSome:=by unfold K6 da;grind
theorem E0(s:PS)(m:Uy)(hs:okD yS s)(v:hZ m.2.2.2.1.1):aC tbl ol [.d yS s,.d yM m] [] di (gP s m,()):=by
 obtain⟨k,nm,N,⟨d,pl,⟨⟩⟩,x,⟨⟩⟩:=m;refine aw rfl (aA PZ rfl (λO n=>Qz O n s (k,nm,N,(d,pl,()),x,())) ?_);unfold Fy;refine ae (bG (b:=decide (k>8)) (λ_=>aa rfl) (au (λh=>aa ?_) λh=>?_));·rw[Ih (show k<1\/8<k by grind)]
 have z:1<=k/\k<=8:=by grind
 obtain⟨lo,y,p,hc⟩:=RZ k;refine aj hc (ae (bz (b:= !(nm==[])) (λ_=>aa rfl) ?_));refine ae (bG (b:= !YE k&&(N != 0)) (λ_=>ae (bz (b:=(N != 0)) (λ_=>aa rfl) (aa rfl))) ?_);refine ae (bG (b:=(k != 7)&&(true ^^ uy yP (d,pl,()) (0,0,()))) (λ_=>ae (bz (b:=(true ^^ uy yP (d,pl,()) (0,0,()))) (λ_=>aa rfl) (aa rfl))) ?_);have w:(true ^^ uy yP (d,pl,()) (0,0,()))= !(d==0&&pl==0):=by show(true ^^ ((d==0)&&((pl==0)&&true)))=_;simp
 rw[w];have e:jr ((0:Int),(0:Int),())=true:=by decide
 have c:∀{j:Int},k≠j->(k==j)=false:=λh=>beq_eq_false_iff_ne.2 h;by_cases hn:k=1\/k=2\/k=3
 ·rw[AB hn];have g:decide (k<=3)=true:=decide_eq_true (by omega);have f:YE k=false:=decide_eq_false (by omega);have l:(k != 7)=true:=bne_iff_ne.2 (by omega);rw[g,f,l];simp only[S_,F_,G_,u_,Bool.false_or];refine au (λh=>aa ?_) λh=>?_;·grind
  simp at h;obtain⟨rfl,rfl,rfl⟩:=h;rw[if_neg (by simp)];refine ae (Wp.imp (Q:=λr=>r=(K6 s k nm,())) ?_ λr hr=>?_)
  ·rcases hn with rfl|rfl|rfl;·rw[zf7];exact aJ rfl (aj (yV s nm hs.1.1) (aa rfl))
   ·rw[zf8];exact an rfl (aJ rfl (aj (E5 s nm hs.2.1.1) (aa rfl)))
   ·rw[zf9];exact an rfl (an rfl (aJ rfl (aj (uH s nm hs.2.2.1.1) (aa rfl))))
  ·subst hr;refine au (λh=>aa ?_) λh=>ae (aa (an rfl (aj (gF ((0:Int),(0:Int),()) (by omega)) ?_)));·grind
   ·rw[e];refine an rfl (aa ?_);grind
 by_cases u:k=7
 ·subst u;rw[V6];refine au (λh=>aa ?_) λh=>?_;·grind
  simp[YE]at h;obtain⟨rfl,rfl⟩:=h;rw[if_neg (by simp)];refine ae (an rfl (an rfl (an rfl (aa (an rfl (ae (aa (aj (gF (d,pl,()) v) ?_))))))));refine au (λh=>aa ?_) λh=>aa ?_;all_goals grind
 have a:k=4\/k=5\/k=6\/k=8:=by omega
 rw[V7 a];have g:decide (k<=3)=false:=decide_eq_false (by omega);have f:YE k=true:=decide_eq_true a;have l:(k != 7)=true:=bne_iff_ne.2 u;obtain⟨rfl,rfl⟩:=p f;rw[g,f,l];simp only[S_,F_,G_,u_,Bool.or_false];refine au (λh=>aa ?_) λh=>?_;·grind
 simp at h;obtain⟨rfl,rfl,rfl⟩:=h;rw[if_neg (by simp)];refine ae (an (c (by omega)) (an (c (by omega)) (an (c (by omega)) (aa (an rfl ?_)))));refine ae (ae (bG (b:=decide (N>VP k)) (λ_=>aa rfl) (aa ?_)));refine au (λh=>aa ?_) λh=>aj (gF ((0:Int),(0:Int),()) (by omega)) ?_;·grind
 ·rw[e];refine an rfl (aa ?_);grind
theorem Ce(a:zJ):aC tbl mC [.d yA a] [] bR (iw a,()):=by
 refine aw rfl (aA NE rfl (λO n=>NX O n a) ?_);unfold Cq;refine ae (ae ?_);by_cases D:a.1<1\/8<a.1;·have j:∀k:Int,1<=k->k<=8->(a.1==k)=false:=λk p l=>beq_eq_false_iff_ne.2 (by omega);refine an (j 1 (by simp) (by simp)) (an (j 2 (by simp) (by simp)) (aa (an (j 4 (by simp) (by simp)) (an (j 3 (by simp) (by simp)) (an (j 5 (by simp) (by simp)) ?_)))));refine ae (an (j 6 (by simp) (by simp)) (aa (an (j 7 (by simp) (by simp)) (an (j 8 (by simp) (by simp)) (aa (aa ?_))))));rw[show iw a=15 from if_pos D]
 have f:∀(only:zJ) (c:Int),rh a=only->(a=only->((a.2.1<0\/c<a.2.1\/(a.1=5/\a.2.2.2.2.1=0)\/(a.1=8/\(a.2.1<1\/a.2.2.1<1\/a.2.2.1>4294967295)))↔mG a=false))->Wp (λ_=>bif (true ^^ uy yA a only)then aB bR ((1:Int),())else h_ (bif decide (a.2.1<(0:Int))then some (true)else some (decide (a.2.1>c))) λH=>bif H then aB bR ((5:Int),())else h_ (bif (a.1==(5:Int))then some ((a.2.2.2.2.1==(0:Int)))else some (false)) λI=>h_ (bif I then some (true)else h_ (bif (a.1==(8:Int))then h_ (bif decide (a.2.1<(1:Int))then some (true)else some (decide (a.2.2.1<(1:Int)))) λJ=>h_ (bif J then some (true)else some (decide (a.2.2.1>(4294967295:Int)))) λL=>some (L)else some (false)) λM=>some (M)) λv=>bif v then aB bR ((5:Int),())else aB bR ((0:Int),())) (λx=>x=some (kJ bR (iw a,()))):=λonly c p l=>by
  have e:iw a=if ¬a=only then 1 else if mG a=false then 5 else 0:=by unfold iw;grind
  rw[e]
  refine au (λh=>aa ?_) λh=>?_
  ·rw[if_pos (ne_eqD.1 h)]
  have r:a=only:=c_ λx=>by rw[ne_eqD.2 x]at h;grind
  have l:=l r
  rw[if_neg (not_not_intro r)]
  refine ae (bG (b:=decide (a.2.1>c)) (λ_=>aa rfl) (au (λh=>aa ?_) λh=>?_))
  ·grind
  refine ae (bz (b:=(a.2.2.2.2.1==0)) (λ_=>aa rfl) ?_)
  refine ae (bG (b:=(a.1==8)&&((decide (a.2.1<1)||decide (a.2.2.1<1))||decide (a.2.2.1>4294967295))) (λ_=>ae (bz (b:=(decide (a.2.1<1)||decide (a.2.2.1<1))||decide (a.2.2.1>4294967295)) (λ_=>ae (bG (b:=decide (a.2.2.1<1)) (λ_=>aa rfl) (ae (bG (b:=decide (a.2.2.1>4294967295)) (λ_=>aa rfl) (aa rfl))))) (aa rfl))) ?_)
  refine au (λh'=>aa ?_) λh'=>aa ?_
  all_goals grind
 have g:∀{k:Int},a.1≠k->(a.1==k)=false:=λh=>beq_eq_false_iff_ne.2 h;have d:∀{k:Int},a.1=k->(a.1==k)=true:=λh=>beq_iff_eq.2 h;have s:∀(c:Int),(a.1=1\/a.1=2\/a.1=4)->c=4294967295->((a.2.1<0\/c<a.2.1\/(a.1=5/\a.2.2.2.2.1=0)\/(a.1=8/\(a.2.1<1\/a.2.2.1<1\/a.2.2.1>4294967295)))↔mG a=false):=λc F E=>by unfold mG;grind
 by_cases p:a.1=1;·refine aJ (d p) (aa (aJ (d p) (aa (f _ _ ?_ λ_=>s _ (by omega) rfl))));unfold rh;grind
 refine an (g p) ?_;by_cases l:a.1=2;·refine aJ (d l) (aa (aJ (d l) (aa (f _ _ ?_ λ_=>s _ (by omega) rfl))));unfold rh;grind
 refine an (g l) (aa ?_);by_cases z:a.1=4;·refine aJ (d z) (aa (f _ _ ?_ λ_=>s _ (by omega) rfl));unfold rh;grind
 refine an (g z) ?_;by_cases y:a.1=3
 ·refine aJ (d y) (aa (f _ _ ?_ λ_=>?_));·unfold rh;grind
  ·unfold mG;grind
 refine an (g y) ?_;by_cases A:a.1=5
 ·refine aJ (d A) (aa (f _ _ ?_ λr=>?_));·unfold rh;grind
  ·have C:a.2.1=0:=by grind
   unfold mG;grind
 refine an (g A) (ae ?_);have w:∀(only:zJ) (c:Int),only.2.1=0->(a.1=6\/a.1=7)->c=4294967295->(a=only->((a.2.1<0\/c<a.2.1\/(a.1=5/\a.2.2.2.2.1=0)\/(a.1=8/\(a.2.1<1\/a.2.2.1<1\/a.2.2.1>4294967295)))↔mG a=false)):=λonly c N F E r=>by
  have C:a.2.1=0:=by grind
  unfold mG;grind
 by_cases u:a.1=6;·refine aJ (d u) (aa (aJ (d u) (aa (f _ _ ?_ (w _ _ rfl (by omega) rfl)))));unfold rh;grind
 refine an (g u) (aa ?_);by_cases B:a.1=7;·refine aJ (d B) (aa (f _ _ ?_ (w _ _ rfl (by omega) rfl)));unfold rh;grind
 refine an (g B) (aJ (d (by omega)) (aa (f _ _ ?_ λr=>?_)));·unfold rh;grind
 ·unfold mG;grind
def As(name a:List UInt8)(first:Bool)(sz:Nat):Int:=if mh name=false then 1 else if first=false/\AG name a=true then 16 else if sz>64 then 4 else 0
theorem qj(name a:List UInt8)(first:Bool)(sz:Nat)(hn:name.length<=9223372036854775807):aC tbl gZ [.d tS name,.d tS a,.d tB first,.d tI (sz:Int)] [] cJ (As name a first sz,()):=by
 refine aw rfl (aA NF rfl (λO n=>NY O n name a first (sz:Int)) ?_)
 unfold Cr;refine aj (G1 name hn) (au (λh=>aa ?_) λh=>?_);·rw[show As name a first sz=1 from if_pos (by grind)]
 have c:¬mh name=false:=by grind
 refine ae (bz (b:=AG name a) (λ_=>aa rfl) (au (λh=>aa ?_) λh=>?_));·rw[show As name a first sz=16 from by unfold As;grind]
 have d:¬(first=false/\AG name a=true):=by grind
 refine au (λh=>aa ?_) λh=>aa ?_;·rw[show As name a first sz=4 from by unfold As;grind]
 ·rw[show As name a first sz=0 from by unfold As;grind]
def Si(l:List (List UInt8))(i:Nat):List UInt8:=if i=0 then []else l.getD (i - 1) []
theorem Hq{α:Type}{nm:α->List UInt8}{l:List α}{i:Nat}(a:i<l.length):Si (l.map nm) (i+1)=nm l[i]:=by unfold Si;grind
theorem LC{α:Type}{nm:α->List UInt8}{sz:α->Nat}{ck:α->Int}{l:List α}{i:Nat}(c:i<l.length): HT nm sz ck l i=if As (nm l[i]) (Si (l.map nm) i) ((i:Int)==0) (sz l[i])=0 then ck l[i]else As (nm l[i]) (Si (l.map nm) i) ((i:Int)==0) (sz l[i]):=by
 rw[HU c];have b:tR (l.map nm) i=if mh (nm l[i])=false then 1 else if 0<i/\AG (nm l[i]) ((l.map nm).getD (i - 1) [])=true then 16 else 0:=by unfold tR;grind
 rw[b];unfold As;by_cases a:mh (nm l[i])=false;·grind
 ·rw[if_neg a,if_neg a];have d:(((i:Int)==0)=false/\AG (nm l[i]) (Si (l.map nm) i)=true)↔(0<i/\AG (nm l[i]) ((l.map nm).getD (i - 1) [])=true):=by unfold Si;grind
  grind
def zg4(x:PLS):Prop:=∀r∈x.2.1,hZ r.2.1.1
def zg5(x:HLS):Prop:=∀r∈x.2.1,r.2.1.length<=1048576
def zg6(_:CLS):Prop:=True
theorem zgy{x:PLS}(h:zg4 x){j:Nat}(a:j<x.2.1.length)(hl:x.2.1.length<=64):Wp (λn=>h_ (ar (qc tbl n) lg [.d yR x.2.1[j]] [] eS) λb=>bif (b.1 != (0:Int))then some (.inr (.inl ((b.1,()))))else some (.inl (b_ .i64 ((j:Int)+(1:Int)),()))) (fun(r:(Int×Unit)⊕(Int×Unit)⊕Unit)=>r=if mI x.2.1[j]=0 then .inl (((j+1:Nat):Int),())else .inr (.inl (mI x.2.1[j],()))):=by
 refine aj (EY _ (h _ (a_ a))) (au (λh=>aa ?_) λh=>aa ?_);·grind
 ·rw[if_pos (by grind),ap a (by omega)]
theorem zgz{x:HLS}(h:zg5 x){j:Nat}(a:j<x.2.1.length)(hl:x.2.1.length<=64):Wp (λn=>h_ (ar (qc tbl n) lf [.d tS x.2.1[j].2.1] [] eR) λb=>bif (b.2.1 != (0:Int))then some (.inr (.inl ((b.2.1,()))))else some (.inl (b_ .i64 ((j:Int)+(1:Int)),()))) (fun(r:(Int×Unit)⊕(Int×Unit)⊕Unit)=>r=if(λr:HRU=>ig r.2.1) x.2.1[j]=0 then .inl (((j+1:Nat):Int),())else .inr (.inl ((λr:HRU=>ig r.2.1) x.2.1[j],()))):=by
 obtain⟨c,d,e⟩:=EX x.2.1[j].2.1 (h _ (a_ a));simp only;rw[<-zaR d];refine aj e (au (λh=>aa ?_) λh=>aa ?_);·grind
 ·rw[if_pos (by grind),ap a (by omega)]
theorem zgA{x:CLS}(_:zg6 x){j:Nat}(b:j<x.2.1.length)(hl:x.2.1.length<=64):Wp (λn=>h_ (ar (qc tbl n) iO [.d yC x.2.1[j]] [] dU) λa=>bif (a.1 != (0:Int))then some (.inr (.inl ((a.1,()))))else some (.inl (b_ .i64 ((j:Int)+(1:Int)),()))) (fun(r:(Int×Unit)⊕(Int×Unit)⊕Unit)=>r=if ow x.2.1[j]=0 then .inl (((j+1:Nat):Int),())else .inr (.inl (ow x.2.1[j],()))):=by
 refine aj (GZ _) (au (λh=>aa ?_) λh=>aa ?_);·grind
 ·rw[if_pos (by grind),ap b (by omega)]
theorem I8(l:List PLS)(hn:∀x∈l,x.1.length<=9223372036854775807)(hr:∀x∈l,zg4 x):aC tbl na [.d (.list yL) l] [] eG (gB (·.1) (λl=>l.2.1.length) (λl=>cf mI l.2.1) l,()):=by
 refine aw rfl (aA JY rfl (λO n=>Kb O n l) ?_);unfold y8;refine au (λh=>aa ?_) λh=>?_;·rw[show gB (·.1) (λl=>l.2.1.length) (λl=>cf mI l.2.1) l=4 from if_pos (by have:=of_decide_eq_true h;omega)]
 have c:¬l.length>64:=by have:=of_decide_eq_false h;omega
 rw[show gB (·.1) (λl=>l.2.1.length) (λl=>cf mI l.2.1) l=lM (HT (·.1) (λl=>l.2.1.length) (λl=>cf mI l.2.1) l) l.length from if_neg c];generalize k:HT (·.1) (λl=>l.2.1.length) (λl=>cf mI l.2.1) l=E;refine ae (uG (N:=l.length) (f:=E) (enc:=λi=>(Si (l.map (·.1)) i,(i:Int),())) (oB:=λe=>(e,())) (oE:=()) (λi a=>?_) ?_ ?_)
 ·unfold pM;have b:=LC (nm:=(·.1)) (sz:=λl=>l.2.1.length) (ck:=λl=>cf mI l.2.1) a;rw[k]at b;refine a8 a (aI a (aj (qj _ _ _ _ (hn _ (a_ a))) (au (λh=>aa ?_) λh=>?_)));·rw[if_neg (by simpa using h)]at b;rw[b,if_neg (by simpa using h)]
  rw[if_pos (by simpa using h)]at b;rw[b];have g:l[i].2.1.length<=64:=by
   have h:As l[i].1 (Si (l.map (·.1)) i) ((i:Int)==0) l[i].2.1.length=0:=by simpa using h
   unfold As at h;split at h;·cases h
   split at h;·cases h
   split at h;·cases h
   ·omega
  refine ae (tu (l:=l[i].2.1) (f:=mI) (enc:=λi=>((i:Int),())) (oB:=λe=>(e,())) (oE:=()) (λj d=>?_) ?_ ?_);·unfold pL;exact a8 d (aI d (zgy (hr _ (a_ a)) d g))
  ·unfold pL;exact aR (aa rfl)
  by_cases e:cf mI l[i].2.1=0;·rw[if_pos e,if_pos e];refine aa ?_;show _=R_ (Si (l.map (·.1)) (i+1),((i+1:Nat):Int),());rw[Hq (nm:=(·.1)) a,ap a (by omega)]
  ·rw[if_neg e,if_neg e];exact aa rfl
 ·unfold pM;exact aR (aa rfl)
 by_cases e:lM E l.length=0;·rw[if_pos e];refine aa ?_;rw[e]
 ·rw[if_neg e];exact aa rfl
theorem Od(l:List HLS)(hn:∀x∈l,x.1.length<=9223372036854775807)(hr:∀x∈l,zg5 x):aC tbl sy [.d (.list yG) l] [] jl (gB (·.1) (λl=>l.2.1.length) (λl=>cf (λr=>ig r.2.1) l.2.1) l,()):=by
 refine aw rfl (aA P1 rfl (λO n=>QB O n l) ?_);unfold FA;refine au (λh=>aa ?_) λh=>?_;·rw[show gB (·.1) (λl=>l.2.1.length) (λl=>cf (λr=>ig r.2.1) l.2.1) l=4 from if_pos (by have:=of_decide_eq_true h;omega)]
 have c:¬l.length>64:=by have:=of_decide_eq_false h;omega
 rw[show gB (·.1) (λl=>l.2.1.length) (λl=>cf (λr=>ig r.2.1) l.2.1) l=lM (HT (·.1) (λl=>l.2.1.length) (λl=>cf (λr=>ig r.2.1) l.2.1) l) l.length from if_neg c];generalize k:HT (·.1) (λl=>l.2.1.length) (λl=>cf (λr=>ig r.2.1) l.2.1) l=E;refine ae (uG (N:=l.length) (f:=E) (enc:=λi=>(Si (l.map (·.1)) i,(i:Int),())) (oB:=λe=>(e,())) (oE:=()) (λi a=>?_) ?_ ?_)
 ·unfold uq;have b:=LC (nm:=(·.1)) (sz:=λl=>l.2.1.length) (ck:=λl=>cf (λr=>ig r.2.1) l.2.1) a;rw[k]at b;refine a8 a (aI a (aj (qj _ _ _ _ (hn _ (a_ a))) (au (λh=>aa ?_) λh=>?_)));·rw[if_neg (by simpa using h)]at b;rw[b,if_neg (by simpa using h)]
  rw[if_pos (by simpa using h)]at b;rw[b];have g:l[i].2.1.length<=64:=by
   have h:As l[i].1 (Si (l.map (·.1)) i) ((i:Int)==0) l[i].2.1.length=0:=by simpa using h
   unfold As at h;split at h;·cases h
   split at h;·cases h
   split at h;·cases h
   ·omega
  refine ae (tu (l:=l[i].2.1) (f:=(λr=>ig r.2.1)) (enc:=λi=>((i:Int),())) (oB:=λe=>(e,())) (oE:=()) (λj d=>?_) ?_ ?_);·unfold uo;exact a8 d (aI d (zgz (hr _ (a_ a)) d g))
  ·unfold uo;exact aR (aa rfl)
  by_cases e:cf (λr=>ig r.2.1) l[i].2.1=0;·rw[if_pos e,if_pos e];refine aa ?_;show _=R_ (Si (l.map (·.1)) (i+1),((i+1:Nat):Int),());rw[Hq (nm:=(·.1)) a,ap a (by omega)]
  ·rw[if_neg e,if_neg e];exact aa rfl
 ·unfold uq;exact aR (aa rfl)
 by_cases e:lM E l.length=0;·rw[if_pos e];refine aa ?_;rw[e]
 ·rw[if_neg e];exact aa rfl
theorem Ec(l:List CLS)(hn:∀x∈l,x.1.length<=9223372036854775807)(hr:∀x∈l,zg6 x):aC tbl jy [.d (.list yD) l] [] cW (gB (·.1) (λl=>l.2.1.length) (λl=>cf ow l.2.1) l,()):=by
 refine aw rfl (aA EG rfl (λO n=>ES O n l) ?_);unfold uT;refine au (λh=>aa ?_) λh=>?_;·rw[show gB (·.1) (λl=>l.2.1.length) (λl=>cf ow l.2.1) l=4 from if_pos (by have:=of_decide_eq_true h;omega)]
 have c:¬l.length>64:=by have:=of_decide_eq_false h;omega
 rw[show gB (·.1) (λl=>l.2.1.length) (λl=>cf ow l.2.1) l=lM (HT (·.1) (λl=>l.2.1.length) (λl=>cf ow l.2.1) l) l.length from if_neg c];generalize k:HT (·.1) (λl=>l.2.1.length) (λl=>cf ow l.2.1) l=E;refine ae (uG (N:=l.length) (f:=E) (enc:=λi=>(Si (l.map (·.1)) i,(i:Int),())) (oB:=λe=>(e,())) (oE:=()) (λi a=>?_) ?_ ?_)
 ·unfold lG;have b:=LC (nm:=(·.1)) (sz:=λl=>l.2.1.length) (ck:=λl=>cf ow l.2.1) a;rw[k]at b;refine a8 a (aI a (aj (qj _ _ _ _ (hn _ (a_ a))) (au (λh=>aa ?_) λh=>?_)));·rw[if_neg (by simpa using h)]at b;rw[b,if_neg (by simpa using h)]
  rw[if_pos (by simpa using h)]at b;rw[b];have g:l[i].2.1.length<=64:=by
   have h:As l[i].1 (Si (l.map (·.1)) i) ((i:Int)==0) l[i].2.1.length=0:=by simpa using h
   unfold As at h;split at h;·cases h
   split at h;·cases h
   split at h;·cases h
   ·omega
  refine ae (tu (l:=l[i].2.1) (f:=ow) (enc:=λi=>((i:Int),())) (oB:=λe=>(e,())) (oE:=()) (λj d=>?_) ?_ ?_);·unfold lF;exact a8 d (aI d (zgA (hr _ (a_ a)) d g))
  ·unfold lF;exact aR (aa rfl)
  by_cases e:cf ow l[i].2.1=0;·rw[if_pos e,if_pos e];refine aa ?_;show _=R_ (Si (l.map (·.1)) (i+1),((i+1:Nat):Int),());rw[Hq (nm:=(·.1)) a,ap a (by omega)]
  ·rw[if_neg e,if_neg e];exact aa rfl
 ·unfold lG;exact aR (aa rfl)
 by_cases e:lM E l.length=0;·rw[if_pos e];refine aa ?_;rw[e]
 ·rw[if_neg e];exact aa rfl
theorem R1(s:PS)(hs:okD yS s)(p:FM)(hp:okD yO p)(i:Nat)(d:i<p.2.1.length):aC tbl vc [.d yS s,.d yO p,.d tI (i:Int)] [] dt (gg s (p.2.1.take i) p.2.1[i],()):=by
 refine aw rfl (aA TQ rfl (λO n=>T9 O n s p (i:Int)) ?_);unfold Ha;refine aI d ?_;have y:okD yT p.2.1[i]:=hp.2.1.2 _ (a_ d);have z:(p.2.1.take i).length<=9223372036854775807:=by have:p.2.1.length<=9223372036854775807:=hp.2.1.1;grind
 have v:(p.2.1.take (B_ (i:Int))).drop 0=p.2.1.take i:=by simp
 generalize p.2.1[i]=t at y;have x:∀m∈t.2.1,hZ m.2.2.2.1.1:=λm x=>((y.2.1.2 m x).2.2.2.1).1;refine aj (G1 t.1 y.1) (au (λh=>aa ?_) λh=>?_);·rw[show gg s (p.2.1.take i) t=1 from if_pos (by grind)]
 have hn:¬mh t.1=false:=by grind
 refine aE (decide_eq_true (by simp)) (aE (by grind) ?_);unfold Cs;rw[v];generalize D:p.2.1.take i=a at z;refine ae (mU (xs:=a) (p:=(·.1==t.1)) (enc:=λi=>((i:Int),t.1,t.2.1,t.2.2.1,t.2.2.2.1,())) (g:=λ_=>((7:Int),())) (e:=(t.1,t.2.1,t.2.2.1,t.2.2.2.1,())) (λj w=>?_) ?_ ?_)
 ·refine a8 w (aI w (au (λh=>aa ?_) λh=>aa ?_));·grind
  ·rw[if_neg (by grind),ap w z]
 ·exact aR (aa rfl)
 have c:a.any (·.1==t.1)=(a.find? (·.1==t.1)).isSome:=Hp;cases e:a.find? (·.1==t.1)with
 |some r=>rw[e]at c;have c:a.any (·.1==t.1)=true:=c;refine aa ?_;rw[show gg s a t=7 from by unfold gg;grind]|none=>
  rw[e]at c;have C:¬a.any (·.1==t.1)=true:=by grind
  refine au (λh=>aa ?_) λh=>?_;·have h:decide ((t.2.1.length:Int)>64)=true:=h;rw[show gg s a t=4 from by unfold gg;grind]
  have h:decide ((t.2.1.length:Int)>64)=false:=h;have A:¬t.2.1.length>64:=by grind
  refine ae (tu (l:=t.2.1) (f:=gP s) (enc:=λi=>((i:Int),t.1,t.2.1,t.2.2.1,t.2.2.2.1,())) (oB:=λe=>(e,())) (oE:=(t.1,t.2.1,t.2.2.1,t.2.2.2.1,())) (λi d=>?_) ?_ ?_)
  ·unfold wg;refine a8 d (aI d (aj (E0 s _ hs (x _ (a_ d))) (au (λh=>aa ?_) λh=>aa ?_)));·grind
   ·rw[if_pos (by grind),ap d (by omega)]
  ·unfold wg;exact aR (aa rfl)
  by_cases k:cf (gP s) t.2.1=0
  ·rw[if_pos k];refine au (λh=>aa ?_) λh=>?_;·have h:decide ((t.2.2.1.length:Int)>64)=true:=h;rw[show gg s a t=4 from by unfold gg;grind]
   have h:decide ((t.2.2.1.length:Int)>64)=false:=h;have B:¬t.2.2.1.length>64:=by grind
   refine ae (tu (l:=t.2.2.1) (f:=iw) (enc:=λi=>((i:Int),t.1,t.2.1,t.2.2.1,t.2.2.2.1,())) (oB:=λe=>(e,())) (oE:=(t.1,t.2.1,t.2.2.1,t.2.2.2.1,())) (λi d=>?_) ?_ ?_)
   ·unfold wh;refine a8 d (aI d (aj (Ce _) (au (λh=>aa ?_) λh=>aa ?_)));·grind
    ·rw[if_pos (by grind),ap d (by omega)]
   ·unfold wh;exact aR (aa rfl)
   by_cases u:cf iw t.2.2.1=0
   ·rw[if_pos u];refine ae (bz (b:=(t.2.2.2.1 != 2)) (λ_=>aa rfl) (ae (bz (b:=(t.2.2.2.1 != 3)) (λ_=>aa rfl) (au (λh=>aa ?_) λh=>aa ?_))));·have h:((t.2.2.2.1 != 1&&t.2.2.2.1 != 2)&&t.2.2.2.1 != 3)=true:=h;rw[show gg s a t=15 from by unfold gg;grind]
    ·have h:((t.2.2.2.1 != 1&&t.2.2.2.1 != 2)&&t.2.2.2.1 != 3)=false:=h;rw[show gg s a t=0 from by unfold gg;rw[if_neg hn,if_neg C,if_neg A,if_neg (not_not_intro k),if_neg B,if_neg (not_not_intro u),if_neg (by simp at h;omega)]]
   ·rw[if_neg u];refine aa ?_;rw[show gg s a t=cf iw t.2.2.1 from by unfold gg;grind]
  ·rw[if_neg k];refine aa ?_;rw[show gg s a t=cf (gP s) t.2.1 from by unfold gg;grind]
theorem EZ(s:PS)(hs:SmP s):aC tbl oj [.d yS s] [] dh (rG ig s,()):=by
 refine aw rfl (aA PY rfl (λO n=>Qy O n s) ?_);unfold Fx;have a:=hs.ok;have y:=I8 s.1 (λx d=>(a.1.2 x d).1) (λx d r hr=>((a.1.2 x d).2.1.2 r hr).2.1.1);have z:=Od s.2.1 (λx d=>(a.2.1.2 x d).1) (λx d r hr=>hs.pt x d r hr);have A:=Ec s.2.2.1 (λx d=>(a.2.2.1.2 x d).1) (λ_ _=>trivial);generalize Q:gB (·.1) (λl=>l.2.1.length) (λl=>cf mI l.2.1) s.1=F at y;generalize R:gB (·.1) (λl=>l.2.1.length) (λl=>cf (λr=>ig r.2.1) l.2.1) s.2.1=H at z;generalize T:gB (·.1) (λl=>l.2.1.length) (λl=>cf ow l.2.1) s.2.2.1=I at A;generalize B:gB (·.1) (λp=>p.2.1.length) (oH s) s.2.2.2.1=M;have hp:rG ig s=if F≠0 then F else if H≠0 then H else if I≠0 then I else M:=by unfold rG;omega
 rw[hp];refine aj y (au (λh=>aa ?_) λh=>aj z (au (λh'=>aa ?_) λh'=>aj A (au (λk=>aa ?_) λk=>?_)));·grind
 ·grind
 ·grind
 rw[if_neg (by grind),if_neg (by grind),if_neg (by grind)];clear y z A h h' k;generalize hl:s.2.2.2.1=l at B;refine au (λh=>aa ?_) λh=>?_;·rw[<-B,show gB (·.1) (λp=>p.2.1.length) (oH s) l=4 from if_pos (by grind)]
 have v:¬l.length>64:=by grind
 rw[<-B,show gB (·.1) (λp=>p.2.1.length) (oH s) l=lM (HT (·.1) (λp=>p.2.1.length) (oH s) l) l.length from if_neg v];have L:s.2.2.2.1=l:=hl;have C:∀p∈l,okD yO p:=λp hp=>by rw[<-hl]at hp;exact a.2.2.2.1.2 p hp
 generalize P:HT (·.1) (λp=>p.2.1.length) (oH s) l=E;refine ae (uG (N:=l.length) (f:=E) (enc:=λi=>(Si (l.map (·.1)) i,(i:Int),())) (oB:=λe=>(e,())) (oE:=()) (λi g=>?_) ?_ ?_)
 ·unfold uk;rw[L];have J:E i=if As l[i].1 (Si (l.map (·.1)) i) ((i:Int)==0) l[i].2.1.length=0 then oH s l[i]else As l[i].1 (Si (l.map (·.1)) i) ((i:Int)==0) l[i].2.1.length:=by rw[<-P];exact LC g
  have c:=C _ (a_ g);refine a8 g (aI g (aj (qj _ _ _ _ c.1) (au (λh=>aa ?_) λh=>?_)));·grind
  rw[if_pos (by grind)]at J;rw[J,zaS];have u:=Hq (nm:=λp:FM=>p.1) g;generalize l[i]=p at c u;have D:p.2.1.length<=9223372036854775807:=c.2.1.1;refine ae (uG (N:=p.2.1.length) (f:=Xd s p.2.1) (enc:=λi=>((i:Int),p.1,p.2.1,p.2.2.1,())) (oB:=λe=>(e,())) (oE:=(p.1,p.2.1,p.2.2.1,())) (λj w=>?_) ?_ ?_)
  ·unfold uj;refine a8 w (aj (R1 s a p c j w) ?_);rw[<-Xe w];refine au (λh=>aa ?_) λh=>aa ?_;·grind
   ·rw[if_pos (by grind),ap w D]
  ·unfold uj;exact aR (aa rfl)
  by_cases e:lM (Xd s p.2.1) p.2.1.length=0
  ·rw[if_pos e,if_neg (not_not_intro e)];refine ae (bz (b:=(p.2.2.1 != 2)) (λ_=>aa rfl) (au (λh=>aa ?_) λh=>aa ?_));·grind
   ·rw[if_neg (show ¬(p.2.2.1≠1/\p.2.2.1≠2) by grind),if_pos rfl];show _=R_ (Si (l.map (·.1)) (i+1),((i+1:Nat):Int),());rw[u,ap g (by omega)]
  ·rw[if_neg e,if_pos e,if_neg e];exact aa rfl
 ·unfold uk;rw[L];exact aR (aa rfl)
 by_cases e:lM E l.length=0;·rw[if_pos e];refine aa ?_;rw[e]
 ·rw[if_neg e];exact aa rfl
abbrev Xu:FM:=([],[],0,())
theorem RY(s:PS)(n:List UInt8)(hl:s.2.2.2.1.length<=9223372036854775807):aC tbl u7 [.d yS s,.d tS n] [] nz ((Aq s n).getD Xu,(Aq s n).isSome,()):=by
 refine aw rfl (aA TN rfl (λO k=>T6 O k s n) ?_);unfold G7;refine ae (mU (xs:=s.2.2.2.1) (p:=(·.1==n)) (enc:=λi=>((i:Int),([]:List UInt8),(0:Int),())) (g:=λx=>(true,x.1,x.2.1,x.2.2.1,())) (e:=(([]:List UInt8),(0:Int),())) (λi a=>?_) ?_ ?_)
 ·unfold vY;refine a8 a (aI a (au (λh=>aa ?_) λh=>aa ?_));·grind
  ·rw[if_neg (by grind),ap a hl]
 ·unfold vY;exact aR (aa rfl)
 ·unfold Aq;cases s.2.2.2.1.find? (·.1==n)with|some r=>exact aa rfl|none=>exact aa rfl
theorem N5(s:PS)(n:List UInt8)(d:PolOk ig s):aC tbl sq [.d yS s,.d tS n] [] ly ((Aq s n).getD Xu,(Aq s n).isSome,()):=by
 have hl:=d.l4;refine aw rfl (aA PL rfl (λO k=>Qo O k s n) ?_);unfold Fj;refine ae (mU (xs:=s.2.2.2.1) (p:=(·.1==n)) (enc:=λi=>((i:Int),([]:List UInt8),(0:Int),())) (g:=λx=>(true,x.1,x.2.1,x.2.2.1,())) (e:=(([]:List UInt8),(0:Int),())) (λi c=>?_) ?_ ?_)
 ·unfold ug;refine a8 c (aI c (au (λh=>aa ?_) λh=>?_));·rw[if_neg (by grind),ap c (by omega)]
  have hp:=d.r4 _ (a_ c);have h:(s.2.2.2.1[i].1==n)=true:=by grind
  rw[if_pos h];generalize s.2.2.2.1[i]=p at hp;have f:=hp.tl;refine ae (aX (N:=p.2.1.length) (I:=λj t=>t=((j:Int),([]:List UInt8),(0:Int),p.1,p.2.2.1,p.2.1.take j,())) rfl (λj t b a=>?_) λt a=>?_)
  ·subst a;unfold uf;have a:=hp.tr _ (a_ b);have l:=a.ml;have u:=a.al;refine a8 b (aI b (aE (decide_eq_true (by grind)) (aE (decide_eq_true (by grind)) (aE ?_ (aa ?_)))));·grind
   ·show(b_ .i64 ((j:Int)+1),([]:List UInt8),(0:Int),p.1,p.2.2.1,p.2.1.take j++[p.2.1[j]],())=_;rw[ap b (by omega),List.take_append_getElem b]
  ·subst a;unfold uf;refine aR (aa (aa ?_));simp
 ·unfold ug;exact aR (aa rfl)
 ·unfold Aq;cases s.2.2.2.1.find? (·.1==n)with|some r=>exact aa rfl|none=>exact aa rfl
open Go Go.Av Go.Ev
abbrev UU:Type:=Bool×(Int×(Int×Unit))
def fits(r:UU)(c:Int):Bool:=
 ((r.2.1==(-1:Int))||(r.2.1==b_ .i64 (Int.fdiv c (2^(min (B_ (16:Int)) (V_ .u32))))))&&
 ((r.2.2.1==(-1:Int))||(r.2.2.1==b_ .i64 (rN .u32 .and c (65535:Int))))
def wD(r:UU)(l:List Int):Bool:=(l.find? (fits r)).isSome
def tU(a:List UU)(l:List Int):Bool:=match a.find? (λr=>wD r l)with
 |some r=>r.1
 |none=>false
theorem MY(r:UU)(c:Int){β:Type}{k:Nat->Bool->Option β}{Q:β->Prop}(a:Wp (λn=>k n (fits r c)) Q):Wp (λn=>h_ (bif (r.2.1==(-1:Int))then some (true)else aH (decide (0<=(16:Int))) (let b:=b_ .i64 (Int.fdiv c (2^(min (B_ (16:Int)) (V_ .u32))));some ((r.2.1==b)))) λd=>h_ (bif d then h_ (bif (r.2.2.1==(-1:Int))then some (true)else some ((r.2.2.1==b_ .i64 (rN .u32 .and c (65535:Int))))) λe=>some (e) else some (false)) λf=>k n f) Q:=by refine ae (bG (λ_=>aE rfl (aa rfl)) ?_);refine ae (bz (λ_=>ae (bG (λ_=>aa rfl) (aa rfl))) ?_);exact a
theorem GU(r:UU)(l:List Int)(hl:l.length<=9223372036854775807):aC tbl lR [.d (pr [tB,tI,tI]) r,.d (.list tW) l] [] fv (wD r l,()):=by
 refine aw rfl (aA IE rfl (λO n=>IT O n r l) ?_);unfold xm;refine ae (ye (xs:=l) (p:=fits r) (g:=λ_=>((true,()):Bool×Unit)) (e:=()) (λi x a=>?_) ?_ ?_)
 ·unfold nP;have b:=(i_.1 a).1;refine au (λ_=>?_) (λh=>absurd h (by simp;omega));refine kQ (by simp) (by simpa using a) ?_;refine MY r x ?_;cases fits r x;·exact aa (by simp only[p_,if_false];rw[ap b hl])
  ·exact aa rfl
 ·unfold nP;exact au (λh=>absurd h (by simp)) λ_=>aa rfl
 ·unfold wD;cases l.find? (fits r);·exact aa rfl
  ·exact aa rfl
theorem Ea(a:List UU)(l:List Int)(hr:a.length<=9223372036854775807)(hl:l.length<=9223372036854775807):aC tbl jv [.d (.list (pr [tB,tI,tI])) a,.d (.list tW) l] [] dX (tU a l,()):=by
 refine aw rfl (aA Ew rfl (λO n=>EI O n a l) ?_);unfold uJ;refine ae (ye (xs:=a) (p:=λr=>wD r l) (g:=λr=>((r.1,()):Bool×Unit)) (e:=()) (λi x b=>?_) ?_ ?_)
 ·unfold lD;have c:=(i_.1 b).1;refine au (λ_=>?_) (λh=>absurd h (by simp;omega));refine kQ (by simp) (by simpa using b) ?_;refine aj (GU x l hl) ?_;cases h:wD x l;·exact aa (by simp only[p_,if_false];rw[ap c hr])
  ·exact aa rfl
 ·unfold lD;exact au (λh=>absurd h (by simp)) λ_=>aa rfl
 ·unfold tU;cases a.find? (λr=>wD r l);·exact aa rfl
  ·exact aa rfl
theorem Oa(r:UU)(l:List Int)(hl:l.length<=9223372036854775807):aC tbl sw [.d (pr [tB,tI,tI]) r,.d (.list tW) l] [] lz (wD r l,()):=by
 refine aw rfl (aA PU rfl (λO n=>Qv O n r l) ?_);unfold Fu;refine ae (ye (xs:=l) (p:=fits r) (g:=λ_=>((true,()):Bool×Unit)) (e:=()) (λi x a=>?_) ?_ ?_)
 ·unfold ui;have b:=(i_.1 a).1;refine au (λ_=>?_) (λh=>absurd h (by simp;omega));refine kQ (by simp) (by simpa using a) ?_;refine MY r x ?_;cases fits r x;·exact aa (by simp only[p_,if_false];rw[ap b hl])
  ·exact aa rfl
 ·unfold ui;exact au (λh=>absurd h (by simp)) λ_=>aa rfl
 ·unfold wD;cases l.find? (fits r);·exact aa rfl
  ·exact aa rfl
theorem Bh(a:List UU)(l:List Int)(hr:a.length<=9223372036854775807)(hl:l.length<=9223372036854775807):aC tbl pd [.d (.list (pr [tB,tI,tI])) a,.d (.list tW) l] [] iC (tU a l,()):=by
 refine aw rfl (aA Lg rfl (λO n=>Lt O n a l) ?_);unfold Bu;refine ae (ye (xs:=a) (p:=λr=>wD r l) (g:=λr=>((r.1,()):Bool×Unit)) (e:=()) (λi x b=>?_) ?_ ?_)
 ·unfold qy;have c:=(i_.1 b).1;refine au (λ_=>?_) (λh=>absurd h (by simp;omega));refine kQ (by simp) (by simpa using b) ?_;refine aj (Oa x l hl) ?_;cases h:wD x l;·exact aa (by simp only[p_,if_false];rw[ap c hr])
  ·exact aa rfl
 ·unfold qy;exact au (λh=>absurd h (by simp)) λ_=>aa rfl
 ·unfold tU;cases a.find? (λr=>wD r l);·exact aa rfl
  ·exact aa rfl
theorem ra{l:List Int}{k:Nat}(h:k<l.length):l.getD k 0=l[k]:=by simp[List.getD,g_ h]
theorem GR(l:List Int):aC tbl lQ [.d (.list tW) l] [] dQ (Cm.check l,()):=by
 refine aw rfl (aA ID rfl (λO n=>IS O n l) ?_);unfold xl;refine au (λh=>aa ?_) λh=>?_;·rw[Cm.check_long (by grind)]
 have hl:¬255<l.length:=by grind
 refine ae (NM (N:=l.length) (good:=λi=>i=0\/l.getD (i - 1) 0<l.getD i 0) (e:=((16:Int),())) (g:=()) (λi a=>?_) ?_ (λh=>?_) λh=>?_)
 ·unfold nO;refine a8 a (ae (bz (b:=decide (l.getD i 0<=l.getD (i - 1) 0)) (λc=>?_) (nG ?_ (by rw[ap a (by omega)]))))
  ·have c:=of_decide_eq_true c;have e:b_ .i64 ((i:Int) - 1)=((i - 1:Nat):Int):=by rw[wrap_i64 (by omega) (by omega)];omega
   rw[e];refine aI a (aI (by omega) (aa ?_));grind
  grind
 ·unfold nO;exact aR (aa rfl)
 ·refine aa ?_;have d:∀k,k<=l.length->Cm.Up (l.take k):=by intro k;induction k with|zero=>simp|succ k f=>intro j;exact Cm.up_take (f (by omega)) (by omega) (h k (by omega))
  have:=d l.length (Nat.le_refl _);rw[n_]at this;rw[Cm.check_up hl this]
 ·refine aa ?_;obtain⟨i,a,hg⟩:=h;rw[Cm.check_not hl (Cm.not_up a (by omega) (by omega))]
theorem N9(l:List Int):aC tbl sv [.d (.list tW) l] [] ji (Cm.check l,()):=by
 refine aw rfl (aA PT rfl (λO n=>Qu O n l) ?_);unfold Ft;refine au (λh=>aa ?_) λh=>?_;·rw[Cm.check_long (by grind)]
 have hl:¬255<l.length:=by grind
 refine ae (Wp.imp (Q:=λr=>(r= .inr ()/\Cm.Up l)\/(r= .inl ((16:Int),())/\¬Cm.Up l)) (Go.Ev.wp_loop (fun(s:Int×Unit)=>∃k:Nat,s=((k:Int),())/\1<=k/\(l.length<=1\/k<=l.length)/\Cm.Up (l.take k)) (fun(s:Int×Unit)=>l.length - s.1.toNat) ⟨1,rfl,by simp,by omega,?_⟩ λs hs=>?_) λr hr=>?_);·cases l with|nil=>simp|cons x l=>simp
 ·obtain⟨k,rfl,b,c,a⟩:=hs;unfold Bz;refine au (λh=>?_) λh=>aa (.inl ⟨rfl,?_⟩)
  ·have h:k<l.length:=by grind
   have e:b_ .i64 ((k:Int) - 1)=((k - 1:Nat):Int):=by rw[wrap_i64 (by omega) (by omega)];omega
   simp only;rw[e];refine aI h (aI (by omega) (au (λh'=>aa (.inr ⟨rfl,?_⟩)) λh'=>aa ⟨⟨k+1,?_,by simp,by omega,?_⟩,?_⟩));·have h':=of_decide_eq_true h';exact Cm.not_up h (by omega) (by grind)
   ·rw[ap h (by omega)]
   ·have h':=of_decide_eq_false h';refine Cm.up_take a h (.inr ?_);grind
   ·show l.length - (b_ .i64 ((k:Int)+1)).toNat<l.length - ((k:Int)).toNat;rw[ap h (by omega)];omega
  ·have h:¬k<l.length:=by grind
   rw[List.take_of_length_le (by omega)]at a;omega
 ·rcases hr with⟨rfl,a⟩|⟨rfl,a⟩;·refine aa ?_;rw[Cm.check_up hl a]
  ·refine aa ?_;rw[Cm.check_not hl a]
theorem UH(l:List Int)(x:Int)(hl:l.length<=2000000):aC tbl cT [.d (.list tW) l,.d tW x] [] cg (Cm.ins x l,()):=by
 refine aw rfl (aA xc rfl (λO n=>xf O n l x) ?_);unfold nH;have D:b_ .i64 ((l.length:Int)+1)=((l.length+1:Nat):Int):=by rw[wrap_i64 (by omega) (by omega)];rfl
 refine aE (by grind) ?_;refine ae (aX (N:=l.length) (I:=λi s=>s.2.1=(i:Int)/\s.2.2.1++Cm.insGo x (l.drop i) s.1=Cm.ins x l/\s.2.2.1.length<=i+(if s.1 then 1 else 0)) ⟨rfl,by simp,by simp⟩ (λi s k hs=>?_) λs hs=>?_)
 ·obtain⟨d,j,c,⟨⟩⟩:=s;obtain⟨g,e,u⟩:=hs;simp only at g e u;subst g;unfold gh;rw[Cm.insGo_step x l i d k,ra k]at e;have z:b_ .i64 ((i:Int)+1)=((i+1:Nat):Int):=ap k (by omega);refine a8 k (ae (aI k (ae ?_)));generalize l[i]=y at e;have a:∀(f:Bool) (o:List Int),o++((if y != x then [y]else [])++Cm.insGo x (l.drop (i+1)) f)=Cm.ins x l->o.length<=i+(if f then 1 else 0)->Wp (λ_=>bif (y != x)then aH (decide ((o.length+([y]:List Int).length)*4<=140737488355328)) (some ((f,o++([y]:List Int),())))else some ((f,o,())))
   (λA:Bool×List Int×Unit=>Wp (λ_=>some (R_ (A.1,b_ .i64 ((i:Int)+(1:Int)),A.2.1,()))) fun(r:(Bool×Int×List Int×Unit)⊕(Bool×List Int×Unit))=>match r with
    | .inl s'=>s'.2.1=((i+1:Nat):Int)/\s'.2.2.1++Cm.insGo x (l.drop (i+1)) s'.1=Cm.ins x l/\s'.2.2.1.length<=i+1+(if s'.1 then 1 else 0)
    | .inr _=>False):=λf o E B=>by
   have w:o.length<=i+1:=by grind
   refine au (λh=>aE (decide_eq_true (by grind)) (aa (aa ⟨z,?_,?_⟩))) λh=>aa (aa ⟨z,?_,?_⟩)
   ·grind
   all_goals grind
  refine ae (bz (b:=decide (x<=y)) (λ_=>aa rfl) ?_);cases d with
  |true=>refine an rfl (aa (Wp.imp (a true c (by grind) (by omega)) λv p=>Wp.imp p λr hr=>?_));grind|false=>
   by_cases C:x<=y;·refine aJ (by grind) (aE (decide_eq_true (by grind)) (aa (Wp.imp (a true (c++[x]) (by grind) (by grind)) λv p=>Wp.imp p λr hr=>?_)));grind
   ·refine an (by grind) (aa (Wp.imp (a false c (by grind) (by omega)) λv p=>Wp.imp p λr hr=>?_));grind
 ·obtain⟨d,j,c,⟨⟩⟩:=s;obtain⟨g,e,u⟩:=hs;simp only at g e u;subst g;unfold gh;refine aR (aa ?_);rw[C_]at e;cases d with|true=>refine ae (an rfl (aa (aa ?_)));rw[<-e];simp[Cm.insGo]|false=>refine ae (aJ rfl (aE (decide_eq_true (by grind)) (aa (aa ?_))));rw[<-e];simp[Cm.insGo]
theorem UQ(l:List Int)(hl:l.length<=2000000):aC tbl cU [.d (.list tW) l] [] ci (Cm.asc l,()):=by
 refine aw rfl (aA xd rfl (λO n=>xg O n l) ?_);unfold nI;refine ae (aX (N:=l.length) (I:=λi s=>s=((l.take i).foldl (λo x=>Cm.ins x o) [],(i:Int),())) rfl (λi s a hs=>?_) λs hs=>?_)
 ·subst hs;unfold gj;have b:((l.take i).foldl (λo x=>Cm.ins x o) []).length<=i:=by have:=(Cm.fold_ins (l.take i) [] List.Pairwise.nil).2.2;grind
  refine a8 a (aI a (aj (UH ((l.take i).foldl (λo x=>Cm.ins x o) []) l[i] (by omega)) (aa ?_)));show(Cm.ins l[i] ((l.take i).foldl (λo x=>Cm.ins x o) []),b_ .i64 ((i:Int)+1),())=_;rw[ap a (by omega),d_ a,s_];rfl
 ·subst hs;unfold gj;refine aR (aa (aa ?_));rw[n_];rfl
theorem zK(l:List Int)(x:Int)(hl:l.length<=9223372036854775807):aC tbl gl [.d (.list tW) l,.d tW x] [] cP (decide (x∈l),()):=by
 refine aw rfl (aA AL rfl (λO n=>AW O n l x) ?_);unfold qk;refine ae (vL (xs:=l) (P:=λy=>y≠x) (e:=(true,())) (g:=()) (λi a=>?_) ?_ (λh=>aa ?_) λh=>aa ?_);·unfold jc;refine a8 a (aI a (nG ?_ (by rw[ap a hl])));simp
 ·unfold jc;exact aR (aa rfl)
 ·rw[decide_eq_false λb=>h x b rfl]
 ·rw[decide_eq_true (c_ λb=>h λy c e=>b (e▸c))]
theorem UM(l:List Int)(x:Int)(hl:l.length<=9223372036854775807):aC tbl xA [.d (.list tW) l,.d tW x] [] qb (decide (x∈l),()):=by
 refine aw rfl (aA W5 rfl (λO n=>Xp O n l x) ?_);unfold Kl;refine ae (vL (xs:=l) (P:=λy=>y≠x) (e:=(true,())) (g:=()) (λi a=>?_) ?_ (λh=>aa ?_) λh=>aa ?_);·unfold yi;refine a8 a (aI a (nG ?_ (by rw[ap a hl])));simp
 ·unfold yi;exact aR (aa rfl)
 ·rw[decide_eq_false λb=>h x b rfl]
 ·rw[decide_eq_true (c_ λb=>h λy c e=>b (e▸c))]
theorem KE(l:List Int)(c:Int)(hl:l.length<=1000000):aC tbl o8 [.d (.list tW) l,.d tW c] [] iA (Cm.add l c,()):=by
 refine aw rfl (aA K8 rfl (λO n=>Ll O n l c) ?_);unfold Bm;have a:=Cm.len_asc l;refine aj (UQ l (by omega)) (ae (bz (b:= !decide (c∈Cm.asc l)) (λ_=>aj (zK (Cm.asc l) c (by omega)) (aa rfl)) (au (λh=>aa ?_) λh=>aj (UH (Cm.asc l) c (by omega)) (aa ?_))));·rw[show Cm.add l c=Cm.asc l from if_pos (by grind)]
 ·rw[show Cm.add l c=Cm.ins c (Cm.asc l)from if_neg (fun⟨d,e⟩=>by grind)]
theorem Mh(c:Int)(v:List Int×Unit)(d:v.1.length<=1000000):Wp (λn=>aL n (kq (qc tbl n) n c v) ((0:Int),([]:List Int),())) λr=>r=(v.1.filter (λx=>x != c),()):=by
 refine aX (N:=v.1.length) (I:=λi s=>s=((i:Int),(v.1.take i).filter (λx=>x != c),())) rfl (λi s a hs=>?_) λs hs=>?_
 ·subst hs;unfold kq;have b:((v.1.take i).filter (λx=>x != c)).length<=i:=w_ (D_ _ _) (by rw[O_];omega);have e:(v.1.take (i+1)).filter (λx=>x != c)=(v.1.take i).filter (λx=>x != c)++(if v.1[i] != c then [v.1[i]]else []):=by rw[d_ a,J_];congr 1;cases h:(v.1[i] != c)<;>simp[Z_,h]
  refine a8 a (ae (aI a (au (λh=>aE (decide_eq_true (by show(((v.1.take i).filter (λx=>x != c)).length+1)*4<=_;omega)) (aa (aa ?_))) λh=>aa (aa ?_))));·show(b_ .i64 ((i:Int)+1),(v.1.take i).filter (λx=>x != c)++[v.1[i]],())=_;rw[e,if_pos h,ap a (by omega)]
  ·show(b_ .i64 ((i:Int)+1),(v.1.take i).filter (λx=>x != c),())=_;rw[e,if_neg (by rw[h];decide),l_,ap a (by omega)]
 ·subst hs;unfold kq;refine aR (aa ?_);rw[n_]
theorem X0(c:Int)(v:List Int×Unit)(d:v.1.length<=1000000):Wp (λn=>aL n (qx (qc tbl n) n c v) ((0:Int),([]:List Int),())) λr=>r=(v.1.filter (λx=>x != c),()):=by
 refine aX (N:=v.1.length) (I:=λi s=>s=((i:Int),(v.1.take i).filter (λx=>x != c),())) rfl (λi s a hs=>?_) λs hs=>?_
 ·subst hs;unfold qx;have b:((v.1.take i).filter (λx=>x != c)).length<=i:=w_ (D_ _ _) (by rw[O_];omega);have e:(v.1.take (i+1)).filter (λx=>x != c)=(v.1.take i).filter (λx=>x != c)++(if v.1[i] != c then [v.1[i]]else []):=by rw[d_ a,J_];congr 1;cases h:(v.1[i] != c)<;>simp[Z_,h]
  refine a8 a (ae (aI a (au (λh=>aE (decide_eq_true (by show(((v.1.take i).filter (λx=>x != c)).length+1)*4<=_;omega)) (aa (aa ?_))) λh=>aa (aa ?_))));·show(b_ .i64 ((i:Int)+1),(v.1.take i).filter (λx=>x != c)++[v.1[i]],())=_;rw[e,if_pos h,ap a (by omega)]
  ·show(b_ .i64 ((i:Int)+1),(v.1.take i).filter (λx=>x != c),())=_;rw[e,if_neg (by rw[h];decide),l_,ap a (by omega)]
 ·subst hs;unfold qx;refine aR (aa ?_);rw[n_]
theorem I6(l:List Int)(c:Int)(hl:l.length<=1000000):aC tbl m8 [.d (.list tW) l,.d tW c] [] j3 (Cm.drop l c,()):=by refine aw rfl (aA JR rfl (λO n=>J5 O n l c) ?_);unfold yX;refine aj (UQ l (by omega)) (ae (Wp.imp (Mh c (Cm.asc l,()) (w_ (Cm.len_asc l) hl)) λr hr=>?_));subst hr;exact aa rfl
theorem wx(l a:List Int)(hl:l.length<=1000000)(A:Cm.Out l a):Wp (λn=>aL n (eJ (qc tbl n) n l) (false,(0:Int),(0:Int),a,())) λr=>r.2.2.1=a/\Cm.Best l a l.length r.1 r.2.1:=by
 refine aX (N:=l.length) (I:=λi s=>s.2.2.1=(i:Int)/\s.2.2.2.1=a/\Cm.Best l a i s.1 s.2.1) ⟨rfl,rfl,Cm.Best.zero l a 0⟩ (λi s c hs=>?_) λs hs=>?_
 ·obtain⟨f,b,j,o,⟨⟩⟩:=s;obtain⟨k,p,e⟩:=hs;simp only at k p e;subst k;subst p;have D:=A.len;unfold eJ;have B:b_ .i64 ((i:Int)+1)=((i+1:Nat):Int):=ap c (by omega);refine a8 c (ae (aI c ?_));have w:∃g:Bool,(g=true↔∀y∈o,y<l[i])/\Wp (λn=>(bif ((o.length:Int)==(0:Int))then some (true)else h_ (aU o (b_ .i64 ((o.length:Int) - (1:Int)))) λ_=>h_ o[B_ (b_ .i64 ((o.length:Int) - (1:Int)))]? λF=>some (decide (l[i]>F)):Option Bool)) (·=g):=by
   by_cases u:o=[]
   ·subst u;exact⟨true,by simp,aJ rfl (aa rfl)⟩
   ·have hp:0<o.length:=I_.2 u;have C:b_ .i64 ((o.length:Int) - 1)=((o.length - 1:Nat):Int):=by rw[wrap_i64 (by omega) (by omega)];omega
    refine⟨decide (l[i]>o[o.length - 1]),?_,an (beq_eq_false_iff_ne.2 (by omega)) ?_⟩;·rw[Cm.last_gt A.up u l[i],ra (by omega),decide_eq_true_eq]
    ·simp only[C];refine aI (by omega) (fI (x:=o[o.length - 1]) ?_ (aa rfl));rw[q_];exact g_ _
  obtain⟨g,hg,z⟩:=w;refine ae (Wp.imp z λv E=>?_);subst E;refine ae (bz (b:= !f||decide (l[i]<b)) (λ_=>ae (bG (b:=decide (l[i]<b)) (λ_=>aa rfl) (aa rfl))) (au (λh=>aa (aa ⟨B,rfl,?_⟩)) λh=>aa (aa ⟨B,rfl,?_⟩)));·simp only[z_,P_,decide_eq_true_eq,K_]at h;have:=Cm.Best.take e c (by rw[ra c];exact hg.1 h.1) (by rw[ra c];exact h.2);rw[ra c]at this;exact this
  ·refine Cm.Best.skip e c λd=>?_;rw[ra c]at d⊢;rw[hg.2 d]at h;simp at h;exact⟨h.1,h.2⟩
 ·obtain⟨f,b,j,o,⟨⟩⟩:=s;obtain⟨k,p,e⟩:=hs;simp only at k p e;subst k;subst p;unfold eJ;exact aR (aa ⟨rfl,e⟩)
theorem BP(l a:List Int)(hl:l.length<=1000000)(A:Cm.Out l a):Wp (λn=>aL n (ju (qc tbl n) n l) (false,(0:Int),(0:Int),a,())) λr=>r.2.2.1=a/\Cm.Best l a l.length r.1 r.2.1:=by
 refine aX (N:=l.length) (I:=λi s=>s.2.2.1=(i:Int)/\s.2.2.2.1=a/\Cm.Best l a i s.1 s.2.1) ⟨rfl,rfl,Cm.Best.zero l a 0⟩ (λi s c hs=>?_) λs hs=>?_
 ·obtain⟨f,b,j,o,⟨⟩⟩:=s;obtain⟨k,p,e⟩:=hs;simp only at k p e;subst k;subst p;have D:=A.len;unfold ju;have B:b_ .i64 ((i:Int)+1)=((i+1:Nat):Int):=ap c (by omega);refine a8 c (ae (aI c ?_));have w:∃g:Bool,(g=true↔∀y∈o,y<l[i])/\Wp (λn=>(bif ((o.length:Int)==(0:Int))then some (true)else h_ (aU o (b_ .i64 ((o.length:Int) - (1:Int)))) λ_=>h_ o[B_ (b_ .i64 ((o.length:Int) - (1:Int)))]? λF=>some (decide (l[i]>F)):Option Bool)) (·=g):=by
   by_cases u:o=[]
   ·subst u;exact⟨true,by simp,aJ rfl (aa rfl)⟩
   ·have hp:0<o.length:=I_.2 u;have C:b_ .i64 ((o.length:Int) - 1)=((o.length - 1:Nat):Int):=by rw[wrap_i64 (by omega) (by omega)];omega
    refine⟨decide (l[i]>o[o.length - 1]),?_,an (beq_eq_false_iff_ne.2 (by omega)) ?_⟩;·rw[Cm.last_gt A.up u l[i],ra (by omega),decide_eq_true_eq]
    ·simp only[C];refine aI (by omega) (fI (x:=o[o.length - 1]) ?_ (aa rfl));rw[q_];exact g_ _
  obtain⟨g,hg,z⟩:=w;refine ae (Wp.imp z λv E=>?_);subst E;refine ae (bz (b:= !f||decide (l[i]<b)) (λ_=>ae (bG (b:=decide (l[i]<b)) (λ_=>aa rfl) (aa rfl))) (au (λh=>aa (aa ⟨B,rfl,?_⟩)) λh=>aa (aa ⟨B,rfl,?_⟩)));·simp only[z_,P_,decide_eq_true_eq,K_]at h;have:=Cm.Best.take e c (by rw[ra c];exact hg.1 h.1) (by rw[ra c];exact h.2);rw[ra c]at this;exact this
  ·refine Cm.Best.skip e c λd=>?_;rw[ra c]at d⊢;rw[hg.2 d]at h;simp at h;exact⟨h.1,h.2⟩
 ·obtain⟨f,b,j,o,⟨⟩⟩:=s;obtain⟨k,p,e⟩:=hs;simp only at k p e;subst k;subst p;unfold ju;exact aR (aa ⟨rfl,e⟩)
theorem wE(l:List Int)(hl:l.length<=1000000):Wp (λn=>aL n (jd (qc tbl n) n l) (([]:List Int),())) λr=>r=(Cm.asc l,()):=by refine Go.Ev.wp_loop (fun(s:List Int×Unit)=>Cm.Out l s.1) (fun(s:List Int×Unit)=>Cm.left l s.1) (Cm.Out.zero l) λs hs=>?_;unfold jd;have d:=hs.len;refine ae (Wp.imp (wx l s.1 hl hs) λr hr=>?_);obtain⟨f,b,o,⟨⟩⟩:=r;obtain⟨c,a⟩:=hr;simp only at c a;subst c;cases f with|false=>exact aJ rfl (aa (by show(s.1,())=_;rw[Cm.Out.outDone hs a]))|true=>refine an rfl (aE (decide_eq_true (by show(s.1.length+1)*4<=_;omega)) (aa ⟨Cm.Out.step hs a,?_⟩));have:=a.yes rfl;exact Cm.left_step this.1 this.2
theorem BR(l:List Int)(hl:l.length<=1000000):Wp (λn=>aL n (nU (qc tbl n) n l) (([]:List Int),())) λr=>r=(Cm.asc l,()):=by refine Go.Ev.wp_loop (fun(s:List Int×Unit)=>Cm.Out l s.1) (fun(s:List Int×Unit)=>Cm.left l s.1) (Cm.Out.zero l) λs hs=>?_;unfold nU;have d:=hs.len;refine ae (Wp.imp (BP l s.1 hl hs) λr hr=>?_);obtain⟨f,b,o,⟨⟩⟩:=r;obtain⟨c,a⟩:=hr;simp only at c a;subst c;cases f with|false=>exact aJ rfl (aa (by show(s.1,())=_;rw[Cm.Out.outDone hs a]))|true=>refine an rfl (aE (decide_eq_true (by show(s.1.length+1)*4<=_;omega)) (aa ⟨Cm.Out.step hs a,?_⟩));have:=a.yes rfl;exact Cm.left_step this.1 this.2
theorem zfB(l:List Int)(hl:l.length<=1000000):aC tbl iN [.d (.list tW) l] [] fz (Cm.asc l,()):=by refine aw rfl (aA IK rfl (λO n=>IZ O n l) ?_);unfold xt;refine ae (Wp.imp (BR l hl) λr hr=>?_);subst hr;exact aa rfl
theorem zfS(l:List Int)(hl:l.length<=1000000):aC tbl gn [.d (.list tW) l] [] dT (Cm.asc l,()):=by refine aw rfl (aA AP rfl (λO n=>Ba O n l) ?_);unfold qo;refine ae (Wp.imp (wE l hl) λr hr=>?_);subst hr;exact aa rfl
theorem UL(l:List Int)(c:Int)(hl:l.length<=900000):aC tbl xz [.d (.list tW) l,.d tW c] [] qa (Cm.add l c,()):=by
 refine aw rfl (aA W4 rfl (λO n=>Xo O n l c) ?_);unfold Kk;have a:=Cm.len_asc l;have d:(Cm.asc l,()).1.length<=900000:=by grind
 refine aj (zfS l (by omega)) (ae (bz (b:= !decide (c∈Cm.asc l)) (λ_=>aj (UM _ c (by omega)) (aa rfl)) (au (λh=>aa ?_) λh=>aE (decide_eq_true (by grind)) (aj (zfB _ (by grind)) (aa ?_)))));·rw[show Cm.add l c=Cm.asc l from if_pos (by grind)]
 ·rw[show Cm.add l c=Cm.ins c (Cm.asc l)from if_neg (fun⟨e,f⟩=>by grind),Cm.add_eq]
theorem RS(l:List Int)(c:Int)(hl:l.length<=1000000):aC tbl u5 [.d (.list tW) l,.d tW c] [] rm (Cm.drop l c,()):=by refine aw rfl (aA TL rfl (λO n=>T4 O n l c) ?_);unfold G5;refine aj (zfB l hl) (ae (Wp.imp (X0 c (Cm.asc l,()) (w_ (Cm.len_asc l) hl)) λr hr=>?_));subst hr;exact aa rfl
theorem if5{P:Prop} [Decidable P]:(if P then(0:Int)else 5)=0\/(if P then(0:Int)else 5)=5:=by omega
theorem RH{r:nM}(a:jr r.1=true)(b:¬(r.2.1<1\/7<r.2.1))(c:¬r.2.2.2.1.length>2000):oQ r=if ¬∀v∈r.2.2.2.1,1<=v/\v<=4294967295 then 5 else if Cm.check r.2.2.2.2.1≠0 then Cm.check r.2.2.2.2.1 else if ¬(uA r.2.2.2.2.2.1/\uA r.2.2.2.2.2.2.1/\uA r.2.2.2.2.2.2.2.2.1)\/r.2.2.2.2.2.2.2.1<0\/16777216<r.2.2.2.2.2.2.2.1 then 5 else 0:=by unfold oQ;grind
theorem EU(r:nM)(hp:hZ r.1.1):aC tbl eM [.d Kc r] [] bM (oQ r,()):=by
 refine aw rfl (aA Py rfl (λO n=>Qe O n r) ?_);unfold E9;refine aj (mj r.1 hp) (au (λh=>aa ?_) λh=>?_);·rw[show oQ r=1 from if_pos (by grind)]
 have p:jr r.1=true:=by grind
 refine ae (bG (b:=decide (r.2.1>7)) (λ_=>aa rfl) (au (λh=>aa ?_) λh=>?_));·rw[show oQ r=5 from by unfold oQ;grind]
 have C:¬(r.2.1<1\/7<r.2.1):=by grind
 refine au (λh=>aa ?_) λh=>?_;·rw[show oQ r=4 from by unfold oQ;grind]
 have D:¬r.2.2.2.1.length>2000:=by grind
 rw[RH p C D];refine ae (vL (xs:=r.2.2.2.1) (P:=λv=>1<=v/\v<=4294967295) (e:=((5:Int),())) (g:=()) (λi l=>?_) ?_ (λh=>?_) λh=>aa ?_);·unfold uc;refine a8 l (aI l (ae (bG (b:=decide (r.2.2.2.1[i]>4294967295)) (λ_=>aa rfl) (nG ?_ (by rw[ap l (by omega)])))));grind
 ·unfold uc;exact aR (aa rfl)
 ·rw[if_neg (not_not_intro h)];refine aj (GR r.2.2.2.2.1) (au (λh=>aa ?_) λh=>?_);·grind
  rw[if_neg (by grind)];generalize r.2.2.2.2.2.1=x0;generalize r.2.2.2.2.2.2.1=d;generalize r.2.2.2.2.2.2.2=y;obtain⟨F,k,⟨⟩⟩:=y;have one:∀x:Int,Wp (λ_=>h_ (bif decide (x<(0:Int))then some (true)else some (decide (x>(4294967295:Int)))) λv=>some v) (λb=>b= !decide (uA x)):=λx=>by refine ae (bG (b:=decide (x>4294967295)) (λ_=>aa rfl) (aa ?_));grind
  refine ae (uG (N:=3) (f:=λi=>if uA (if i=0 then x0 else if i=1 then d else k)then 0 else 5) (enc:=λi=>((x0,d,k,()),(i:Int),())) (oB:=λe=>(e,())) (oE:=()) (λi l=>?_) ?_ ?_)
  ·unfold ud;have s:∀x:Int,x=(if i=0 then x0 else if i=1 then d else k)->Wp (λ_=>h_ (bif decide (x<(0:Int))then some (true)else some (decide (x>(4294967295:Int)))) λw=>
    bif w then some (.inr (.inl (((5:Int),()))))else some (.inl ((x0,d,k,()),b_ .i64 ((i:Int)+(1:Int)),())))
    (fun(r:((Int×Int×Int×Unit)×Int×Unit)⊕(Int×Unit)⊕Unit)=>r=if(if uA (if i=0 then x0 else if i=1 then d else k)then(0:Int)else 5)=0 then .inl ((x0,d,k,()),((i+1:Nat):Int),())else .inr (.inl ((if uA (if i=0 then x0 else if i=1 then d else k)then(0:Int)else 5),()))):=λx E=>by
    subst E
    refine ae (bG (b:=decide (_>4294967295)) (λ_=>aa rfl) (au (λh=>aa ?_) λh=>aa ?_))
    ·grind
    ·rw[if_pos (show uA _ by grind),if_pos rfl,ap (n:=3) l (by simp)]
   refine a8 l ?_;have u:i=0\/i=1\/i=2:=by omega
   rcases u with rfl|rfl|rfl;·exact zD (a:=x0) rfl (s x0 rfl)
   ·exact zD (a:=d) rfl (s d rfl)
   ·exact zD (a:=k) rfl (s k rfl)
  ·unfold ud;exact aR (aa rfl)
  have A:lM (λi=>if uA (if i=0 then x0 else if i=1 then d else k)then(0:Int)else 5) 3=if uA x0/\uA d/\uA k then 0 else 5:=by
   by_cases h:uA x0/\uA d/\uA k;·rw[if_pos h];refine errN_zero.2 λj J=>?_;omega
   ·rw[if_neg h];refine(zc5 (c:=5) (λj=>if5)).resolve_left λB=>h ?_;have p:=errN_zero.1 B;have g0:=p 0 (by simp);have H:=p 1 (by simp);have I:=p 2 (by simp);omega
  rw[A];by_cases z:uA x0/\uA d/\uA k;·rw[if_pos z,if_pos rfl];refine ae (bG (b:=decide (F>16777216)) (λ_=>aa rfl) (au (λh=>aa ?_) λh=>aa ?_));all_goals grind
  ·rw[if_neg z,if_neg (by simp)];refine aa ?_;grind
 grind
open Classical in
noncomputable def Gt(s:List UInt8)(a:List Int):Bool:=decide (∃r,mF r=0/\jM r=s/\uC (dn r 0) a=true)
noncomputable def Wq(l:List HRU)(a:List Int):Bool:=match l.find? (λu=>Gt u.2.1 a)with|some u=>u.1|none=>false
open Classical in
theorem zaJ{s:List UInt8}{c:Rx×Int×Unit}(h:ParsedX s c)(hc:(c.2.1==0)=false)(a:List Int):Gt s a=false:=by unfold Gt;refine decide_eq_false ?_;rintro⟨r,b,d,_⟩;rcases h with⟨f,_,_,rfl⟩|⟨e,_⟩;all_goals grind
open Classical in
theorem V8{s:List UInt8}(hs:s.length<=1048576){c:Rx×Int×Unit}(h:ParsedX s c)(hc:(c.2.1==0)=true)(a:List Int):∃r,c=(r,0,())/\dm r=true/\sz r<=64/\Gt s a=uC (dn r 0) a:=by
 rcases h with⟨r,b,d,rfl⟩|⟨_,rfl⟩
 ·obtain⟨e,f,_⟩:=D9 b;refine⟨r,rfl,e,f,?_⟩;unfold Gt;cases l:uC (dn r 0) a;·refine decide_eq_false ?_;rintro⟨k,g,j,n⟩;have:=ParsedX.pxUniq hs (.inl ⟨k,g,j,rfl⟩) (.inl ⟨r,b,d,rfl⟩);grind
  grind
 grind
theorem N3(l:List HRU)(a:List Int)(hl:l.length<=9223372036854775807)(hr:∀u∈l,u.2.1.length<=1048576)(hp:a.length<=1000000):aC tbl sj [.d (.list yH) l,.d (.list tI) a] [] lx (Wq l a,()):=by
 refine aw rfl (aA PE rfl (λO n=>Qi O n l a) ?_);unfold Fc;refine ae (mU (xs:=l) (p:=λu=>Gt u.2.1 a) (enc:=λi=>((i:Int),())) (g:=λu=>(u.1,())) (e:=()) (λi d=>?_) ?_ ?_)
 ·unfold ue;have j:=hr _ (a_ d);obtain⟨c,f,s⟩:=E8 l[i].2.1 j;refine a8 d (aI d (aj s (ae (bz (b:=Gt l[i].2.1 a) (λh=>?_) ?_))))
  ·obtain⟨r,rfl,k,w,v⟩:=V8 j f h a;rw[cy];refine aj (Oh r (by omega) a hp) (aa ?_);rw[v,k];show(mP a&&uC (dn r 0) a)=_;cases e:mP a;·rw[zbN k e];rfl
   simp
  ·have e:((c.2.1==0)&&Gt l[i].2.1 a)=Gt l[i].2.1 a:=by
    cases hc:(c.2.1==0);·rw[zaJ f hc];rfl
    simp
   rw[e];refine au (λh=>aa ?_) λh=>aa ?_;·grind
   ·rw[if_neg (by grind),ap d hl]
 ·unfold ue;exact aR (aa rfl)
 ·unfold Wq;cases l.find? (λu=>Gt u.2.1 a)with|some r=>exact aa rfl|none=>exact aa rfl
theorem uI(l:List HRU)(a:List Int)(hl:l.length<=9223372036854775807)(hr:∀u∈l,u.2.1.length<=1048576)(hp:a.length<=1000000):aC tbl jz [.d (.list yH) l,.d (.list tI) a] [] dY (Wq l a,()):=by
 refine aw rfl (aA EH rfl (λO n=>ET O n l a) ?_);unfold uU;refine ae (mU (xs:=l) (p:=λu=>Gt u.2.1 a) (enc:=λi=>((i:Int),())) (g:=λu=>(u.1,())) (e:=()) (λi d=>?_) ?_ ?_)
 ·unfold lH;have j:=hr _ (a_ d);obtain⟨c,f,k⟩:=EX l[i].2.1 j;refine a8 d (aI d (aj k (ae (bz (b:=Gt l[i].2.1 a) (λh=>?_) ?_))));·obtain⟨r,rfl,v,w,s⟩:=V8 j f h a;rw[cy];refine aj (N7 r (by omega) a hp) (aa ?_);grind
  ·have e:((c.2.1==0)&&Gt l[i].2.1 a)=Gt l[i].2.1 a:=by
    cases hc:(c.2.1==0);·rw[zaJ f hc];rfl
    simp
   rw[e];refine au (λh=>aa ?_) λh=>aa ?_;·grind
   ·rw[if_neg (by grind),ap d hl]
 ·unfold lH;exact aR (aa rfl)
 ·unfold Wq;cases l.find? (λu=>Gt u.2.1 a)with|some r=>exact aa rfl|none=>exact aa rfl
noncomputable def lN(s:PS)(m:Uy)(r:nM):Bool:=
 if m.1=1 then(match gI s m.2.1 with|some l=>Wr l.2.1 r.1|none=>false)
 else if m.1=2 then(match oF s m.2.1 with|some l=>Wq l.2.1 r.2.2.2.1|none=>false)
 else if m.1=3 then(match da s m.2.1 with|some l=>tU l.2.1 r.2.2.2.2.1|none=>false)
 else if m.1=4 then r.2.1==m.2.2.1
 else if m.1=5 then r.2.2.2.2.2.2.2.2.1==m.2.2.1
 else if m.1=6 then decide (r.2.2.2.2.2.2.2.1<=m.2.2.1)
 else if m.1=7 then Kt m.2.2.2.1 r.2.2.1
 else decide ((r.2.2.2.1.length:Int)<=m.2.2.1)
noncomputable def Po(s:PS)(r:nM)(m:Uy):Bool:=true ^^ (lN s m r==m.2.2.2.2.1)
noncomputable def uF(s:PS)(r:nM)(t:y9):Bool:=t.2.1.all (Po s r)
structure SmQ(s:PS)(r:nM):Prop where
 s:SmP s
 p:hZ r.1.1
 n:hZ r.2.2.1
 pt:r.2.2.2.1.length<=100000
 cm:r.2.2.2.2.1.length<=100000
abbrev bxU(r:nM):Ob:=.box cw [.d tW r.1.1,.d tI r.1.2.1,.d tI r.2.1,.d tW r.2.2.1,.d (.list tI) r.2.2.2.1,.d (.list tW) r.2.2.2.2.1,.d tI r.2.2.2.2.2.1,.d tI r.2.2.2.2.2.2.1,.d tI r.2.2.2.2.2.2.2.1,.d tI r.2.2.2.2.2.2.2.2.1]
abbrev cR(s:PS)(r:nM):List PLS×List HLS×List CLS×List FM×Int×Int×Int×Int×List Int×List Int×Int×Int×Int×Int×Unit:=
 (s.1,s.2.1,s.2.2.1,s.2.2.2.1,r.1.1,r.1.2.1,r.2.1,r.2.2.1,r.2.2.2.1,r.2.2.2.2.1,r.2.2.2.2.2.1,r.2.2.2.2.2.2.1,r.2.2.2.2.2.2.2.1,r.2.2.2.2.2.2.2.2.1,())
theorem zhu(x:HL q_apply_conditions_1_drr.sl):C4 q_apply_conditions_1_drr (kJ q_apply_conditions_1_drr x)=some x:=by kernel_rfl
theorem zhv(x:HL q_apply_conditions_2_dr.sl):C4 q_apply_conditions_2_dr (kJ q_apply_conditions_2_dr x)=some x:=by kernel_rfl
theorem zht(x:HL q_apply_conditions.sl):C4 q_apply_conditions (kJ q_apply_conditions x)=some x:=by kernel_rfl
theorem zeu(s:PS)(m:Uy)(r:nM)(h:SmQ s r)(D:1<=m.1/\m.1<=8)(w:hZ m.2.2.2.1.1):aC tbl c9 [.d yM m,.ptr 0 0,.ptr 1 0] [bxS s,bxU r] q_apply_conditions_1_drr (lN s m r,cR s r):=by
 refine aw (zhu _) (aA yz rfl (λO n=>yI O n m s.1 s.2.1 s.2.2.1 s.2.2.2.1 r.1.1 r.1.2.1 r.2.1 r.2.2.1 r.2.2.2.1 r.2.2.2.2.1 r.2.2.2.2.2.1 r.2.2.2.2.2.2.1 r.2.2.2.2.2.2.2.1 r.2.2.2.2.2.2.2.2.1) ?_);unfold nZ;have f:=h.s.ok;have b:∀{k:Int},m.1≠k->(m.1==k)=false:=λh=>beq_eq_false_iff_ne.2 h;have c:∀{k:Int},m.1=k->(m.1==k)=true:=λh=>beq_iff_eq.2 h;by_cases j:m.1=1
 ·have a:lN s m r=match gI s m.2.1 with|some l=>Wr l.2.1 r.1|none=>false:=by unfold lN;grind
  refine ae (aJ (c j) (ae (mU (xs:=s.1) (p:=(·.1==m.2.1)) (enc:=λi=>((i:Int),cR s r)) (g:=λl=>(Wr l.2.1 r.1,cR s r)) (e:=cR s r) (λi d=>?_) ?_ ?_)))
  ·unfold gS;refine a8 d (aI d (au (λh'=>?_) λh'=>aa ?_));·have hl:=f.1.2 _ (a_ d);refine aj (KF s.1[i].2.1 r.1 hl.2.1.1 (λu x=>(hl.2.1.2 u x).2.1.1) h.p) (aa ?_);grind
   ·rw[if_neg (by grind),ap d (by exact f.1.1)]
  ·unfold gS;exact aR (aa rfl)
  ·unfold gI at a;cases e:s.1.find? (·.1==m.2.1)with|some l=>rw[e]at a;rw[a];exact aa (aa rfl)|none=>rw[e]at a;rw[a];exact aa (aa rfl)
 by_cases v:m.1=2
 ·have a:lN s m r=match oF s m.2.1 with|some l=>Wq l.2.1 r.2.2.2.1|none=>false:=by unfold lN;grind
  refine ae (an (b j) (aJ (c v) (ae (mU (xs:=s.2.1) (p:=(·.1==m.2.1)) (enc:=λi=>((i:Int),cR s r)) (g:=λl=>(Wq l.2.1 r.2.2.2.1,cR s r)) (e:=cR s r) (λi d=>?_) ?_ ?_))))
  ·unfold gT;refine a8 d (aI d (au (λh'=>?_) λh'=>aa ?_));·have hl:=f.2.1.2 _ (a_ d);refine aj (N3 s.2.1[i].2.1 r.2.2.2.1 hl.2.1.1 (λu x=>h.s.pt _ (a_ d) u x) (by have:=h.pt;omega)) (aa ?_);grind
   ·rw[if_neg (by grind),ap d (by exact f.2.1.1)]
  ·unfold gT;exact aR (aa rfl)
  ·unfold oF at a;cases e:s.2.1.find? (·.1==m.2.1)with|some l=>rw[e]at a;rw[a];exact aa (aa rfl)|none=>rw[e]at a;rw[a];exact aa (aa rfl)
 by_cases y:m.1=3
 ·have a:lN s m r=match da s m.2.1 with|some l=>tU l.2.1 r.2.2.2.2.1|none=>false:=by unfold lN;grind
  refine ae (an (b j) (an (b v) (aJ (c y) (ae (mU (xs:=s.2.2.1) (p:=(·.1==m.2.1)) (enc:=λi=>((i:Int),cR s r)) (g:=λl=>(tU l.2.1 r.2.2.2.2.1,cR s r)) (e:=cR s r) (λi d=>?_) ?_ ?_)))))
  ·unfold gU;refine a8 d (aI d (au (λh'=>?_) λh'=>aa ?_));·have hl:=f.2.2.1.2 _ (a_ d);refine aj (Ea s.2.2.1[i].2.1 r.2.2.2.2.1 hl.2.1.1 (by have:=h.cm;omega)) (aa ?_);grind
   ·rw[if_neg (by grind),ap d (by exact f.2.2.1.1)]
  ·unfold gU;exact aR (aa rfl)
  ·unfold da at a;cases e:s.2.2.1.find? (·.1==m.2.1)with|some l=>rw[e]at a;rw[a];exact aa (aa rfl)|none=>rw[e]at a;rw[a];exact aa (aa rfl)
 refine ae (an (b j) (an (b v) (an (b y) ?_)));by_cases z:m.1=4;·refine aJ (c z) (aa (aa ?_));rw[show lN s m r=(r.2.1==m.2.2.1)from by unfold lN;grind]
 refine an (b z) ?_;by_cases A:m.1=5;·refine aJ (c A) (aa (aa ?_));rw[show lN s m r=(r.2.2.2.2.2.2.2.2.1==m.2.2.1)from by unfold lN;grind]
 refine an (b A) ?_;by_cases B:m.1=6;·refine aJ (c B) (aa (aa ?_));rw[show lN s m r=decide (r.2.2.2.2.2.2.2.1<=m.2.2.1)from by unfold lN;grind]
 refine an (b B) ?_;by_cases C:m.1=7;·refine aJ (c C) (aj (xj m.2.2.2.1 r.2.2.1 w h.n) (aa (aa ?_)));rw[show lN s m r=Kt m.2.2.2.1 r.2.2.1 from by unfold lN;grind]
 refine an (b C) (aJ (c (by omega)) (aa (aa ?_)));rw[show lN s m r=decide ((r.2.2.2.1.length:Int)<=m.2.2.1)from by unfold lN;grind]
theorem zad(s:PS)(m:Uy)(r:nM)(h:SmQ s r)(b:1<=m.1/\m.1<=8)(a:hZ m.2.2.2.1.1):aC tbl b9 [.d yM m,.ptr 0 0] [.box I9 [.clo cB [1,2]],bxS s,bxU r] q_apply_conditions_2_dr (Po s r m,cR s r):=by refine aw (zhv _) (aA zx rfl (λO n=>zF O n m s.1 s.2.1 s.2.2.1 s.2.2.2.1 r.1.1 r.1.2.1 r.2.1 r.2.2.1 r.2.2.2.1 r.2.2.2.2.1 r.2.2.2.2.2.1 r.2.2.2.2.2.2.1 r.2.2.2.2.2.2.2.1 r.2.2.2.2.2.2.2.2.1) ?_);unfold pT;exact aj (zeu s m r h b a) (aa rfl)
theorem GV(s:PS)(r:nM):aC tbl gV [.d yS s,.d Kc r] [] q_apply_conditions (cR s r):=aw (zht _) (aA GF rfl (λO n=>GL O n s r) (aa rfl))
theorem Ke(s:PS)(m:Uy)(r:nM)(h:SmQ s r)(A:1<=m.1/\m.1<=8)(g:hZ m.2.2.2.1.1):aC tbl tH [.d yS s,.d yM m,.d Kc r] [] dC (lN s m r,()):=by
 refine aw rfl (aA W7 rfl (λO n=>Xr O n s m r) ?_);unfold Kn;have d:=h.s.ok;have c:∀{k:Int},m.1≠k->(m.1==k)=false:=λh=>beq_eq_false_iff_ne.2 h;have b:∀{k:Int},m.1=k->(m.1==k)=true:=λh=>beq_iff_eq.2 h;by_cases j:m.1=1
 ·have a:lN s m r=match gI s m.2.1 with|some l=>Wr l.2.1 r.1|none=>false:=by unfold lN;grind
  refine aJ (b j) (aj (yV s m.2.1 d.1.1) ?_);cases e:gI s m.2.1 with|some l=>rw[e]at a;rw[a];have hl:=d.1.2 l (k_ e);exact aj (Bi l.2.1 r.1 hl.2.1.1 (λu f=>(hl.2.1.2 u f).2.1.1) h.p) (aa rfl)|none=>rw[e]at a;rw[a];exact aj (Bi [] r.1 (j_ _) (λu f=>by grind) h.p) (aa rfl)
 refine an (c j) ?_;by_cases p:m.1=2
 ·have a:lN s m r=match oF s m.2.1 with|some l=>Wq l.2.1 r.2.2.2.1|none=>false:=by unfold lN;grind
  refine aJ (b p) (aj (E5 s m.2.1 d.2.1.1) ?_);cases e:oF s m.2.1 with|some l=>rw[e]at a;rw[a];have hl:=d.2.1.2 l (k_ e);exact aj (uI l.2.1 r.2.2.2.1 hl.2.1.1 (λu f=>h.s.pt _ (k_ e) u f) (by have:=h.pt;omega)) (aa rfl)|none=>rw[e]at a;rw[a];exact aj (uI [] r.2.2.2.1 (j_ _) (λu f=>by grind) (by have:=h.pt;omega)) (aa rfl)
 refine an (c p) ?_;by_cases v:m.1=3
 ·have a:lN s m r=match da s m.2.1 with|some l=>tU l.2.1 r.2.2.2.2.1|none=>false:=by unfold lN;grind
  refine aJ (b v) (aj (uH s m.2.1 d.2.2.1.1) ?_);cases e:da s m.2.1 with|some l=>rw[e]at a;rw[a];have hl:=d.2.2.1.2 l (k_ e);exact aj (Bh l.2.1 r.2.2.2.2.1 hl.2.1.1 (by have:=h.cm;omega)) (aa rfl)|none=>rw[e]at a;rw[a];exact aj (Bh [] r.2.2.2.2.1 (j_ _) (by have:=h.cm;omega)) (aa rfl)
 refine an (c v) ?_;by_cases w:m.1=4;·refine aJ (b w) (aa ?_);rw[show lN s m r=(r.2.1==m.2.2.1)from by unfold lN;grind]
 refine an (c w) ?_;by_cases x:m.1=5;·refine aJ (b x) (aa ?_);rw[show lN s m r=(r.2.2.2.2.2.2.2.2.1==m.2.2.1)from by unfold lN;grind]
 refine an (c x) ?_;by_cases y:m.1=6;·refine aJ (b y) (aa ?_);rw[show lN s m r=decide (r.2.2.2.2.2.2.2.1<=m.2.2.1)from by unfold lN;grind]
 refine an (c y) ?_;by_cases z:m.1=7;·refine aJ (b z) (aj (yQ m.2.2.2.1 r.2.2.1 g h.n) (aa ?_));rw[show lN s m r=Kt m.2.2.2.1 r.2.2.1 from by unfold lN;grind]
 refine an (c z) (aa ?_);rw[show lN s m r=decide ((r.2.2.2.1.length:Int)<=m.2.2.1)from by unfold lN;grind]
theorem GQ(r:nM)(a:r.2.2.2.1.length<=1000000)(b:r.2.2.2.2.1.length<=1000000):aC tbl lP [.d Kc r] [] i8 (r,()):=by obtain⟨p,po,nh,pt,cm,t⟩:=r;simp only at a b;refine aw rfl (aA IC rfl (λO n=>IR O n (p,po,nh,pt,cm,t)) ?_);unfold xk;refine aE (by grind) (aE (by grind) (aa ?_));simp
theorem Oe(r:nM)(a:r.2.2.2.1.length<=1000000)(b:r.2.2.2.2.1.length<=1000000):aC tbl sA [.d Kc r] [] oN (r,()):=by obtain⟨p,po,nh,pt,cm,t⟩:=r;simp only at a b;refine aw rfl (aA P3 rfl (λO n=>QD O n (p,po,nh,pt,cm,t)) ?_);unfold FC;exact aE (decide_eq_true (by grind)) (aE (decide_eq_true (by grind)) (aa rfl))
theorem UX{a:zJ}(b:iw a=0)(c:a.1=8):1<=a.2.1/\a.2.1<=16:=by
 unfold iw at b;split at b;·omega
 split at b;·omega
 split at b;·omega
 rename_i h;have h:mG a=true:=by grind
 unfold mG at h;grind
theorem QO{a:zJ}(b:iw a=0):1<=a.1/\a.1<=8:=by
 unfold iw at b;split at b;·cases b
 ·omega
section
variable {a:zJ} {p:NZ} {po nh:Int} {pt cm:List Int} {pf md mt tg:Int} {u:Unit}
theorem zgP(h:a.1=1):I3 a (p,po,nh,pt,cm,pf,md,mt,tg,u)=(p,po,nh,pt,cm,a.2.1,md,mt,tg,u):=by simp[I3,h]
theorem zgQ(h:a.1=2):I3 a (p,po,nh,pt,cm,pf,md,mt,tg,u)=(p,po,nh,pt,cm,pf,a.2.1,mt,tg,u):=by simp[I3,h]
theorem zgR(h:a.1=3):I3 a (p,po,nh,pt,cm,pf,md,mt,tg,u)=(p,po,nh,pt,cm,pf,md,a.2.1,tg,u):=by simp[I3,h]
theorem zgS(h:a.1=4):I3 a (p,po,nh,pt,cm,pf,md,mt,tg,u)=(p,po,nh,pt,cm,pf,md,mt,a.2.1,u):=by simp[I3,h]
theorem zgT(h:a.1=5):I3 a (p,po,nh,pt,cm,pf,md,mt,tg,u)=(p,po,a.2.2.2.2.1,pt,cm,pf,md,mt,tg,u):=by simp[I3,h]
theorem zgU(h:a.1=6):I3 a (p,po,nh,pt,cm,pf,md,mt,tg,u)=(p,po,nh,pt,Cm.add cm a.2.2.2.1,pf,md,mt,tg,u):=by simp[I3,h]
theorem zgV(h:a.1=7):I3 a (p,po,nh,pt,cm,pf,md,mt,tg,u)=(p,po,nh,pt,Cm.drop cm a.2.2.2.1,pf,md,mt,tg,u):=by simp[I3,h]
theorem zgW(h:a.1=8)(hl:(pt.length:Int)+a.2.1<=2000):I3 a (p,po,nh,pt,cm,pf,md,mt,tg,u)=(p,po,nh,f_ a.2.1.toNat a.2.2.1++pt,cm,pf,md,mt,tg,u):=by simp[I3,h,hl]
theorem zgX(h:a.1=8)(hl:¬(pt.length:Int)+a.2.1<=2000):I3 a (p,po,nh,pt,cm,pf,md,mt,tg,u)=(p,po,nh,pt,cm,pf,md,mt,tg,u):=by simp[I3,h];omega
end
theorem LO(a:zJ)(r:nM)(A:iw a=0)(C:r.2.2.2.1.length<=900000)(D:r.2.2.2.2.1.length<=900000):aC tbl qC [.d yA a,.d Kc r] [] mK (I3 a r,()):=by
 obtain⟨⟨y,z,⟨⟩⟩,po,nh,pt,cm,pf,md,mt,tg,⟨⟩⟩:=r;simp only at C D;refine aw rfl (aA Nu rfl (λO n=>NN O n a ((y,z,()),po,nh,pt,cm,pf,md,mt,tg,())) ?_);unfold Cf;have J:=QO A;have b:∀{k:Int},a.1≠k->(a.1==k)=false:=λh=>beq_eq_false_iff_ne.2 h;have c:∀{k:Int},a.1=k->(a.1==k)=true:=λh=>beq_iff_eq.2 h;by_cases d:a.1=1;·rw[zgP d];exact ae (aJ (c d) (aa (aa rfl)))
 by_cases e:a.1=2;·rw[zgQ e];exact ae (an (b d) (aJ (c e) (aa (aa rfl))))
 by_cases f:a.1=3;·rw[zgR f];exact ae (an (b d) (an (b e) (aJ (c f) (aa (aa rfl)))))
 by_cases g:a.1=4;·rw[zgS g];exact ae (an (b d) (an (b e) (an (b f) (aJ (c g) (aa (aa rfl))))))
 by_cases j:a.1=5;·rw[zgT j];exact ae (an (b d) (an (b e) (an (b f) (an (b g) (aJ (c j) (aa (aa rfl)))))))
 by_cases p:a.1=6;·rw[zgU p];exact ae (an (b d) (an (b e) (an (b f) (an (b g) (an (b j) (aJ (c p) (aj (KE cm a.2.2.2.1 (by omega)) (aa (aa rfl)))))))))
 by_cases w:a.1=7;·rw[zgV w];exact ae (an (b d) (an (b e) (an (b f) (an (b g) (an (b j) (an (b p) (aJ (c w) (aj (I6 cm a.2.2.2.1 (by omega)) (aa (aa rfl))))))))))
 have u:a.1=8:=by omega
 obtain⟨F,H⟩:=UX A u;generalize l:a.2.1=N at F H;obtain⟨m,rfl⟩:=A_ (show 0<=N by omega);refine ae (an (b d) (an (b e) (an (b f) (an (b g) (an (b j) (an (b p) (an (b w) (aJ (c u) ?_))))))));have B:b_ .i64 ((pt.length:Int)+(m:Int))=(pt.length:Int)+(m:Int):=wrap_i64 (by omega) (by omega);have v:b_ .i64 ((m:Int)+(pt.length:Int))=(m:Int)+(pt.length:Int):=wrap_i64 (by omega) (by omega);simp only[l,B,v];refine au (λh=>?_) λh=>aa (aa ?_)
 ·have h:=of_decide_eq_true h;rw[zgW u (by omega),l];refine aE (by grind) ?_;refine ae (aX (N:=m) (I:=λi s=>s=((i:Int),y,z,po,nh,pt,cm,pf,md,mt,tg,(0:Int),(0:Int),(0:Int),(0:Int),(0:Int),(0:Int),(0:Int),(0:Int),f_ i a.2.2.1++f_ (m - i) (0:Int),())) rfl (λi s E hs=>?_) λs hs=>?_)
  ·subst hs;unfold rP;simp only[l];have hl:(f_ i a.2.2.1++f_ (m - i) (0:Int)).length=m:=by grind
   refine aJ (decide_eq_true (by grind)) ?_;refine aI (by omega) (fI (x:=(f_ i a.2.2.1++f_ (m - i) (0:Int))[i]'(by omega)) (by grind) (aa ?_));show(b_ .i64 ((i:Int)+1),y,z,po,nh,pt,cm,pf,md,mt,tg,(0:Int),(0:Int),(0:Int),(0:Int),(0:Int),(0:Int),(0:Int),(0:Int),(f_ i a.2.2.1++f_ (m - i) (0:Int)).set (B_ (i:Int)) a.2.2.1,())=_;rw[ap E (by omega),q_];have:(f_ i a.2.2.1++f_ (m - i) (0:Int)).set i a.2.2.1=f_ (i+1) a.2.2.1++f_ (m - (i+1)) (0:Int):=by rw[List.set_append_right _ _ (by simp),E_,W_,show m - i=(m - (i+1))+1 by omega,List.replicate_succ,List.set_cons_zero,H_ (n:=i),List.append_assoc];rfl
   grind
  ·subst hs;unfold rP;simp only[l];refine an (decide_eq_false (by simp)) (aa ?_);simp only[W_,List.replicate_zero,l_];refine aE (decide_eq_true (by grind)) (aa (aa ?_));simp
 ·have h:=of_decide_eq_false h;rw[zgX u (by omega)]
theorem EV(t:y9):aC tbl od [.d yT t] [] lu (([([112],[([116],t.2.1,t.2.2.1,1,())],1,())]:List FM),()):=aw rfl (aA PD rfl (λO n=>Qh O n t) (aa rfl))
theorem zfx{a:zJ}(h:okD yA a):SmP (zej a):=by
 have l1:(1:Nat)<=maxLen:=by decide
 have c:IntKind.i64.min<=(1:Int)/\(1:Int)<=IntKind.i64.max:=by decide
 have e:okD yT ([116],[],[a],1,()):=by refine⟨l1,⟨j_ _,λy b=>by grind⟩,⟨l1,λx d=>?_⟩,c,trivial⟩;grind
 have hp:okD yO ([112],[([116],[],[a],1,())],1,()):=by refine⟨l1,⟨l1,λx d=>?_⟩,c,trivial⟩;grind
 refine⟨⟨⟨j_ _,λy b=>by grind⟩,⟨j_ _,λy b=>by grind⟩,⟨j_ _,λy b=>by grind⟩,⟨l1,λy b=>?_⟩,trivial⟩,j_ _,j_ _,j_ _,show(1:Nat)<=1048576 by simp,λl hl=>by grind⟩;grind
theorem UD(l:List zJ)(r:nM)(hl:l.length<=100000)(g:∀a∈l,okD yA a)(hr:SmR 100000 r):aC tbl pZ [.d (.list yA) l,.d Kc r] [] mJ (Ef l r,()):=by
 refine aw rfl (aA WY rfl (λO n=>Xi O n l r) ?_);unfold Kf;refine aj (GQ r (by have:=hr.pt;omega) (by have:=hr.cm;omega)) ?_;have enc:∀x:nM,x=((x.1.1,x.1.2.1,()),x.2.1,x.2.2.1,x.2.2.2.1,x.2.2.2.2.1,x.2.2.2.2.2.1,x.2.2.2.2.2.2.1,x.2.2.2.2.2.2.2.1,x.2.2.2.2.2.2.2.2.1,()):=λx=>rfl;refine ae (aX (N:=l.length) (I:=λi s=>∃x:nM,x=Ef (l.take i) r/\s=((i:Int),(0:Int),(0:Int),(0:Int),(0:Int),(0:Int),(0:Int),(0:Int),(0:Int),x.1.1,x.1.2.1,x.2.1,x.2.2.1,x.2.2.2.1,x.2.2.2.2.1,x.2.2.2.2.2.1,x.2.2.2.2.2.2.1,x.2.2.2.2.2.2.2.1,x.2.2.2.2.2.2.2.2.1,())) ⟨r,rfl,rfl⟩ (λi s c hs=>?_) λs hs=>?_)
 ·obtain⟨x,e,rfl⟩:=hs;unfold yh;have d:SmR (100000+(l.take i).length) x:=by rw[e];exact Se hr
  have hc:=d.cm;have hp:=d.pt;have f:=g _ (a_ c);have b:Ef (l.take (i+1)) r=Gb l[i] x:=by unfold Ef at e⊢;rw[d_ c,s_,e];rfl
  refine a8 c (ae (aI c (aj (EV _) (aj (qg (zej l[i]) (zfx f)) ?_))));rw[zgD];refine au (λh=>?_) λh=>?_
  ·have h:iw l[i]=0:=by grind
   rw[show Gb l[i] x=I3 l[i] x from if_pos h]at b;refine aj (LO l[i] x h (by omega) (by grind)) (aa (aa ⟨I3 l[i] x,b.symm,?_⟩));show(b_ .i64 ((i:Int)+1),_)=_;rw[ap c (by omega)]
  ·have h:¬iw l[i]=0:=by grind
   rw[show Gb l[i] x=x from if_neg h]at b;refine aa (aa ⟨x,b.symm,?_⟩);show(b_ .i64 ((i:Int)+1),_)=_;rw[ap c (by omega)]
 ·obtain⟨x,e,rfl⟩:=hs;unfold yh;refine aR (aa (aa ?_));grind
theorem UP(a:zJ)(r:nM)(B:r.2.2.2.1.length<=900000)(C:r.2.2.2.2.1.length<=900000):aC tbl xD [.d yA a,.d Kc r] [] mO (Gb a r,()):=by
 obtain⟨⟨g,j,⟨⟩⟩,po,nh,pt,cm,pf,md,mt,tg,⟨⟩⟩:=r;simp only at B C;refine aw rfl (aA W9 rfl (λO n=>Xt O n a ((g,j,()),po,nh,pt,cm,pf,md,mt,tg,())) ?_);unfold Kp;refine aj (Ce a) (au (λh=>aa ?_) λh=>?_);·rw[show Gb a ((g,j,()),po,nh,pt,cm,pf,md,mt,tg,())=((g,j,()),po,nh,pt,cm,pf,md,mt,tg,())from if_neg (by grind)]
 have x:iw a=0:=by grind
 rw[show Gb a ((g,j,()),po,nh,pt,cm,pf,md,mt,tg,())=I3 a ((g,j,()),po,nh,pt,cm,pf,md,mt,tg,())from if_pos x];have F:=QO x;have b:∀{k:Int},a.1≠k->(a.1==k)=false:=λh=>beq_eq_false_iff_ne.2 h;have c:∀{k:Int},a.1=k->(a.1==k)=true:=λh=>beq_iff_eq.2 h;by_cases d:a.1=1;·rw[zgP d];exact ae (aJ (c d) (aa (aa rfl)))
 by_cases e:a.1=2;·rw[zgQ e];exact ae (an (b d) (aJ (c e) (aa (aa rfl))))
 by_cases f:a.1=3;·rw[zgR f];exact ae (an (b d) (an (b e) (aJ (c f) (aa (aa rfl)))))
 by_cases l:a.1=4;·rw[zgS l];exact ae (an (b d) (an (b e) (an (b f) (aJ (c l) (aa (aa rfl))))))
 by_cases p:a.1=5;·rw[zgT p];exact ae (an (b d) (an (b e) (an (b f) (an (b l) (aJ (c p) (aa (aa rfl)))))))
 by_cases v:a.1=6;·rw[zgU v];exact ae (an (b d) (an (b e) (an (b f) (an (b l) (an (b p) (aJ (c v) (aj (UL cm a.2.2.2.1 (by omega)) (aa (aa rfl)))))))))
 by_cases y:a.1=7;·rw[zgV y];exact ae (an (b d) (an (b e) (an (b f) (an (b l) (an (b p) (an (b v) (aJ (c y) (aj (RS cm a.2.2.2.1 (by omega)) (aa (aa rfl))))))))))
 have w:a.1=8:=by omega
 obtain⟨D,E⟩:=UX x w;generalize u:a.2.1=N at D E;obtain⟨m,rfl⟩:=A_ (show 0<=N by omega);refine ae (an (b d) (an (b e) (an (b f) (an (b l) (an (b p) (an (b v) (an (b y) (aJ (c w) ?_))))))));have A:b_ .i64 ((pt.length:Int)+(m:Int))=(pt.length:Int)+(m:Int):=wrap_i64 (by omega) (by omega);simp only[u,A];refine au (λh=>aa (aa ?_)) λh=>?_;·have h:=of_decide_eq_true h;rw[zgX w (by omega)]
 ·have h:=of_decide_eq_false h;rw[zgW w (by omega),u];refine ae (aX (N:=m) (I:=λi s=>s=((i:Int),g,j,po,nh,pt,cm,pf,md,mt,tg,(0:Int),(0:Int),(0:Int),(0:Int),(0:Int),(0:Int),(0:Int),(0:Int),f_ i a.2.2.1,())) rfl (λi s z hs=>?_) λs hs=>?_);·subst hs;unfold yl;simp only[u];refine a8 z (aE (decide_eq_true (by grind)) (aa ?_));show(b_ .i64 ((i:Int)+1),g,j,po,nh,pt,cm,pf,md,mt,tg,(0:Int),(0:Int),(0:Int),(0:Int),(0:Int),(0:Int),(0:Int),(0:Int),f_ i a.2.2.1++[a.2.2.1],())=_;rw[ap z (by omega),H_ (n:=i)]
  ·subst hs;unfold yl;simp only[u];refine aR (aa ?_);refine aE (decide_eq_true (by grind)) (aa (aa ?_));simp
theorem UN(l:List zJ)(r:nM)(hl:l.length<=100000)(hr:SmR 100000 r):aC tbl xB [.d (.list yA) l,.d Kc r] [] t7 (Ef l r,()):=by
 refine aw rfl (aA W6 rfl (λO n=>Xq O n l r) ?_);unfold Km;refine aj (Oe r (by have:=hr.pt;omega) (by have:=hr.cm;omega)) ?_;refine ae (aX (N:=l.length) (I:=λi s=>∃x:nM,x=Ef (l.take i) r/\s=((i:Int),x.1.1,x.1.2.1,x.2.1,x.2.2.1,x.2.2.2.1,x.2.2.2.2.1,x.2.2.2.2.2.1,x.2.2.2.2.2.2.1,x.2.2.2.2.2.2.2.1,x.2.2.2.2.2.2.2.2.1,(0:Int),(0:Int),(0:Int),(0:Int),(0:Int),(0:Int),(0:Int),(0:Int),())) ⟨r,rfl,rfl⟩ (λi s c hs=>?_) λs hs=>?_)
 ·obtain⟨x,d,rfl⟩:=hs;unfold yj;have b:SmR (100000+(l.take i).length) x:=by rw[d];exact Se hr
  have hc:=b.cm;have hp:=b.pt;have a:Ef (l.take (i+1)) r=Gb l[i] x:=by unfold Ef at d⊢;rw[d_ c,s_,d];rfl
  refine a8 c (aI c (aj (UP l[i] x (by omega) (by grind)) (aa ⟨Gb l[i] x,a.symm,?_⟩)));show(b_ .i64 ((i:Int)+1),_)=_;rw[ap c (by omega)]
 ·obtain⟨x,d,rfl⟩:=hs;unfold yj;refine aR (aa (aa ?_));grind
theorem Re{s:PS}{m:Uy}(h:gP s m=0):1<=m.1/\m.1<=8:=by refine c_ λhn=>?_;rw[Ih (show m.1<1\/8<m.1 by omega)]at h;omega
theorem UZ{α:Type}{p:α->Bool}{l:List α}{i:Nat}(a:i<l.length):(l.take (i+1)).all p=((l.take i).all p&&p l[i]):=by rw[d_ a,List.all_append];simp
abbrev eE{α:Type}(s:PS)(r:nM)(x:α):List PLS×List HLS×List CLS×List FM×Int×Int×Int×Int×List Int×List Int×Int×Int×Int×Int×α:=
 (s.1,s.2.1,s.2.2.1,s.2.2.2.1,r.1.1,r.1.2.1,r.2.1,r.2.2.1,r.2.2.2.1,r.2.2.2.2.1,r.2.2.2.2.2.1,r.2.2.2.2.2.2.1,r.2.2.2.2.2.2.2.1,r.2.2.2.2.2.2.2.2.1,x)
abbrev zE{α:Type}(x:α):Bool×Int×Int×Int×Int×Int×Int×Int×Int×α:=(false,0,0,0,0,0,0,0,0,x)
theorem ev0(s:PS)(r:nM)(h:SmQ s r)(t:y9)(e:TrmOk s t)(f:∀m∈t.2.1,hZ m.2.2.2.1.1)(T:List Int)(A:List zJ): Wp (λn=>aL n (ko (qc tbl n) n t) (true,(0:Int),zE (eE s r (T,A,t.1,t.2.1,t.2.2.1,t.2.2.2.1,())))) λx=>x=(uF s r t,zE (eE s r (T,A,t.1,t.2.1,t.2.2.1,t.2.2.2.1,()))):=by
 refine aX (N:=t.2.1.length) (I:=λi x=>x=((t.2.1.take i).all (Po s r),(i:Int),zE (eE s r (T,A,t.1,t.2.1,t.2.2.1,t.2.2.2.1,())))) rfl (λi x b d=>?_) λx d=>?_
 ·subst d;unfold ko;have hl:=e.ml;have c:=a_ b;refine a8 b (aI b (au (λa=>?_) λa=>aa ?_));·refine aj (zad s t.2.1[i] r h (Re (e.ma _ c)) (f _ c)) (aa ?_);show(Po s r t.2.1[i],b_ .i64 ((i:Int)+1),_)=_;have a:(t.2.1.take i).all (Po s r)=true:=a;rw[UZ b,a,u_,ap b (by omega)]
  ·show(false,b_ .i64 ((i:Int)+1),_)=_;have a:(t.2.1.take i).all (Po s r)=false:=a;rw[UZ b,a,F_,ap b (by omega)]
 ·subst d;unfold ko;refine aR (aa ?_);rw[n_];rfl
theorem wu{hold:y9->Bool}{t:y9}{l:List y9}{i:Nat}{d:Int}:jY hold (t::l) i d=if hold t then(if t.2.2.2.1≠3 then([(i:Int)],t.2.2.1,t.2.2.2.1)else((i:Int)::(jY hold l (i+1) d).1,t.2.2.1++(jY hold l (i+1) d).2.1,(jY hold l (i+1) d).2.2))else jY hold l (i+1) d:=rfl
noncomputable def BB(s:PS)(p:FM)(r:nM):List Int×List zJ×Int:=jY (uF s r) p.2.1 0 p.2.2.1
noncomputable def Qd(s:PS)(p:FM)(r:nM):Bool×(nM×Unit):=if(BB s p r).2.2=2 then(false,zSub,())else(true,Ef (BB s p r).2.1 r,())
theorem zda{s:PS}{p:FM}{r:nM}(hs:okD yO p):∀a∈(BB s p r).2.1,okD yA a:=by
 have key:∀(l:List y9) (i:Nat) (d:Int),(∀t∈l,okD yT t)->∀a∈(jY (uF s r) l i d).2.1,okD yA a:=by
  intro l;induction l with
  |nil=>intro i d _ a b;cases b|cons t l e=>
   intro i d h a b;rw[wu]at b;have c:=h t (by simp);split at b
   ·split at b;·exact c.2.2.1.2 a b
    ·rcases Q_.1 b with b|b;·exact c.2.2.1.2 a b
     grind
   grind
 exact key p.2.1 0 p.2.2.1 hs.2.1.2
theorem yK(s:PS)(p:FM)(r:nM)(h:SmQ s r)(hp:PlcOk s p)(u:okD yO p):aC tbl jN [.d yS s,.d yO p,.d Kc r] [] eC ((BB s p r).1,Qd s p r,()):=by
 refine aw rfl (aA JQ rfl (λO n=>J4 O n s p r) ?_);unfold yW;have J:=hp.tl;have C:∀t∈p.2.1,t.2.2.1.length<=64:=λt H=>(hp.tr t H).al;generalize g:BB s p r=R;have D:R.1.length<=64/\R.2.1.length<=64*64:=by have:=rZ (hold:=uF s r) (l:=p.2.1) (i:=0) (d:=p.2.2.1) C;have e:jY (uF s r) p.2.1 0 p.2.2.1=R:=g;grind
 refine aj (GV s r) (ae (Wp.imp (Q:=λx=>x=(R.2.2,zE (R.1,R.2.1,()))) (aX (N:=p.2.1.length) (I:=λi x=>∃(T:List Int) (A:List zJ),x=(p.2.2.1,(i:Int),zE (eE s r (T,A,())))/\T++(jY (uF s r) (p.2.1.drop i) i p.2.2.1).1=R.1/\A++(jY (uF s r) (p.2.1.drop i) i p.2.2.1).2.1=R.2.1/\(jY (uF s r) (p.2.1.drop i) i p.2.2.1).2.2=R.2.2) ⟨[],[],rfl,by rw[r_,<-g];rfl,by rw[r_,<-g];rfl,by rw[r_,<-g];rfl⟩ (λi x k B=>?_) λx B=>?_) λx B=>?_))
 ·obtain⟨T,A,rfl,b,c,a⟩:=B;unfold pH;have hT:T.length<=64:=by grind
  have Y:A.length<=64*64:=by grind
  have hw:b_ .i64 ((i:Int)+1)=((i+1:Nat):Int):=ap k (by omega);rw[o_ k,wu]at b c a;have w:=a_ k;have f:=hp.tr _ w;have v:=u.2.1.2 _ w;refine a8 k (ae (aI k ?_));generalize p.2.1[i]=t at b c a f v;have E:=f.al;refine ae (Wp.imp (ev0 s r h t f (λm F=>((v.2.1.2 m F).2.2.2.1).1) T A) λy L=>?_);subst L;refine au (λj=>aa (aa ?_)) λj=>?_;·grind
  ·have j:uF s r t=true:=by grind
   rw[j]at b c a;refine aE (decide_eq_true (by grind)) (aE (decide_eq_true (by grind)) (au (λz=>aa (aa ?_)) λz=>aa (aa ?_)));·grind
   ·have z:¬t.2.2.2.1≠3:=by grind
    rw[if_pos rfl,if_neg z]at b c a;refine⟨T++[(i:Int)],A++t.2.2.1,?_,?_,?_,a⟩;all_goals grind
 ·obtain⟨T,A,rfl,b,c,a⟩:=B;unfold pH;rw[C_]at b c a;refine aR (aa ?_);show(p.2.2.1,zE (T,A,()))=_;have M:T=R.1:=by rw[<-b];exact(l_ T).symm
  have P:A=R.2.1:=by rw[<-c];exact(l_ A).symm
  have U:p.2.2.1=R.2.2:=a;grind
 ·subst B;have z:Qd s p r=if R.2.2=2 then(false,zSub,())else(true,Ef R.2.1 r,()):=by unfold Qd;grind
  rw[z];refine au (λj=>aa ?_) λj=>?_;·grind
  ·rw[if_neg (by grind)];refine aj (UD R.2.1 r (by omega) (by rw[<-g];exact zda u) ⟨h.pt,h.cm⟩) (aa rfl)
noncomputable def vI(s:PS)(n:List UInt8)(r:nM):Int:=if rG ig s≠0 then rG ig s else if(Aq s n).isSome=false then 6 else oQ r
noncomputable def C6(s:PS)(n:List UInt8):FM:=if rG ig s≠0 then Xu else(Aq s n).getD Xu
theorem Bf(s:PS)(n:List UInt8)(r:nM)(h:SmQ s r):aC tbl kR [.d yS s,.d tS n,.d Kc r] [] d5 (C6 s n,vI s n r,()):=by
 refine aw rfl (aA K7 rfl (λO k=>Lk O k s n r) ?_);unfold Bl;refine aj (qg s h.s) (au (λa=>aa ?_) λa=>?_)
 ·have a:rG ig s≠0:=by grind
  rw[show C6 s n=Xu from if_pos a,show vI s n r=rG ig s from if_pos a]
 have a:¬rG ig s≠0:=by grind
 have c:=Tp (c_ a);rw[show C6 s n=(Aq s n).getD Xu from if_neg a,show vI s n r=if(Aq s n).isSome=false then 6 else oQ r from if_neg a];refine aj (N5 s n c) (au (λb=>aa ?_) λb=>aj (EU r h.p) (aa ?_))
 ·have b:(Aq s n).isSome=false:=by grind
  rw[if_pos b];cases e:Aq s n with|some p=>grind|none=>rfl
 grind
theorem E7(s:PS)(n:List UInt8)(r:nM)(h:SmQ s r)(hc:aC tbl je [.d Kc r] [] cd (oQ r,())):aC tbl oq [.d yS s,.d tS n,.d Kc r] [] gN (C6 s n,vI s n r,()):=by
 refine aw rfl (aA P6 rfl (λO k=>QG O k s n r) ?_);unfold FF;refine aj (EZ s h.s) (au (λa=>aa ?_) λa=>?_)
 ·have a:rG ig s≠0:=by grind
  rw[show C6 s n=Xu from if_pos a,show vI s n r=rG ig s from if_pos a]
 have a:¬rG ig s≠0:=by grind
 have c:=Tp (c_ a);have d:=c.l4;rw[show C6 s n=(Aq s n).getD Xu from if_neg a,show vI s n r=if(Aq s n).isSome=false then 6 else oQ r from if_neg a];refine aj (RY s n (by omega)) (au (λb=>aa ?_) λb=>aj hc (aa ?_))
 ·have b:(Aq s n).isSome=false:=by grind
  rw[if_pos b];cases e:Aq s n with|some p=>grind|none=>rfl
 grind
theorem zM(x:Int):aC tbl nb [.d tI x] [] kO (decide (x>=0)&&decide (x<=4294967295),()):=by refine aw rfl (aA TT rfl (λO k=>Us O k x) ?_);unfold He;exact ae (bz (b:=decide (x<=4294967295)) (λ_=>aa rfl) (aa rfl))
theorem si(r:nM)(hp:hZ r.1.1):aC tbl je [.d Kc r] [] cd (oQ r,()):=by
 refine aw rfl (aA P2 rfl (λO n=>QC O n r) ?_);unfold FB;refine aj (gF r.1 hp) (au (λh=>aa ?_) λh=>?_);·rw[show oQ r=1 from if_pos (by grind)]
 have j:jr r.1=true:=by grind
 refine ae (bG (b:=decide (r.2.1>7)) (λ_=>aa rfl) (au (λh=>aa ?_) λh=>?_));·rw[show oQ r=5 from by unfold oQ;grind]
 have k:¬(r.2.1<1\/7<r.2.1):=by grind
 refine au (λh=>aa ?_) λh=>?_;·rw[show oQ r=4 from by unfold oQ;grind]
 have l:¬r.2.2.2.1.length>2000:=by grind
 rw[RH j k l];refine ae (vL (xs:=r.2.2.2.1) (P:=λv=>1<=v/\v<=4294967295) (e:=((5:Int),())) (g:=()) (λi a=>?_) ?_ (λh=>?_) λh=>aa ?_);·unfold ut;refine a8 a (aI a (ae (bG (b:=decide (r.2.2.2.1[i]>4294967295)) (λ_=>aa rfl) (nG ?_ (by rw[ap a (by omega)])))));grind
 ·unfold ut;exact aR (aa rfl)
 ·rw[if_neg (not_not_intro h)];refine aj (N9 r.2.2.2.2.1) (au (λh=>aa ?_) λh=>?_);·grind
  rw[if_neg (by grind)];generalize r.2.2.2.2.2.1=x0;generalize r.2.2.2.2.2.2.1=c;generalize r.2.2.2.2.2.2.2=y;obtain⟨f,d,⟨⟩⟩:=y;refine aj (zM x0) (ae (bG (b:= !(decide (c>=0)&&decide (c<=4294967295))) (λ_=>aj (zM c) (aa rfl)) ?_));refine ae (bG (b:= !(decide (d>=0)&&decide (d<=4294967295))) (λ_=>aj (zM d) (aa rfl)) ?_);refine ae (bG (b:=decide (f<0)) (λ_=>aa rfl) (ae (bG (b:=decide (f>16777216)) (λ_=>aa rfl) (au (λh=>aa ?_) λh=>aa ?_))));all_goals grind
 grind
theorem zq{s:PS}{n:List UInt8}{r:nM}(h:vI s n r=0):∃p,Aq s n=some p/\C6 s n=p/\PolOk ig s/\oQ r=0:=by
 unfold vI at h;split at h;·omega
 rename_i a;split at h;·omega
 rename_i b;cases e:Aq s n with|none=>grind|some p=>exact⟨p,rfl,by unfold C6;grind,Tp (c_ a),h⟩
noncomputable def Eu(s:PS)(n:List UInt8)(r:nM):Bool×(nM×Unit):=if vI s n r≠0 then(false,zSub,())else Qd s (C6 s n) r
noncomputable def runT(s:PS)(n:List UInt8)(r:nM):List Int:=if vI s n r≠0 then []else(BB s (C6 s n) r).1
theorem UE(s:PS)(n:List UInt8)(r:nM)(h:SmQ s r):aC tbl gG [.d yS s,.d tS n,.d Kc r] [] d4 (Eu s n r,vI s n r,()):=by
 refine aw rfl (aA WZ rfl (λO k=>Xj O k s n r) ?_);unfold Kg;refine aj (Bf s n r h) (au (λa=>aa ?_) λa=>?_)
 ·have a:vI s n r≠0:=by grind
  rw[show Eu s n r=(false,zSub,())from if_pos a]
 ·have a:vI s n r=0:=by grind
  obtain⟨p,b,c,d,_⟩:=zq a;rw[show Eu s n r=Qd s (C6 s n) r from if_neg (not_not_intro a),c,a];exact aj (yK s p r h (d.r4 p (oD b)) (h.s.ok.2.2.2.1.2 p (oD b))) (aa rfl)
theorem R3(s:PS)(r:nM)(h:SmQ s r)(t:y9)(c:TrmOk s t)(d:∀m∈t.2.1,hZ m.2.2.2.1.1):aC tbl vf [.d yS s,.d yT t,.d Kc r] [] nB (uF s r t,()):=by
 refine aw rfl (aA TS rfl (λO n=>Ur O n s t r) ?_);unfold Hc;have hl:=c.ml;refine ae (vL (xs:=t.2.1) (P:=λm=>Po s r m=true) (e:=(false,())) (g:=()) (λi b=>?_) ?_ (λh=>aa ?_) λh=>aa ?_);·unfold wj;have a:=a_ b;refine a8 b (aI b (aj (Ke s t.2.1[i] r h (Re (c.ma _ a)) (d _ a)) (nG ?_ (by rw[ap b (by omega)]))));show(false ^^ (lN s t.2.1[i] r==t.2.1[i].2.2.2.2.1))=true↔¬(true ^^ (lN s t.2.1[i] r==t.2.1[i].2.2.2.2.1))=true;simp
 ·unfold wj;exact aR (aa rfl)
 ·rw[show uF s r t=true from N_.2 h]
 ·rw[show uF s r t=false from by cases e:uF s r t;rfl;exact absurd (N_.1 e) h]
theorem E6(s:PS)(n:List UInt8)(r:nM)(h:SmQ s r):aC tbl oo [.d yS s,.d tS n,.d Kc r] [] jm (runT s n r,vI s n r,()):=by
 refine aw rfl (aA P5 rfl (λO k=>QF O k s n r) ?_);unfold FE;refine aj (E7 s n r h (si r h.p)) (au (λa=>aa ?_) λa=>?_)
 ·have a:vI s n r≠0:=by grind
  rw[show runT s n r=[]from if_pos a]
 have a:vI s n r=0:=by grind
 obtain⟨p,y,B,C,_⟩:=zq a;rw[show runT s n r=(BB s (C6 s n) r).1 from if_neg (not_not_intro a),B,a];have hp:=C.r4 p (oD y);have v:=h.s.ok.2.2.2.1.2 p (oD y);have F:=hp.tl;generalize z:(BB s p r).1=R;have A:R.length<=64:=by have:=rZ (hold:=uF s r) (l:=p.2.1) (i:=0) (d:=p.2.2.1) (λt E=>(hp.tr t E).al);have e:(jY (uF s r) p.2.1 0 p.2.2.1).1=R:=z;grind
 refine ae (Wp.imp (Q:=λx=>x=(R,())) (aX (N:=p.2.1.length) (I:=λi x=>∃T:List Int,x=((i:Int),T,())/\T++(jY (uF s r) (p.2.1.drop i) i p.2.2.1).1=R) ⟨[],rfl,by rw[r_,<-z];rfl⟩ (λi x c u=>?_) λx u=>?_) λx u=>?_)
 ·obtain⟨T,rfl,b⟩:=u;unfold uu;have H:T.length<=64:=by grind
  have J:b_ .i64 ((i:Int)+1)=((i+1:Nat):Int):=ap c (by omega);rw[o_ c,wu]at b;have g:=a_ c;have j:=hp.tr _ g;have f:=v.2.1.2 _ g;refine a8 c (ae (aI c ?_));generalize p.2.1[i]=t at b j f;refine aj (R3 s r h t j (λm D=>((f.2.1.2 m D).2.2.2.1).1)) (au (λa=>aa (aa ?_)) λa=>?_);·grind
  ·have a:uF s r t=true:=by grind
   rw[a]at b;refine aE (decide_eq_true (by grind)) (au (λw=>aa (aa ?_)) λw=>aa (aa ?_));·grind
   ·have w:¬t.2.2.2.1≠3:=by grind
    rw[if_pos rfl,if_neg w]at b;refine⟨T++[(i:Int)],?_,?_⟩;all_goals grind
 ·obtain⟨T,rfl,b⟩:=u;unfold uu;rw[C_]at b;refine aR (aa ?_);show(T,())=_;rw[show T=R from by rw[<-b];exact(l_ T).symm]
 ·subst u;exact aa rfl
def Dh(l:List y9)(x:Int×List zJ)(v:Int):Int×List zJ:=((if(l.getD v.toNat ([],[],[],0,())).2.2.2.1≠3 then(l.getD v.toNat ([],[],[],0,())).2.2.2.1 else x.1),x.2++(l.getD v.toNat ([],[],[],0,())).2.2.1)
theorem WW{hold:y9->Bool}{l:List y9}{d:Int}:∀(k i:Nat) (A:List zJ),i+k=l.length->(jY hold (l.drop i) i d).1.foldl (Dh l) (d,A)=((jY hold (l.drop i) i d).2.2,A++(jY hold (l.drop i) i d).2.1)
 |0,i,A,h=>by rw[List.drop_eq_nil_of_le (by omega)];show(d,A)=(d,A++[]);simp
 |k+1,i,A,h=>by
  have a:i<l.length:=by omega
  have c:=λA=>WW (hold:=hold) (l:=l) (d:=d) k (i+1) A (by omega);have hg:l.getD ((i:Int).toNat) ([],[],[],0,())=l[i]:=by grind
  rw[o_ a,wu];split
  ·split;·rename_i b;show Dh l (d,A) (i:Int)=_;unfold Dh;grind
   ·rename_i b;show(jY hold (l.drop (i+1)) (i+1) d).1.foldl (Dh l) (Dh l (d,A) (i:Int))=_;have e:Dh l (d,A) (i:Int)=(d,A++l[i].2.2.1):=by unfold Dh;grind
    grind
  grind
theorem VH{hold:y9->Bool}:∀(l:List y9) (i:Nat) (d:Int),∀v∈(jY hold l i d).1,(i:Int)<=v/\v<((i+l.length:Nat):Int)
 |[],_,_,v,a=>by cases a
 |t::l,i,d,v,a=>by have b:=VH (hold:=hold) l (i+1) d v;rw[wu]at a;grind
theorem UO(s:PS)(n:List UInt8)(r:nM)(h:SmQ s r):aC tbl xC [.d yS s,.d tS n,.d Kc r] [] mN (Eu s n r,vI s n r,()):=by
 refine aw rfl (aA W8 rfl (λO k=>Xs O k s n r) ?_);unfold Ko;refine aj (E7 s n r h (si r h.p)) (au (λa=>aa ?_) λa=>?_)
 ·have a:vI s n r≠0:=by grind
  rw[show Eu s n r=(false,zSub,())from if_pos a]
 have a:vI s n r=0:=by grind
 obtain⟨p,H,J,P,_⟩:=zq a;have D:=E6 s n r h;rw[show runT s n r=(BB s (C6 s n) r).1 from if_neg (not_not_intro a),J]at D;rw[show Eu s n r=Qd s (C6 s n) r from if_neg (not_not_intro a),J,a];rw[a]at D;refine aj D ?_;have hp:=P.r4 p (oD H);have F:=h.s.ok.2.2.2.1.2 p (oD H);have U:=hp.tl;have c:∀t∈p.2.1,t.2.2.1.length<=64:=λt T=>(hp.tr t T).al;have f:(BB s p r).1.foldl (Dh p.2.1) (p.2.2.1,[])=((BB s p r).2.2,(BB s p r).2.1):=WW (hold:=uF s r) (l:=p.2.1) (d:=p.2.2.1) p.2.1.length 0 [] (by simp);have u:∀v∈(BB s p r).1,0<=v/\v.toNat<p.2.1.length:=λv y=>by have:=VH (hold:=uF s r) p.2.1 0 p.2.2.1 v y;omega
 have w:(BB s p r).1.length<=64:=by have:=(rZ (hold:=uF s r) (l:=p.2.1) (i:=0) (d:=p.2.2.1) c).1;have e:(jY (uF s r) p.2.1 0 p.2.2.1).1=(BB s p r).1:=rfl;grind
 have g:(BB s p r).2.1.length<=64*64:=by have:=(rZ (hold:=uF s r) (l:=p.2.1) (i:=0) (d:=p.2.2.1) c).2;have e:(jY (uF s r) p.2.1 0 p.2.2.1).2.1=(BB s p r).2.1:=rfl;grind
 have y:Qd s p r=if(BB s p r).2.2=2 then(false,zSub,())else(true,Ef (BB s p r).2.1 r,()):=rfl;rw[y];have E:=zda (s:=s) (r:=r) F;generalize BB s p r=R at f u w g E;refine ae (Wp.imp (Q:=λx=>x=(R.2.2,zE (R.2.1,()))) (aX (N:=R.1.length) (I:=λi x=>x=(((R.1.take i).foldl (Dh p.2.1) (p.2.2.1,[])).1,(i:Int),zE (p.1,p.2.1,p.2.2.1,((R.1.take i).foldl (Dh p.2.1) (p.2.2.1,[])).2,()))/\((R.1.take i).foldl (Dh p.2.1) (p.2.2.1,[])).2.length<=64*i) ⟨rfl,j_ _⟩ (λi x j z=>?_) λx z=>?_) λx z=>?_)
 ·obtain⟨rfl,L⟩:=z;unfold yk;have hw:b_ .i64 ((i:Int)+1)=((i+1:Nat):Int):=ap j (by omega);obtain⟨C,B⟩:=u _ (a_ j);have b:(R.1.take (i+1)).foldl (Dh p.2.1) (p.2.2.1,[])=Dh p.2.1 ((R.1.take i).foldl (Dh p.2.1) (p.2.2.1,[])) R.1[i]:=by rw[d_ j,s_];rfl
  generalize(R.1.take i).foldl (Dh p.2.1) (p.2.2.1,[])=X at L b;obtain⟨d,A⟩:=X;simp only at L;refine a8 j (ae (aI j ?_));rw[b];generalize R.1[i]=v at C B;have hg:p.2.1.getD v.toNat ([],[],[],0,())=p.2.1[v.toNat]:=by grind
  have Y:=c _ (a_ B);have M:Dh p.2.1 (d,A) v=((if p.2.1[v.toNat].2.2.2.1≠3 then p.2.1[v.toNat].2.2.2.1 else d),A++p.2.1[v.toNat].2.2.1):=by unfold Dh;grind
  rw[M];refine T0 C B (aE (decide_eq_true (by grind)) (T0 C B (au (λy=>T0 C B (aa (aa ⟨?_,?_⟩))) λy=>aa (aa ⟨?_,?_⟩))));·grind
  all_goals grind
 ·obtain⟨rfl,_⟩:=z;unfold yk;refine aR (aa ?_);grind
 ·subst z;refine au (λa=>aa ?_) λa=>?_;·grind
  ·rw[if_neg (by grind)];exact aj (UN R.2.1 r (by omega) ⟨h.pt,h.cm⟩) (aa rfl)
end Go.Proofs.YthjnceggmnicmaaGreatDoor
namespace Go.Pl
open Go Go.Av Go.Ev
def WH(a b:nM):Bool:=
 (((((((((false ^^ uy yP a.1 b.1)&&(a.2.1==b.2.1))&&(a.2.2.1==b.2.2.1))&&(a.2.2.2.2.2.1==b.2.2.2.2.2.1))&&(a.2.2.2.2.2.2.1==b.2.2.2.2.2.2.1))&&(a.2.2.2.2.2.2.2.1==b.2.2.2.2.2.2.2.1))&&(a.2.2.2.2.2.2.2.2.1==b.2.2.2.2.2.2.2.2.1))&&decide (a.2.2.2.1=b.2.2.2.1))&&decide (a.2.2.2.2.1=b.2.2.2.2.1))
theorem zeY(p:NZ):uy yP p p=true:=by show((p.1==p.1)&&((p.2.1==p.2.1)&&true))=true;simp
theorem zb7(a:nM):WH a a=true:=by have h:=zeY a.1;unfold WH;rw[h];simp
abbrev uX(s:PS)(m:Uy):PS:=(s.1,s.2.1,s.2.2.1,[([112],[([116],[m],[],1,())],1,())],())
theorem zgE(pe:List UInt8->Int)(s:PS)(m:Uy)(h:rG pe s=0):rG pe (uX s m)=gP s m:=by
 have l:gg (uX s m) [] (([116],[m],[],1,()):y9)=gP s m:=by
  have b:cf iw ([]:List zJ)=0:=rfl;have d:cf (gP (uX s m)) [m]=gP s m:=by
   show(if gP s m=0 then 0 else gP s m)=gP s m;split;·rename_i h;exact h.symm
   ·rfl
  unfold gg;rw[if_neg (by show ¬mh [116]=false;decide),if_neg (by show ¬false=true;decide),if_neg (by show ¬(1>64);decide),d,if_neg (c:=y_ _>64) (by show ¬(0>64);decide),b];by_cases h:gP s m=0;·rw[if_neg (not_not_intro h),h];rfl
  ·rw[if_pos h]
 have k:oH (uX s m) (([112],[([116],[m],[],1,())],1,()):FM)=gP s m:=by
  unfold oH;have e:lM (λi=>match([([116],[m],[],1,())]:List y9)[i]? with|some t=>gg (uX s m) (([([116],[m],[],1,())]:List y9).take i) t|none=>0) 1=gP s m:=by
   show(if gg (uX s m) [] (([116],[m],[],1,()):y9)=0 then 0 else gg (uX s m) [] (([116],[m],[],1,()):y9))=gP s m;rw[l];split;·rename_i h;exact h.symm
   ·rfl
  show(if lM (λi=>match([([116],[m],[],1,())]:List y9)[i]? with|some t=>gg (uX s m) (([([116],[m],[],1,())]:List y9).take i) t|none=>0) 1≠0 then lM (λi=>match([([116],[m],[],1,())]:List y9)[i]? with|some t=>gg (uX s m) (([([116],[m],[],1,())]:List y9).take i) t|none=>0) 1 else if(1:Int)≠1/\(1:Int)≠2 then 15 else 0)=gP s m
  rw[e];by_cases h:gP s m=0;·rw[if_neg (not_not_intro h),if_neg (by decide),h]
  ·rw[if_pos h]
 have l4:gB (·.1) (λp=>p.2.1.length) (oH (uX s m)) ([([112],[([116],[m],[],1,())],1,())]:List FM)=gP s m:=by
  have a:HT (·.1) (λp=>p.2.1.length) (oH (uX s m)) ([([112],[([116],[m],[],1,())],1,())]:List FM) 0=gP s m:=by
   unfold HT;rw[if_neg (show ¬(tR (([([112],[([116],[m],[],1,())],1,())]:List FM).map (·.1)) 0≠0) by show ¬(tR [[112]] 0≠0);decide)]
   show(if(1:Nat)>64 then 4 else oH (uX s m) _)=gP s m;rw[if_neg (by decide),k]
  unfold gB;rw[if_neg (by show ¬(1>64);decide)];show(if HT (·.1) (λp=>p.2.1.length) (oH (uX s m)) ([([112],[([116],[m],[],1,())],1,())]:List FM) 0=0 then 0 else HT (·.1) (λp=>p.2.1.length) (oH (uX s m)) ([([112],[([116],[m],[],1,())],1,())]:List FM) 0)=gP s m;rw[a];split;·rename_i h;exact h.symm
  ·rfl
 unfold rG at h⊢;split at h;·rename_i hn;exact absurd h hn
 rename_i f;split at h;·rename_i hn;exact absurd h hn
 rename_i g;split at h;·rename_i hn;exact absurd h hn
 rename_i j;rw[if_neg f,if_neg g,if_neg j];exact l4
theorem Mc{l:List Int}:Cm.check l=0↔l.length<=255/\Cm.Up l:=by
 unfold Cm.check;split
 ·constructor;·intro h;cases h
  ·intro h;omega
 ·split;·rename_i b a;exact⟨λ_=>⟨by omega,a⟩,λ_=>rfl⟩
  ·rename_i b a;exact⟨λh=>(by cases h),λh=>absurd h.2 a⟩
theorem VS{x:Int}{l:List Int}(a:Cm.Up l)(h:x∈l):Cm.ins x l=l:=Cm.uniq _ _ (Cm.up_ins x l a) a λz=>by rw[Cm.mem_ins];grind
theorem zbt{l:List Int}(c:Int)(h:Cm.check l=0):Cm.check (Cm.add l c)=0:=by
 rw[Mc]at h⊢;have a:=Cm.up_asc l;have hl:=Cm.len_asc l;unfold Cm.add;split;·exact⟨by omega,a⟩
 ·rename_i hn;refine⟨?_,Cm.up_ins c _ a⟩;by_cases hc:c∈Cm.asc l;·rw[VS a hc];omega
  ·have:=Cm.len_ins c (Cm.asc l);have:¬255<=(Cm.asc l).length:=λh=>hn ⟨h,hc⟩;omega
theorem XP{l:List Int}(c:Int)(h:Cm.check l=0):Cm.check (Cm.drop l c)=0:=by rw[Mc]at h⊢;have hl:=V0 l c;exact⟨by omega,(Cm.up_asc l).filter _⟩
theorem zcj{r:nM}:oQ r=0↔jr r.1=true/\(1<=r.2.1/\r.2.1<=7)/\r.2.2.2.1.length<=2000/\(∀v∈r.2.2.2.1,1<=v/\v<=4294967295)/\Cm.check r.2.2.2.2.1=0/\(uA r.2.2.2.2.2.1/\uA r.2.2.2.2.2.2.1/\uA r.2.2.2.2.2.2.2.2.1)/\0<=r.2.2.2.2.2.2.2.1/\r.2.2.2.2.2.2.2.1<=16777216:=by
 unfold oQ;split;·rename_i h;simp[h]
 rename_i a;split;·rename_i h;simp;omega
 rename_i f;split;·rename_i h;simp;omega
 rename_i g;split;·rename_i h;simp only[h];simp
 rename_i b;have b:=c_ b;split;·rename_i h;simp[h]
 rename_i c;have c:=c_ c;have a:jr r.1=true:=by simpa using a
 split
 ·rename_i h;constructor;·intro e;cases e
  ·rintro⟨_,_,_,_,_,d,j⟩;rcases h with h|h|h;·exact absurd d h
   ·omega
   ·omega
 ·rename_i h;simp only[not_or,Int.not_lt]at h;exact⟨λ_=>⟨a,by omega,by omega,b,c,c_ h.1,h.2⟩,λ_=>rfl⟩
theorem zbu{a:zJ}(d:iw a=0){r:nM}(h:oQ r=0):oQ (I3 a r)=0:=by
 rw[zcj]at h⊢;obtain⟨p,po,nh,pt,cm,pf,md,mt,tg,u⟩:=r;simp only at h;unfold iw at d;split at d;·cases d
 rename_i c;split at d;·cases d
 split at d;·cases d
 rename_i b;have b:mG a=true:=by simpa using b
 unfold mG at b;have j:uA a.2.1↔0<=a.2.1/\a.2.1<=4294967295:=Iff.rfl;simp only[I3];split;·rename_i c;simp[c]at b⊢;exact⟨h.1,h.2.1,h.2.2.1,h.2.2.2.1,h.2.2.2.2.1,⟨b,h.2.2.2.2.2.1.2⟩,h.2.2.2.2.2.2⟩
 split;·rename_i c;simp[c]at b⊢;exact⟨h.1,h.2.1,h.2.2.1,h.2.2.2.1,h.2.2.2.2.1,⟨h.2.2.2.2.2.1.1,b,h.2.2.2.2.2.1.2.2⟩,h.2.2.2.2.2.2⟩
 split;·rename_i c;simp[c]at b⊢;exact⟨h.1,h.2.1,h.2.2.1,h.2.2.2.1,h.2.2.2.2.1,h.2.2.2.2.2.1,b⟩
 split;·rename_i c;simp[c]at b⊢;exact⟨h.1,h.2.1,h.2.2.1,h.2.2.2.1,h.2.2.2.2.1,⟨h.2.2.2.2.2.1.1,h.2.2.2.2.2.1.2.1,b⟩,h.2.2.2.2.2.2⟩
 split;·exact h
 split;·exact⟨h.1,h.2.1,h.2.2.1,h.2.2.2.1,zbt _ h.2.2.2.2.1,h.2.2.2.2.2⟩
 split;·exact⟨h.1,h.2.1,h.2.2.1,h.2.2.2.1,XP _ h.2.2.2.2.1,h.2.2.2.2.2⟩
 rename_i k l f n g s w;rw[if_neg f,if_neg (by omega),if_neg g,if_neg (by omega)]at b;simp only[z_,decide_eq_true_eq]at b;split
 ·rename_i hl;refine⟨h.1,h.2.1,?_,λv e=>?_,h.2.2.2.2⟩;·rw[List.length_append,E_];omega
  ·rcases Q_.1 e with e|e;·rw[(List.mem_replicate.1 e).2];exact b.1
   ·exact h.2.2.2.1 v e
 ·exact h
theorem XD{l:List zJ}:∀{r:nM},oQ r=0->oQ (Ef l r)=0:=by
 induction l with
 |nil=>intro r h;exact h|cons a l c=>
  intro r h;refine c (r:=Gb a r) ?_;unfold Gb;split;·rename_i b;exact zbu b h
  ·exact h
end Go.Pl
namespace Go.Proofs.YthjnceggmnicmaaGreatDoor
open Go Go.Av Go.Ev Go.Pl
theorem RU(a b:List Int)(hl:a.length<=9223372036854775807):aC tbl u6 [.d (.list tW) a,.d (.list tW) b] [] kL (decide (a=b),()):=by
 refine aw rfl (aA TM rfl (λO n=>T5 O n a b) ?_);unfold G6;refine au (λh=>aa ?_) λh=>?_;·rw[decide_eq_false];rintro rfl;simp at h
 have d:a.length=b.length:=by simp at h;omega
 refine ae (NM (N:=a.length) (good:=λi=>a[i]? =b[i]?) (e:=(false,())) (g:=()) (λi c=>?_) ?_ (λh=>?_) λh=>?_);·unfold vX;refine a8 c (aI c (aI (by omega) (nG ?_ (by rw[ap c hl]))));rw[g_ c,g_ (by omega)];simp
 ·unfold vX;exact aR (aa rfl)
 ·refine aa ?_;rw[decide_eq_true (L_ λi=>?_)];by_cases c:i<a.length;·exact h i c
  ·rw[m_ (by omega),m_ (by omega)]
 ·refine aa ?_;rw[decide_eq_false];rintro rfl;obtain⟨i,_,h⟩:=h;exact h rfl
theorem R2(a b:nM)(f:a.2.2.2.1.length<=9223372036854775807)(j:a.2.2.2.2.1.length<=9223372036854775807):aC tbl vd [.d Kc a,.d Kc b] [] kN (WH a b,()):=by
 refine aw rfl (aA TR rfl (λO n=>Uq O n a b) ?_);unfold Hb;refine ae (bG (λ_=>aa rfl) (ae (bG (λ_=>aa rfl) (ae (bG (λ_=>aa rfl) (ae (bG (λ_=>aa rfl) (ae (bG (λ_=>aa rfl) (ae (bG (λ_=>aa rfl) (ae (bG (λ_=>aa rfl) ?_)))))))))))));have key:WH a b=(!((((((((true ^^ uy yP a.1 b.1)||(a.2.1 != b.2.1))||(a.2.2.1 != b.2.2.1))||(a.2.2.2.2.2.1 != b.2.2.2.2.2.1))||(a.2.2.2.2.2.2.1 != b.2.2.2.2.2.2.1))||(a.2.2.2.2.2.2.2.1 != b.2.2.2.2.2.2.2.1))||(a.2.2.2.2.2.2.2.2.1 != b.2.2.2.2.2.2.2.2.1))||((a.2.2.2.1.length:Int) != (b.2.2.2.1.length:Int)))&&(decide (a.2.2.2.1=b.2.2.2.1)&&decide (a.2.2.2.2.1=b.2.2.2.2.1))):=by
  have hl:decide (a.2.2.2.1=b.2.2.2.1)=(!((a.2.2.2.1.length:Int) != (b.2.2.2.1.length:Int))&&decide (a.2.2.2.1=b.2.2.2.1)):=by
   by_cases h:a.2.2.2.1=b.2.2.2.1;·rw[h];simp
   ·simp[h]
  unfold WH;rw[hl];simp only[bne,Bool.not_or,Bool.not_not,Bool.and_assoc,Bool.false_xor,Bool.true_xor,Bool.and_self_left]
 generalize(((((((true ^^ uy yP a.1 b.1)||(a.2.1 != b.2.1))||(a.2.2.1 != b.2.2.1))||(a.2.2.2.2.2.1 != b.2.2.2.2.2.1))||(a.2.2.2.2.2.2.1 != b.2.2.2.2.2.2.1))||(a.2.2.2.2.2.2.2.1 != b.2.2.2.2.2.2.2.1))||(a.2.2.2.2.2.2.2.2.1 != b.2.2.2.2.2.2.2.2.1))=B at key⊢;rw[key];refine au (λh=>aa ?_) λh=>?_;·rw[h];rfl
 rw[h,G_,u_];have d:a.2.2.2.1.length=b.2.2.2.1.length:=by simp at h;omega
 refine ae (NM (N:=a.2.2.2.1.length) (good:=λi=>a.2.2.2.1[i]? =b.2.2.2.1[i]?) (e:=(false,())) (g:=()) (λi c=>?_) ?_ (λh=>?_) λh=>?_);·unfold wi;refine a8 c (aI c (aI (by omega) (nG ?_ (by rw[ap c f]))));rw[g_ c,g_ (by omega)];simp
 ·unfold wi;exact aR (aa rfl)
 ·refine aj (RU a.2.2.2.2.1 b.2.2.2.2.1 j) (aa ?_);rw[decide_eq_true (p:=a.2.2.2.1=b.2.2.2.1) (L_ λi=>?_),u_];by_cases c:i<a.2.2.2.1.length;·exact h i c
  ·rw[m_ (by omega),m_ (by omega)]
 ·refine aa ?_;rw[decide_eq_false (p:=a.2.2.2.1=b.2.2.2.1)];·rfl
  ·intro e;obtain⟨i,_,h⟩:=h;rw[e]at h;exact h rfl
open Go Go.Av Go.Ev
theorem A0:aC tbl uw [] [] pG ((([([111,119,110],([(true,((167772160,(8,())),(8,(24,()))))],()))],([],([([98,108,117,101],([(true,(65000,((-1),())))],()))],([([105,109,112,111,114,116],([([102,105,114,115,116],([(1,([111,119,110],(0,((0,(0,())),(true,())))))],([(1,(200,(0,(0,(0,())))))],(1,()))))],(2,())))],()))))),()):=qL (m:=90) λk=>by kernel_rfl
theorem A1:aC tbl gG [.d (pr [(.list (pr [tS,(.list (pr [tB,(pr [tW,tI]),tI,tI]))])),(.list (pr [tS,(.list (pr [tB,tS]))])),(.list (pr [tS,(.list (pr [tB,tI,tI]))])),(.list (pr [tS,(.list (pr [tS,(.list (pr [tI,tS,tI,(pr [tW,tI]),tB])),(.list (pr [tI,tI,tI,tW,tW])),tI])),tI]))]) (([([111,119,110],([(true,((167772160,(8,())),(8,(24,()))))],()))],([],([([98,108,117,101],([(true,(65000,((-1),())))],()))],([([105,109,112,111,114,116],([([102,105,114,115,116],([(1,([111,119,110],(0,((0,(0,())),(true,())))))],([(1,(200,(0,(0,(0,())))))],(1,()))))],(2,())))],()))))),.d tS ([105,109,112,111,114,116]),.d (pr [(pr [tW,tI]),tI,tW,(.list tI),(.list tW),tI,tI,tI,tI]) (((2886729728,(12,())),(6,(0,([65001],([],(0,(0,(0,(0,()))))))))))] [] d4 (((true,(((2886729728,(12,())),(6,(0,([65001],([],(200,(0,(0,(0,()))))))))),()))),(0),()):=qL (m:=90) λk=>by kernel_rfl
theorem A2:aC tbl gG [.d (pr [(.list (pr [tS,(.list (pr [tB,(pr [tW,tI]),tI,tI]))])),(.list (pr [tS,(.list (pr [tB,tS]))])),(.list (pr [tS,(.list (pr [tB,tI,tI]))])),(.list (pr [tS,(.list (pr [tS,(.list (pr [tI,tS,tI,(pr [tW,tI]),tB])),(.list (pr [tI,tI,tI,tW,tW])),tI])),tI]))]) (([([111,119,110],([(true,((167772160,(8,())),(8,(24,()))))],()))],([],([([98,108,117,101],([(true,(65000,((-1),())))],()))],([([105,109,112,111,114,116],([([102,105,114,115,116],([(1,([111,119,110],(0,((0,(0,())),(true,())))))],([(1,(200,(0,(0,(0,())))))],(1,()))))],(2,())))],()))))),.d tS ([105,109,112,111,114,116]),.d (pr [(pr [tW,tI]),tI,tW,(.list tI),(.list tW),tI,tI,tI,tI]) (((167837696,(16,())),(6,(0,([65001],([],(0,(0,(0,(0,()))))))))))] [] d4 (((false,(((0,(0,())),(0,(0,([],([],(0,(0,(0,(0,()))))))))),()))),(0),()):=qL (m:=90) λk=>by kernel_rfl
theorem A3:aC tbl gG [.d (pr [(.list (pr [tS,(.list (pr [tB,(pr [tW,tI]),tI,tI]))])),(.list (pr [tS,(.list (pr [tB,tS]))])),(.list (pr [tS,(.list (pr [tB,tI,tI]))])),(.list (pr [tS,(.list (pr [tS,(.list (pr [tI,tS,tI,(pr [tW,tI]),tB])),(.list (pr [tI,tI,tI,tW,tW])),tI])),tI]))]) (([([111,119,110],([(true,((167772160,(8,())),(8,(24,()))))],()))],([],([([98,108,117,101],([(true,(65000,((-1),())))],()))],([([105,109,112,111,114,116],([([102,105,114,115,116],([(1,([111,119,110],(0,((0,(0,())),(true,())))))],([(1,(200,(0,(0,(0,())))))],(1,()))))],(2,())))],()))))),.d tS ([110,111,110,101]),.d (pr [(pr [tW,tI]),tI,tW,(.list tI),(.list tW),tI,tI,tI,tI]) (((167837696,(16,())),(6,(0,([65001],([],(0,(0,(0,(0,()))))))))))] [] d4 (((false,(((0,(0,())),(0,(0,([],([],(0,(0,(0,(0,()))))))))),()))),(6),()):=qL (m:=90) λk=>by kernel_rfl
theorem A4:aC tbl kZ [.d (pr [(.list (pr [tS,(.list (pr [tB,(pr [tW,tI]),tI,tI]))])),(.list (pr [tS,(.list (pr [tB,tS]))])),(.list (pr [tS,(.list (pr [tB,tI,tI]))])),(.list (pr [tS,(.list (pr [tS,(.list (pr [tI,tS,tI,(pr [tW,tI]),tB])),(.list (pr [tI,tI,tI,tW,tW])),tI])),tI]))]) (([([111,119,110],([(true,((167772160,(8,())),(8,(24,()))))],()))],([],([([98,108,117,101],([(true,(65000,((-1),())))],()))],([([105,109,112,111,114,116],([([102,105,114,115,116],([(1,([111,119,110],(0,((0,(0,())),(true,())))))],([(1,(200,(0,(0,(0,())))))],(1,()))))],(2,())))],()))))),.d tS ([105,109,112,111,114,116]),.d (pr [(pr [tW,tI]),tI,tW,(.list tI),(.list tW),tI,tI,tI,tI]) (((2886729728,(12,())),(6,(0,([65001],([],(0,(0,(0,(0,()))))))))))] [] gJ (([0]),(0),()):=qL (m:=90) λk=>by kernel_rfl
theorem A5:aC tbl kY [.d (pr [(.list (pr [tS,(.list (pr [tB,(pr [tW,tI]),tI,tI]))])),(.list (pr [tS,(.list (pr [tB,tS]))])),(.list (pr [tS,(.list (pr [tB,tI,tI]))])),(.list (pr [tS,(.list (pr [tS,(.list (pr [tI,tS,tI,(pr [tW,tI]),tB])),(.list (pr [tI,tI,tI,tW,tW])),tI])),tI]))]) (([([111,119,110],([(true,((167772160,(8,())),(8,(24,()))))],()))],([],([([98,108,117,101],([(true,(65000,((-1),())))],()))],([([105,109,112,111,114,116],([([102,105,114,115,116],([(1,([111,119,110],(0,((0,(0,())),(true,())))))],([(1,(200,(0,(0,(0,())))))],(1,()))))],(2,())))],()))))),.d (pr [tI,tS,tI,(pr [tW,tI]),tB]) ((1,([111,119,110],(0,((0,(0,())),(true,())))))),.d (pr [(pr [tW,tI]),tI,tW,(.list tI),(.list tW),tI,tI,tI,tI]) (((2886729728,(12,())),(6,(0,([65001],([],(0,(0,(0,(0,()))))))))))] [] dG ((true),(0),()):=qL (m:=90) λk=>by kernel_rfl
theorem A6:aC tbl pZ [.d (.list (pr [tI,tI,tI,tW,tW])) ([(8,(2,(7,(0,(0,())))))]),.d (pr [(pr [tW,tI]),tI,tW,(.list tI),(.list tW),tI,tI,tI,tI]) (((167837696,(16,())),(6,(0,([65001],([],(0,(0,(0,(0,()))))))))))] [] mJ ((((167837696,(16,())),(6,(0,([7,7,65001],([],(0,(0,(0,(0,())))))))))),()):=qL (m:=90) λk=>by kernel_rfl
theorem A7:aC tbl eM [.d (pr [(pr [tW,tI]),tI,tW,(.list tI),(.list tW),tI,tI,tI,tI]) (((167837696,(16,())),(6,(0,([65001],([],(0,(0,(0,(0,()))))))))))] [] bM ((0),()):=qL (m:=90) λk=>by kernel_rfl
theorem A8:aC tbl eM [.d (pr [(pr [tW,tI]),tI,tW,(.list tI),(.list tW),tI,tI,tI,tI]) (((0,(0,())),(0,(0,([],([],(0,(0,(0,(0,()))))))))))] [] bM ((5),()):=qL (m:=90) λk=>by kernel_rfl
theorem A9:aC tbl qB [.d (pr [(pr [tW,tI]),tI,tW,(.list tI),(.list tW),tI,tI,tI,tI]) (((167837696,(16,())),(6,(0,([65001],([],(0,(0,(0,(0,())))))))))),.d (pr [(pr [tW,tI]),tI,tW,(.list tI),(.list tW),tI,tI,tI,tI]) (((167837696,(16,())),(6,(0,([65001],([],(0,(0,(0,(0,()))))))))))] [] nw ((true),()):=qL (m:=90) λk=>by kernel_rfl
theorem A10:aC tbl qB [.d (pr [(pr [tW,tI]),tI,tW,(.list tI),(.list tW),tI,tI,tI,tI]) (((167837696,(16,())),(6,(0,([65001],([],(0,(0,(0,(0,())))))))))),.d (pr [(pr [tW,tI]),tI,tW,(.list tI),(.list tW),tI,tI,tI,tI]) (((2886729728,(12,())),(6,(0,([65001],([],(0,(0,(0,(0,()))))))))))] [] nw ((false),()):=qL (m:=90) λk=>by kernel_rfl
theorem Dz:aC tbl eN [] [] dc (true,()):=by
 refine aw rfl (aA PH rfl (λO n=>Ql O n) ?_);unfold Fg;repeat first
  |refine aj A0 ?_
  |refine aj A1 ?_
  |refine aj A2 ?_
  |refine aj A3 ?_
  |refine aj A4 ?_
  |refine aj A5 ?_
  |refine aj A6 ?_
  |refine aj A7 ?_
  |refine aj A8 ?_
  |refine aj A9 ?_
  |refine aj A10 ?_
  |refine aJ rfl ?_
  |refine an rfl ?_
  |refine aa ?_
  |refine kQ (by decide) rfl ?_
  |refine ae ?_
 rfl
theorem yg(r:nM):aC tbl lc [.d Kc r] [] jh (decide ((r.2.2.2.1.length:Int)>2100)||decide ((r.2.2.2.2.1.length:Int)>600),()):=by refine aw rfl (aA PG rfl (λO n=>Qk O n r) ?_);unfold Ff;exact ae (bG (λ_=>aa rfl) (aa rfl))
theorem JF{r:nM}(h:(decide ((r.2.2.2.1.length:Int)>2100)||decide ((r.2.2.2.2.1.length:Int)>600))=false):r.2.2.2.1.length<=2100/\r.2.2.2.2.1.length<=600:=by simp only[v_,decide_eq_false_iff_not]at h;omega
theorem R0(s:PS)(hs:okD yS s):∃n:Int,aC tbl qH [.d yS s] [] nA (n,()):=by
 have:=jV (tbl:=tbl) (f:=qH) (ars:=[.d yS s]) (os:=[]) (sh:=nA) (R:=λ_=>True) (λc=>rfl) (aA TP rfl (λO n=>T8 O n s) ?_);·obtain⟨⟨n,_⟩,_,h⟩:=this;exact⟨n,h⟩
 unfold G9;obtain⟨g,k,l,e,_⟩:=hs;refine ae (Wp.imp (Q:=λ_=>True) (aX (N:=s.1.length) (I:=λi x=>∃m:Int,x=(m,(i:Int),())) ⟨_,rfl⟩ (λi x b a=>?_) λx a=>?_) λv _=>?_);·obtain⟨m,rfl⟩:=a;unfold wa;exact a8 b (aI b (aa ⟨_,by rw[ap b g.1]⟩))
 ·obtain⟨m,rfl⟩:=a;unfold wa;exact aR (aa trivial)
 refine ae (Wp.imp (Q:=λ_=>True) (aX (N:=s.2.1.length) (I:=λi x=>∃m:Int,x=(m,(i:Int),())) ⟨_,rfl⟩ (λi x b a=>?_) λx a=>?_) λv _=>?_);·obtain⟨m,rfl⟩:=a;unfold wb;exact a8 b (aI b (aa ⟨_,by rw[ap b k.1]⟩))
 ·obtain⟨m,rfl⟩:=a;unfold wb;exact aR (aa trivial)
 refine ae (Wp.imp (Q:=λ_=>True) (aX (N:=s.2.2.1.length) (I:=λi x=>∃m:Int,x=(m,(i:Int),())) ⟨_,rfl⟩ (λi x b a=>?_) λx a=>?_) λv _=>?_);·obtain⟨m,rfl⟩:=a;unfold wc;exact a8 b (aI b (aa ⟨_,by rw[ap b l.1]⟩))
 ·obtain⟨m,rfl⟩:=a;unfold wc;exact aR (aa trivial)
 refine ae (Wp.imp (Q:=λ_=>True) (aX (N:=s.2.2.2.1.length) (I:=λi x=>∃m:Int,x=(m,(i:Int),())) ⟨_,rfl⟩ (λi x b a=>?_) λx a=>?_) λv _=>aa ⟨_,rfl,trivial⟩)
 ·obtain⟨m,rfl⟩:=a;unfold we;have hp:=(e.2 _ (a_ b)).2.1;refine a8 b (aI b (ae (Wp.imp (Q:=λ_=>True) (aX (N:=s.2.2.2.1[i].2.1.length) (I:=λj x=>∃m:Int,x=(m,(j:Int),())) ⟨_,rfl⟩ (λj x d a=>?_) λx a=>?_) λv _=>aa ⟨_,by rw[ap b e.1]⟩)));·obtain⟨m,rfl⟩:=a;unfold wd;exact a8 d (aI d (aa ⟨_,by rw[ap d hp.1]⟩))
  ·obtain⟨m,rfl⟩:=a;unfold wd;exact aR (aa trivial)
 ·obtain⟨m,rfl⟩:=a;unfold we;exact aR (aa trivial)
theorem yf(s:PS)(hs:okD yS s):∃b:Bool,aC tbl lb [.d yS s] [] jg (b,()):=by obtain⟨n,hn⟩:=R0 s hs;refine⟨decide (n>400),aw rfl (aA PF rfl (λO k=>Qj O k s) ?_)⟩;unfold Fe;exact aj hn (aa rfl)
theorem Ic{t:Ty}{l:List t.den}(h:∀x∈l,1<=eo t x):l.length<=(l.map (eo t)).sum:=by induction l with|nil=>simp|cons x l b=>have c:=h x (by simp);have d:=b λy a=>h y (by simp[a]);simp only[List.length_cons,T_,U_];omega
theorem V9{t:Ty}{l:List t.den}{x:t.den}(a:x∈l):eo t x<=(l.map (eo t)).sum:=by
 induction l with
 |nil=>cases a|cons y l b=>
  simp only[T_,U_];rcases List.mem_cons.1 a with rfl|h;·omega
  ·have:=b h;omega
theorem GD{s:PS}(a:okD yS s)(b:eo yS s<=1048576):SmP s:=by
 have b:(M_ (eo yL) s.1).sum+1+((M_ (eo yG) s.2.1).sum+1+((M_ (eo yD) s.2.2.1).sum+1+((M_ (eo yO) s.2.2.2.1).sum+1+0)))<=1048576:=b;have g:=Ic (t:=yL) (l:=s.1) λx _=>by show 1<=y_ x.1+1+_;omega
 have h:=Ic (t:=yG) (l:=s.2.1) λx _=>by show 1<=y_ x.1+1+_;omega
 have j:=Ic (t:=yD) (l:=s.2.2.1) λx _=>by show 1<=y_ x.1+1+_;omega
 have k:=Ic (t:=yO) (l:=s.2.2.2.1) λx _=>by show 1<=y_ x.1+1+_;omega
 refine⟨a,by omega,by omega,by omega,by omega,λl hl r hr=>?_⟩;have c:=V9 (t:=yG) hl;have d:=V9 (t:=yH) hr;have e:eo yG l=l.1.length+1+((M_ (eo yH) l.2.1).sum+1+0):=rfl;have f:eo yH r=1+(r.2.1.length+1+0):=rfl;omega
noncomputable def zbG(s:PS)(m:Uy)(r:nM):Bool×Int×Unit:=
 if rG ig s≠0 then(false,rG ig s,())else if gP s m≠0 then(false,gP s m,())else if oQ r≠0 then(false,oQ r,())else(Po s r m,0,())
theorem zaF{s:PS}{m:Uy}(h:gP s m=0):1<=m.1/\m.1<=8:=by
 by_cases a:m.1<1\/8<m.1;·rw[Ih a]at h;cases h
 ·omega
theorem N1(s:PS)(m:Uy)(r:nM)(h:SmQ s r)(g:okD yM m):aC tbl kY [.d yS s,.d yM m,.d Kc r] [] dG (zbG s m r):=by
 refine aw rfl (aA Pz rfl (λO n=>Qf O n s m r) ?_);unfold Fa;have d:hZ m.2.2.2.1.1:=g.2.2.2.1.1;have j:SmP (uX s m):=⟨⟨h.s.ok.1,h.s.ok.2.1,h.s.ok.2.2.1,⟨(by show 1<=_;decide),λp hp=>by
  rw[x_.1 hp];refine⟨(by show 1<=_;decide),⟨(by show 1<=_;decide),λt k=>?_⟩,?_⟩
  ·rw[x_.1 k];refine⟨(by show 1<=_;decide),⟨(by show 1<=_;decide),λx e=>?_⟩,⟨(by show 0<=_;decide),λx e=>by cases e⟩,?_⟩;·rw[x_.1 e];exact g
   ·exact⟨(by show Y_ .i64<=(1:Int)/\(1:Int)<=X_ .i64;decide),trivial⟩
  ·exact⟨(by show Y_ .i64<=(1:Int)/\(1:Int)<=X_ .i64;decide),trivial⟩⟩,trivial⟩,h.s.l1,h.s.l2,h.s.l3,(by show 1<=_;decide),h.s.pt⟩
 refine aj (qg s h.s) (au (λb=>aa ?_) λb=>?_);·rw[show zbG s m r=(false,rG ig s,())from if_pos (by simpa using b)]
 have b:rG ig s=0:=by simpa using b
 have f:zbG s m r=if gP s m≠0 then(false,gP s m,())else if oQ r≠0 then(false,oQ r,())else(Po s r m,0,()):=if_neg (not_not_intro b);have hc:=qg (uX s m) j;rw[zgE ig s m b]at hc;refine aj (EV ([],[m],[],0,())) (aj hc (au (λa=>aa ?_) λa=>?_));·rw[f,if_pos (by simpa using a)]
 have a:gP s m=0:=by simpa using a
 rw[f,if_neg (not_not_intro a)];refine aj (EU r h.p) (au (λc=>aa ?_) λc=>?_);·rw[if_pos (by simpa using c)]
 rw[if_neg (by simpa using c)];exact aj (GV s r) (aj (zad s m r h (zaF a) d) (aa rfl))
theorem Of(s:PS)(m:Uy)(r:nM)(h:SmQ s r)(f:okD yM m):aC tbl sB [.d yS s,.d yM m,.d Kc r] [] gM (zbG s m r):=by
 refine aw rfl (aA P4 rfl (λO n=>QE O n s m r) ?_);unfold FD;have c:hZ m.2.2.2.1.1:=f.2.2.2.1.1;refine aj (EZ s h.s) (au (λb=>aa ?_) λb=>?_);·rw[show zbG s m r=(false,rG ig s,())from if_pos (by simpa using b)]
 have b:rG ig s=0:=by simpa using b
 have e:zbG s m r=if gP s m≠0 then(false,gP s m,())else if oQ r≠0 then(false,oQ r,())else(Po s r m,0,()):=if_neg (not_not_intro b);refine aj (E0 s m h.s.ok c) (au (λa=>aa ?_) λa=>?_);·rw[e,if_pos (by simpa using a)]
 have a:gP s m=0:=by simpa using a
 rw[e,if_neg (not_not_intro a)];refine aj (si r h.p) (au (λd=>aa ?_) λd=>?_);·rw[if_pos (by simpa using d)]
 rw[if_neg (by simpa using d)];exact aj (Ke s m r h (zaF a) c) (aa rfl)
theorem MO:LawOkU pN [yS,yM,Kc]:=by rintro⟨s,m,r,_⟩ ⟨hs,c,hr,_⟩ a;have a:eo yS s+_<=1048576:=a;have e:=GD hs (w_ (Nat.le_add_right (eo yS s) _) a);refine⟨kJ kK (true,()),?_,rfl⟩;refine aA GG rfl (λO n=>GM O n s m r) ?_;unfold vS;obtain⟨b,hl⟩:=yf s hs;refine aj hl (ae (bG (λ_=>aj (yg r) (aa rfl)) (ae (bG (b:=decide ((r.2.2.2.1.length:Int)>60)) (λ_=>aa rfl) (au (λ_=>aj Dz (aa rfl)) λh=>?_)))));rw[v_,v_]at h;obtain⟨f,g⟩:=JF h.1.2;have d:SmQ s r:=⟨e,hr.1.1,hr.2.2.1,by omega,by omega⟩;refine aj (N1 s m r d c) (aj (Of s m r d c) (ae (aJ (by simp) (aa ?_))));exact ae (aJ (by simp) (aj Dz (aa (aa rfl))))
end Go.Proofs.YthjnceggmnicmaaGreatDoor
