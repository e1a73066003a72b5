import Derived.Test.YtmfolppncelceaaGreatDoorVLawPfx
import Derived.Test.YtmfolppncelceaaGreatDoorVPlPfx
import Derived.Test.YtmfolppncelceaaGreatDoorVL7
import Derived.Test.YtmfolppncelceaaGreatDoorVGlueB
import Derived.Test.YtmfolppncelceaaGreatDoorVL5
set_option linter.unusedVariables false
set_option linter.unusedSimpArgs false
open Bool renaming false_eq_true->p_,true_and->q_,and_eq_true->x_,not_eq_true->y_,false_or->F_,eq_iff_iff->I_,false_and->L_,not_eq_true'->R_,or_eq_true->W_,not_false->aa_,not_true->ab_
open Classical renaming byContradiction->f_
open Int renaming toNat_natCast->s_,toNat->z_,eq_ofNat_of_zero_le->G_
open Go.IntKind renaming wrap->a_,bits->ac_
open List renaming getElem_mem->b_,getElem?_eq_getElem->c_,take_succ_eq_append_getElem->d_,replicate->g_,drop_eq_getElem_cons->i_,append_nil->j_,take_length->k_,getElem?_eq_some_iff->l_,mem_of_find?_eq_some->m_,length_take->n_,getElem?_eq_none->r_,drop_zero->u_,foldl_append->v_,getD->A_,eq_nil_of_length_eq_zero->B_,pairwise_append->C_,length_pos_iff->D_,pairwise_iff_getElem->E_,drop_length->H_,all_append->J_,length_filter_le->K_,length->M_,replicate_succ'->N_,flatMap_append->O_,filter_append->P_,pairwise_cons->Q_,ext_getElem?->S_,map->T_,all_eq_true->U_,countP_cons->V_,foldl_cons->X_,map_append->Y_,range_succ->Z_,filter->ae_,range->af_
open Nat renaming zero_le->h_,le_refl->o_,le_trans->t_,sub_self->ad_
open Option renaming bind->e_
open Sum renaming inl->w_
namespace Go.Proofs.YtmfolppncelceaaGreatDoor
open Go Go.Av Go.Ev Go.Pl
theorem HK(r:CRU):aC tbl iL [.d yC r] [] dY (oO r,()):=by
 refine ap rfl (aA Jk rfl (λO n=>bI (xU O n r)) ?_);unfold xU;refine ae (bn (b:=decide (r.2.1>65535)) (λ_=>aa rfl) (ae (bn (b:=decide (r.2.2.1< -1)) (λ_=>aa rfl) (ae (bn (b:=decide (r.2.2.1>65535)) (λ_=>aa rfl) ?_)))));refine ao (λh=>aa ?_) λh=>aa ?_;·rw[show oO r=5 from if_pos (by grind)]
 ·rw[show oO r=0 from if_neg (by grind)]
def Z1(k:Int):Bool:=decide (k=4\/k=5\/k=6\/k=8)
theorem Ss(k:Int):∃lo g:Int,(Z1 k=true->lo=zgo k/\g=VZ k)/\aC tbl vQ [.d tI k] [] gw (lo,g,Z1 k,()):=by
 have a:∀{j:Int},k≠j->(k==j)=false:=λh=>beq_eq_false_iff_ne.2 h;by_cases b:k=4;·subst b;exact⟨1,7,λ_=>⟨rfl,rfl⟩,ap rfl (aA rQ rfl (λO n=>bI (eQ O n 4)) (by unfold eQ;exact aE rfl (aa rfl)))⟩
 by_cases c:k=5;·subst c;exact⟨0,4294967295,λ_=>⟨rfl,rfl⟩,ap rfl (aA rQ rfl (λO n=>bI (eQ O n 5)) (by unfold eQ;exact an rfl (aE rfl (aa rfl))))⟩
 by_cases d:k=6;·subst d;exact⟨0,16777216,λ_=>⟨rfl,rfl⟩,ap rfl (aA rQ rfl (λO n=>bI (eQ O n 6)) (by unfold eQ;exact an rfl (an rfl (aE rfl (aa rfl)))))⟩
 by_cases f:k=8;·subst f;exact⟨0,2000,λ_=>⟨rfl,rfl⟩,ap rfl (aA rQ rfl (λO n=>bI (eQ O n 8)) (by unfold eQ;exact an rfl (an rfl (an rfl (aE rfl (aa rfl))))))⟩
 have e:Z1 k=false:=decide_eq_false (by omega);rw[e];exact⟨0,0,(λh=>by grind),ap rfl (aA rQ rfl (λO n=>bI (eQ O n k)) (by unfold eQ;exact an (a b) (an (a c) (an (a d) (an (a f) (aa rfl))))))⟩
def gA(s:PS)(n:List UInt8):Option PLS:=s.1.find? (·.1==n)
theorem Ab(s:PS)(n:List UInt8)(hl:s.1.length<=9223372036854775807):aC tbl jC [.d yS s,.d tS n] [] eL ((gA s n).getD ([],[],()),(gA s n).isSome,()):=by
 refine ap rfl (aA Kz rfl (λO k=>bI (Am O k s n)) ?_);unfold Am;refine ae (m8 (xs:=s.1) (p:=(·.1==n)) (enc:=λi=>((i:Int),([]:List UInt8),())) (g:=λx=>(true,x.1,x.2.1,())) (e:=(([]:List UInt8),())) (λi a=>?_) ?_ ?_)
 ·unfold pO;refine a6 a (aF a (ao (λh=>aa ?_) λh=>aa ?_));·rw[if_pos h]
  ·rw[if_neg (by simp[h]),aB a hl]
 ·unfold pO;exact aT (aa rfl)
 ·unfold gA;cases s.1.find? (·.1==n)with|some r=>exact aa rfl|none=>exact aa rfl
def oS(s:PS)(n:List UInt8):Option HLS:=s.2.1.find? (·.1==n)
theorem F4(s:PS)(n:List UInt8)(hl:s.2.1.length<=9223372036854775807):aC tbl oC [.d yS s,.d tS n] [] ja ((oS s n).getD ([],[],()),(oS s n).isSome,()):=by
 refine ap rfl (aA QQ rfl (λO k=>bI (Gs O k s n)) ?_);unfold Gs;refine ae (m8 (xs:=s.2.1) (p:=(·.1==n)) (enc:=λi=>((i:Int),([]:List UInt8),())) (g:=λx=>(true,x.1,x.2.1,())) (e:=(([]:List UInt8),())) (λi a=>?_) ?_ ?_)
 ·unfold uJ;refine a6 a (aF a (ao (λh=>aa ?_) λh=>aa ?_));·rw[if_pos h]
  ·rw[if_neg (by simp[h]),aB a hl]
 ·unfold uJ;exact aT (aa rfl)
 ·unfold oS;cases s.2.1.find? (·.1==n)with|some r=>exact aa rfl|none=>exact aa rfl
def dj(s:PS)(n:List UInt8):Option CLS:=s.2.2.1.find? (·.1==n)
theorem vu(s:PS)(n:List UInt8)(hl:s.2.2.1.length<=9223372036854775807):aC tbl fR [.d yS s,.d tS n] [] cX ((dj s n).getD ([],[],()),(dj s n).isSome,()):=by
 refine ap rfl (aA FV rfl (λO k=>bI (vJ O k s n)) ?_);unfold vJ;refine ae (m8 (xs:=s.2.2.1) (p:=(·.1==n)) (enc:=λi=>((i:Int),([]:List UInt8),())) (g:=λx=>(true,x.1,x.2.1,())) (e:=(([]:List UInt8),())) (λi a=>?_) ?_ ?_)
 ·unfold lz;refine a6 a (aF a (ao (λh=>aa ?_) λh=>aa ?_));·rw[if_pos h]
  ·rw[if_neg (by simp[h]),aB a hl]
 ·unfold lz;exact aT (aa rfl)
 ·unfold dj;cases s.2.2.1.find? (·.1==n)with|some r=>exact aa rfl|none=>exact aa rfl
theorem zhv{s:PS}{n:List UInt8}:L2 s 1 n=(gA s n).isSome:=by unfold L2 gA;rw[if_pos rfl,Ia]
theorem zhw{s:PS}{n:List UInt8}:L2 s 2 n=(oS s n).isSome:=by unfold L2 oS;rw[if_neg (by decide),if_pos rfl,Ia]
theorem zhx{s:PS}{n:List UInt8}:L2 s 3 n=(dj s n).isSome:=by unfold L2 dj;grind
theorem Pf(s:PS)(m:MAT)(hs:okD yS s)(v:hU m.2.2.2.1.1):aC tbl tp [.d yS s,.d yM m] [] dI (xD s m,()):=by
 obtain⟨k,nm,N,⟨d,pl,⟨⟩⟩,x,⟨⟩⟩:=m;refine ap rfl (aA QP rfl (λO n=>bI (Gr O n s (k,nm,N,(d,pl,()),x,()))) ?_);unfold Gr;refine ae (bn (b:=decide (k>8)) (λ_=>aa rfl) (ao (λh=>aa ?_) λh=>?_));·rw[NW (show k<1\/8<k by grind)]
 have z:1<=k/\k<=8:=by grind
 obtain⟨lo,y,p,hc⟩:=Ss k;refine aj hc (ae (bb (b:= !(nm==[])) (λ_=>aa rfl) ?_));refine ae (bn (b:= !Z1 k&&(N != 0)) (λ_=>ae (bb (b:=(N != 0)) (λ_=>aa rfl) (aa rfl))) ?_);refine ae (bn (b:=(k != 7)&&(true ^^ nH yP (d,pl,()) (0,0,()))) (λ_=>ae (bb (b:=(true ^^ nH yP (d,pl,()) (0,0,()))) (λ_=>aa rfl) (aa rfl))) ?_);have w:(true ^^ nH yP (d,pl,()) (0,0,()))= !(d==0&&pl==0):=by show(true ^^ ((d==0)&&((pl==0)&&true)))=_;simp
 rw[w];have e:dE ((0:Int),(0:Int),())=true:=by decide
 have c:∀{j:Int},k≠j->(k==j)=false:=λh=>beq_eq_false_iff_ne.2 h;by_cases hn:k=1\/k=2\/k=3
 ·rw[BW hn];have g:decide (k<=3)=true:=decide_eq_true (by omega);have f:Z1 k=false:=decide_eq_false (by omega);have l:(k != 7)=true:=bne_iff_ne.2 (by omega);rw[g,f,l];simp only[ab_,L_,aa_,q_,F_];refine ao (λh=>aa ?_) λh=>?_;·grind
  simp at h;obtain⟨rfl,rfl,rfl⟩:=h;rw[if_neg (by simp)];refine ae (Wp.imp (Q:=λr=>r=(L2 s k nm,())) ?_ λr hr=>?_)
  ·rcases hn with rfl|rfl|rfl;·rw[zhv];exact aE rfl (aj (Ab s nm hs.1.1) (aa rfl))
   ·rw[zhw];exact an rfl (aE rfl (aj (F4 s nm hs.2.1.1) (aa rfl)))
   ·rw[zhx];exact an rfl (an rfl (aE rfl (aj (vu s nm hs.2.2.1.1) (aa rfl))))
  ·subst hr;refine ao (λh=>aa ?_) λh=>ae (aa (an rfl (aj (dG ((0:Int),(0:Int),()) (by omega)) ?_)));·grind
   ·rw[e];refine an rfl (aa ?_);grind
 by_cases u:k=7
 ·subst u;rw[Wi];refine ao (λh=>aa ?_) λh=>?_;·grind
  simp[Z1]at h;obtain⟨rfl,rfl⟩:=h;rw[if_neg (by simp)];refine ae (an rfl (an rfl (an rfl (aa (an rfl (ae (aa (aj (dG (d,pl,()) v) ?_))))))));refine ao (λh=>aa ?_) λh=>aa ?_;all_goals grind
 have a:k=4\/k=5\/k=6\/k=8:=by omega
 rw[Wj a];have g:decide (k<=3)=false:=decide_eq_false (by omega);have f:Z1 k=true:=decide_eq_true a;have l:(k != 7)=true:=bne_iff_ne.2 u;obtain⟨rfl,rfl⟩:=p f;rw[g,f,l];simp only[ab_,L_,aa_,q_,Bool.or_false];refine ao (λh=>aa ?_) λh=>?_;·grind
 simp at h;obtain⟨rfl,rfl,rfl⟩:=h;rw[if_neg (by simp)];refine ae (an (c (by omega)) (an (c (by omega)) (an (c (by omega)) (aa (an rfl ?_)))));refine ae (ae (bn (b:=decide (N>VZ k)) (λ_=>aa rfl) (aa ?_)));refine ao (λh=>aa ?_) λh=>aj (dG ((0:Int),(0:Int),()) (by omega)) ?_;·grind
 ·rw[e];refine an rfl (aa ?_);grind
theorem Dp(a:Dj):aC tbl mA [.d yA a] [] bM (jl a,()):=by
 refine ap rfl (aA OM rfl (λO n=>bI (DF O n a)) ?_);unfold DF;refine ae (ae ?_);by_cases D:a.1<1\/8<a.1;·have j:∀k:Int,1<=k->k<=8->(a.1==k)=false:=λk p l=>beq_eq_false_iff_ne.2 (by omega);refine an (j 1 (by simp) (by simp)) (an (j 2 (by simp) (by simp)) (aa (an (j 4 (by simp) (by simp)) (an (j 3 (by simp) (by simp)) (an (j 5 (by simp) (by simp)) ?_)))));refine ae (an (j 6 (by simp) (by simp)) (aa (an (j 7 (by simp) (by simp)) (an (j 8 (by simp) (by simp)) (aa (aa ?_))))));rw[show jl a=15 from if_pos D]
 have f:∀(only:Dj) (c:Int),rG a=only->(a=only->((a.2.1<0\/c<a.2.1\/(a.1=5/\a.2.2.2.2.1=0)\/(a.1=8/\(a.2.1<1\/a.2.2.1<1\/a.2.2.1>4294967295)))↔oR a=false))->Wp (λ_=>bif (true ^^ nH yA a only)then ar bM ((1:Int),())else e_ (bif decide (a.2.1<(0:Int))then some (true)else some (decide (a.2.1>c))) λH=>bif H then ar bM ((5:Int),())else e_ (bif (a.1==(5:Int))then some ((a.2.2.2.2.1==(0:Int)))else some (false)) λI=>e_ (bif I then some (true)else e_ (bif (a.1==(8:Int))then e_ (bif decide (a.2.1<(1:Int))then some (true)else some (decide (a.2.2.1<(1:Int)))) λJ=>e_ (bif J then some (true)else some (decide (a.2.2.1>(4294967295:Int)))) λL=>some (L)else some (false)) λM=>some (M)) λv=>bif v then ar bM ((5:Int),())else ar bM ((0:Int),())) (λx=>x=some (jm bM (jl a,()))):=λonly c p l=>by
  have e:jl a=if ¬a=only then 1 else if oR a=false then 5 else 0:=by unfold jl;grind
  rw[e]
  refine ao (λh=>aa ?_) λh=>?_
  ·rw[if_pos (ne_eqD.1 h)]
  have r:a=only:=f_ λx=>by rw[ne_eqD.2 x]at h;grind
  have l:=l r
  rw[if_neg (not_not_intro r)]
  refine ae (bn (b:=decide (a.2.1>c)) (λ_=>aa rfl) (ao (λh=>aa ?_) λh=>?_))
  ·grind
  refine ae (bb (b:=(a.2.2.2.2.1==0)) (λ_=>aa rfl) ?_)
  refine ae (bn (b:=(a.1==8)&&((decide (a.2.1<1)||decide (a.2.2.1<1))||decide (a.2.2.1>4294967295))) (λ_=>ae (bb (b:=(decide (a.2.1<1)||decide (a.2.2.1<1))||decide (a.2.2.1>4294967295)) (λ_=>ae (bn (b:=decide (a.2.2.1<1)) (λ_=>aa rfl) (ae (bn (b:=decide (a.2.2.1>4294967295)) (λ_=>aa rfl) (aa rfl))))) (aa rfl))) ?_)
  refine ao (λh'=>aa ?_) λh'=>aa ?_
  all_goals grind
 have g:∀{k:Int},a.1≠k->(a.1==k)=false:=λh=>beq_eq_false_iff_ne.2 h;have d:∀{k:Int},a.1=k->(a.1==k)=true:=λh=>beq_iff_eq.2 h;have s:∀(c:Int),(a.1=1\/a.1=2\/a.1=4)->c=4294967295->((a.2.1<0\/c<a.2.1\/(a.1=5/\a.2.2.2.2.1=0)\/(a.1=8/\(a.2.1<1\/a.2.2.1<1\/a.2.2.1>4294967295)))↔oR a=false):=λc F E=>by unfold oR;grind
 by_cases p:a.1=1;·refine aE (d p) (aa (aE (d p) (aa (f _ _ ?_ λ_=>s _ (by omega) rfl))));unfold rG;grind
 refine an (g p) ?_;by_cases l:a.1=2;·refine aE (d l) (aa (aE (d l) (aa (f _ _ ?_ λ_=>s _ (by omega) rfl))));unfold rG;grind
 refine an (g l) (aa ?_);by_cases z:a.1=4;·refine aE (d z) (aa (f _ _ ?_ λ_=>s _ (by omega) rfl));unfold rG;grind
 refine an (g z) ?_;by_cases y:a.1=3
 ·refine aE (d y) (aa (f _ _ ?_ λ_=>?_));·unfold rG;grind
  ·unfold oR;grind
 refine an (g y) ?_;by_cases A:a.1=5
 ·refine aE (d A) (aa (f _ _ ?_ λr=>?_));·unfold rG;grind
  ·have C:a.2.1=0:=by grind
   unfold oR;grind
 refine an (g A) (ae ?_);have w:∀(only:Dj) (c:Int),only.2.1=0->(a.1=6\/a.1=7)->c=4294967295->(a=only->((a.2.1<0\/c<a.2.1\/(a.1=5/\a.2.2.2.2.1=0)\/(a.1=8/\(a.2.1<1\/a.2.2.1<1\/a.2.2.1>4294967295)))↔oR a=false)):=λonly c N F E r=>by
  have C:a.2.1=0:=by grind
  unfold oR;grind
 by_cases u:a.1=6;·refine aE (d u) (aa (aE (d u) (aa (f _ _ ?_ (w _ _ rfl (by omega) rfl)))));unfold rG;grind
 refine an (g u) (aa ?_);by_cases B:a.1=7;·refine aE (d B) (aa (f _ _ ?_ (w _ _ rfl (by omega) rfl)));unfold rG;grind
 refine an (g B) (aE (d (by omega)) (aa (f _ _ ?_ λr=>?_)));·unfold rG;grind
 ·unfold oR;grind
def BN(name a:List UInt8)(first:Bool)(sz:Nat):Int:=if mQ name=false then 1 else if first=false/\B0 name a=true then 16 else if sz>64 then 4 else 0
theorem qv(name a:List UInt8)(first:Bool)(sz:Nat)(hn:name.length<=9223372036854775807):aC tbl gT [.d tS name,.d tS a,.d tB first,.d tI (sz:Int)] [] cE (BN name a first sz,()):=by
 refine ap rfl (aA ON rfl (λO n=>bI (DG O n name a first (sz:Int))) ?_)
 unfold DG;refine aj (HN name hn) (ao (λh=>aa ?_) λh=>?_);·rw[show BN name a first sz=1 from if_pos (by grind)]
 have c:¬mQ name=false:=by grind
 refine ae (bb (b:=B0 name a) (λ_=>aa rfl) (ao (λh=>aa ?_) λh=>?_));·rw[show BN name a first sz=16 from by unfold BN;grind]
 have d:¬(first=false/\B0 name a=true):=by grind
 refine ao (λh=>aa ?_) λh=>aa ?_;·rw[show BN name a first sz=4 from by unfold BN;grind]
 ·rw[show BN name a first sz=0 from by unfold BN;grind]
def SH(l:List (List UInt8))(i:Nat):List UInt8:=if i=0 then []else l.getD (i - 1) []
theorem Ib{α:Type}{nm:α->List UInt8}{l:List α}{i:Nat}(a:i<l.length):SH (l.map nm) (i+1)=nm l[i]:=by unfold SH;grind
theorem Ms{α:Type}{nm:α->List UInt8}{sz:α->Nat}{ck:α->Int}{l:List α}{i:Nat}(c:i<l.length): LY nm sz ck l i=if BN (nm l[i]) (SH (l.map nm) i) ((i:Int)==0) (sz l[i])=0 then ck l[i]else BN (nm l[i]) (SH (l.map nm) i) ((i:Int)==0) (sz l[i]):=by
 rw[ID c];have b:wb (l.map nm) i=if mQ (nm l[i])=false then 1 else if 0<i/\B0 (nm l[i]) ((l.map nm).getD (i - 1) [])=true then 16 else 0:=by unfold wb;grind
 rw[b];unfold BN;by_cases a:mQ (nm l[i])=false;·grind
 ·rw[if_neg a,if_neg a];have d:(((i:Int)==0)=false/\B0 (nm l[i]) (SH (l.map nm) i)=true)↔(0<i/\B0 (nm l[i]) ((l.map nm).getD (i - 1) [])=true):=by unfold SH;grind
  grind
def ziu(x:PLS):Prop:=∀r∈x.2.1,hU r.2.1.1
def ziv(x:HLS):Prop:=∀r∈x.2.1,r.2.1.length<=1048576
def ziw(_:CLS):Prop:=True
theorem zhY{x:PLS}(h:ziu x){j:Nat}(a:j<x.2.1.length)(hl:x.2.1.length<=64):Wp (λn=>e_ (au (sC tbl n) kU [.d yR x.2.1[j]] [] eW) λb=>bif (b.1 != (0:Int))then some (.inr (.inl ((b.1,()))))else some (.inl (a_ .i64 ((j:Int)+(1:Int)),()))) (fun(r:(Int×Unit)⊕(Int×Unit)⊕Unit)=>r=if mR x.2.1[j]=0 then .inl (((j+1:Nat):Int),())else .inr (.inl (mR x.2.1[j],()))):=by
 refine aj (F2 _ (h _ (b_ a))) (ao (λh=>aa ?_) λh=>aa ?_);·grind
 ·rw[if_pos (by grind),aB a (by omega)]
theorem zhZ{x:HLS}(h:ziv x){j:Nat}(a:j<x.2.1.length)(hl:x.2.1.length<=64):Wp (λn=>e_ (au (sC tbl n) kT [.d tS x.2.1[j].2.1] [] eV) λb=>bif (b.2.1 != (0:Int))then some (.inr (.inl ((b.2.1,()))))else some (.inl (a_ .i64 ((j:Int)+(1:Int)),()))) (fun(r:(Int×Unit)⊕(Int×Unit)⊕Unit)=>r=if(λr:HRU=>gv r.2.1) x.2.1[j]=0 then .inl (((j+1:Nat):Int),())else .inr (.inl ((λr:HRU=>gv r.2.1) x.2.1[j],()))):=by
 obtain⟨c,d,e⟩:=F1 x.2.1[j].2.1 (h _ (b_ a));simp only;rw[<-zbv d];refine aj e (ao (λh=>aa ?_) λh=>aa ?_);·grind
 ·rw[if_pos (by grind),aB a (by omega)]
theorem zh0{x:CLS}(_:ziw x){j:Nat}(b:j<x.2.1.length)(hl:x.2.1.length<=64):Wp (λn=>e_ (au (sC tbl n) iL [.d yC x.2.1[j]] [] dY) λa=>bif (a.1 != (0:Int))then some (.inr (.inl ((a.1,()))))else some (.inl (a_ .i64 ((j:Int)+(1:Int)),()))) (fun(r:(Int×Unit)⊕(Int×Unit)⊕Unit)=>r=if oO x.2.1[j]=0 then .inl (((j+1:Nat):Int),())else .inr (.inl (oO x.2.1[j],()))):=by
 refine aj (HK _) (ao (λh=>aa ?_) λh=>aa ?_);·grind
 ·rw[if_pos (by grind),aB b (by omega)]
theorem JE(l:List PLS)(hn:∀x∈l,x.1.length<=9223372036854775807)(hr:∀x∈l,ziu x):aC tbl nk [.d (.list yL) l] [] eM (gW (·.1) (λl=>l.2.1.length) (λl=>bS mR l.2.1) l,()):=by
 refine ap rfl (aA KA rfl (λO n=>bI (An O n l)) ?_);unfold An;refine ao (λh=>aa ?_) λh=>?_;·rw[show gW (·.1) (λl=>l.2.1.length) (λl=>bS mR l.2.1) l=4 from if_pos (by have:=of_decide_eq_true h;omega)]
 have c:¬l.length>64:=by have:=of_decide_eq_false h;omega
 rw[show gW (·.1) (λl=>l.2.1.length) (λl=>bS mR l.2.1) l=jR (LY (·.1) (λl=>l.2.1.length) (λl=>bS mR l.2.1) l) l.length from if_neg c];generalize k:LY (·.1) (λl=>l.2.1.length) (λl=>bS mR l.2.1) l=E;refine ae (ot (N:=l.length) (f:=E) (enc:=λi=>(SH (l.map (·.1)) i,(i:Int),())) (oB:=λe=>(e,())) (oE:=()) (λi a=>?_) ?_ ?_)
 ·unfold pQ;have b:=Ms (nm:=(·.1)) (sz:=λl=>l.2.1.length) (ck:=λl=>bS mR l.2.1) a;rw[k]at b;refine a6 a (aF a (aj (qv _ _ _ _ (hn _ (b_ a))) (ao (λh=>aa ?_) λh=>?_)));·rw[if_neg (by simpa using h)]at b;rw[b,if_neg (by simpa using h)]
  rw[if_pos (by simpa using h)]at b;rw[b];have g:l[i].2.1.length<=64:=by
   have h:BN l[i].1 (SH (l.map (·.1)) i) ((i:Int)==0) l[i].2.1.length=0:=by simpa using h
   unfold BN at h;split at h;·cases h
   split at h;·cases h
   split at h;·cases h
   ·omega
  refine ae (mg (l:=l[i].2.1) (f:=mR) (enc:=λi=>((i:Int),())) (oB:=λe=>(e,())) (oE:=()) (λj d=>?_) ?_ ?_);·unfold pP;exact a6 d (aF d (zhY (hr _ (b_ a)) d g))
  ·unfold pP;exact aT (aa rfl)
  by_cases e:bS mR l[i].2.1=0;·rw[if_pos e,if_pos e];refine aa ?_;show _=w_ (SH (l.map (·.1)) (i+1),((i+1:Nat):Int),());rw[Ib (nm:=(·.1)) a,aB a (by omega)]
  ·rw[if_neg e,if_neg e];exact aa rfl
 ·unfold pQ;exact aT (aa rfl)
 by_cases e:jR E l.length=0;·rw[if_pos e];refine aa ?_;rw[e]
 ·rw[if_neg e];exact aa rfl
theorem Pg(l:List HLS)(hn:∀x∈l,x.1.length<=9223372036854775807)(hr:∀x∈l,ziv x):aC tbl tq [.d (.list yG) l] [] jb (gW (·.1) (λl=>l.2.1.length) (λl=>bS (λr=>gv r.2.1) l.2.1) l,()):=by
 refine ap rfl (aA QR rfl (λO n=>bI (Gt O n l)) ?_);unfold Gt;refine ao (λh=>aa ?_) λh=>?_;·rw[show gW (·.1) (λl=>l.2.1.length) (λl=>bS (λr=>gv r.2.1) l.2.1) l=4 from if_pos (by have:=of_decide_eq_true h;omega)]
 have c:¬l.length>64:=by have:=of_decide_eq_false h;omega
 rw[show gW (·.1) (λl=>l.2.1.length) (λl=>bS (λr=>gv r.2.1) l.2.1) l=jR (LY (·.1) (λl=>l.2.1.length) (λl=>bS (λr=>gv r.2.1) l.2.1) l) l.length from if_neg c];generalize k:LY (·.1) (λl=>l.2.1.length) (λl=>bS (λr=>gv r.2.1) l.2.1) l=E;refine ae (ot (N:=l.length) (f:=E) (enc:=λi=>(SH (l.map (·.1)) i,(i:Int),())) (oB:=λe=>(e,())) (oE:=()) (λi a=>?_) ?_ ?_)
 ·unfold uL;have b:=Ms (nm:=(·.1)) (sz:=λl=>l.2.1.length) (ck:=λl=>bS (λr=>gv r.2.1) l.2.1) a;rw[k]at b;refine a6 a (aF a (aj (qv _ _ _ _ (hn _ (b_ a))) (ao (λh=>aa ?_) λh=>?_)));·rw[if_neg (by simpa using h)]at b;rw[b,if_neg (by simpa using h)]
  rw[if_pos (by simpa using h)]at b;rw[b];have g:l[i].2.1.length<=64:=by
   have h:BN l[i].1 (SH (l.map (·.1)) i) ((i:Int)==0) l[i].2.1.length=0:=by simpa using h
   unfold BN at h;split at h;·cases h
   split at h;·cases h
   split at h;·cases h
   ·omega
  refine ae (mg (l:=l[i].2.1) (f:=(λr=>gv r.2.1)) (enc:=λi=>((i:Int),())) (oB:=λe=>(e,())) (oE:=()) (λj d=>?_) ?_ ?_);·unfold uK;exact a6 d (aF d (zhZ (hr _ (b_ a)) d g))
  ·unfold uK;exact aT (aa rfl)
  by_cases e:bS (λr=>gv r.2.1) l[i].2.1=0;·rw[if_pos e,if_pos e];refine aa ?_;show _=w_ (SH (l.map (·.1)) (i+1),((i+1:Nat):Int),());rw[Ib (nm:=(·.1)) a,aB a (by omega)]
  ·rw[if_neg e,if_neg e];exact aa rfl
 ·unfold uL;exact aT (aa rfl)
 by_cases e:jR E l.length=0;·rw[if_pos e];refine aa ?_;rw[e]
 ·rw[if_neg e];exact aa rfl
theorem Fu(l:List CLS)(hn:∀x∈l,x.1.length<=9223372036854775807)(hr:∀x∈l,ziw x):aC tbl jt [.d (.list yD) l] [] cY (gW (·.1) (λl=>l.2.1.length) (λl=>bS oO l.2.1) l,()):=by
 refine ap rfl (aA FW rfl (λO n=>bI (vK O n l)) ?_);unfold vK;refine ao (λh=>aa ?_) λh=>?_;·rw[show gW (·.1) (λl=>l.2.1.length) (λl=>bS oO l.2.1) l=4 from if_pos (by have:=of_decide_eq_true h;omega)]
 have c:¬l.length>64:=by have:=of_decide_eq_false h;omega
 rw[show gW (·.1) (λl=>l.2.1.length) (λl=>bS oO l.2.1) l=jR (LY (·.1) (λl=>l.2.1.length) (λl=>bS oO l.2.1) l) l.length from if_neg c];generalize k:LY (·.1) (λl=>l.2.1.length) (λl=>bS oO l.2.1) l=E;refine ae (ot (N:=l.length) (f:=E) (enc:=λi=>(SH (l.map (·.1)) i,(i:Int),())) (oB:=λe=>(e,())) (oE:=()) (λi a=>?_) ?_ ?_)
 ·unfold lC;have b:=Ms (nm:=(·.1)) (sz:=λl=>l.2.1.length) (ck:=λl=>bS oO l.2.1) a;rw[k]at b;refine a6 a (aF a (aj (qv _ _ _ _ (hn _ (b_ a))) (ao (λh=>aa ?_) λh=>?_)));·rw[if_neg (by simpa using h)]at b;rw[b,if_neg (by simpa using h)]
  rw[if_pos (by simpa using h)]at b;rw[b];have g:l[i].2.1.length<=64:=by
   have h:BN l[i].1 (SH (l.map (·.1)) i) ((i:Int)==0) l[i].2.1.length=0:=by simpa using h
   unfold BN at h;split at h;·cases h
   split at h;·cases h
   split at h;·cases h
   ·omega
  refine ae (mg (l:=l[i].2.1) (f:=oO) (enc:=λi=>((i:Int),())) (oB:=λe=>(e,())) (oE:=()) (λj d=>?_) ?_ ?_);·unfold lA;exact a6 d (aF d (zh0 (hr _ (b_ a)) d g))
  ·unfold lA;exact aT (aa rfl)
  by_cases e:bS oO l[i].2.1=0;·rw[if_pos e,if_pos e];refine aa ?_;show _=w_ (SH (l.map (·.1)) (i+1),((i+1:Nat):Int),());rw[Ib (nm:=(·.1)) a,aB a (by omega)]
  ·rw[if_neg e,if_neg e];exact aa rfl
 ·unfold lC;exact aT (aa rfl)
 by_cases e:jR E l.length=0;·rw[if_pos e];refine aa ?_;rw[e]
 ·rw[if_neg e];exact aa rfl
theorem Su(s:PS)(hs:okD yS s)(p:K1)(hp:okD yO p)(i:Nat)(d:i<p.2.1.length):aC tbl vR [.d yS s,.d yO p,.d tI (i:Int)] [] dv (jg s (p.2.1.take i) p.2.1[i],()):=by
 refine ap rfl (aA T1 rfl (λO n=>bI (HW O n s p (i:Int))) ?_);unfold HW;refine aF d ?_;have y:okD yT p.2.1[i]:=hp.2.1.2 _ (b_ d);have z:(p.2.1.take i).length<=9223372036854775807:=by have:p.2.1.length<=9223372036854775807:=hp.2.1.1;grind
 have v:(p.2.1.take (z_ (i:Int))).drop 0=p.2.1.take i:=by simp
 generalize p.2.1[i]=t at y;have x:∀m∈t.2.1,hU m.2.2.2.1.1:=λm x=>((y.2.1.2 m x).2.2.2.1).1;refine aj (HN t.1 y.1) (ao (λh=>aa ?_) λh=>?_);·rw[show jg s (p.2.1.take i) t=1 from if_pos (by grind)]
 have hn:¬mQ t.1=false:=by grind
 refine aD (decide_eq_true (by simp)) (aD (by grind) ?_);unfold DL;rw[v];generalize D:p.2.1.take i=a at z;refine ae (m8 (xs:=a) (p:=(·.1==t.1)) (enc:=λi=>((i:Int),t.1,t.2.1,t.2.2.1,t.2.2.2.1,())) (g:=λ_=>((7:Int),())) (e:=(t.1,t.2.1,t.2.2.1,t.2.2.2.1,())) (λj w=>?_) ?_ ?_)
 ·refine a6 w (aF w (ao (λh=>aa ?_) λh=>aa ?_));·grind
  ·rw[if_neg (by grind),aB w z]
 ·exact aT (aa rfl)
 have c:a.any (·.1==t.1)=(a.find? (·.1==t.1)).isSome:=Ia;cases e:a.find? (·.1==t.1)with
 |some r=>rw[e]at c;have c:a.any (·.1==t.1)=true:=c;refine aa ?_;rw[show jg s a t=7 from by unfold jg;grind]|none=>
  rw[e]at c;have C:¬a.any (·.1==t.1)=true:=by grind
  refine ao (λh=>aa ?_) λh=>?_;·have h:decide ((t.2.1.length:Int)>64)=true:=h;rw[show jg s a t=4 from by unfold jg;grind]
  have h:decide ((t.2.1.length:Int)>64)=false:=h;have A:¬t.2.1.length>64:=by grind
  refine ae (mg (l:=t.2.1) (f:=xD s) (enc:=λi=>((i:Int),t.1,t.2.1,t.2.2.1,t.2.2.2.1,())) (oB:=λe=>(e,())) (oE:=(t.1,t.2.1,t.2.2.1,t.2.2.2.1,())) (λi d=>?_) ?_ ?_)
  ·unfold wz;refine a6 d (aF d (aj (Pf s _ hs (x _ (b_ d))) (ao (λh=>aa ?_) λh=>aa ?_)));·grind
   ·rw[if_pos (by grind),aB d (by omega)]
  ·unfold wz;exact aT (aa rfl)
  by_cases k:bS (xD s) t.2.1=0
  ·rw[if_pos k];refine ao (λh=>aa ?_) λh=>?_;·have h:decide ((t.2.2.1.length:Int)>64)=true:=h;rw[show jg s a t=4 from by unfold jg;grind]
   have h:decide ((t.2.2.1.length:Int)>64)=false:=h;have B:¬t.2.2.1.length>64:=by grind
   refine ae (mg (l:=t.2.2.1) (f:=jl) (enc:=λi=>((i:Int),t.1,t.2.1,t.2.2.1,t.2.2.2.1,())) (oB:=λe=>(e,())) (oE:=(t.1,t.2.1,t.2.2.1,t.2.2.2.1,())) (λi d=>?_) ?_ ?_)
   ·unfold wA;refine a6 d (aF d (aj (Dp _) (ao (λh=>aa ?_) λh=>aa ?_)));·grind
    ·rw[if_pos (by grind),aB d (by omega)]
   ·unfold wA;exact aT (aa rfl)
   by_cases u:bS jl t.2.2.1=0
   ·rw[if_pos u];refine ae (bb (b:=(t.2.2.2.1 != 2)) (λ_=>aa rfl) (ae (bb (b:=(t.2.2.2.1 != 3)) (λ_=>aa rfl) (ao (λh=>aa ?_) λh=>aa ?_))));·have h:((t.2.2.2.1 != 1&&t.2.2.2.1 != 2)&&t.2.2.2.1 != 3)=true:=h;rw[show jg s a t=15 from by unfold jg;grind]
    ·have h:((t.2.2.2.1 != 1&&t.2.2.2.1 != 2)&&t.2.2.2.1 != 3)=false:=h;rw[show jg s a t=0 from by unfold jg;rw[if_neg hn,if_neg C,if_neg A,if_neg (not_not_intro k),if_neg B,if_neg (not_not_intro u),if_neg (by simp at h;omega)]]
   ·rw[if_neg u];refine aa ?_;rw[show jg s a t=bS jl t.2.2.1 from by unfold jg;grind]
  ·rw[if_neg k];refine aa ?_;rw[show jg s a t=bS (xD s) t.2.1 from by unfold jg;grind]
theorem F3(s:PS)(hs:SmP s):aC tbl kV [.d yS s] [] cI (sU gv s,()):=by
 refine ap rfl (aA QO rfl (λO n=>bI (Gq O n s)) ?_);unfold Gq;have a:=hs.ok;have y:=JE s.1 (λx d=>(a.1.2 x d).1) (λx d r hr=>((a.1.2 x d).2.1.2 r hr).2.1.1);have z:=Pg s.2.1 (λx d=>(a.2.1.2 x d).1) (λx d r hr=>hs.pt x d r hr);have A:=Fu s.2.2.1 (λx d=>(a.2.2.1.2 x d).1) (λ_ _=>trivial);generalize Q:gW (·.1) (λl=>l.2.1.length) (λl=>bS mR l.2.1) s.1=F at y;generalize R:gW (·.1) (λl=>l.2.1.length) (λl=>bS (λr=>gv r.2.1) l.2.1) s.2.1=H at z;generalize T:gW (·.1) (λl=>l.2.1.length) (λl=>bS oO l.2.1) s.2.2.1=I at A;generalize B:gW (·.1) (λp=>p.2.1.length) (vn s) s.2.2.2.1=M;have hp:sU gv s=if F≠0 then F else if H≠0 then H else if I≠0 then I else M:=by unfold sU;omega
 rw[hp];refine aj y (ao (λh=>aa ?_) λh=>aj z (ao (λh'=>aa ?_) λh'=>aj A (ao (λk=>aa ?_) λk=>?_)));·grind
 ·grind
 ·grind
 rw[if_neg (by grind),if_neg (by grind),if_neg (by grind)];clear y z A h h' k;generalize hl:s.2.2.2.1=l at B;refine ao (λh=>aa ?_) λh=>?_;·rw[<-B,show gW (·.1) (λp=>p.2.1.length) (vn s) l=4 from if_pos (by grind)]
 have v:¬l.length>64:=by grind
 rw[<-B,show gW (·.1) (λp=>p.2.1.length) (vn s) l=jR (LY (·.1) (λp=>p.2.1.length) (vn s) l) l.length from if_neg v];have L:s.2.2.2.1=l:=hl;have C:∀p∈l,okD yO p:=λp hp=>by rw[<-hl]at hp;exact a.2.2.2.1.2 p hp
 generalize P:LY (·.1) (λp=>p.2.1.length) (vn s) l=E;refine ae (ot (N:=l.length) (f:=E) (enc:=λi=>(SH (l.map (·.1)) i,(i:Int),())) (oB:=λe=>(e,())) (oE:=()) (λi g=>?_) ?_ ?_)
 ·unfold uI;rw[L];have J:E i=if BN l[i].1 (SH (l.map (·.1)) i) ((i:Int)==0) l[i].2.1.length=0 then vn s l[i]else BN l[i].1 (SH (l.map (·.1)) i) ((i:Int)==0) l[i].2.1.length:=by rw[<-P];exact Ms g
  have c:=C _ (b_ g);refine a6 g (aF g (aj (qv _ _ _ _ c.1) (ao (λh=>aa ?_) λh=>?_)));·grind
  rw[if_pos (by grind)]at J;rw[J,zbw];have u:=Ib (nm:=λp:K1=>p.1) g;generalize l[i]=p at c u;have D:p.2.1.length<=9223372036854775807:=c.2.1.1;refine ae (ot (N:=p.2.1.length) (f:=Xy s p.2.1) (enc:=λi=>((i:Int),p.1,p.2.1,p.2.2.1,())) (oB:=λe=>(e,())) (oE:=(p.1,p.2.1,p.2.2.1,())) (λj w=>?_) ?_ ?_)
  ·unfold uH;refine a6 w (aj (Su s a p c j w) ?_);rw[<-Xz w];refine ao (λh=>aa ?_) λh=>aa ?_;·grind
   ·rw[if_pos (by grind),aB w D]
  ·unfold uH;exact aT (aa rfl)
  by_cases e:jR (Xy s p.2.1) p.2.1.length=0
  ·rw[if_pos e,if_neg (not_not_intro e)];refine ae (bb (b:=(p.2.2.1 != 2)) (λ_=>aa rfl) (ao (λh=>aa ?_) λh=>aa ?_));·grind
   ·rw[if_neg (show ¬(p.2.2.1≠1/\p.2.2.1≠2) by grind),if_pos rfl];show _=w_ (SH (l.map (·.1)) (i+1),((i+1:Nat):Int),());rw[u,aB g (by omega)]
  ·rw[if_neg e,if_pos e,if_neg e];exact aa rfl
 ·unfold uI;rw[L];exact aT (aa rfl)
 by_cases e:jR E l.length=0;·rw[if_pos e];refine aa ?_;rw[e]
 ·rw[if_neg e];exact aa rfl
abbrev XG:K1:=([],[],0,())
theorem HM(s:PS)(n:List UInt8)(hl:s.2.2.2.1.length<=9223372036854775807):aC tbl qV [.d yS s,.d tS n] [] kC ((vj s n).getD XG,(vj s n).isSome,()):=by
 refine ap rfl (aA TZ rfl (λO k=>bI (HU O k s n)) ?_);unfold HU;refine ae (m8 (xs:=s.2.2.2.1) (p:=(·.1==n)) (enc:=λi=>((i:Int),([]:List UInt8),(0:Int),())) (g:=λx=>(true,x.1,x.2.1,x.2.2.1,())) (e:=(([]:List UInt8),(0:Int),())) (λi a=>?_) ?_ ?_)
 ·unfold wx;refine a6 a (aF a (ao (λh=>aa ?_) λh=>aa ?_));·grind
  ·rw[if_neg (by grind),aB a hl]
 ·unfold wx;exact aT (aa rfl)
 ·unfold vj;cases s.2.2.2.1.find? (·.1==n)with|some r=>exact aa rfl|none=>exact aa rfl
theorem F0(s:PS)(n:List UInt8)(d:PolOk gv s):aC tbl kS [.d yS s,.d tS n] [] gC ((vj s n).getD XG,(vj s n).isSome,()):=by
 have hl:=d.l4;refine ap rfl (aA QD rfl (λO k=>bI (Ge O k s n)) ?_);unfold Ge;refine ae (m8 (xs:=s.2.2.2.1) (p:=(·.1==n)) (enc:=λi=>((i:Int),([]:List UInt8),(0:Int),())) (g:=λx=>(true,x.1,x.2.1,x.2.2.1,())) (e:=(([]:List UInt8),(0:Int),())) (λi c=>?_) ?_ ?_)
 ·unfold uD;refine a6 c (aF c (ao (λh=>aa ?_) λh=>?_));·rw[if_neg (by grind),aB c (by omega)]
  have hp:=d.r4 _ (b_ c);have h:(s.2.2.2.1[i].1==n)=true:=by grind
  rw[if_pos h];generalize s.2.2.2.1[i]=p at hp;have f:=hp.tl;refine ae (a8 (N:=p.2.1.length) (I:=λj t=>t=((j:Int),([]:List UInt8),(0:Int),p.1,p.2.2.1,p.2.1.take j,())) rfl (λj t b a=>?_) λt a=>?_)
  ·subst a;unfold uC;have a:=hp.tr _ (b_ b);have l:=a.ml;have u:=a.al;refine a6 b (aF b (aD (decide_eq_true (by grind)) (aD (decide_eq_true (by grind)) (aD ?_ (aa ?_)))));·grind
   ·show(a_ .i64 ((j:Int)+1),([]:List UInt8),(0:Int),p.1,p.2.2.1,p.2.1.take j++[p.2.1[j]],())=_;rw[aB b (by omega),List.take_append_getElem b]
  ·subst a;unfold uC;refine aT (aa (aa ?_));simp
 ·unfold uD;exact aT (aa rfl)
 ·unfold vj;cases s.2.2.2.1.find? (·.1==n)with|some r=>exact aa rfl|none=>exact aa rfl
end Go.Proofs.YtmfolppncelceaaGreatDoor
namespace Go.Cm
def insGo(x:Int):List Int->Bool->List Int
 |[],d=>if d then []else [x]
 |y::r,d=>(if !d&&decide (x<=y)then [x]else [])++((if y != x then [y]else [])++insGo x r (d||decide (x<=y)))
abbrev ins(x:Int)(l:List Int):List Int:=insGo x l false
def asc(l:List Int):List Int:=l.foldl (λo x=>ins x o) []
abbrev Up(l:List Int):Prop:=l.Pairwise (·<·)
theorem Ke(x z:Int):∀(l:List Int) (d:Bool),z∈insGo x l d↔(z∈l/\z≠x)\/(d=false/\z=x)
 |[],d=>by cases d<;>simp[insGo]
 |y::r,d=>by have:=Ke x z r (d||decide (x<=y));grind [insGo]
theorem zbo(x z:Int)(l:List Int):z∈ins x l↔z∈l\/z=x:=by have:=Ke x z l false;grind
theorem ziO:∀(a b:List Int),Up a->Up b->(∀z,z∈a↔z∈b)->a=b
 |[],[],_,_,_=>rfl
 |[],y::b,_,_,h=>by have:=h y;simp at this
 |y::b,[],_,_,h=>by have:=h y;simp at this
 |x::a,y::b,c,d,h=>by
  have f:=(h x).1 (by simp);have g:=(h y).2 (by simp);unfold Up at c d;rw[Q_]at c d;have e:x=y:=by grind
  subst e;rw[ziO a b c.2 d.2];grind
theorem RH(x:Int):∀(l:List Int) (d:Bool),(insGo x l d).length<=l.length+(if d then 0 else 1)
 |[],d=>by cases d<;>simp[insGo]
 |y::r,d=>by have:=RH x r (d||decide (x<=y));grind [insGo]
theorem len_ins(x:Int)(l:List Int):(ins x l).length<=l.length+1:=RH x l false
theorem XA(x:Int):∀(l:List Int) (d:Bool),Up l->(d=true->∀z∈l,x<=z)->Up (insGo x l d)
 |[],d,_,_=>by cases d<;>simp[insGo]
 |y::r,d,hl,hd=>by unfold Up at hl⊢;rw[Q_]at hl;have b:=XA x r (d||decide (x<=y)) hl.2 (by grind);have a:=λz=>Ke x z r (d||decide (x<=y));simp only[insGo,C_];grind [List.Pairwise.nil]
theorem zfn(x:Int)(l:List Int)(h:Up l):Up (ins x l):=XA x l false h (by simp)
theorem fold_ins:∀(l o:List Int),Up o->Up (l.foldl (λo x=>ins x o) o)/\(∀z,z∈l.foldl (λo x=>ins x o) o↔z∈o\/z∈l)/\(l.foldl (λo x=>ins x o) o).length<=o.length+l.length
 |[],o,h=>⟨h,by simp,by simp⟩
 |x::l,o,h=>by
  have⟨a,b,d⟩:=fold_ins l (ins x o) (zfn x o h);have:=len_ins x o;have c:=λz=>zbo x z o;refine⟨a,λz=>?_,?_⟩;·rw[X_,b,c];grind
  ·rw[X_];grind
theorem zfm(l:List Int):Up (asc l):=(fold_ins l [] List.Pairwise.nil).1
theorem zgq(l:List Int)(z:Int):z∈asc l↔z∈l:=by have:=(fold_ins l [] List.Pairwise.nil).2.1 z;simpa[asc]using this
theorem len_asc(l:List Int):(asc l).length<=l.length:=by have:=(fold_ins l [] List.Pairwise.nil).2.2;simpa[asc]using this
theorem zdB{l o:List Int}(h:Up o)(a:∀z,z∈o↔z∈l):o=asc l:=ziO _ _ h (zfm l) (by grind [zgq])
theorem zgf(x:Int)(l:List Int):ins x (asc l)=asc (asc l++[x]):=zdB (zfn x _ (zfm l)) (by intro z;rw[zbo];simp)
theorem insGo_step(x:Int)(l:List Int)(k:Nat)(d:Bool)(h:k<l.length):insGo x (l.drop k) d=(if !d&&decide (x<=l.getD k 0)then [x]else [])++((if l.getD k 0 != x then [l.getD k 0]else [])++insGo x (l.drop (k+1)) (d||decide (x<=l.getD k 0))):=by
 have e:l.getD k 0=l[k]:=by simp[A_,c_ h]
 rw[e,i_ h];rfl
theorem xx{l:List Int}{k:Nat}(h:k<l.length):l.take (k+1)=l.take k++[l.getD k 0]:=by
 have e:l.getD k 0=l[k]:=by simp[A_,c_ h]
 rw[d_ h,e]
def left(l a:List Int):Nat:=l.countP λz=>a.all (λy=>decide (y<z))
theorem left_step{l a:List Int}{b:Int}(c:b∈l)(f:∀y∈a,y<b):left l (a++[b])+1<=left l a:=by
 unfold left;induction l with
 |nil=>simp at c|cons z l n=>
  rw[V_,V_];have j:l.countP (λz=>(a++[b]).all λy=>decide (y<z))<=l.countP (λz=>a.all λy=>decide (y<z)):=by apply List.countP_mono_left;intro z _ h;simp only[J_,x_]at h;exact h.1
  by_cases e:z=b
  ·subst e;have g:((a++[z]).all λy=>decide (y<z))=false:=by simp
   have k:(a.all λy=>decide (y<z))=true:=by simpa using f
   rw[g,k];simp only[p_,if_false,if_true];omega
  ·have d:b∈l:=by simp at c;rcases c with h|h;exact absurd h.symm e;exact h
   have p:=n d;have g:(if((a++[b]).all λy=>decide (y<z))=true then 1 else 0)<=(if(a.all λy=>decide (y<z))=true then 1 else 0):=by
    split;·rename_i h;simp only[J_,x_]at h;rw[if_pos h.1];exact o_ 1
    ·exact h_ _
   omega
structure Best(l out:List Int)(k:Nat)(found:Bool)(best:Int):Prop where
 yes:found=true->best∈l/\(∀y∈out,y<best)
 least:∀z∈l.take k,(∀y∈out,y<z)->found=true/\best<=z
structure Out(l out:List Int):Prop where
 up:Up out
 sub:∀z∈out,z∈l
 all:∀z∈l,z∈out\/∀y∈out,y<z
 len:out.length+left l out<=l.length
theorem Out.zero(l:List Int):Out l []:=⟨List.Pairwise.nil,by simp,by simp,by simp[left]⟩
theorem Out.step{l E:List Int}{b:Int}(h:Out l E)(J:Best l E l.length true b):Out l (E++[b]):=by
 obtain⟨R,U⟩:=J.yes rfl;have hl:=left_step R U;have H:=J.least;rw[k_]at H;refine⟨?_,?_,λz N=>?_,?_⟩;·have:=h.up;unfold Up at this⊢;rw[C_];grind
 ·have:=h.sub;grind
 ·rcases h.all z N with I|I;·grind
  ·have:=(H z N I).2;by_cases e:z=b;·left;simp[e]
   ·right;grind
 ·have:=h.len;simp;omega
theorem Out.outDone{l E:List Int}{b:Int}(h:Out l E)(N:Best l E l.length false b):E=asc l:=by
 refine zdB h.up λz=>⟨h.sub z,λJ=>?_⟩;have I:=N.least;rw[k_]at I;rcases h.all z J with H|H;·exact H
 ·have:=(I z J H).1;cases this
theorem last_gt{a:List Int}(h:Up a)(b:a≠[])(z:Int):(∀y∈a,y<z)↔a.getD (a.length - 1) 0<z:=by
 have hl:a.length - 1<a.length:=by have:=D_.2 b;omega
 have e:a.getD (a.length - 1) 0=a[a.length - 1]:=by simp[A_,c_ hl]
 rw[e];refine⟨λh=>h _ (b_ hl),λf y d=>?_⟩;obtain⟨i,c,rfl⟩:=List.getElem_of_mem d;unfold Up at h;rw[E_]at h;by_cases e:i=a.length - 1;·subst e;exact f
 ·have:=h i (a.length - 1) c hl (by omega);omega
theorem Best.zero(l z:List Int)(b:Int):Best l z 0 false b:=⟨by simp,by simp⟩
theorem Best.take{l E:List Int}{k:Nat}{f:Bool}{b:Int}(h:Best l E k f b)(H:k<l.length)(I:∀y∈E,y<l.getD k 0)(R:f=false\/l.getD k 0<b):Best l E (k+1) true (l.getD k 0):=by
 have e:l.getD k 0=l[k]:=by simp[A_,c_ H]
 have J:l.getD k 0∈l:=by rw[e];exact b_ H
 refine⟨λ_=>⟨J,I⟩,λz N hg=>⟨rfl,?_⟩⟩;rw[xx H]at N;have:=h.least z;grind
theorem Best.skip{l E:List Int}{k:Nat}{f:Bool}{b:Int}(h:Best l E k f b)(H:k<l.length)(J:(∀y∈E,y<l.getD k 0)->f=true/\b<=l.getD k 0):Best l E (k+1) f b:=by refine⟨h.yes,λz I hg=>?_⟩;rw[xx H]at I;have:=h.least z;grind
theorem up_take{l:List Int}{k:Nat}(h:Up (l.take k))(j:k<l.length)(c:k=0\/l.getD (k - 1) 0<l.getD k 0):Up (l.take (k+1)):=by
 rw[xx j];by_cases e:l.take k=[];·rw[e];simp
 ·have:=(last_gt h e (l.getD k 0)).2 ?_;·unfold Up at h⊢;rw[C_];refine⟨h,by simp,λa g b f=>?_⟩;simp only[List.mem_singleton]at f;rw[f];exact this a g
  ·have d:k≠0:=by intro h;subst h;simp at e
   have:(l.take k).getD ((l.take k).length - 1) 0=l.getD (k - 1) 0:=by simp only[A_,n_,List.getElem?_take];rw[show min k l.length=k by omega,if_pos (by omega)]
   rw[this];rcases c with c|c;·exact absurd c d
   ·exact c
theorem not_up{l:List Int}{k:Nat}(a:k<l.length)(d:0<k)(e:l.getD k 0<=l.getD (k - 1) 0):¬Up l:=by
 intro h;unfold Up at h;rw[E_]at h;have:=h (k - 1) k (by omega) a (by omega);have b:l.getD k 0=l[k]:=by simp[A_,c_ a]
 have c:l.getD (k - 1) 0=l[k - 1]:=by simp[A_,c_ (show k - 1<l.length by omega)]
 omega
def check(l:List Int):Int:=if 255<l.length then 4 else if Up l then 0 else 16
theorem check_long{l:List Int}(h:255<l.length):check l=4:=by unfold check;rw[if_pos h]
theorem check_up{l:List Int}(h:¬255<l.length)(a:Up l):check l=0:=by unfold check;rw[if_neg h,if_pos a]
theorem check_not{l:List Int}(h:¬255<l.length)(a:¬Up l):check l=16:=by unfold check;rw[if_neg h,if_neg a]
def add(l:List Int)(c:Int):List Int:=if 255<=(asc l).length/\c∉asc l then asc l else ins c (asc l)
def drop(l:List Int)(c:Int):List Int:=(asc l).filter (λx=>x != c)
theorem add_eq(l:List Int)(c:Int):ins c (asc l)=asc (asc l++[c]):=zgf c l
end Go.Cm
namespace Go.Pl
open Go Go.Av Go.Ev
abbrev oL:Type:=G2×(Int×(Int×(List Int×(List Int×(Int×(Int×(Int×(Int×Unit))))))))
abbrev Rb:Ty:=pr [yP,tI,tW,.list tI,.list tW,tI,tI,tI,tI]
abbrev zc6:oL:=((0,0,()),0,0,[],[],0,0,0,0,())
abbrev zM(x:Int):Prop:=0<=x/\x<=4294967295
def B5(r:oL):Int:=
 if dE r.1=false then 1
 else if r.2.1<1\/7<r.2.1 then 5
 else if r.2.2.2.1.length>2000 then 4
 else if ¬∀v∈r.2.2.2.1,1<=v/\v<=4294967295 then 5
 else if Cm.check r.2.2.2.2.1≠0 then Cm.check r.2.2.2.2.1
 else if ¬(zM r.2.2.2.2.2.1/\zM r.2.2.2.2.2.2.1/\zM r.2.2.2.2.2.2.2.2.1)\/r.2.2.2.2.2.2.2.1<0\/16777216<r.2.2.2.2.2.2.2.1 then 5 else 0
def zjg(a:Dj):oL->oL
 |(p,po,nh,pt,cm,pf,md,mt,tg,u)=>
  if a.1=1 then(p,po,nh,pt,cm,a.2.1,md,mt,tg,u)
  else if a.1=2 then(p,po,nh,pt,cm,pf,a.2.1,mt,tg,u)
  else if a.1=3 then(p,po,nh,pt,cm,pf,md,a.2.1,tg,u)
  else if a.1=4 then(p,po,nh,pt,cm,pf,md,mt,a.2.1,u)
  else if a.1=5 then(p,po,a.2.2.2.2.1,pt,cm,pf,md,mt,tg,u)
  else if a.1=6 then(p,po,nh,pt,Cm.add cm a.2.2.2.1,pf,md,mt,tg,u)
  else if a.1=7 then(p,po,nh,pt,Cm.drop cm a.2.2.2.1,pf,md,mt,tg,u)
  else if(pt.length:Int)+a.2.1<=2000 then(p,po,nh,g_ a.2.1.toNat a.2.2.1++pt,cm,pf,md,mt,tg,u)
  else(p,po,nh,pt,cm,pf,md,mt,tg,u)
def MW(a:Dj)(r:oL):oL:=if jl a=0 then zjg a r else r
def JH(l:List Dj)(r:oL):oL:=l.foldl (λr a=>MW a r) r
def ji(hold:GL->Bool):List GL->Nat->Int->List Int×List Dj×Int
 |[],_,d=>([],[],d)
 |t::l,i,d=>if hold t then(if t.2.2.2.1≠3 then([(i:Int)],t.2.2.1,t.2.2.2.1)else((i:Int)::(ji hold l (i+1) d).1,t.2.2.1++(ji hold l (i+1) d).2.1,(ji hold l (i+1) d).2.2))else ji hold l (i+1) d
structure SmR(k:Nat)(r:oL):Prop where
 pt:r.2.2.2.1.length<=100000
 cm:r.2.2.2.2.1.length<=k
theorem zgk(l:List Int)(c:Int):(Cm.add l c).length<=l.length+1:=by have a:=Cm.len_asc l;have b:=Cm.len_ins c (Cm.asc l);unfold Cm.add;grind
theorem zed(l:List Int)(c:Int):(Cm.drop l c).length<=l.length:=by have a:=Cm.len_asc l;unfold Cm.drop;grind
theorem zhl{a:Dj}(s:jl a=0){k:Nat}{r:oL}(h:SmR k r):SmR (k+1) (zjg a r):=by
 obtain⟨p,po,nh,pt,cm,pf,md,mt,tg,u⟩:=r;obtain⟨e,f⟩:=h;simp only at e f;have l:=zgk cm a.2.2.2.1;have n:=zed cm a.2.2.2.1;have j:(Cm.add cm a.2.2.2.1).length<=k+1:=by omega
 have g:∀(p:G2) (po nh:Int) (d c:List Int) (t:Int×Int×Int×Int×Unit),d.length<=100000->c.length<=k+1->SmR (k+1) (p,po,nh,d,c,t):=λ_ _ _ _ _ _ a b=>⟨a,b⟩;simp only[zjg];split;·grind
 split;·grind
 split;·grind
 split;·grind
 split;·grind
 split;·grind
 split;all_goals grind
theorem zfQ{a:Dj}{k:Nat}{r:oL}(h:SmR k r):SmR (k+1) (MW a r):=by
 unfold MW;split;·rename_i b;exact zhl b h
 ·exact⟨h.pt,by have:=h.cm;omega⟩
theorem SE{l:List Dj}:∀{k:Nat} {r:oL},SmR k r->SmR (k+l.length) (JH l r):=by induction l with|nil=>intro k r h;exact h|cons a l b=>intro k r h;have:=b (zfQ (a:=a) h);unfold JH at this⊢;grind
theorem wj{hold:GL->Bool}:∀{l:List GL} {i:Nat} {d:Int},(∀t∈l,t.2.2.1.length<=64)->(ji hold l i d).1.length<=l.length/\(ji hold l i d).2.1.length<=64*l.length
 |[],_,_,_=>⟨o_ _,o_ _⟩
 |t::l,i,d,h=>by have c:=wj (hold:=hold) (l:=l) (i:=i+1) (d:=d) λx b=>h x (by grind);have a:=h t (by simp);unfold ji;grind
abbrev zfg(a:Dj):PS:=([],[],[],[([112],[([116],[],[a],1,())],1,())],())
theorem zh3(pe:List UInt8->Int)(a:Dj):sU pe (zfg a)=jl a:=by
 have g:∀s:PS,jg s [] (([116],[],[a],1,()):GL)=jl a:=λs=>by
  have b:bS (xD s) ([]:List MAT)=0:=rfl;have c:bS jl [a]=jl a:=by show(if jl a=0 then 0 else jl a)=jl a;omega
  unfold jg;rw[if_neg (by show ¬mQ [116]=false;decide),if_neg (by simp),if_neg (by simp),b,if_neg (λh=>h rfl),if_neg (by simp),c];grind
 have f:∀s:PS,vn s (([112],[([116],[],[a],1,())],1,()):K1)=jl a:=λs=>by
  have e:jR (λi=>match([([116],[],[a],1,())]:List GL)[i]? with|some t=>jg s (([([116],[],[a],1,())]:List GL).take i) t|none=>0) 1=jl a:=by show(if jg s [] (([116],[],[a],1,()):GL)=0 then 0 else jg s [] (([116],[],[a],1,()):GL))=jl a;grind
  unfold vn;grind
 have l4:∀s:PS,gW (·.1) (λp=>p.2.1.length) (vn s) ([([112],[([116],[],[a],1,())],1,())]:List K1)=jl a:=λs=>by
  have d:LY (·.1) (λp=>p.2.1.length) (vn s) ([([112],[([116],[],[a],1,())],1,())]:List K1) 0=jl a:=by
   unfold LY;rw[if_neg (show ¬(wb (([([112],[([116],[],[a],1,())],1,())]:List K1).map (·.1)) 0≠0) by show ¬(wb [[112]] 0≠0);decide)]
   grind
  unfold gW;rw[if_neg (by simp)];show(if LY (·.1) (λp=>p.2.1.length) (vn s) ([([112],[([116],[],[a],1,())],1,())]:List K1) 0=0 then 0 else LY (·.1) (λp=>p.2.1.length) (vn s) ([([112],[([116],[],[a],1,())],1,())]:List K1) 0)=jl a;omega
 unfold sU;have j:∀{α:Type} (nm:α->List UInt8) (sz:α->Nat) (ck:α->Int),gW nm sz ck []=0:=λ_ _ _=>rfl;grind
end Go.Pl
namespace Go.Proofs.YtmfolppncelceaaGreatDoor
open Go Go.Av Go.Ev
abbrev UZ:Type:=Bool×(Int×(Int×Unit))
def fits(r:UZ)(c:Int):Bool:=
 ((r.2.1==(-1:Int))||(r.2.1==a_ .i64 (Int.fdiv c (2^(min (z_ (16:Int)) (ac_ .u32))))))&&
 ((r.2.2.1==(-1:Int))||(r.2.2.1==a_ .i64 (r6 .u32 .and c (65535:Int))))
def xi(r:UZ)(l:List Int):Bool:=(l.find? (fits r)).isSome
def uj(a:List UZ)(l:List Int):Bool:=match a.find? (λr=>xi r l)with
 |some r=>r.1
 |none=>false
theorem NZ(r:UZ)(c:Int){β:Type}{k:Nat->Bool->Option β}{Q:β->Prop}(a:Wp (λn=>k n (fits r c)) Q):Wp (λn=>e_ (bif (r.2.1==(-1:Int))then some (true)else aG (decide (0<=(16:Int))) (let b:=a_ .i64 (Int.fdiv c (2^(min (z_ (16:Int)) (ac_ .u32))));some ((r.2.1==b)))) λd=>e_ (bif d then e_ (bif (r.2.2.1==(-1:Int))then some (true)else some ((r.2.2.1==a_ .i64 (r6 .u32 .and c (65535:Int))))) λe=>some (e) else some (false)) λf=>k n f) Q:=by refine ae (bn (λ_=>aD rfl (aa rfl)) ?_);refine ae (bb (λ_=>ae (bn (λ_=>aa rfl) (aa rfl))) ?_);exact a
theorem HI(r:UZ)(l:List Int)(hl:l.length<=9223372036854775807):aC tbl lX [.d (pr [tB,tI,tI]) r,.d (.list tW) l] [] fv (xi r l,()):=by
 refine ap rfl (aA Jc rfl (λO n=>bI (xM O n r l)) ?_);unfold xM;refine ae (yt (xs:=l) (p:=fits r) (g:=λ_=>((true,()):Bool×Unit)) (e:=()) (λi x a=>?_) ?_ ?_)
 ·unfold nL;have b:=(l_.1 a).1;refine ao (λ_=>?_) (λh=>absurd h (by simp;omega));refine jh (by simp) (by simpa using a) ?_;refine NZ r x ?_;cases fits r x;·exact aa (by simp only[p_,if_false];rw[aB b hl])
  ·exact aa rfl
 ·unfold nL;exact ao (λh=>absurd h (by simp)) λ_=>aa rfl
 ·unfold xi;cases l.find? (fits r);·exact aa rfl
  ·exact aa rfl
theorem Fq(a:List UZ)(l:List Int)(hr:a.length<=9223372036854775807)(hl:l.length<=9223372036854775807):aC tbl jp [.d (.list (pr [tB,tI,tI])) a,.d (.list tW) l] [] d4 (uj a l,()):=by
 refine ap rfl (aA FL rfl (λO n=>bI (vz O n a l)) ?_);unfold vz;refine ae (yt (xs:=a) (p:=λr=>xi r l) (g:=λr=>((r.1,()):Bool×Unit)) (e:=()) (λi x b=>?_) ?_ ?_)
 ·unfold lx;have c:=(l_.1 b).1;refine ao (λ_=>?_) (λh=>absurd h (by simp;omega));refine jh (by simp) (by simpa using b) ?_;refine aj (HI x l hl) ?_;cases h:xi x l;·exact aa (by simp only[p_,if_false];rw[aB c hr])
  ·exact aa rfl
 ·unfold lx;exact ao (λh=>absurd h (by simp)) λ_=>aa rfl
 ·unfold uj;cases a.find? (λr=>xi r l);·exact aa rfl
  ·exact aa rfl
theorem Pd(r:UZ)(l:List Int)(hl:l.length<=9223372036854775807):aC tbl tk [.d (pr [tB,tI,tI]) r,.d (.list tW) l] [] lc (xi r l,()):=by
 refine ap rfl (aA QL rfl (λO n=>bI (Gm O n r l)) ?_);unfold Gm;refine ae (yt (xs:=l) (p:=fits r) (g:=λ_=>((true,()):Bool×Unit)) (e:=()) (λi x a=>?_) ?_ ?_)
 ·unfold uG;have b:=(l_.1 a).1;refine ao (λ_=>?_) (λh=>absurd h (by simp;omega));refine jh (by simp) (by simpa using a) ?_;refine NZ r x ?_;cases fits r x;·exact aa (by simp only[p_,if_false];rw[aB b hl])
  ·exact aa rfl
 ·unfold uG;exact ao (λh=>absurd h (by simp)) λ_=>aa rfl
 ·unfold xi;cases l.find? (fits r);·exact aa rfl
  ·exact aa rfl
theorem Ck(a:List UZ)(l:List Int)(hr:a.length<=9223372036854775807)(hl:l.length<=9223372036854775807):aC tbl pw [.d (.list (pr [tB,tI,tI])) a,.d (.list tW) l] [] iw (uj a l,()):=by
 refine ap rfl (aA Mf rfl (λO n=>bI (Cz O n a l)) ?_);unfold Cz;refine ae (yt (xs:=a) (p:=λr=>xi r l) (g:=λr=>((r.1,()):Bool×Unit)) (e:=()) (λi x b=>?_) ?_ ?_)
 ·unfold qL;have c:=(l_.1 b).1;refine ao (λ_=>?_) (λh=>absurd h (by simp;omega));refine jh (by simp) (by simpa using b) ?_;refine aj (Pd x l hl) ?_;cases h:xi x l;·exact aa (by simp only[p_,if_false];rw[aB c hr])
  ·exact aa rfl
 ·unfold qL;exact ao (λh=>absurd h (by simp)) λ_=>aa rfl
 ·unfold uj;cases a.find? (λr=>xi r l);·exact aa rfl
  ·exact aa rfl
theorem rC{l:List Int}{k:Nat}(h:k<l.length):l.getD k 0=l[k]:=by simp[A_,c_ h]
theorem HH(l:List Int):aC tbl lW [.d (.list tW) l] [] dS (Cm.check l,()):=by
 refine ap rfl (aA Jb rfl (λO n=>bI (xL O n l)) ?_);unfold xL;refine ao (λh=>aa ?_) λh=>?_;·rw[Cm.check_long (by grind)]
 have hl:¬255<l.length:=by grind
 refine ae (Uy (N:=l.length) (good:=λi=>i=0\/l.getD (i - 1) 0<l.getD i 0) (e:=((16:Int),())) (g:=()) (λi a=>?_) ?_ (λh=>?_) λh=>?_)
 ·unfold nK;refine a6 a (ae (bb (b:=decide (l.getD i 0<=l.getD (i - 1) 0)) (λc=>?_) (pE ?_ (by rw[aB a (by omega)]))))
  ·have c:=of_decide_eq_true c;have e:a_ .i64 ((i:Int) - 1)=((i - 1:Nat):Int):=by rw[wrap_i64 (by omega) (by omega)];omega
   rw[e];refine aF a (aF (by omega) (aa ?_));grind
  grind
 ·unfold nK;exact aT (aa rfl)
 ·refine aa ?_;have d:∀k,k<=l.length->Cm.Up (l.take k):=by intro k;induction k with|zero=>simp|succ k f=>intro j;exact Cm.up_take (f (by omega)) (by omega) (h k (by omega))
  have:=d l.length (o_ _);rw[k_]at this;rw[Cm.check_up hl this]
 ·refine aa ?_;obtain⟨i,a,hg⟩:=h;rw[Cm.check_not hl (Cm.not_up a (by omega) (by omega))]
theorem O9(l:List Int):aC tbl tj [.d (.list tW) l] [] i8 (Cm.check l,()):=by
 refine ap rfl (aA QK rfl (λO n=>bI (Gl O n l)) ?_);unfold Gl;refine ao (λh=>aa ?_) λh=>?_;·rw[Cm.check_long (by grind)]
 have hl:¬255<l.length:=by grind
 refine ae (Wp.imp (Q:=λr=>(r= .inr ()/\Cm.Up l)\/(r= .inl ((16:Int),())/\¬Cm.Up l)) (Go.Ev.wp_loop (fun(s:Int×Unit)=>∃k:Nat,s=((k:Int),())/\1<=k/\(l.length<=1\/k<=l.length)/\Cm.Up (l.take k)) (fun(s:Int×Unit)=>l.length - s.1.toNat) ⟨1,rfl,by simp,by omega,?_⟩ λs hs=>?_) λr hr=>?_);·cases l with|nil=>simp|cons x l=>simp
 ·obtain⟨k,rfl,b,c,a⟩:=hs;unfold CK;refine ao (λh=>?_) λh=>aa (.inl ⟨rfl,?_⟩)
  ·have h:k<l.length:=by grind
   have e:a_ .i64 ((k:Int) - 1)=((k - 1:Nat):Int):=by rw[wrap_i64 (by omega) (by omega)];omega
   simp only;rw[e];refine aF h (aF (by omega) (ao (λh'=>aa (.inr ⟨rfl,?_⟩)) λh'=>aa ⟨⟨k+1,?_,by simp,by omega,?_⟩,?_⟩));·have h':=of_decide_eq_true h';exact Cm.not_up h (by omega) (by grind)
   ·rw[aB h (by omega)]
   ·have h':=of_decide_eq_false h';refine Cm.up_take a h (.inr ?_);grind
   ·show l.length - (a_ .i64 ((k:Int)+1)).toNat<l.length - ((k:Int)).toNat;rw[aB h (by omega)];omega
  ·have h:¬k<l.length:=by grind
   rw[List.take_of_length_le (by omega)]at a;omega
 ·rcases hr with⟨rfl,a⟩|⟨rfl,a⟩;·refine aa ?_;rw[Cm.check_up hl a]
  ·refine aa ?_;rw[Cm.check_not hl a]
theorem UI(l:List Int)(x:Int)(hl:l.length<=2000000):aC tbl cU [.d (.list tW) l,.d tW x] [] b6 (Cm.ins x l,()):=by
 refine ap rfl (aA xF rfl (λO n=>bI (nD O n l x)) ?_);unfold nD;have D:a_ .i64 ((l.length:Int)+1)=((l.length+1:Nat):Int):=by rw[wrap_i64 (by omega) (by omega)];rfl
 refine aD (by grind) ?_;refine ae (a8 (N:=l.length) (I:=λi s=>s.2.1=(i:Int)/\s.2.2.1++Cm.insGo x (l.drop i) s.1=Cm.ins x l/\s.2.2.1.length<=i+(if s.1 then 1 else 0)) ⟨rfl,by simp,by simp⟩ (λi s k hs=>?_) λs hs=>?_)
 ·obtain⟨d,j,c,⟨⟩⟩:=s;obtain⟨g,e,u⟩:=hs;simp only at g e u;subst g;unfold gm;rw[Cm.insGo_step x l i d k,rC k]at e;have z:a_ .i64 ((i:Int)+1)=((i+1:Nat):Int):=aB k (by omega);refine a6 k (ae (aF k (ae ?_)));generalize l[i]=y at e;have a:∀(f:Bool) (o:List Int),o++((if y != x then [y]else [])++Cm.insGo x (l.drop (i+1)) f)=Cm.ins x l->o.length<=i+(if f then 1 else 0)->Wp (λ_=>bif (y != x)then aG (decide ((o.length+([y]:List Int).length)*4<=140737488355328)) (some ((f,o++([y]:List Int),())))else some ((f,o,())))
   (λA:Bool×List Int×Unit=>Wp (λ_=>some (w_ (A.1,a_ .i64 ((i:Int)+(1:Int)),A.2.1,()))) fun(r:(Bool×Int×List Int×Unit)⊕(Bool×List Int×Unit))=>match r with
    | .inl s'=>s'.2.1=((i+1:Nat):Int)/\s'.2.2.1++Cm.insGo x (l.drop (i+1)) s'.1=Cm.ins x l/\s'.2.2.1.length<=i+1+(if s'.1 then 1 else 0)
    | .inr _=>False):=λf o E B=>by
   have w:o.length<=i+1:=by grind
   refine ao (λh=>aD (decide_eq_true (by grind)) (aa (aa ⟨z,?_,?_⟩))) λh=>aa (aa ⟨z,?_,?_⟩)
   ·grind
   all_goals grind
  refine ae (bb (b:=decide (x<=y)) (λ_=>aa rfl) ?_);cases d with
  |true=>refine an rfl (aa (Wp.imp (a true c (by grind) (by omega)) λv p=>Wp.imp p λr hr=>?_));grind|false=>
   by_cases C:x<=y;·refine aE (by grind) (aD (decide_eq_true (by grind)) (aa (Wp.imp (a true (c++[x]) (by grind) (by grind)) λv p=>Wp.imp p λr hr=>?_)));grind
   ·refine an (by grind) (aa (Wp.imp (a false c (by grind) (by omega)) λv p=>Wp.imp p λr hr=>?_));grind
 ·obtain⟨d,j,c,⟨⟩⟩:=s;obtain⟨g,e,u⟩:=hs;simp only at g e u;subst g;unfold gm;refine aT (aa ?_);rw[H_]at e;cases d with|true=>refine ae (an rfl (aa (aa ?_)));rw[<-e];simp[Cm.insGo]|false=>refine ae (aE rfl (aD (decide_eq_true (by grind)) (aa (aa ?_))));rw[<-e];simp[Cm.insGo]
theorem UU(l:List Int)(hl:l.length<=2000000):aC tbl cV [.d (.list tW) l] [] b7 (Cm.asc l,()):=by
 refine ap rfl (aA xG rfl (λO n=>bI (nE O n l)) ?_);unfold nE;refine ae (a8 (N:=l.length) (I:=λi s=>s=((l.take i).foldl (λo x=>Cm.ins x o) [],(i:Int),())) rfl (λi s a hs=>?_) λs hs=>?_)
 ·subst hs;unfold gn;have b:((l.take i).foldl (λo x=>Cm.ins x o) []).length<=i:=by have:=(Cm.fold_ins (l.take i) [] List.Pairwise.nil).2.2;grind
  refine a6 a (aF a (aj (UI ((l.take i).foldl (λo x=>Cm.ins x o) []) l[i] (by omega)) (aa ?_)));show(Cm.ins l[i] ((l.take i).foldl (λo x=>Cm.ins x o) []),a_ .i64 ((i:Int)+1),())=_;rw[aB a (by omega),d_ a,v_];rfl
 ·subst hs;unfold gn;refine aT (aa (aa ?_));rw[k_];rfl
theorem AT(l:List Int)(x:Int)(hl:l.length<=9223372036854775807):aC tbl gp [.d (.list tW) l,.d tW x] [] cN (decide (x∈l),()):=by
 refine ap rfl (aA B6 rfl (λO n=>bI (qx O n l x)) ?_);unfold qx;refine ae (wg (xs:=l) (P:=λy=>y≠x) (e:=(true,())) (g:=()) (λi a=>?_) ?_ (λh=>aa ?_) λh=>aa ?_);·unfold iW;refine a6 a (aF a (pE ?_ (by rw[aB a hl])));simp
 ·unfold iW;exact aT (aa rfl)
 ·rw[decide_eq_false λb=>h x b rfl]
 ·rw[decide_eq_true (f_ λb=>h λy c e=>b (e▸c))]
theorem UN(l:List Int)(x:Int)(hl:l.length<=9223372036854775807):aC tbl x9 [.d (.list tW) l,.d tW x] [] qo (decide (x∈l),()):=by
 refine ap rfl (aA Xo rfl (λO n=>bI (KU O n l x)) ?_);unfold KU;refine ae (wg (xs:=l) (P:=λy=>y≠x) (e:=(true,())) (g:=()) (λi a=>?_) ?_ (λh=>aa ?_) λh=>aa ?_);·unfold yw;refine a6 a (aF a (pE ?_ (by rw[aB a hl])));simp
 ·unfold yw;exact aT (aa rfl)
 ·rw[decide_eq_false λb=>h x b rfl]
 ·rw[decide_eq_true (f_ λb=>h λy c e=>b (e▸c))]
theorem Lm(l:List Int)(c:Int)(hl:l.length<=1000000):aC tbl pn [.d (.list tW) l,.d tW c] [] iu (Cm.add l c,()):=by
 refine ap rfl (aA L5 rfl (λO n=>bI (Cq O n l c)) ?_);unfold Cq;have a:=Cm.len_asc l;refine aj (UU l (by omega)) (ae (bb (b:= !decide (c∈Cm.asc l)) (λ_=>aj (AT (Cm.asc l) c (by omega)) (aa rfl)) (ao (λh=>aa ?_) λh=>aj (UI (Cm.asc l) c (by omega)) (aa ?_))));·rw[show Cm.add l c=Cm.asc l from if_pos (by grind)]
 ·rw[show Cm.add l c=Cm.ins c (Cm.asc l)from if_neg (fun⟨d,e⟩=>by grind)]
theorem Nf(c:Int)(v:List Int×Unit)(d:v.1.length<=1000000):Wp (λn=>aL n (jY (sC tbl n) n c v) ((0:Int),([]:List Int),())) λr=>r=(v.1.filter (λx=>x != c),()):=by
 refine a8 (N:=v.1.length) (I:=λi s=>s=((i:Int),(v.1.take i).filter (λx=>x != c),())) rfl (λi s a hs=>?_) λs hs=>?_
 ·subst hs;unfold jY;have b:((v.1.take i).filter (λx=>x != c)).length<=i:=t_ (K_ _ _) (by rw[n_];omega);have e:(v.1.take (i+1)).filter (λx=>x != c)=(v.1.take i).filter (λx=>x != c)++(if v.1[i] != c then [v.1[i]]else []):=by rw[d_ a,P_];congr 1;cases h:(v.1[i] != c)<;>simp[ae_,h]
  refine a6 a (ae (aF a (ao (λh=>aD (decide_eq_true (by show(((v.1.take i).filter (λx=>x != c)).length+1)*4<=_;omega)) (aa (aa ?_))) λh=>aa (aa ?_))));·show(a_ .i64 ((i:Int)+1),(v.1.take i).filter (λx=>x != c)++[v.1[i]],())=_;rw[e,if_pos h,aB a (by omega)]
  ·show(a_ .i64 ((i:Int)+1),(v.1.take i).filter (λx=>x != c),())=_;rw[e,if_neg (by rw[h];decide),j_,aB a (by omega)]
 ·subst hs;unfold jY;refine aT (aa ?_);rw[k_]
theorem YS(c:Int)(v:List Int×Unit)(d:v.1.length<=1000000):Wp (λn=>aL n (qK (sC tbl n) n c v) ((0:Int),([]:List Int),())) λr=>r=(v.1.filter (λx=>x != c),()):=by
 refine a8 (N:=v.1.length) (I:=λi s=>s=((i:Int),(v.1.take i).filter (λx=>x != c),())) rfl (λi s a hs=>?_) λs hs=>?_
 ·subst hs;unfold qK;have b:((v.1.take i).filter (λx=>x != c)).length<=i:=t_ (K_ _ _) (by rw[n_];omega);have e:(v.1.take (i+1)).filter (λx=>x != c)=(v.1.take i).filter (λx=>x != c)++(if v.1[i] != c then [v.1[i]]else []):=by rw[d_ a,P_];congr 1;cases h:(v.1[i] != c)<;>simp[ae_,h]
  refine a6 a (ae (aF a (ao (λh=>aD (decide_eq_true (by show(((v.1.take i).filter (λx=>x != c)).length+1)*4<=_;omega)) (aa (aa ?_))) λh=>aa (aa ?_))));·show(a_ .i64 ((i:Int)+1),(v.1.take i).filter (λx=>x != c)++[v.1[i]],())=_;rw[e,if_pos h,aB a (by omega)]
  ·show(a_ .i64 ((i:Int)+1),(v.1.take i).filter (λx=>x != c),())=_;rw[e,if_neg (by rw[h];decide),j_,aB a (by omega)]
 ·subst hs;unfold qK;refine aT (aa ?_);rw[k_]
theorem Jy(l:List Int)(c:Int)(hl:l.length<=1000000):aC tbl nf [.d (.list tW) l,.d tW c] [] jL (Cm.drop l c,()):=by refine ap rfl (aA Kr rfl (λO n=>bI (Ad O n l c)) ?_);unfold Ad;refine aj (UU l (by omega)) (ae (Wp.imp (Nf c (Cm.asc l,()) (t_ (Cm.len_asc l) hl)) λr hr=>?_));subst hr;exact aa rfl
theorem xd(l a:List Int)(hl:l.length<=1000000)(A:Cm.Out l a):Wp (λn=>aL n (eR (sC tbl n) n l) (false,(0:Int),(0:Int),a,())) λr=>r.2.2.1=a/\Cm.Best l a l.length r.1 r.2.1:=by
 refine a8 (N:=l.length) (I:=λi s=>s.2.2.1=(i:Int)/\s.2.2.2.1=a/\Cm.Best l a i s.1 s.2.1) ⟨rfl,rfl,Cm.Best.zero l a 0⟩ (λi s c hs=>?_) λs hs=>?_
 ·obtain⟨f,b,j,o,⟨⟩⟩:=s;obtain⟨k,p,e⟩:=hs;simp only at k p e;subst k;subst p;have D:=A.len;unfold eR;have B:a_ .i64 ((i:Int)+1)=((i+1:Nat):Int):=aB c (by omega);refine a6 c (ae (aF c ?_));have w:∃g:Bool,(g=true↔∀y∈o,y<l[i])/\Wp (λn=>(bif ((o.length:Int)==(0:Int))then some (true)else e_ (aR o (a_ .i64 ((o.length:Int) - (1:Int)))) λ_=>e_ o[z_ (a_ .i64 ((o.length:Int) - (1:Int)))]? λF=>some (decide (l[i]>F)):Option Bool)) (·=g):=by
   by_cases u:o=[]
   ·subst u;exact⟨true,by simp,aE rfl (aa rfl)⟩
   ·have hp:0<o.length:=D_.2 u;have C:a_ .i64 ((o.length:Int) - 1)=((o.length - 1:Nat):Int):=by rw[wrap_i64 (by omega) (by omega)];omega
    refine⟨decide (l[i]>o[o.length - 1]),?_,an (beq_eq_false_iff_ne.2 (by omega)) ?_⟩;·rw[Cm.last_gt A.up u l[i],rC (by omega),decide_eq_true_eq]
    ·simp only[C];refine aF (by omega) (m9 (x:=o[o.length - 1]) ?_ (aa rfl));rw[s_];exact c_ _
  obtain⟨g,hg,z⟩:=w;refine ae (Wp.imp z λv E=>?_);subst E;refine ae (bb (b:= !f||decide (l[i]<b)) (λ_=>ae (bn (b:=decide (l[i]<b)) (λ_=>aa rfl) (aa rfl))) (ao (λh=>aa (aa ⟨B,rfl,?_⟩)) λh=>aa (aa ⟨B,rfl,?_⟩)));·simp only[x_,W_,decide_eq_true_eq,R_]at h;have:=Cm.Best.take e c (by rw[rC c];exact hg.1 h.1) (by rw[rC c];exact h.2);rw[rC c]at this;exact this
  ·refine Cm.Best.skip e c λd=>?_;rw[rC c]at d⊢;rw[hg.2 d]at h;simp at h;exact⟨h.1,h.2⟩
 ·obtain⟨f,b,j,o,⟨⟩⟩:=s;obtain⟨k,p,e⟩:=hs;simp only at k p e;subst k;subst p;unfold eR;exact aT (aa ⟨rfl,e⟩)
theorem C2(l a:List Int)(hl:l.length<=1000000)(A:Cm.Out l a):Wp (λn=>aL n (jo (sC tbl n) n l) (false,(0:Int),(0:Int),a,())) λr=>r.2.2.1=a/\Cm.Best l a l.length r.1 r.2.1:=by
 refine a8 (N:=l.length) (I:=λi s=>s.2.2.1=(i:Int)/\s.2.2.2.1=a/\Cm.Best l a i s.1 s.2.1) ⟨rfl,rfl,Cm.Best.zero l a 0⟩ (λi s c hs=>?_) λs hs=>?_
 ·obtain⟨f,b,j,o,⟨⟩⟩:=s;obtain⟨k,p,e⟩:=hs;simp only at k p e;subst k;subst p;have D:=A.len;unfold jo;have B:a_ .i64 ((i:Int)+1)=((i+1:Nat):Int):=aB c (by omega);refine a6 c (ae (aF c ?_));have w:∃g:Bool,(g=true↔∀y∈o,y<l[i])/\Wp (λn=>(bif ((o.length:Int)==(0:Int))then some (true)else e_ (aR o (a_ .i64 ((o.length:Int) - (1:Int)))) λ_=>e_ o[z_ (a_ .i64 ((o.length:Int) - (1:Int)))]? λF=>some (decide (l[i]>F)):Option Bool)) (·=g):=by
   by_cases u:o=[]
   ·subst u;exact⟨true,by simp,aE rfl (aa rfl)⟩
   ·have hp:0<o.length:=D_.2 u;have C:a_ .i64 ((o.length:Int) - 1)=((o.length - 1:Nat):Int):=by rw[wrap_i64 (by omega) (by omega)];omega
    refine⟨decide (l[i]>o[o.length - 1]),?_,an (beq_eq_false_iff_ne.2 (by omega)) ?_⟩;·rw[Cm.last_gt A.up u l[i],rC (by omega),decide_eq_true_eq]
    ·simp only[C];refine aF (by omega) (m9 (x:=o[o.length - 1]) ?_ (aa rfl));rw[s_];exact c_ _
  obtain⟨g,hg,z⟩:=w;refine ae (Wp.imp z λv E=>?_);subst E;refine ae (bb (b:= !f||decide (l[i]<b)) (λ_=>ae (bn (b:=decide (l[i]<b)) (λ_=>aa rfl) (aa rfl))) (ao (λh=>aa (aa ⟨B,rfl,?_⟩)) λh=>aa (aa ⟨B,rfl,?_⟩)));·simp only[x_,W_,decide_eq_true_eq,R_]at h;have:=Cm.Best.take e c (by rw[rC c];exact hg.1 h.1) (by rw[rC c];exact h.2);rw[rC c]at this;exact this
  ·refine Cm.Best.skip e c λd=>?_;rw[rC c]at d⊢;rw[hg.2 d]at h;simp at h;exact⟨h.1,h.2⟩
 ·obtain⟨f,b,j,o,⟨⟩⟩:=s;obtain⟨k,p,e⟩:=hs;simp only at k p e;subst k;subst p;unfold jo;exact aT (aa ⟨rfl,e⟩)
theorem xj(l:List Int)(hl:l.length<=1000000):Wp (λn=>aL n (iX (sC tbl n) n l) (([]:List Int),())) λr=>r=(Cm.asc l,()):=by refine Go.Ev.wp_loop (fun(s:List Int×Unit)=>Cm.Out l s.1) (fun(s:List Int×Unit)=>Cm.left l s.1) (Cm.Out.zero l) λs hs=>?_;unfold iX;have d:=hs.len;refine ae (Wp.imp (xd l s.1 hl hs) λr hr=>?_);obtain⟨f,b,o,⟨⟩⟩:=r;obtain⟨c,a⟩:=hr;simp only at c a;subst c;cases f with|false=>exact aE rfl (aa (by show(s.1,())=_;rw[Cm.Out.outDone hs a]))|true=>refine an rfl (aD (decide_eq_true (by show(s.1.length+1)*4<=_;omega)) (aa ⟨Cm.Out.step hs a,?_⟩));have:=a.yes rfl;exact Cm.left_step this.1 this.2
theorem C6(l:List Int)(hl:l.length<=1000000):Wp (λn=>aL n (nQ (sC tbl n) n l) (([]:List Int),())) λr=>r=(Cm.asc l,()):=by refine Go.Ev.wp_loop (fun(s:List Int×Unit)=>Cm.Out l s.1) (fun(s:List Int×Unit)=>Cm.left l s.1) (Cm.Out.zero l) λs hs=>?_;unfold nQ;have d:=hs.len;refine ae (Wp.imp (C2 l s.1 hl hs) λr hr=>?_);obtain⟨f,b,o,⟨⟩⟩:=r;obtain⟨c,a⟩:=hr;simp only at c a;subst c;cases f with|false=>exact aE rfl (aa (by show(s.1,())=_;rw[Cm.Out.outDone hs a]))|true=>refine an rfl (aD (decide_eq_true (by show(s.1.length+1)*4<=_;omega)) (aa ⟨Cm.Out.step hs a,?_⟩));have:=a.yes rfl;exact Cm.left_step this.1 this.2
theorem zgO(l:List Int)(hl:l.length<=1000000):aC tbl iK [.d (.list tW) l] [] fA (Cm.asc l,()):=by refine ap rfl (aA Jj rfl (λO n=>bI (xT O n l)) ?_);unfold xT;refine ae (Wp.imp (C6 l hl) λr hr=>?_);subst hr;exact aa rfl
theorem zg6(l:List Int)(hl:l.length<=1000000):aC tbl gu [.d (.list tW) l] [] dX (Cm.asc l,()):=by refine ap rfl (aA Cc rfl (λO n=>bI (qD O n l)) ?_);unfold qD;refine ae (Wp.imp (xj l hl) λr hr=>?_);subst hr;exact aa rfl
theorem UM(l:List Int)(c:Int)(hl:l.length<=900000):aC tbl x8 [.d (.list tW) l,.d tW c] [] qn (Cm.add l c,()):=by
 refine ap rfl (aA Xn rfl (λO n=>bI (KT O n l c)) ?_);unfold KT;have a:=Cm.len_asc l;have d:(Cm.asc l,()).1.length<=900000:=by grind
 refine aj (zg6 l (by omega)) (ae (bb (b:= !decide (c∈Cm.asc l)) (λ_=>aj (UN _ c (by omega)) (aa rfl)) (ao (λh=>aa ?_) λh=>aD (decide_eq_true (by grind)) (aj (zgO _ (by grind)) (aa ?_)))));·rw[show Cm.add l c=Cm.asc l from if_pos (by grind)]
 ·rw[show Cm.add l c=Cm.ins c (Cm.asc l)from if_neg (fun⟨e,f⟩=>by grind),Cm.add_eq]
theorem Sr(l:List Int)(c:Int)(hl:l.length<=1000000):aC tbl vP [.d (.list tW) l,.d tW c] [] rK (Cm.drop l c,()):=by refine ap rfl (aA TY rfl (λO n=>bI (HT O n l c)) ?_);unfold HT;refine aj (zgO l hl) (ae (Wp.imp (YS c (Cm.asc l,()) (t_ (Cm.len_asc l) hl)) λr hr=>?_));subst hr;exact aa rfl
open Go Go.Av Go.Ev Go.Pl
theorem if5{P:Prop} [Decidable P]:(if P then(0:Int)else 5)=0\/(if P then(0:Int)else 5)=5:=by omega
theorem Sj{r:oL}(a:dE r.1=true)(b:¬(r.2.1<1\/7<r.2.1))(c:¬r.2.2.2.1.length>2000):B5 r=if ¬∀v∈r.2.2.2.1,1<=v/\v<=4294967295 then 5 else if Cm.check r.2.2.2.2.1≠0 then Cm.check r.2.2.2.2.1 else if ¬(zM r.2.2.2.2.2.1/\zM r.2.2.2.2.2.2.1/\zM r.2.2.2.2.2.2.2.2.1)\/r.2.2.2.2.2.2.2.1<0\/16777216<r.2.2.2.2.2.2.2.1 then 5 else 0:=by unfold B5;grind
theorem OZ(r:oL)(hp:hU r.1.1):aC tbl s6 [.d Rb r] [] cG (B5 r,()):=by
 refine ap rfl (aA Qw rfl (λO n=>bI (F8 O n r)) ?_);unfold F8;refine aj (gM r.1 hp) (ao (λh=>aa ?_) λh=>?_);·rw[show B5 r=1 from if_pos (by grind)]
 have p:dE r.1=true:=by grind
 refine ae (bn (b:=decide (r.2.1>7)) (λ_=>aa rfl) (ao (λh=>aa ?_) λh=>?_));·rw[show B5 r=5 from by unfold B5;grind]
 have C:¬(r.2.1<1\/7<r.2.1):=by grind
 refine ao (λh=>aa ?_) λh=>?_;·rw[show B5 r=4 from by unfold B5;grind]
 have D:¬r.2.2.2.1.length>2000:=by grind
 rw[Sj p C D];refine ae (wg (xs:=r.2.2.2.1) (P:=λv=>1<=v/\v<=4294967295) (e:=((5:Int),())) (g:=()) (λi l=>?_) ?_ (λh=>?_) λh=>aa ?_);·unfold uz;refine a6 l (aF l (ae (bn (b:=decide (r.2.2.2.1[i]>4294967295)) (λ_=>aa rfl) (pE ?_ (by rw[aB l (by omega)])))));grind
 ·unfold uz;exact aT (aa rfl)
 ·rw[if_neg (not_not_intro h)];refine aj (HH r.2.2.2.2.1) (ao (λh=>aa ?_) λh=>?_);·grind
  rw[if_neg (by grind)];generalize r.2.2.2.2.2.1=x0;generalize r.2.2.2.2.2.2.1=d;generalize r.2.2.2.2.2.2.2=y;obtain⟨F,k,⟨⟩⟩:=y;have one:∀x:Int,Wp (λ_=>e_ (bif decide (x<(0:Int))then some (true)else some (decide (x>(4294967295:Int)))) λv=>some v) (λb=>b= !decide (zM x)):=λx=>by refine ae (bn (b:=decide (x>4294967295)) (λ_=>aa rfl) (aa ?_));grind
  refine ae (ot (N:=3) (f:=λi=>if zM (if i=0 then x0 else if i=1 then d else k)then 0 else 5) (enc:=λi=>((x0,d,k,()),(i:Int),())) (oB:=λe=>(e,())) (oE:=()) (λi l=>?_) ?_ ?_)
  ·unfold uA;have s:∀x:Int,x=(if i=0 then x0 else if i=1 then d else k)->Wp (λ_=>e_ (bif decide (x<(0:Int))then some (true)else some (decide (x>(4294967295:Int)))) λw=>
    bif w then some (.inr (.inl (((5:Int),()))))else some (.inl ((x0,d,k,()),a_ .i64 ((i:Int)+(1:Int)),())))
    (fun(r:((Int×Int×Int×Unit)×Int×Unit)⊕(Int×Unit)⊕Unit)=>r=if(if zM (if i=0 then x0 else if i=1 then d else k)then(0:Int)else 5)=0 then .inl ((x0,d,k,()),((i+1:Nat):Int),())else .inr (.inl ((if zM (if i=0 then x0 else if i=1 then d else k)then(0:Int)else 5),()))):=λx E=>by
    subst E
    refine ae (bn (b:=decide (_>4294967295)) (λ_=>aa rfl) (ao (λh=>aa ?_) λh=>aa ?_))
    ·grind
    ·rw[if_pos (show zM _ by grind),if_pos rfl,aB (n:=3) l (by simp)]
   refine a6 l ?_;have u:i=0\/i=1\/i=2:=by omega
   rcases u with rfl|rfl|rfl;·exact AS (a:=x0) rfl (s x0 rfl)
   ·exact AS (a:=d) rfl (s d rfl)
   ·exact AS (a:=k) rfl (s k rfl)
  ·unfold uA;exact aT (aa rfl)
  have A:jR (λi=>if zM (if i=0 then x0 else if i=1 then d else k)then(0:Int)else 5) 3=if zM x0/\zM d/\zM k then 0 else 5:=by
   by_cases h:zM x0/\zM d/\zM k;·rw[if_pos h];refine errN_zero.2 λj J=>?_;omega
   ·rw[if_neg h];refine(zdW (c:=5) (λj=>if5)).resolve_left λB=>h ?_;have p:=errN_zero.1 B;have g0:=p 0 (by simp);have H:=p 1 (by simp);have I:=p 2 (by simp);omega
  rw[A];by_cases z:zM x0/\zM d/\zM k;·rw[if_pos z,if_pos rfl];refine ae (bn (b:=decide (F>16777216)) (λ_=>aa rfl) (ao (λh=>aa ?_) λh=>aa ?_));all_goals grind
  ·rw[if_neg z,if_neg (by simp)];refine aa ?_;grind
 grind
theorem MP(r:Rx)(hs:sz r<=100000):aC tbl tD [.d .rx r,.d (.list tI) []] [] eY (dF r&&NY (oT r 0) [],()):=by
 refine ap rfl (aA Q3 rfl (λO m=>bI (GF O m r [])) ?_);unfold GF;refine aj (SB r (by omega)) (ao (λh=>aa ?_) λh=>?_);·grind
 have c:dF r=true:=by grind
 rw[c,q_];have n:cnt r<=100000:=t_ (zdM r) hs;obtain⟨k,_⟩:=ua r c 0;have a:=BM r 0;refine aj (Pt r (by omega)) (aD ?_ (ae (Ev.wp_mono (zaf (M:=cnt r) (by omega)) ?_)));·grind
 rintro t rfl;have b:=Fv (M:=cnt r) (by omega) r c (by omega) [] [] [] rfl (by simp);simp only[List.nil_append,List.length_nil]at b;generalize hg:oT r 0=g at*;have hl:(qq (cnt r) g.pr).length=cnt r:=Wh _ _;have l:g_ (z_ ((qq (cnt r) g.pr).length:Int)) (Ty.zero tB)=vt (cnt r) λ_=>false:=by rw[hl,s_];exact zfq _
 refine aj b (aD ?_ ?_);·grind
 have d:=Tg (M:=cnt r) (by omega) g.fi g.la g.em (g.sp.map (·.1)) (g.sp.map (·.2)) (qq (cnt r) g.pr) (λp hp=>by have:=a.fi p hp;omega) (by have:=a.fl;omega);rw[<-l]at d;refine ae (Ev.wp_mono d ?_);rintro t rfl;have j:(vt (cnt r) λp=>decide (p∈g.fi)).length=cnt r:=XB _ _;refine aD ?_ ?_;·grind
 refine ae (a8 (N:=0) (I:=λ_ s=>s.1=0/\s.2.2.2.2.2.2.1=g.em) ⟨rfl,rfl⟩ (λi s u _=>by omega) ?_);rintro s ⟨e,f⟩;unfold CL;refine an (by rw[e];rfl) (aa ?_);show Wp _ _;simp only[Sum.elim_inr];refine ao (λ_=>aa ?_) λh=>?_;·rw[f];rfl
 exact absurd h (by decide)
theorem MK(r:Rx)(hs:sz r<=100000):aC tbl ti [.d .rx r,.d (.list tI) []] [] gD (dF r&&NY (oT r 0) [],()):=by
 refine ap rfl (aA QH rfl (λO m=>bI (Gi O m r [])) ?_);unfold Gi;refine aj (GY r (by omega)) (ao (λh=>aa ?_) λh=>?_);·grind
 have b:dF r=true:=by grind
 rw[b,q_];obtain⟨_,a⟩:=ua r b 0;refine ao (λ_=>aj (JC r (by omega)) (aa ?_)) λh=>?_;·rw[<-a];rfl
 exact absurd h (by decide)
open Classical in
noncomputable def Hl(s:List UInt8)(a:List Int):Bool:=decide (∃r,mD r=0/\jv r=s/\NY (oT r 0) a=true)
noncomputable def WF(l:List HRU)(a:List Int):Bool:=match l.find? (λu=>Hl u.2.1 a)with|some u=>u.1|none=>false
open Classical in
theorem zbl{s:List UInt8}{c:Rx×Int×Unit}(h:ParsedX s c)(hc:(c.2.1==0)=false)(a:List Int):Hl s a=false:=by unfold Hl;refine decide_eq_false ?_;rintro⟨r,b,d,_⟩;rcases h with⟨f,_,_,rfl⟩|⟨e,_⟩;all_goals grind
open Classical in
theorem Wk{s:List UInt8}(hs:s.length<=1048576){c:Rx×Int×Unit}(h:ParsedX s c)(hc:(c.2.1==0)=true)(a:List Int):∃r,c=(r,0,())/\dF r=true/\sz r<=64/\Hl s a=NY (oT r 0) a:=by
 rcases h with⟨r,b,d,rfl⟩|⟨_,rfl⟩
 ·obtain⟨e,f,_⟩:=Fp b;refine⟨r,rfl,e,f,?_⟩;unfold Hl;cases l:NY (oT r 0) a;·refine decide_eq_false ?_;rintro⟨k,g,j,n⟩;have:=ParsedX.pxUniq hs (.inl ⟨k,g,j,rfl⟩) (.inl ⟨r,b,d,rfl⟩);grind
  grind
 grind
theorem O4(l:List HRU)(a:List Int)(hl:l.length<=9223372036854775807)(hr:∀u∈l,u.2.1.length<=1048576)(hp:a.length<=0):aC tbl s8 [.d (.list yH) l,.d (.list tI) a] [] kY (WF l a,()):=by
 have f:a=[]:=B_ (by omega);refine ap rfl (aA Qy rfl (λO n=>bI (F9 O n l a)) ?_);unfold F9;refine ae (m8 (xs:=l) (p:=λu=>Hl u.2.1 a) (enc:=λi=>((i:Int),())) (g:=λu=>(u.1,())) (e:=()) (λi d=>?_) ?_ ?_)
 ·unfold uB;have k:=hr _ (b_ d);obtain⟨c,j,s⟩:=F7 l[i].2.1 k;refine a6 d (aF d (aj s (ae (bb (b:=Hl l[i].2.1 a) (λh=>?_) ?_))));·obtain⟨r,rfl,w,x,v⟩:=Wk k j h a;rw[cT];subst f;refine aj (MP r (by omega)) (aa ?_);rw[v,w];rfl
  ·have e:((c.2.1==0)&&Hl l[i].2.1 a)=Hl l[i].2.1 a:=by
    cases hc:(c.2.1==0);·rw[zbl j hc];rfl
    simp
   rw[e];refine ao (λh=>aa ?_) λh=>aa ?_;·grind
   ·rw[if_neg (by grind),aB d hl]
 ·unfold uB;exact aT (aa rfl)
 ·unfold WF;cases l.find? (λu=>Hl u.2.1 a)with|some r=>exact aa rfl|none=>exact aa rfl
theorem vw(l:List HRU)(a:List Int)(hl:l.length<=9223372036854775807)(hr:∀u∈l,u.2.1.length<=1048576)(hp:a.length<=0):aC tbl ju [.d (.list yH) l,.d (.list tI) a] [] d5 (WF l a,()):=by
 have f:a=[]:=B_ (by omega);refine ap rfl (aA FX rfl (λO n=>bI (vL O n l a)) ?_);unfold vL;refine ae (m8 (xs:=l) (p:=λu=>Hl u.2.1 a) (enc:=λi=>((i:Int),())) (g:=λu=>(u.1,())) (e:=()) (λi d=>?_) ?_ ?_)
 ·unfold lD;have k:=hr _ (b_ d);obtain⟨c,j,s⟩:=F1 l[i].2.1 k;refine a6 d (aF d (aj s (ae (bb (b:=Hl l[i].2.1 a) (λh=>?_) ?_))));·obtain⟨r,rfl,w,x,v⟩:=Wk k j h a;rw[cT];subst f;refine aj (MK r (by omega)) (aa ?_);grind
  ·have e:((c.2.1==0)&&Hl l[i].2.1 a)=Hl l[i].2.1 a:=by
    cases hc:(c.2.1==0);·rw[zbl j hc];rfl
    simp
   rw[e];refine ao (λh=>aa ?_) λh=>aa ?_;·grind
   ·rw[if_neg (by grind),aB d hl]
 ·unfold lD;exact aT (aa rfl)
 ·unfold WF;cases l.find? (λu=>Hl u.2.1 a)with|some r=>exact aa rfl|none=>exact aa rfl
noncomputable def lS(s:PS)(m:MAT)(r:oL):Bool:=
 if m.1=1 then(match gA s m.2.1 with|some l=>WG l.2.1 r.1|none=>false)
 else if m.1=2 then(match oS s m.2.1 with|some l=>WF l.2.1 r.2.2.2.1|none=>false)
 else if m.1=3 then(match dj s m.2.1 with|some l=>uj l.2.1 r.2.2.2.2.1|none=>false)
 else if m.1=4 then r.2.1==m.2.2.1
 else if m.1=5 then r.2.2.2.2.2.2.2.2.1==m.2.2.1
 else if m.1=6 then decide (r.2.2.2.2.2.2.2.1<=m.2.2.1)
 else if m.1=7 then K7 m.2.2.2.1 r.2.2.1
 else decide ((r.2.2.2.1.length:Int)<=m.2.2.1)
noncomputable def Y5(s:PS)(r:oL)(m:MAT):Bool:=true ^^ (lS s m r==m.2.2.2.2.1)
noncomputable def vr(s:PS)(r:oL)(t:GL):Bool:=t.2.1.all (Y5 s r)
structure SmQ(s:PS)(r:oL):Prop where
 s:SmP s
 p:hU r.1.1
 n:hU r.2.2.1
 pt:r.2.2.2.1.length<=0
 cm:r.2.2.2.2.1.length<=100000
abbrev bxU(r:oL):Ob:=.box fq [.d tW r.1.1,.d tI r.1.2.1,.d tI r.2.1,.d tW r.2.2.1,.d (.list tI) r.2.2.2.1,.d (.list tW) r.2.2.2.2.1,.d tI r.2.2.2.2.2.1,.d tI r.2.2.2.2.2.2.1,.d tI r.2.2.2.2.2.2.2.1,.d tI r.2.2.2.2.2.2.2.2.1]
abbrev cR(s:PS)(r:oL):List PLS×List HLS×List CLS×List K1×Int×Int×Int×Int×List Int×List Int×Int×Int×Int×Int×Unit:=
 (s.1,s.2.1,s.2.2.1,s.2.2.2.1,r.1.1,r.1.2.1,r.2.1,r.2.2.1,r.2.2.2.1,r.2.2.2.2.1,r.2.2.2.2.2.1,r.2.2.2.2.2.2.1,r.2.2.2.2.2.2.2.1,r.2.2.2.2.2.2.2.2.1,())
theorem zi2(x:HL q_apply_conditions_1_drr.sl):EB q_apply_conditions_1_drr (jm q_apply_conditions_1_drr x)=some x:=by kernel_rfl
theorem zi3(x:HL q_apply_conditions_2_dr.sl):EB q_apply_conditions_2_dr (jm q_apply_conditions_2_dr x)=some x:=by kernel_rfl
theorem zi1(x:HL q_apply_conditions.sl):EB q_apply_conditions (jm q_apply_conditions x)=some x:=by kernel_rfl
theorem zfv(s:PS)(m:MAT)(r:oL)(h:SmQ s r)(D:1<=m.1/\m.1<=8)(w:hU m.2.2.2.1.1):aC tbl dc [.d yM m,.ptr 0 0,.ptr 1 0] [bxS s,bxU r] q_apply_conditions_1_drr (lS s m r,cR s r):=by
 refine ap (zi2 _) (aA zY rfl (λO n=>bI (ov O n m s.1 s.2.1 s.2.2.1 s.2.2.2.1 r.1.1 r.1.2.1 r.2.1 r.2.2.1 r.2.2.2.1 r.2.2.2.2.1 r.2.2.2.2.2.1 r.2.2.2.2.2.2.1 r.2.2.2.2.2.2.2.1 r.2.2.2.2.2.2.2.2.1)) ?_);unfold ov;have f:=h.s.ok;have b:∀{k:Int},m.1≠k->(m.1==k)=false:=λh=>beq_eq_false_iff_ne.2 h;have c:∀{k:Int},m.1=k->(m.1==k)=true:=λh=>beq_iff_eq.2 h;by_cases j:m.1=1
 ·have a:lS s m r=match gA s m.2.1 with|some l=>WG l.2.1 r.1|none=>false:=by unfold lS;grind
  refine ae (aE (c j) (ae (m8 (xs:=s.1) (p:=(·.1==m.2.1)) (enc:=λi=>((i:Int),cR s r)) (g:=λl=>(WG l.2.1 r.1,cR s r)) (e:=cR s r) (λi d=>?_) ?_ ?_)))
  ·unfold gN;refine a6 d (aF d (ao (λh'=>?_) λh'=>aa ?_));·have hl:=f.1.2 _ (b_ d);refine aj (Ln s.1[i].2.1 r.1 hl.2.1.1 (λu x=>(hl.2.1.2 u x).2.1.1) h.p) (aa ?_);grind
   ·rw[if_neg (by grind),aB d (by exact f.1.1)]
  ·unfold gN;exact aT (aa rfl)
  ·unfold gA at a;cases e:s.1.find? (·.1==m.2.1)with|some l=>rw[e]at a;rw[a];exact aa (aa rfl)|none=>rw[e]at a;rw[a];exact aa (aa rfl)
 by_cases v:m.1=2
 ·have a:lS s m r=match oS s m.2.1 with|some l=>WF l.2.1 r.2.2.2.1|none=>false:=by unfold lS;grind
  refine ae (an (b j) (aE (c v) (ae (m8 (xs:=s.2.1) (p:=(·.1==m.2.1)) (enc:=λi=>((i:Int),cR s r)) (g:=λl=>(WF l.2.1 r.2.2.2.1,cR s r)) (e:=cR s r) (λi d=>?_) ?_ ?_))))
  ·unfold gO;refine a6 d (aF d (ao (λh'=>?_) λh'=>aa ?_));·have hl:=f.2.1.2 _ (b_ d);refine aj (O4 s.2.1[i].2.1 r.2.2.2.1 hl.2.1.1 (λu x=>h.s.pt _ (b_ d) u x) (by have:=h.pt;omega)) (aa ?_);grind
   ·rw[if_neg (by grind),aB d (by exact f.2.1.1)]
  ·unfold gO;exact aT (aa rfl)
  ·unfold oS at a;cases e:s.2.1.find? (·.1==m.2.1)with|some l=>rw[e]at a;rw[a];exact aa (aa rfl)|none=>rw[e]at a;rw[a];exact aa (aa rfl)
 by_cases y:m.1=3
 ·have a:lS s m r=match dj s m.2.1 with|some l=>uj l.2.1 r.2.2.2.2.1|none=>false:=by unfold lS;grind
  refine ae (an (b j) (an (b v) (aE (c y) (ae (m8 (xs:=s.2.2.1) (p:=(·.1==m.2.1)) (enc:=λi=>((i:Int),cR s r)) (g:=λl=>(uj l.2.1 r.2.2.2.2.1,cR s r)) (e:=cR s r) (λi d=>?_) ?_ ?_)))))
  ·unfold gP;refine a6 d (aF d (ao (λh'=>?_) λh'=>aa ?_));·have hl:=f.2.2.1.2 _ (b_ d);refine aj (Fq s.2.2.1[i].2.1 r.2.2.2.2.1 hl.2.1.1 (by have:=h.cm;omega)) (aa ?_);grind
   ·rw[if_neg (by grind),aB d (by exact f.2.2.1.1)]
  ·unfold gP;exact aT (aa rfl)
  ·unfold dj at a;cases e:s.2.2.1.find? (·.1==m.2.1)with|some l=>rw[e]at a;rw[a];exact aa (aa rfl)|none=>rw[e]at a;rw[a];exact aa (aa rfl)
 refine ae (an (b j) (an (b v) (an (b y) ?_)));by_cases z:m.1=4;·refine aE (c z) (aa (aa ?_));rw[show lS s m r=(r.2.1==m.2.2.1)from by unfold lS;grind]
 refine an (b z) ?_;by_cases A:m.1=5;·refine aE (c A) (aa (aa ?_));rw[show lS s m r=(r.2.2.2.2.2.2.2.2.1==m.2.2.1)from by unfold lS;grind]
 refine an (b A) ?_;by_cases B:m.1=6;·refine aE (c B) (aa (aa ?_));rw[show lS s m r=decide (r.2.2.2.2.2.2.2.1<=m.2.2.1)from by unfold lS;grind]
 refine an (b B) ?_;by_cases C:m.1=7;·refine aE (c C) (aj (xI m.2.2.2.1 r.2.2.1 w h.n) (aa (aa ?_)));rw[show lS s m r=K7 m.2.2.2.1 r.2.2.1 from by unfold lS;grind]
 refine an (b C) (aE (c (by omega)) (aa (aa ?_)));rw[show lS s m r=decide ((r.2.2.2.1.length:Int)<=m.2.2.1)from by unfold lS;grind]
theorem zfw(s:PS)(m:MAT)(r:oL)(h:SmQ s r)(b:1<=m.1/\m.1<=8)(a:hU m.2.2.2.1.1):aC tbl dx [.d yM m,.ptr 0 0] [.box SD [.clo fb [1,2]],bxS s,bxU r] q_apply_conditions_2_dr (Y5 s r m,cR s r):=by refine ap (zi3 _) (aA AN rfl (λO n=>bI (p9 O n m s.1 s.2.1 s.2.2.1 s.2.2.2.1 r.1.1 r.1.2.1 r.2.1 r.2.2.1 r.2.2.2.1 r.2.2.2.2.1 r.2.2.2.2.2.1 r.2.2.2.2.2.2.1 r.2.2.2.2.2.2.2.1 r.2.2.2.2.2.2.2.2.1)) ?_);unfold p9;exact aj (zfv s m r h b a) (aa rfl)
theorem Sn(s:PS)(r:oL):aC tbl j9 [.d yS s,.d Rb r] [] q_apply_conditions (cR s r):=ap (zi1 _) (aA Hz rfl (λO n=>bI (G1 O n s r)) (aa rfl))
theorem UP(s:PS)(m:MAT)(r:oL)(h:SmQ s r)(A:1<=m.1/\m.1<=8)(g:hU m.2.2.2.1.1):aC tbl yb [.d yS s,.d yM m,.d Rb r] [] d9 (lS s m r,()):=by
 refine ap rfl (aA Xq rfl (λO n=>bI (KW O n s m r)) ?_);unfold KW;have d:=h.s.ok;have c:∀{k:Int},m.1≠k->(m.1==k)=false:=λh=>beq_eq_false_iff_ne.2 h;have b:∀{k:Int},m.1=k->(m.1==k)=true:=λh=>beq_iff_eq.2 h;by_cases j:m.1=1
 ·have a:lS s m r=match gA s m.2.1 with|some l=>WG l.2.1 r.1|none=>false:=by unfold lS;grind
  refine aE (b j) (aj (Ab s m.2.1 d.1.1) ?_);cases e:gA s m.2.1 with|some l=>rw[e]at a;rw[a];have hl:=d.1.2 l (m_ e);exact aj (Cl l.2.1 r.1 hl.2.1.1 (λu f=>(hl.2.1.2 u f).2.1.1) h.p) (aa rfl)|none=>rw[e]at a;rw[a];exact aj (Cl [] r.1 (h_ _) (λu f=>by grind) h.p) (aa rfl)
 refine an (c j) ?_;by_cases p:m.1=2
 ·have a:lS s m r=match oS s m.2.1 with|some l=>WF l.2.1 r.2.2.2.1|none=>false:=by unfold lS;grind
  refine aE (b p) (aj (F4 s m.2.1 d.2.1.1) ?_);cases e:oS s m.2.1 with|some l=>rw[e]at a;rw[a];have hl:=d.2.1.2 l (m_ e);exact aj (vw l.2.1 r.2.2.2.1 hl.2.1.1 (λu f=>h.s.pt _ (m_ e) u f) (by have:=h.pt;omega)) (aa rfl)|none=>rw[e]at a;rw[a];exact aj (vw [] r.2.2.2.1 (h_ _) (λu f=>by grind) (by have:=h.pt;omega)) (aa rfl)
 refine an (c p) ?_;by_cases v:m.1=3
 ·have a:lS s m r=match dj s m.2.1 with|some l=>uj l.2.1 r.2.2.2.2.1|none=>false:=by unfold lS;grind
  refine aE (b v) (aj (vu s m.2.1 d.2.2.1.1) ?_);cases e:dj s m.2.1 with|some l=>rw[e]at a;rw[a];have hl:=d.2.2.1.2 l (m_ e);exact aj (Ck l.2.1 r.2.2.2.2.1 hl.2.1.1 (by have:=h.cm;omega)) (aa rfl)|none=>rw[e]at a;rw[a];exact aj (Ck [] r.2.2.2.2.1 (h_ _) (by have:=h.cm;omega)) (aa rfl)
 refine an (c v) ?_;by_cases w:m.1=4;·refine aE (b w) (aa ?_);rw[show lS s m r=(r.2.1==m.2.2.1)from by unfold lS;grind]
 refine an (c w) ?_;by_cases x:m.1=5;·refine aE (b x) (aa ?_);rw[show lS s m r=(r.2.2.2.2.2.2.2.2.1==m.2.2.1)from by unfold lS;grind]
 refine an (c x) ?_;by_cases y:m.1=6;·refine aE (b y) (aa ?_);rw[show lS s m r=decide (r.2.2.2.2.2.2.2.1<=m.2.2.1)from by unfold lS;grind]
 refine an (c y) ?_;by_cases z:m.1=7;·refine aE (b z) (aj (Aa m.2.2.2.1 r.2.2.1 g h.n) (aa ?_));rw[show lS s m r=K7 m.2.2.2.1 r.2.2.1 from by unfold lS;grind]
 refine an (c z) (aa ?_);rw[show lS s m r=decide ((r.2.2.2.1.length:Int)<=m.2.2.1)from by unfold lS;grind]
theorem HG(r:oL)(a:r.2.2.2.1.length<=1000000)(b:r.2.2.2.2.1.length<=1000000):aC tbl lV [.d Rb r] [] iS (r,()):=by obtain⟨p,po,nh,pt,cm,t⟩:=r;simp only at a b;refine ap rfl (aA Ja rfl (λO n=>bI (xJ O n (p,po,nh,pt,cm,t))) ?_);unfold xJ;refine aD (by grind) (aD (by grind) (aa ?_));simp
theorem Ph(r:oL)(a:r.2.2.2.1.length<=1000000)(b:r.2.2.2.2.1.length<=1000000):aC tbl tt [.d Rb r] [] o8 (r,()):=by obtain⟨p,po,nh,pt,cm,t⟩:=r;simp only at a b;refine ap rfl (aA QT rfl (λO n=>bI (Gv O n (p,po,nh,pt,cm,t))) ?_);unfold Gv;exact aD (decide_eq_true (by grind)) (aD (decide_eq_true (by grind)) (aa rfl))
theorem U2{a:Dj}(b:jl a=0)(c:a.1=8):1<=a.2.1/\a.2.1<=16:=by
 unfold jl at b;split at b;·omega
 split at b;·omega
 split at b;·omega
 rename_i h;have h:oR a=true:=by grind
 unfold oR at h;grind
theorem Rf{a:Dj}(b:jl a=0):1<=a.1/\a.1<=8:=by
 unfold jl at b;split at b;·cases b
 ·omega
section
variable {a:Dj} {p:G2} {po nh:Int} {pt cm:List Int} {pf md mt tg:Int} {u:Unit}
theorem zif(h:a.1=1):zjg a (p,po,nh,pt,cm,pf,md,mt,tg,u)=(p,po,nh,pt,cm,a.2.1,md,mt,tg,u):=by simp[zjg,h]
theorem zig(h:a.1=2):zjg a (p,po,nh,pt,cm,pf,md,mt,tg,u)=(p,po,nh,pt,cm,pf,a.2.1,mt,tg,u):=by simp[zjg,h]
theorem zih(h:a.1=3):zjg a (p,po,nh,pt,cm,pf,md,mt,tg,u)=(p,po,nh,pt,cm,pf,md,a.2.1,tg,u):=by simp[zjg,h]
theorem zii(h:a.1=4):zjg a (p,po,nh,pt,cm,pf,md,mt,tg,u)=(p,po,nh,pt,cm,pf,md,mt,a.2.1,u):=by simp[zjg,h]
theorem zij(h:a.1=5):zjg a (p,po,nh,pt,cm,pf,md,mt,tg,u)=(p,po,a.2.2.2.2.1,pt,cm,pf,md,mt,tg,u):=by simp[zjg,h]
theorem zik(h:a.1=6):zjg a (p,po,nh,pt,cm,pf,md,mt,tg,u)=(p,po,nh,pt,Cm.add cm a.2.2.2.1,pf,md,mt,tg,u):=by simp[zjg,h]
theorem zil(h:a.1=7):zjg a (p,po,nh,pt,cm,pf,md,mt,tg,u)=(p,po,nh,pt,Cm.drop cm a.2.2.2.1,pf,md,mt,tg,u):=by simp[zjg,h]
theorem zim(h:a.1=8)(hl:(pt.length:Int)+a.2.1<=2000):zjg a (p,po,nh,pt,cm,pf,md,mt,tg,u)=(p,po,nh,g_ a.2.1.toNat a.2.2.1++pt,cm,pf,md,mt,tg,u):=by simp[zjg,h,hl]
theorem zin(h:a.1=8)(hl:¬(pt.length:Int)+a.2.1<=2000):zjg a (p,po,nh,pt,cm,pf,md,mt,tg,u)=(p,po,nh,pt,cm,pf,md,mt,tg,u):=by simp[zjg,h];intro h';exact absurd h' hl
end
theorem ME(a:Dj)(r:oL)(A:jl a=0)(C:r.2.2.2.1.length<=900000)(D:r.2.2.2.2.1.length<=900000):aC tbl qP [.d yA a,.d Rb r] [] mS (zjg a r,()):=by
 obtain⟨⟨y,z,⟨⟩⟩,po,nh,pt,cm,pf,md,mt,tg,⟨⟩⟩:=r;simp only at C D;refine ap rfl (aA OA rfl (λO n=>bI (Dq O n a ((y,z,()),po,nh,pt,cm,pf,md,mt,tg,()))) ?_);unfold Dq;have J:=Rf A;have b:∀{k:Int},a.1≠k->(a.1==k)=false:=λh=>beq_eq_false_iff_ne.2 h;have c:∀{k:Int},a.1=k->(a.1==k)=true:=λh=>beq_iff_eq.2 h;by_cases d:a.1=1;·rw[zif d];exact ae (aE (c d) (aa (aa rfl)))
 by_cases e:a.1=2;·rw[zig e];exact ae (an (b d) (aE (c e) (aa (aa rfl))))
 by_cases f:a.1=3;·rw[zih f];exact ae (an (b d) (an (b e) (aE (c f) (aa (aa rfl)))))
 by_cases g:a.1=4;·rw[zii g];exact ae (an (b d) (an (b e) (an (b f) (aE (c g) (aa (aa rfl))))))
 by_cases j:a.1=5;·rw[zij j];exact ae (an (b d) (an (b e) (an (b f) (an (b g) (aE (c j) (aa (aa rfl)))))))
 by_cases p:a.1=6;·rw[zik p];exact ae (an (b d) (an (b e) (an (b f) (an (b g) (an (b j) (aE (c p) (aj (Lm cm a.2.2.2.1 (by omega)) (aa (aa rfl)))))))))
 by_cases w:a.1=7;·rw[zil w];exact ae (an (b d) (an (b e) (an (b f) (an (b g) (an (b j) (an (b p) (aE (c w) (aj (Jy cm a.2.2.2.1 (by omega)) (aa (aa rfl))))))))))
 have u:a.1=8:=by omega
 obtain⟨F,H⟩:=U2 A u;generalize l:a.2.1=N at F H;obtain⟨m,rfl⟩:=G_ (show 0<=N by omega);refine ae (an (b d) (an (b e) (an (b f) (an (b g) (an (b j) (an (b p) (an (b w) (aE (c u) ?_))))))));have B:a_ .i64 ((pt.length:Int)+(m:Int))=(pt.length:Int)+(m:Int):=wrap_i64 (by omega) (by omega);have v:a_ .i64 ((m:Int)+(pt.length:Int))=(m:Int)+(pt.length:Int):=wrap_i64 (by omega) (by omega);simp only[l,B,v];refine ao (λh=>?_) λh=>aa (aa ?_)
 ·have h:=of_decide_eq_true h;rw[zim u (by omega),l];refine aD (by grind) ?_;refine ae (a8 (N:=m) (I:=λi s=>s=((i:Int),y,z,po,nh,pt,cm,pf,md,mt,tg,(0:Int),(0:Int),(0:Int),(0:Int),(0:Int),(0:Int),(0:Int),(0:Int),g_ i a.2.2.1++g_ (m - i) (0:Int),())) rfl (λi s E hs=>?_) λs hs=>?_)
  ·subst hs;unfold sj;simp only[l];have hl:(g_ i a.2.2.1++g_ (m - i) (0:Int)).length=m:=by grind
   refine aE (decide_eq_true (by grind)) ?_;refine aF (by omega) (m9 (x:=(g_ i a.2.2.1++g_ (m - i) (0:Int))[i]'(by omega)) (by grind) (aa ?_));show(a_ .i64 ((i:Int)+1),y,z,po,nh,pt,cm,pf,md,mt,tg,(0:Int),(0:Int),(0:Int),(0:Int),(0:Int),(0:Int),(0:Int),(0:Int),(g_ i a.2.2.1++g_ (m - i) (0:Int)).set (z_ (i:Int)) a.2.2.1,())=_;rw[aB E (by omega),s_];have:(g_ i a.2.2.1++g_ (m - i) (0:Int)).set i a.2.2.1=g_ (i+1) a.2.2.1++g_ (m - (i+1)) (0:Int):=by rw[List.set_append_right _ _ (by simp),List.length_replicate,ad_,show m - i=(m - (i+1))+1 by omega,List.replicate_succ,List.set_cons_zero,N_ (n:=i),List.append_assoc];rfl
   grind
  ·subst hs;unfold sj;simp only[l];refine an (decide_eq_false (by simp)) (aa ?_);simp only[ad_,List.replicate_zero,j_];refine aD (decide_eq_true (by grind)) (aa (aa ?_));simp
 ·have h:=of_decide_eq_false h;rw[zin u (by omega)]
theorem O3(t:GL):aC tbl s7 [.d yT t] [] oW (([([112],[([116],t.2.1,t.2.2.1,1,())],1,())]:List K1),()):=ap rfl (aA Qx rfl (λO n=>bI (Pw O n t)) (aa rfl))
theorem zgJ{a:Dj}(h:okD yA a):SmP (zfg a):=by
 have l1:(1:Nat)<=maxLen:=by decide
 have c:IntKind.i64.min<=(1:Int)/\(1:Int)<=IntKind.i64.max:=by decide
 have e:okD yT ([116],[],[a],1,()):=by refine⟨l1,⟨h_ _,λy b=>by grind⟩,⟨l1,λx d=>?_⟩,c,trivial⟩;grind
 have hp:okD yO ([112],[([116],[],[a],1,())],1,()):=by refine⟨l1,⟨l1,λx d=>?_⟩,c,trivial⟩;grind
 refine⟨⟨⟨h_ _,λy b=>by grind⟩,⟨h_ _,λy b=>by grind⟩,⟨h_ _,λy b=>by grind⟩,⟨l1,λy b=>?_⟩,trivial⟩,h_ _,h_ _,h_ _,show(1:Nat)<=1048576 by simp,λl hl=>by grind⟩;grind
theorem UE(l:List Dj)(r:oL)(hl:l.length<=100000)(g:∀a∈l,okD yA a)(hr:SmR 100000 r):aC tbl xX [.d (.list yA) l,.d Rb r] [] uk (JH l r,()):=by
 refine ap rfl (aA Xh rfl (λO n=>bI (KL O n l r)) ?_);unfold KL;refine aj (HG r (by have:=hr.pt;omega) (by have:=hr.cm;omega)) ?_;have enc:∀x:oL,x=((x.1.1,x.1.2.1,()),x.2.1,x.2.2.1,x.2.2.2.1,x.2.2.2.2.1,x.2.2.2.2.2.1,x.2.2.2.2.2.2.1,x.2.2.2.2.2.2.2.1,x.2.2.2.2.2.2.2.2.1,()):=λx=>rfl;refine ae (a8 (N:=l.length) (I:=λi s=>∃x:oL,x=JH (l.take i) r/\s=((i:Int),(0:Int),(0:Int),(0:Int),(0:Int),(0:Int),(0:Int),(0:Int),(0:Int),x.1.1,x.1.2.1,x.2.1,x.2.2.1,x.2.2.2.1,x.2.2.2.2.1,x.2.2.2.2.2.1,x.2.2.2.2.2.2.1,x.2.2.2.2.2.2.2.1,x.2.2.2.2.2.2.2.2.1,())) ⟨r,rfl,rfl⟩ (λi s c hs=>?_) λs hs=>?_)
 ·obtain⟨x,e,rfl⟩:=hs;unfold yu;have d:SmR (100000+(l.take i).length) x:=by rw[e];exact SE hr
  have hc:=d.cm;have hp:=d.pt;have f:=g _ (b_ c);have b:JH (l.take (i+1)) r=MW l[i] x:=by unfold JH at e⊢;rw[d_ c,v_,e];rfl
  refine a6 c (ae (aF c (aj (O3 _) (aj (wo (zfg l[i]) (zgJ f)) ?_))));rw[zh3];refine ao (λh=>?_) λh=>?_
  ·have h:jl l[i]=0:=by grind
   rw[show MW l[i] x=zjg l[i] x from if_pos h]at b;refine aj (ME l[i] x h (by omega) (by grind)) (aa (aa ⟨zjg l[i] x,b.symm,?_⟩));show(a_ .i64 ((i:Int)+1),_)=_;rw[aB c (by omega)]
  ·have h:¬jl l[i]=0:=by grind
   rw[show MW l[i] x=x from if_neg h]at b;refine aa (aa ⟨x,b.symm,?_⟩);show(a_ .i64 ((i:Int)+1),_)=_;rw[aB c (by omega)]
 ·obtain⟨x,e,rfl⟩:=hs;unfold yu;refine aT (aa (aa ?_));grind
theorem UR(a:Dj)(r:oL)(B:r.2.2.2.1.length<=900000)(C:r.2.2.2.2.1.length<=900000):aC tbl yd [.d yA a,.d Rb r] [] mW (MW a r,()):=by
 obtain⟨⟨g,j,⟨⟩⟩,po,nh,pt,cm,pf,md,mt,tg,⟨⟩⟩:=r;simp only at B C;refine ap rfl (aA Xs rfl (λO n=>bI (KY O n a ((g,j,()),po,nh,pt,cm,pf,md,mt,tg,()))) ?_);unfold KY;refine aj (Dp a) (ao (λh=>aa ?_) λh=>?_);·rw[show MW a ((g,j,()),po,nh,pt,cm,pf,md,mt,tg,())=((g,j,()),po,nh,pt,cm,pf,md,mt,tg,())from if_neg (by grind)]
 have x:jl a=0:=by grind
 rw[show MW a ((g,j,()),po,nh,pt,cm,pf,md,mt,tg,())=zjg a ((g,j,()),po,nh,pt,cm,pf,md,mt,tg,())from if_pos x];have F:=Rf x;have b:∀{k:Int},a.1≠k->(a.1==k)=false:=λh=>beq_eq_false_iff_ne.2 h;have c:∀{k:Int},a.1=k->(a.1==k)=true:=λh=>beq_iff_eq.2 h;by_cases d:a.1=1;·rw[zif d];exact ae (aE (c d) (aa (aa rfl)))
 by_cases e:a.1=2;·rw[zig e];exact ae (an (b d) (aE (c e) (aa (aa rfl))))
 by_cases f:a.1=3;·rw[zih f];exact ae (an (b d) (an (b e) (aE (c f) (aa (aa rfl)))))
 by_cases l:a.1=4;·rw[zii l];exact ae (an (b d) (an (b e) (an (b f) (aE (c l) (aa (aa rfl))))))
 by_cases p:a.1=5;·rw[zij p];exact ae (an (b d) (an (b e) (an (b f) (an (b l) (aE (c p) (aa (aa rfl)))))))
 by_cases v:a.1=6;·rw[zik v];exact ae (an (b d) (an (b e) (an (b f) (an (b l) (an (b p) (aE (c v) (aj (UM cm a.2.2.2.1 (by omega)) (aa (aa rfl)))))))))
 by_cases y:a.1=7;·rw[zil y];exact ae (an (b d) (an (b e) (an (b f) (an (b l) (an (b p) (an (b v) (aE (c y) (aj (Sr cm a.2.2.2.1 (by omega)) (aa (aa rfl))))))))))
 have w:a.1=8:=by omega
 obtain⟨D,E⟩:=U2 x w;generalize u:a.2.1=N at D E;obtain⟨m,rfl⟩:=G_ (show 0<=N by omega);refine ae (an (b d) (an (b e) (an (b f) (an (b l) (an (b p) (an (b v) (an (b y) (aE (c w) ?_))))))));have A:a_ .i64 ((pt.length:Int)+(m:Int))=(pt.length:Int)+(m:Int):=wrap_i64 (by omega) (by omega);simp only[u,A];refine ao (λh=>aa (aa ?_)) λh=>?_;·have h:=of_decide_eq_true h;rw[zin w (by omega)]
 ·have h:=of_decide_eq_false h;rw[zim w (by omega),u];refine ae (a8 (N:=m) (I:=λi s=>s=((i:Int),g,j,po,nh,pt,cm,pf,md,mt,tg,(0:Int),(0:Int),(0:Int),(0:Int),(0:Int),(0:Int),(0:Int),(0:Int),g_ i a.2.2.1,())) rfl (λi s z hs=>?_) λs hs=>?_);·subst hs;unfold yz;simp only[u];refine a6 z (aD (decide_eq_true (by grind)) (aa ?_));show(a_ .i64 ((i:Int)+1),g,j,po,nh,pt,cm,pf,md,mt,tg,(0:Int),(0:Int),(0:Int),(0:Int),(0:Int),(0:Int),(0:Int),(0:Int),g_ i a.2.2.1++[a.2.2.1],())=_;rw[aB z (by omega),N_ (n:=i)]
  ·subst hs;unfold yz;simp only[u];refine aT (aa ?_);refine aD (decide_eq_true (by grind)) (aa (aa ?_));simp
theorem UO(l:List Dj)(r:oL)(hl:l.length<=100000)(hr:SmR 100000 r):aC tbl ya [.d (.list yA) l,.d Rb r] [] ut (JH l r,()):=by
 refine ap rfl (aA Xp rfl (λO n=>bI (KV O n l r)) ?_);unfold KV;refine aj (Ph r (by have:=hr.pt;omega) (by have:=hr.cm;omega)) ?_;refine ae (a8 (N:=l.length) (I:=λi s=>∃x:oL,x=JH (l.take i) r/\s=((i:Int),x.1.1,x.1.2.1,x.2.1,x.2.2.1,x.2.2.2.1,x.2.2.2.2.1,x.2.2.2.2.2.1,x.2.2.2.2.2.2.1,x.2.2.2.2.2.2.2.1,x.2.2.2.2.2.2.2.2.1,(0:Int),(0:Int),(0:Int),(0:Int),(0:Int),(0:Int),(0:Int),(0:Int),())) ⟨r,rfl,rfl⟩ (λi s c hs=>?_) λs hs=>?_)
 ·obtain⟨x,d,rfl⟩:=hs;unfold yx;have b:SmR (100000+(l.take i).length) x:=by rw[d];exact SE hr
  have hc:=b.cm;have hp:=b.pt;have a:JH (l.take (i+1)) r=MW l[i] x:=by unfold JH at d⊢;rw[d_ c,v_,d];rfl
  refine a6 c (aF c (aj (UR l[i] x (by omega) (by grind)) (aa ⟨MW l[i] x,a.symm,?_⟩)));show(a_ .i64 ((i:Int)+1),_)=_;rw[aB c (by omega)]
 ·obtain⟨x,d,rfl⟩:=hs;unfold yx;refine aT (aa (aa ?_));grind
theorem RL{s:PS}{m:MAT}(h:xD s m=0):1<=m.1/\m.1<=8:=by refine f_ λhn=>?_;rw[NW (show m.1<1\/8<m.1 by omega)]at h;omega
theorem U4{α:Type}{p:α->Bool}{l:List α}{i:Nat}(a:i<l.length):(l.take (i+1)).all p=((l.take i).all p&&p l[i]):=by rw[d_ a,J_];simp
abbrev eE{α:Type}(s:PS)(r:oL)(x:α):List PLS×List HLS×List CLS×List K1×Int×Int×Int×Int×List Int×List Int×Int×Int×Int×Int×α:=
 (s.1,s.2.1,s.2.2.1,s.2.2.2.1,r.1.1,r.1.2.1,r.2.1,r.2.2.1,r.2.2.2.1,r.2.2.2.2.1,r.2.2.2.2.2.1,r.2.2.2.2.2.2.1,r.2.2.2.2.2.2.2.1,r.2.2.2.2.2.2.2.2.1,x)
abbrev zE{α:Type}(x:α):Bool×Int×Int×Int×Int×Int×Int×Int×Int×α:=(false,0,0,0,0,0,0,0,0,x)
theorem ev0(s:PS)(r:oL)(h:SmQ s r)(t:GL)(e:TrmOk s t)(f:∀m∈t.2.1,hU m.2.2.2.1.1)(T:List Int)(A:List Dj): Wp (λn=>aL n (jX (sC tbl n) n t) (true,(0:Int),zE (eE s r (T,A,t.1,t.2.1,t.2.2.1,t.2.2.2.1,())))) λx=>x=(vr s r t,zE (eE s r (T,A,t.1,t.2.1,t.2.2.1,t.2.2.2.1,()))):=by
 refine a8 (N:=t.2.1.length) (I:=λi x=>x=((t.2.1.take i).all (Y5 s r),(i:Int),zE (eE s r (T,A,t.1,t.2.1,t.2.2.1,t.2.2.2.1,())))) rfl (λi x b d=>?_) λx d=>?_
 ·subst d;unfold jX;have hl:=e.ml;have c:=b_ b;refine a6 b (aF b (ao (λa=>?_) λa=>aa ?_));·refine aj (zfw s t.2.1[i] r h (RL (e.ma _ c)) (f _ c)) (aa ?_);show(Y5 s r t.2.1[i],a_ .i64 ((i:Int)+1),_)=_;have a:(t.2.1.take i).all (Y5 s r)=true:=a;rw[U4 b,a,q_,aB b (by omega)]
  ·show(false,a_ .i64 ((i:Int)+1),_)=_;have a:(t.2.1.take i).all (Y5 s r)=false:=a;rw[U4 b,a,L_,aB b (by omega)]
 ·subst d;unfold jX;refine aT (aa ?_);rw[k_];rfl
theorem wJ{hold:GL->Bool}{t:GL}{l:List GL}{i:Nat}{d:Int}:ji hold (t::l) i d=if hold t then(if t.2.2.2.1≠3 then([(i:Int)],t.2.2.1,t.2.2.2.1)else((i:Int)::(ji hold l (i+1) d).1,t.2.2.1++(ji hold l (i+1) d).2.1,(ji hold l (i+1) d).2.2))else ji hold l (i+1) d:=rfl
noncomputable def Ef(s:PS)(p:K1)(r:oL):List Int×List Dj×Int:=ji (vr s r) p.2.1 0 p.2.2.1
noncomputable def XD(s:PS)(p:K1)(r:oL):Bool×(oL×Unit):=if(Ef s p r).2.2=2 then(false,zc6,())else(true,JH (Ef s p r).2.1 r,())
theorem zd2{s:PS}{p:K1}{r:oL}(hs:okD yO p):∀a∈(Ef s p r).2.1,okD yA a:=by
 have key:∀(l:List GL) (i:Nat) (d:Int),(∀t∈l,okD yT t)->∀a∈(ji (vr s r) l i d).2.1,okD yA a:=by
  intro l;induction l with
  |nil=>intro i d _ a b;cases b|cons t l e=>
   intro i d h a b;rw[wJ]at b;have c:=h t (by simp);split at b
   ·split at b;·exact c.2.2.1.2 a b
    ·rcases List.mem_append.1 b with b|b;·exact c.2.2.1.2 a b
     grind
   grind
 exact key p.2.1 0 p.2.2.1 hs.2.1.2
theorem Jw(s:PS)(p:K1)(r:oL)(h:SmQ s r)(hp:PlcOk s p)(u:okD yO p):aC tbl na [.d yS s,.d yO p,.d Rb r] [] gI ((Ef s p r).1,XD s p r,()):=by
 refine ap rfl (aA Kq rfl (λO n=>bI (Ac O n s p r)) ?_);unfold Ac;have J:=hp.tl;have C:∀t∈p.2.1,t.2.2.1.length<=64:=λt H=>(hp.tr t H).al;generalize g:Ef s p r=R;have D:R.1.length<=64/\R.2.1.length<=64*64:=by have:=wj (hold:=vr s r) (l:=p.2.1) (i:=0) (d:=p.2.2.1) C;have e:ji (vr s r) p.2.1 0 p.2.2.1=R:=g;grind
 refine aj (Sn s r) (ae (Wp.imp (Q:=λx=>x=(R.2.2,zE (R.1,R.2.1,()))) (a8 (N:=p.2.1.length) (I:=λi x=>∃(T:List Int) (A:List Dj),x=(p.2.2.1,(i:Int),zE (eE s r (T,A,())))/\T++(ji (vr s r) (p.2.1.drop i) i p.2.2.1).1=R.1/\A++(ji (vr s r) (p.2.1.drop i) i p.2.2.1).2.1=R.2.1/\(ji (vr s r) (p.2.1.drop i) i p.2.2.1).2.2=R.2.2) ⟨[],[],rfl,by rw[u_,<-g];rfl,by rw[u_,<-g];rfl,by rw[u_,<-g];rfl⟩ (λi x k B=>?_) λx B=>?_) λx B=>?_))
 ·obtain⟨T,A,rfl,b,c,a⟩:=B;unfold pJ;have hT:T.length<=64:=by grind
  have Y:A.length<=64*64:=by grind
  have hw:a_ .i64 ((i:Int)+1)=((i+1:Nat):Int):=aB k (by omega);rw[i_ k,wJ]at b c a;have w:=b_ k;have f:=hp.tr _ w;have v:=u.2.1.2 _ w;refine a6 k (ae (aF k ?_));generalize p.2.1[i]=t at b c a f v;have E:=f.al;refine ae (Wp.imp (ev0 s r h t f (λm F=>((v.2.1.2 m F).2.2.2.1).1) T A) λy L=>?_);subst L;refine ao (λj=>aa (aa ?_)) λj=>?_;·grind
  ·have j:vr s r t=true:=by grind
   rw[j]at b c a;refine aD (decide_eq_true (by grind)) (aD (decide_eq_true (by grind)) (ao (λz=>aa (aa ?_)) λz=>aa (aa ?_)));·grind
   ·have z:¬t.2.2.2.1≠3:=by grind
    rw[if_pos rfl,if_neg z]at b c a;refine⟨T++[(i:Int)],A++t.2.2.1,?_,?_,?_,a⟩;all_goals grind
 ·obtain⟨T,A,rfl,b,c,a⟩:=B;unfold pJ;rw[H_]at b c a;refine aT (aa ?_);show(p.2.2.1,zE (T,A,()))=_;have M:T=R.1:=by rw[<-b];exact(j_ T).symm
  have P:A=R.2.1:=by rw[<-c];exact(j_ A).symm
  have U:p.2.2.1=R.2.2:=a;grind
 ·subst B;have z:XD s p r=if R.2.2=2 then(false,zc6,())else(true,JH R.2.1 r,()):=by unfold XD;grind
  rw[z];refine ao (λj=>aa ?_) λj=>?_;·grind
  ·rw[if_neg (by grind)];refine aj (UE R.2.1 r (by omega) (by rw[<-g];exact zd2 u) ⟨by have:=h.pt;omega,h.cm⟩) (aa rfl)
noncomputable def xq(s:PS)(n:List UInt8)(r:oL):Int:=if sU gv s≠0 then sU gv s else if(vj s n).isSome=false then 6 else B5 r
noncomputable def IZ(s:PS)(n:List UInt8):K1:=if sU gv s≠0 then XG else(vj s n).getD XG
theorem Ll(s:PS)(n:List UInt8)(r:oL)(h:SmQ s r):aC tbl pj [.d yS s,.d tS n,.d Rb r] [] fD (IZ s n,xq s n r,()):=by
 refine ap rfl (aA L4 rfl (λO k=>bI (Co O k s n r)) ?_);unfold Co;refine aj (wo s h.s) (ao (λa=>aa ?_) λa=>?_)
 ·have a:sU gv s≠0:=by grind
  rw[show IZ s n=XG from if_pos a,show xq s n r=sU gv s from if_pos a]
 have a:¬sU gv s≠0:=by grind
 have c:=IY (f_ a);rw[show IZ s n=(vj s n).getD XG from if_neg a,show xq s n r=if(vj s n).isSome=false then 6 else B5 r from if_neg a];refine aj (F0 s n c) (ao (λb=>aa ?_) λb=>aj (OZ r h.p) (aa ?_))
 ·have b:(vj s n).isSome=false:=by grind
  rw[if_pos b];cases e:vj s n with|some p=>grind|none=>rfl
 grind
theorem F6(s:PS)(n:List UInt8)(r:oL)(h:SmQ s r)(hc:aC tbl oD [.d Rb r] [] cJ (B5 r,())):aC tbl oG [.d yS s,.d tS n,.d Rb r] [] gE (IZ s n,xq s n r,()):=by
 refine ap rfl (aA QV rfl (λO k=>bI (Gx O k s n r)) ?_);unfold Gx;refine aj (F3 s h.s) (ao (λa=>aa ?_) λa=>?_)
 ·have a:sU gv s≠0:=by grind
  rw[show IZ s n=XG from if_pos a,show xq s n r=sU gv s from if_pos a]
 have a:¬sU gv s≠0:=by grind
 have c:=IY (f_ a);have d:=c.l4;rw[show IZ s n=(vj s n).getD XG from if_neg a,show xq s n r=if(vj s n).isSome=false then 6 else B5 r from if_neg a];refine aj (HM s n (by omega)) (ao (λb=>aa ?_) λb=>aj hc (aa ?_))
 ·have b:(vj s n).isSome=false:=by grind
  rw[if_pos b];cases e:vj s n with|some p=>grind|none=>rfl
 grind
theorem AY(x:Int):aC tbl nn [.d tI x] [] kE (decide (x>=0)&&decide (x<=4294967295),()):=by refine ap rfl (aA T3 rfl (λO k=>bI (HY O k x)) ?_);unfold HY;exact ae (bb (b:=decide (x<=4294967295)) (λ_=>aa rfl) (aa rfl))
theorem F5(r:oL)(hp:hU r.1.1):aC tbl oD [.d Rb r] [] cJ (B5 r,()):=by
 refine ap rfl (aA QS rfl (λO n=>bI (Gu O n r)) ?_);unfold Gu;refine aj (dG r.1 hp) (ao (λh=>aa ?_) λh=>?_);·rw[show B5 r=1 from if_pos (by grind)]
 have j:dE r.1=true:=by grind
 refine ae (bn (b:=decide (r.2.1>7)) (λ_=>aa rfl) (ao (λh=>aa ?_) λh=>?_));·rw[show B5 r=5 from by unfold B5;grind]
 have k:¬(r.2.1<1\/7<r.2.1):=by grind
 refine ao (λh=>aa ?_) λh=>?_;·rw[show B5 r=4 from by unfold B5;grind]
 have l:¬r.2.2.2.1.length>2000:=by grind
 rw[Sj j k l];refine ae (wg (xs:=r.2.2.2.1) (P:=λv=>1<=v/\v<=4294967295) (e:=((5:Int),())) (g:=()) (λi a=>?_) ?_ (λh=>?_) λh=>aa ?_);·unfold uM;refine a6 a (aF a (ae (bn (b:=decide (r.2.2.2.1[i]>4294967295)) (λ_=>aa rfl) (pE ?_ (by rw[aB a (by omega)])))));grind
 ·unfold uM;exact aT (aa rfl)
 ·rw[if_neg (not_not_intro h)];refine aj (O9 r.2.2.2.2.1) (ao (λh=>aa ?_) λh=>?_);·grind
  rw[if_neg (by grind)];generalize r.2.2.2.2.2.1=x0;generalize r.2.2.2.2.2.2.1=c;generalize r.2.2.2.2.2.2.2=y;obtain⟨f,d,⟨⟩⟩:=y;refine aj (AY x0) (ae (bn (b:= !(decide (c>=0)&&decide (c<=4294967295))) (λ_=>aj (AY c) (aa rfl)) ?_));refine ae (bn (b:= !(decide (d>=0)&&decide (d<=4294967295))) (λ_=>aj (AY d) (aa rfl)) ?_);refine ae (bn (b:=decide (f<0)) (λ_=>aa rfl) (ae (bn (b:=decide (f>16777216)) (λ_=>aa rfl) (ao (λh=>aa ?_) λh=>aa ?_))));all_goals grind
 grind
theorem I3{s:PS}{n:List UInt8}{r:oL}(h:xq s n r=0):∃p,vj s n=some p/\IZ s n=p/\PolOk gv s/\B5 r=0:=by
 unfold xq at h;split at h;·omega
 rename_i a;split at h;·omega
 rename_i b;cases e:vj s n with|none=>grind|some p=>exact⟨p,rfl,by unfold IZ;grind,IY (f_ a),h⟩
noncomputable def On(s:PS)(n:List UInt8)(r:oL):Bool×(oL×Unit):=if xq s n r≠0 then(false,zc6,())else XD s (IZ s n) r
noncomputable def runT(s:PS)(n:List UInt8)(r:oL):List Int:=if xq s n r≠0 then []else(Ef s (IZ s n) r).1
theorem UF(s:PS)(n:List UInt8)(r:oL)(h:SmQ s r):aC tbl xY [.d yS s,.d tS n,.d Rb r] [] qk (On s n r,xq s n r,()):=by
 refine ap rfl (aA Xi rfl (λO k=>bI (KM O k s n r)) ?_);unfold KM;refine aj (Ll s n r h) (ao (λa=>aa ?_) λa=>?_)
 ·have a:xq s n r≠0:=by grind
  rw[show On s n r=(false,zc6,())from if_pos a]
 ·have a:xq s n r=0:=by grind
  obtain⟨p,b,c,d,_⟩:=I3 a;rw[show On s n r=XD s (IZ s n) r from if_neg (not_not_intro a),c,a];exact aj (Jw s p r h (d.r4 p (xc b)) (h.s.ok.2.2.2.1.2 p (xc b))) (aa rfl)
theorem Sv(s:PS)(r:oL)(h:SmQ s r)(t:GL)(c:TrmOk s t)(d:∀m∈t.2.1,hU m.2.2.2.1.1):aC tbl vS [.d yS s,.d yT t,.d Rb r] [] nw (vr s r t,()):=by
 refine ap rfl (aA T2 rfl (λO n=>bI (HX O n s t r)) ?_);unfold HX;have hl:=c.ml;refine ae (wg (xs:=t.2.1) (P:=λm=>Y5 s r m=true) (e:=(false,())) (g:=()) (λi b=>?_) ?_ (λh=>aa ?_) λh=>aa ?_);·unfold wB;have a:=b_ b;refine a6 b (aF b (aj (UP s t.2.1[i] r h (RL (c.ma _ a)) (d _ a)) (pE ?_ (by rw[aB b (by omega)]))));show(false ^^ (lS s t.2.1[i] r==t.2.1[i].2.2.2.2.1))=true↔¬(true ^^ (lS s t.2.1[i] r==t.2.1[i].2.2.2.2.1))=true;simp
 ·unfold wB;exact aT (aa rfl)
 ·rw[show vr s r t=true from U_.2 h]
 ·rw[show vr s r t=false from by cases e:vr s r t;rfl;exact absurd (U_.1 e) h]
theorem Pi(s:PS)(n:List UInt8)(r:oL)(h:SmQ s r):aC tbl tu [.d yS s,.d tS n,.d Rb r] [] lf (runT s n r,xq s n r,()):=by
 refine ap rfl (aA QU rfl (λO k=>bI (Gw O k s n r)) ?_);unfold Gw;refine aj (F6 s n r h (F5 r h.p)) (ao (λa=>aa ?_) λa=>?_)
 ·have a:xq s n r≠0:=by grind
  rw[show runT s n r=[]from if_pos a]
 have a:xq s n r=0:=by grind
 obtain⟨p,y,B,C,_⟩:=I3 a;rw[show runT s n r=(Ef s (IZ s n) r).1 from if_neg (not_not_intro a),B,a];have hp:=C.r4 p (xc y);have v:=h.s.ok.2.2.2.1.2 p (xc y);have F:=hp.tl;generalize z:(Ef s p r).1=R;have A:R.length<=64:=by have:=wj (hold:=vr s r) (l:=p.2.1) (i:=0) (d:=p.2.2.1) (λt E=>(hp.tr t E).al);have e:(ji (vr s r) p.2.1 0 p.2.2.1).1=R:=z;grind
 refine ae (Wp.imp (Q:=λx=>x=(R,())) (a8 (N:=p.2.1.length) (I:=λi x=>∃T:List Int,x=((i:Int),T,())/\T++(ji (vr s r) (p.2.1.drop i) i p.2.2.1).1=R) ⟨[],rfl,by rw[u_,<-z];rfl⟩ (λi x c u=>?_) λx u=>?_) λx u=>?_)
 ·obtain⟨T,rfl,b⟩:=u;unfold uN;have H:T.length<=64:=by grind
  have J:a_ .i64 ((i:Int)+1)=((i+1:Nat):Int):=aB c (by omega);rw[i_ c,wJ]at b;have g:=b_ c;have j:=hp.tr _ g;have f:=v.2.1.2 _ g;refine a6 c (ae (aF c ?_));generalize p.2.1[i]=t at b j f;refine aj (Sv s r h t j (λm D=>((f.2.1.2 m D).2.2.2.1).1)) (ao (λa=>aa (aa ?_)) λa=>?_);·grind
  ·have a:vr s r t=true:=by grind
   rw[a]at b;refine aD (decide_eq_true (by grind)) (ao (λw=>aa (aa ?_)) λw=>aa (aa ?_));·grind
   ·have w:¬t.2.2.2.1≠3:=by grind
    rw[if_pos rfl,if_neg w]at b;refine⟨T++[(i:Int)],?_,?_⟩;all_goals grind
 ·obtain⟨T,rfl,b⟩:=u;unfold uN;rw[H_]at b;refine aT (aa ?_);show(T,())=_;rw[show T=R from by rw[<-b];exact(j_ T).symm]
 ·subst u;exact aa rfl
def EI(l:List GL)(x:Int×List Dj)(v:Int):Int×List Dj:=((if(l.getD v.toNat ([],[],[],0,())).2.2.2.1≠3 then(l.getD v.toNat ([],[],[],0,())).2.2.2.1 else x.1),x.2++(l.getD v.toNat ([],[],[],0,())).2.2.1)
theorem Xf{hold:GL->Bool}{l:List GL}{d:Int}:∀(k i:Nat) (A:List Dj),i+k=l.length->(ji hold (l.drop i) i d).1.foldl (EI l) (d,A)=((ji hold (l.drop i) i d).2.2,A++(ji hold (l.drop i) i d).2.1)
 |0,i,A,h=>by rw[List.drop_eq_nil_of_le (by omega)];show(d,A)=(d,A++[]);simp
 |k+1,i,A,h=>by
  have a:i<l.length:=by omega
  have c:=λA=>Xf (hold:=hold) (l:=l) (d:=d) k (i+1) A (by omega);have hg:l.getD ((i:Int).toNat) ([],[],[],0,())=l[i]:=by grind
  rw[i_ a,wJ];split
  ·split;·rename_i b;show EI l (d,A) (i:Int)=_;unfold EI;grind
   ·rename_i b;show(ji hold (l.drop (i+1)) (i+1) d).1.foldl (EI l) (EI l (d,A) (i:Int))=_;have e:EI l (d,A) (i:Int)=(d,A++l[i].2.2.1):=by unfold EI;grind
    grind
  grind
theorem VQ{hold:GL->Bool}:∀(l:List GL) (i:Nat) (d:Int),∀v∈(ji hold l i d).1,(i:Int)<=v/\v<((i+l.length:Nat):Int)
 |[],_,_,v,a=>by cases a
 |t::l,i,d,v,a=>by have b:=VQ (hold:=hold) l (i+1) d v;rw[wJ]at a;grind
theorem UQ(s:PS)(n:List UInt8)(r:oL)(h:SmQ s r):aC tbl yc [.d yS s,.d tS n,.d Rb r] [] mV (On s n r,xq s n r,()):=by
 refine ap rfl (aA Xr rfl (λO k=>bI (KX O k s n r)) ?_);unfold KX;refine aj (F6 s n r h (F5 r h.p)) (ao (λa=>aa ?_) λa=>?_)
 ·have a:xq s n r≠0:=by grind
  rw[show On s n r=(false,zc6,())from if_pos a]
 have a:xq s n r=0:=by grind
 obtain⟨p,H,J,P,_⟩:=I3 a;have D:=Pi s n r h;rw[show runT s n r=(Ef s (IZ s n) r).1 from if_neg (not_not_intro a),J]at D;rw[show On s n r=XD s (IZ s n) r from if_neg (not_not_intro a),J,a];rw[a]at D;refine aj D ?_;have hp:=P.r4 p (xc H);have F:=h.s.ok.2.2.2.1.2 p (xc H);have U:=hp.tl;have c:∀t∈p.2.1,t.2.2.1.length<=64:=λt T=>(hp.tr t T).al;have f:(Ef s p r).1.foldl (EI p.2.1) (p.2.2.1,[])=((Ef s p r).2.2,(Ef s p r).2.1):=Xf (hold:=vr s r) (l:=p.2.1) (d:=p.2.2.1) p.2.1.length 0 [] (by simp);have u:∀v∈(Ef s p r).1,0<=v/\v.toNat<p.2.1.length:=λv y=>by have:=VQ (hold:=vr s r) p.2.1 0 p.2.2.1 v y;omega
 have w:(Ef s p r).1.length<=64:=by have:=(wj (hold:=vr s r) (l:=p.2.1) (i:=0) (d:=p.2.2.1) c).1;have e:(ji (vr s r) p.2.1 0 p.2.2.1).1=(Ef s p r).1:=rfl;grind
 have g:(Ef s p r).2.1.length<=64*64:=by have:=(wj (hold:=vr s r) (l:=p.2.1) (i:=0) (d:=p.2.2.1) c).2;have e:(ji (vr s r) p.2.1 0 p.2.2.1).2.1=(Ef s p r).2.1:=rfl;grind
 have y:XD s p r=if(Ef s p r).2.2=2 then(false,zc6,())else(true,JH (Ef s p r).2.1 r,()):=rfl;rw[y];have E:=zd2 (s:=s) (r:=r) F;generalize Ef s p r=R at f u w g E;refine ae (Wp.imp (Q:=λx=>x=(R.2.2,zE (R.2.1,()))) (a8 (N:=R.1.length) (I:=λi x=>x=(((R.1.take i).foldl (EI p.2.1) (p.2.2.1,[])).1,(i:Int),zE (p.1,p.2.1,p.2.2.1,((R.1.take i).foldl (EI p.2.1) (p.2.2.1,[])).2,()))/\((R.1.take i).foldl (EI p.2.1) (p.2.2.1,[])).2.length<=64*i) ⟨rfl,h_ _⟩ (λi x j z=>?_) λx z=>?_) λx z=>?_)
 ·obtain⟨rfl,L⟩:=z;unfold yy;have hw:a_ .i64 ((i:Int)+1)=((i+1:Nat):Int):=aB j (by omega);obtain⟨C,B⟩:=u _ (b_ j);have b:(R.1.take (i+1)).foldl (EI p.2.1) (p.2.2.1,[])=EI p.2.1 ((R.1.take i).foldl (EI p.2.1) (p.2.2.1,[])) R.1[i]:=by rw[d_ j,v_];rfl
  generalize(R.1.take i).foldl (EI p.2.1) (p.2.2.1,[])=X at L b;obtain⟨d,A⟩:=X;simp only at L;refine a6 j (ae (aF j ?_));rw[b];generalize R.1[i]=v at C B;have hg:p.2.1.getD v.toNat ([],[],[],0,())=p.2.1[v.toNat]:=by grind
  have Y:=c _ (b_ B);have M:EI p.2.1 (d,A) v=((if p.2.1[v.toNat].2.2.2.1≠3 then p.2.1[v.toNat].2.2.2.1 else d),A++p.2.1[v.toNat].2.2.1):=by unfold EI;grind
  rw[M];refine Uz C B (aD (decide_eq_true (by grind)) (Uz C B (ao (λy=>Uz C B (aa (aa ⟨?_,?_⟩))) λy=>aa (aa ⟨?_,?_⟩))));·grind
  all_goals grind
 ·obtain⟨rfl,_⟩:=z;unfold yy;refine aT (aa ?_);grind
 ·subst z;refine ao (λa=>aa ?_) λa=>?_;·grind
  ·rw[if_neg (by grind)];exact aj (UO R.2.1 r (by omega) ⟨by have:=h.pt;omega,h.cm⟩) (aa rfl)
theorem A0:aC tbl t6 [] [] qm (((167772160,(8,()))),()):=Mp (m:=90) λk=>by kernel_rfl
theorem A1:aC tbl pS [.d (.list (pr [(pr [tW,tI]),tI,tI,tI,tI,(.list (pr [tW,tI,tW,tI,(pr [tW,tI])]))])) ([((167772160,(8,())),(2,(1,(7,(0,([],()))))))]),.d (pr [(.list (pr [tS,(.list (pr [tB,(pr [tW,tI]),tI,tI]))])),(.list (pr [tS,(.list (pr [tB,tS]))])),(.list (pr [tS,(.list (pr [tB,tI,tI]))])),(.list (pr [tS,(.list (pr [tS,(.list (pr [tI,tS,tI,(pr [tW,tI]),tB])),(.list (pr [tI,tI,tI,tW,tW])),tI])),tI]))]) (([],([],([],([],()))))),.d (.list (pr [tI,tI,tS,tI,tB])) ([(2,(5,([],(20,(false,())))))])] [] kB (([((167772160,(8,())),(20,(false,(0,(0,())))))]),(0),()):=Mp (m:=90) λk=>by kernel_rfl
theorem A2:aC tbl gH [.d (.list (pr [(pr [tW,tI]),tI,tI,tI,tI,(.list (pr [tW,tI,tW,tI,(pr [tW,tI])]))])) ([((167772160,(8,())),(3,(110,(7,(0,([],()))))))]),.d (pr [(.list (pr [tS,(.list (pr [tB,(pr [tW,tI]),tI,tI]))])),(.list (pr [tS,(.list (pr [tB,tS]))])),(.list (pr [tS,(.list (pr [tB,tI,tI]))])),(.list (pr [tS,(.list (pr [tS,(.list (pr [tI,tS,tI,(pr [tW,tI]),tB])),(.list (pr [tI,tI,tI,tW,tW])),tI])),tI]))]) (([],([],([],([],()))))),.d (.list (pr [tI,tI,tS,tI,tB])) ([(3,(6,([],(0,(false,())))))]),.d tW (9)] [] eI (([((167772160,(8,())),((2,([],(0,(true,(7,(false,(0,(false,(false,(0,(0,([],(false,(0,([],([],())))))))))))))))),((-1),(0,(9,(false,()))))))]),(0),()):=Mp (m:=90) λk=>by kernel_rfl
theorem A3:aC tbl lE [.d (.list (pr [(pr [tW,tI]),tI,tB,tW,tI])) ([((167772160,(8,())),(20,(false,(0,(0,())))))]),.d (.list (pr [(pr [tW,tI]),tI,tB,tW,tI])) ([((167772160,(8,())),(20,(false,(0,(0,())))))])] [] g9 ((true),()):=Mp (m:=90) λk=>by kernel_rfl
theorem zaL:aC tbl oy [] [] kZ (true,()):=by
 refine ap rfl (aA Qz rfl (λO n=>Ra O n) ?_);unfold Ga;repeat first
  |refine aj A0 ?_
  |refine aj A1 ?_
  |refine aj A2 ?_
  |refine aj A3 ?_
  |refine aE rfl ?_
  |refine an rfl ?_
  |refine aa ?_
  |refine jh (by decide) rfl ?_
  |refine ae ?_
 rfl
abbrev z7:Type:=Int×(Int×(List UInt8×(Int×(Bool×Unit))))
abbrev HOP:Type:=Int×(Int×(Int×(Int×(G2×Unit))))
abbrev lF:Type:=G2×(Int×(Int×(Int×(Int×(List HOP×Unit)))))
abbrev yRU:Ty:=pr [tI,tI,tS,tI,tB]
abbrev yHO:Ty:=pr [tW,tI,tW,tI,yP]
abbrev KI:Ty:=pr [yP,tI,tI,tI,tI,.list yHO]
def uv(s:PS)(r:z7):Int:=
 if(r.1<1\/7<r.1)\/(r.2.1≠5/\r.2.1≠6)then 15
 else if(r.2.1=5/\3<=r.1/\r.1<=5)\/(r.2.1=6/\(r.1=6\/r.1=7))then 1
 else if r.2.2.2.1<0\/16777216<r.2.2.2.1 then 5
 else if r.2.2.1≠[]/\(vj s r.2.2.1).isSome=false then 6 else 0
noncomputable def xE(s:PS)(l:List z7):Int:=if sU gv s≠0 then sU gv s else if l.length>64 then 4 else bS (uv s) l
theorem GX(s:PS)(r:z7)(d:PolOk gv s):aC tbl kd [.d yS s,.d yRU r] [] bw (uv s r,()):=by
 refine ap rfl (aA HB rfl (λO n=>bI (wu O n s r)) ?_);unfold wu;refine ae (bn (b:=decide (r.1>7)) (λ_=>aa rfl) (ao (λh=>aa ?_) λh=>?_));·rw[show uv s r=15 from if_pos (.inl (by grind))]
 have hr:¬(r.1<1\/7<r.1):=by grind
 have rest:¬(r.2.1≠5/\r.2.1≠6)->¬((r.2.1=5/\3<=r.1/\r.1<=5)\/(r.2.1=6/\(r.1=6\/r.1=7)))->Wp (λn=>
  e_ (bif decide (r.2.2.2.1<(0:Int))then some (true)else some (decide (r.2.2.2.1>(16777216:Int)))) λf=>
  bif f then ar bw ((5:Int),())else
  e_ (au (sC tbl n) kS [.d yS s,.d tS r.2.2.1] [] gC) λg=>
  e_ (bif (!(r.2.2.1==([]:List UInt8)))then some ((!g.2.1))else some (false)) λj=>
  bif j then ar bw ((6:Int),())else ar bw ((0:Int),())) (λx=>x=some (jm bw (uv s r,()))):=λk l=>by
  refine ae (bn (b:=decide (r.2.2.2.1>16777216)) (λ_=>aa rfl) (ao (λh=>aa ?_) λh=>?_))
  ·rw[show uv s r=5 from by unfold uv;grind]
  have p:¬(r.2.2.2.1<0\/16777216<r.2.2.2.1):=by grind
  have e:uv s r=if r.2.2.1≠[]/\(vj s r.2.2.1).isSome=false then 6 else 0:=by unfold uv;omega
  rw[e]
  refine aj (F0 s r.2.2.1 d) (ae (bb (b:= !(vj s r.2.2.1).isSome) (λ_=>aa rfl) (ao (λh=>aa ?_) λh=>aa ?_)))
  all_goals grind
 by_cases a:r.2.1=5
 ·refine ae (aE (beq_iff_eq.2 a) (ae (bb (b:=decide (r.1<=5)) (λ_=>aa rfl) (ao (λh=>aa (aa ?_)) λh=>aa (rest ?_ ?_)))));·rw[show uv s r=1 from by unfold uv;grind]
  all_goals grind
 by_cases c:r.2.1=6
 ·refine ae (an (beq_eq_false_iff_ne.2 a) (aE (beq_iff_eq.2 c) (ae (bn (b:=(r.1==7)) (λ_=>aa rfl) (ao (λh=>aa (aa ?_)) λh=>aa (rest ?_ ?_))))));·rw[show uv s r=1 from by unfold uv;grind]
  all_goals grind
 refine ae (an (beq_eq_false_iff_ne.2 a) (an (beq_eq_false_iff_ne.2 c) (aa (aa ?_))));rw[show uv s r=15 from if_pos (.inr ⟨a,c⟩)]
theorem Lp(s:PS)(hc:aC tbl gQ [.d yS s] [] cy (sU gv s,()))(l:List z7):aC tbl mw [.d yS s,.d (.list yRU) l] [] dV (xE s l,()):=by
 refine ap rfl (aA OG rfl (λO n=>bI (Dw O n s l)) ?_);unfold Dw;refine aj hc (ao (λh=>aa ?_) λh=>?_);·rw[show xE s l=sU gv s from if_pos (by grind)]
 have b:sU gv s=0:=by grind
 have c:=IY b;have e:xE s l=if l.length>64 then 4 else bS (uv s) l:=by unfold xE;omega
 rw[e];refine ao (λh=>aa ?_) λh=>?_;·grind
 have hl:¬l.length>64:=by grind
 rw[if_neg hl];refine ae (mg (l:=l) (f:=uv s) (enc:=λi=>((i:Int),())) (oB:=λe=>(e,())) (oE:=()) (λi a=>?_) ?_ ?_)
 ·unfold sw;refine a6 a (aF a (aj (GX s _ c) (ao (λh=>aa ?_) λh=>aa ?_)));·grind
  ·rw[if_pos (by grind),aB a (by omega)]
 ·unfold sw;exact aT (aa rfl)
 by_cases e:bS (uv s) l=0;·rw[if_pos e];refine aa ?_;rw[e]
 ·rw[if_neg e];exact aa rfl
theorem MH(s:PS)(hs:SmP s)(l:List z7):aC tbl mw [.d yS s,.d (.list yRU) l] [] dV (xE s l,()):=Lp s (wo s hs) l
theorem HO(n:Int):aC tbl l8 [.d tI n] [] iT (decide (n>=3)&&decide (n<=5),()):=by refine ap rfl (aA Jl rfl (λO k=>bI (xV O k n)) ?_);unfold xV;exact ae (bb (b:=decide (n<=5)) (λ_=>aa rfl) (aa rfl))
theorem MO(n:Int):aC tbl qZ [.d tI n] [] mY ((n==6)||(n==7),()):=by refine ap rfl (aA OQ rfl (λO k=>bI (DK O k n)) ?_);unfold DK;exact ae (bn (b:=(n==7)) (λ_=>aa rfl) (aa rfl))
theorem MN(s:PS)(hc:aC tbl kV [.d yS s] [] cI (sU gv s,()))(l:List z7):aC tbl oH [.d yS s,.d (.list yRU) l] [] eX (xE s l,()):=by
 refine ap rfl (aA QZ rfl (λO n=>bI (GB O n s l)) ?_);unfold GB;refine aj hc (ao (λh=>aa ?_) λh=>?_);·rw[show xE s l=sU gv s from if_pos (by grind)]
 have c:sU gv s=0:=by grind
 have d:=IY c;have e:xE s l=if l.length>64 then 4 else bS (uv s) l:=by unfold xE;omega
 rw[e];refine ao (λh=>aa ?_) λh=>?_;·grind
 have hl:¬l.length>64:=by grind
 rw[if_neg hl];refine ae (mg (l:=l) (f:=uv s) (enc:=λi=>((i:Int),())) (oB:=λe=>(e,())) (oE:=()) (λi a=>?_) ?_ ?_)
 ·unfold uP;refine a6 a (aF a ?_);generalize l[i]=r;refine ae (bn (b:=decide (r.1>7)) (λ_=>aa rfl) (ae (bn (b:=(r.2.1 != 5)&&(r.2.1 != 6)) (λ_=>ae (bb (b:=(r.2.1 != 6)) (λ_=>aa rfl) (aa rfl))) ?_)));refine ao (λh=>aa ?_) λh=>?_;·rw[show uv s r=15 from if_pos (by grind),if_neg (by simp)]
  have j:¬((r.1<1\/7<r.1)\/(r.2.1≠5/\r.2.1≠6)):=by grind
  refine ae (bb (b:=decide (r.1>=3)&&decide (r.1<=5)) (λ_=>aj (HO r.1) (aa rfl)) ?_);refine ae (bn (b:=(r.2.1==6)&&((r.1==6)||(r.1==7))) (λ_=>ae (bb (b:=(r.1==6)||(r.1==7)) (λ_=>aj (MO r.1) (aa rfl)) (aa rfl))) ?_);refine ao (λh=>aa ?_) λh=>?_;·rw[show uv s r=1 from by unfold uv;grind,if_neg (by simp)]
  have k:¬((r.2.1=5/\3<=r.1/\r.1<=5)\/(r.2.1=6/\(r.1=6\/r.1=7))):=by grind
  refine ae (bn (b:=decide (r.2.2.2.1>16777216)) (λ_=>aa rfl) (ao (λh=>aa ?_) λh=>?_));·rw[show uv s r=5 from by unfold uv;grind,if_neg (by simp)]
  have p:¬(r.2.2.2.1<0\/16777216<r.2.2.2.1):=by grind
  have e:uv s r=if r.2.2.1≠[]/\(vj s r.2.2.1).isSome=false then 6 else 0:=by unfold uv;omega
  rw[e];have g:=d.l4;refine aj (HM s r.2.2.1 (by omega)) (ae (bb (b:= !(vj s r.2.2.1).isSome) (λ_=>aa rfl) (ao (λh=>aa ?_) λh=>aa ?_)));·grind
  ·have hc:¬(r.2.2.1≠[]/\(vj s r.2.2.1).isSome=false):=by grind
   rw[if_neg hc,if_pos rfl,aB a (by omega)]
 ·unfold uP;exact aT (aa rfl)
 by_cases e:bS (uv s) l=0;·rw[if_pos e];refine aa ?_;rw[e]
 ·rw[if_neg e];exact aa rfl
theorem Pn(s:PS)(hs:SmP s)(l:List z7):aC tbl oH [.d yS s,.d (.list yRU) l] [] eX (xE s l,()):=MN s (F3 s hs) l
def EJ(r:lF):oL:=(r.1,r.2.1,(match r.2.2.2.2.2.1 with|h::_=>h.1|[]=>0),[],[],100,0,r.2.2.2.1,r.2.2.2.2.1,())
theorem z8(r:lF):aC tbl jy [.d KI r] [] gJ (EJ r,()):=by obtain⟨p,pr,b,c,ta,a,⟨⟩⟩:=r;refine ap rfl (aA Ks rfl (λO n=>bI (Af O n (p,pr,b,c,ta,a,()))) ?_);unfold Af;cases a with|nil=>exact ae (an rfl (aa (aa rfl)))|cons h a=>exact ae (aE (decide_eq_true (by show(((h::a).length:Nat):Int)>0;simp)) (jh (x:=h) (by decide) rfl (aa (aa rfl))))
theorem uy(r:lF):aC tbl ip [.d KI r] [] fG (EJ r,()):=by obtain⟨p,pr,b,c,ta,a,⟨⟩⟩:=r;refine ap rfl (aA Mh rfl (λO n=>bI (CE O n (p,pr,b,c,ta,a,()))) ?_);unfold CE;cases a with|nil=>exact ae (an rfl (aa (aa rfl)))|cons h a=>exact ae (aE (decide_eq_true (by show(((h::a).length:Nat):Int)>0;simp)) (jh (x:=h) (by decide) rfl (aa (aa rfl))))
theorem JB(a b:List Int)(hl:a.length<=9223372036854775807):aC tbl ni [.d (.list tI) a,.d (.list tI) b] [] eK (decide (a=b),()):=by
 refine ap rfl (aA Kw rfl (λO n=>bI (Aj O n a b)) ?_);unfold Aj;refine ao (λh=>aa ?_) λh=>?_;·rw[decide_eq_false];rintro rfl;simp at h
 have d:a.length=b.length:=by simp at h;omega
 refine ae (Uy (N:=a.length) (good:=λi=>a[i]? =b[i]?) (e:=(false,())) (g:=()) (λi c=>?_) ?_ (λh=>?_) λh=>?_);·unfold pM;refine a6 c (aF c (aF (by omega) (pE ?_ (by rw[aB c hl]))));rw[c_ c,c_ (by omega)];simp
 ·unfold pM;exact aT (aa rfl)
 ·refine aa ?_;rw[decide_eq_true (S_ λi=>?_)];by_cases c:i<a.length;·exact h i c
  ·rw[r_ (by omega),r_ (by omega)]
 ·refine aa ?_;rw[decide_eq_false];rintro rfl;obtain⟨i,_,h⟩:=h;exact h rfl
theorem Ft(a b:List Int)(hl:a.length<=9223372036854775807):aC tbl jr [.d (.list tW) a,.d (.list tW) b] [] cW (decide (a=b),()):=by
 refine ap rfl (aA FU rfl (λO n=>bI (vI O n a b)) ?_);unfold vI;refine ao (λh=>aa ?_) λh=>?_;·rw[decide_eq_false];rintro rfl;simp at h
 have d:a.length=b.length:=by simp at h;omega
 refine ae (Uy (N:=a.length) (good:=λi=>a[i]? =b[i]?) (e:=(false,())) (g:=()) (λi c=>?_) ?_ (λh=>?_) λh=>?_);·unfold ly;refine a6 c (aF c (aF (by omega) (pE ?_ (by rw[aB c hl]))));rw[c_ c,c_ (by omega)];simp
 ·unfold ly;exact aT (aa rfl)
 ·refine aa ?_;rw[decide_eq_true (S_ λi=>?_)];by_cases c:i<a.length;·exact h i c
  ·rw[r_ (by omega),r_ (by omega)]
 ·refine aa ?_;rw[decide_eq_false];rintro rfl;obtain⟨i,_,h⟩:=h;exact h rfl
theorem zf4(p:G2):nH yP p p=true:=by show((p.1==p.1)&&((p.2.1==p.2.1)&&true))=true;simp
theorem zfB(l:List lF)(s:PS)(r:List z7):∃b:Bool,(b=false->l.length<=40/\r.length<=70/\s.2.2.2.1.length<=10/\s.1.length<=10/\s.2.1.length<=10/\s.2.2.1.length<=10)/\aC tbl s9 [.d (.list KI) l,.d yS s,.d (.list yRU) r] [] oX (b,()):=by
 refine⟨((((decide ((l.length:Int)>40)||decide ((r.length:Int)>70))||decide ((s.2.2.2.1.length:Int)>10))||decide ((s.1.length:Int)>10))||decide ((s.2.1.length:Int)>10))||decide ((s.2.2.1.length:Int)>10),λh=>?_,?_⟩;·grind
 refine ap rfl (aA QA rfl (λO n=>bI (Gb O n l s r)) ?_);unfold Gb;refine ae (bn (b:=decide ((r.length:Int)>70)) (λ_=>aa rfl) ?_);refine ae (bn (b:=decide ((s.2.2.2.1.length:Int)>10)) (λ_=>aa rfl) ?_);refine ae (bn (b:=decide ((s.1.length:Int)>10)) (λ_=>aa rfl) ?_);refine ae (bn (b:=decide ((s.2.1.length:Int)>10)) (λ_=>aa rfl) ?_);exact ae (bn (b:=decide ((s.2.2.1.length:Int)>10)) (λ_=>aa rfl) (aa rfl))
theorem OW{α ρ δ:Type}{xs:List α}{p:α->Bool}{enc:Nat->ρ}{g:α->δ}{e:δ}{body:Nat->ρ->Option (ρ⊕δ)}{Q:δ->Prop} (h:∀(i:Nat) (a:i<xs.length),Wp (λn=>body n (enc i)) λr=>r=if p xs[i]then .inr (g xs[i])else .inl (enc (i+1))) (b:Wp (λn=>body n (enc xs.length)) λr=>r= .inr e) (c:Q (match xs.find? p with|some x=>g x|none=>e)):Wp (λn=>aL n (body n) (enc 0)) Q:=by
 refine a8 (N:=xs.length) (I:=λi s=>s=enc i/\xs.find? p=(xs.drop i).find? p) ⟨rfl,by simp⟩ (λi s a hs=>?_) λs hs=>?_;·obtain⟨rfl,hd⟩:=hs;refine Go.Ev.wp_mono (h i a) λr hr=>?_;rw[i_ a,List.find?_cons]at hd;grind
 ·obtain⟨rfl,hd⟩:=hs;refine Go.Ev.wp_mono b λr hr=>?_;grind
def IQ(a b:HOP):Bool:=bif (a.1 != b.1)then decide (a.1<b.1)else bif (a.2.1 != b.2.1)then decide (a.2.1<b.2.1)else decide (a.2.2.1<b.2.2.1)
def GQ(a b:lF):Bool:=bif (nU a.1 b.1 != 0)then decide (nU a.1 b.1<0)else bif (a.2.2.1 != b.2.2.1)then decide (a.2.2.1<b.2.2.1)else decide (a.2.1<b.2.1)
theorem JM(a b:Int):(a<b/\ee a b= -1)\/(a=b/\ee a b=0)\/(b<a/\ee a b=1):=by unfold ee;omega
theorem Y1(x y z:Int):ef [x,y,z]=if x≠0 then x else if y≠0 then y else z:=by
 simp only[ef]
 repeat' split
 all_goals omega
theorem zix(a b f g c d:Int):decide (ef [ee a b,ee f g,ee c d]>=0)= !(bif (a != b)then decide (a<b)else bif (f != g)then decide (f<g)else decide (c<d)):=by
 rw[Y1];rcases JM a b with⟨h,e⟩|⟨h,e⟩|⟨h,e⟩;·grind
 ·rw[e,show(a != b)=false by grind];rcases JM f g with⟨h,e⟩|⟨h,e⟩|⟨h,e⟩;·grind
  ·rw[e,show(f != g)=false by grind];rcases JM c d with⟨h,e⟩|⟨h,e⟩|⟨h,e⟩<;>rw[e]<;>simp<;>omega
  grind
 grind
theorem zca(a b:HOP):decide (X7 a b>=0)= !IQ a b:=zix _ _ _ _ _ _
theorem X8(p q:G2):nU p q=if p.1≠q.1 then(if p.1<q.1 then -1 else 1)else if p.2.1<q.2.1 then -1 else if p.2.1>q.2.1 then 1 else 0:=by have h:nU p q=_:=zfZ p.1 q.1 p.2.1 q.2.1;omega
theorem Vq(a b:lF):decide (Ij a b>=0)= !GQ a b:=by
 have e:Ij a b=ef [nU a.1 b.1,ee a.2.2.1 b.2.2.1,ee a.2.1 b.2.1]:=rfl;rw[e,Y1];unfold GQ;by_cases h:nU a.1 b.1=0;·rw[if_neg (not_not_intro h),show(nU a.1 b.1 != 0)=false by grind];have key:=zix 0 0 a.2.2.1 b.2.2.1 a.2.1 b.2.1;rw[Y1]at key;exact key
 grind
def Z4(h:HOP):Bool:=(((decide (h.2.1< -1)||decide (h.2.1>=16))||decide (h.2.2.2.1<1))||decide (h.2.2.2.1>255))
def Hf(l:List HOP)(i:Nat):Int:=match l[i]? with
 |some h=>if Z4 h then 5 else if !dE h.2.2.2.2.1 then 1 else if 0<i/\(match l[i - 1]? with|some g=> !IQ g h|none=>false)=true then 16 else 0
 |none=>0
theorem yj{l:List HOP}{i:Nat}(a:i<l.length):Hf l i=if Z4 l[i]then 5 else if !dE l[i].2.2.2.2.1 then 1 else if 0<i/\(match l[i - 1]? with|some g=> !IQ g l[i]|none=>false)=true then 16 else 0:=by unfold Hf;grind
theorem kR(a b c:Int):aC tbl eU [.d tI a,.d tI b,.d tI c] [] dK (decide (a<b)||decide (a>c),()):=by refine ap rfl (aA Q9 rfl (λO n=>bI (GK O n a b c)) ?_);unfold GK;exact ae (bn (b:=decide (a>c)) (λ_=>aa rfl) (aa rfl))
theorem HQ(a b:HOP):aC tbl iN [.d yHO a,.d yHO b] [] rL (X7 a b,()):=As Jn rfl rfl
theorem Pv(a b:lF):aC tbl oK [.d KI a,.d KI b] [] zW (Ij a b,()):=As Q8 rfl rfl
theorem Sw(a b:HOP):aC tbl vT [.d yHO a,.d yHO b] [] kF (IQ a b,()):=by
 refine ap rfl (aA T4 rfl (λO n=>bI (HZ O n a b)) ?_);unfold HZ IQ;refine ao (λh=>aa ?_) λh=>?_;·grind
 rw[h];refine ao (λh=>aa ?_) λh=>aa ?_;all_goals grind
theorem Lq(p q:G2):aC tbl pu [.d yP p,.d yP q] [] du (nU p q,()):=by
 refine ap rfl (aA Mc rfl (λO n=>bI (Cw O n p q)) ?_);unfold Cw;rw[X8];refine ao (λh=>?_) λh=>?_;·rw[if_pos (by grind)];refine ao (λh=>aa ?_) λh=>aa ?_;all_goals grind
 rw[if_neg (by grind)];refine ao (λh=>aa ?_) λh=>ao (λh'=>aa ?_) λh'=>aa ?_;all_goals grind
theorem MM(a b:lF):aC tbl qY [.d KI a,.d KI b] [] gY (GQ a b,()):=by
 refine ap rfl (aA OP rfl (λO n=>bI (DJ O n a b)) ?_);unfold DJ GQ;refine aj (Lq a.1 b.1) (ao (λh=>aa ?_) λh=>?_);·grind
 rw[show(nU a.1 b.1 != 0)=false from h];refine ao (λh=>aa ?_) λh=>aa ?_;all_goals grind
structure RteQ(r:lF):Prop where
 p:hU r.1.1
 h:∀x∈r.2.2.2.2.2.1,hU x.1/\hU x.2.2.2.2.1.1
def zcG(r:lF):Bool:=((((decide (r.2.2.1<0)||decide (r.2.2.1>255))||decide (r.2.2.2.1<0))||decide (r.2.2.2.1>16777216))||decide (r.2.2.2.2.1<0))||decide (r.2.2.2.2.1>4294967295)
def zcp(l:List HOP):Int:=if l.length>64 then 4 else jR (Hf l) l.length
def uu(r:lF):Int:=if !dE r.1 then 1 else if decide (r.2.1<1)||decide (r.2.1>7)then 15 else if zcG r then 5 else zcp r.2.2.2.2.2.1
theorem V1{l:List HOP}{i:Nat}(a:i<l.length){O:Bool}(h:O=(decide (0<(i:Int))&&(match l[i - 1]? with|some g=> !IQ g l[i]|none=>false))):(O=true↔0<i/\(match l[i - 1]? with|some g=> !IQ g l[i]|none=>false)=true):=by grind
theorem wn{i:Nat}(a:0<i)(hn:i<=9223372036854775807):a_ .i64 ((i:Int) - 1)=((i - 1:Nat):Int):=by rw[wrap_i64 (by omega) (by omega)];omega
theorem JF(r:lF)(l:RteQ r):aC tbl np [.d KI r] [] ci (uu r,()):=by
 refine ap rfl (aA KB rfl (λO n=>bI (Ao O n r)) ?_);unfold Ao;refine aj (gM r.1 l.p) (ao (λh=>aa ?_) λu=>?_);·have h:(!dE r.1)=true:=h;rw[show uu r=1 from if_pos h]
 have u:¬(!dE r.1)=true:=by grind
 refine aj (kR _ _ _) (ao (λh=>aa ?_) λv=>?_);·rw[show uu r=15 from by unfold uu;grind]
 have v:¬(decide (r.2.1<1)||decide (r.2.1>7))=true:=by grind
 refine aj (kR _ _ _) (ae (bn (b:=decide (r.2.2.2.1<0)||decide (r.2.2.2.1>16777216)) (λ_=>aj (kR _ _ _) (aa rfl)) ?_));refine ae (bn (b:=decide (r.2.2.2.2.1<0)||decide (r.2.2.2.2.1>4294967295)) (λ_=>aj (kR _ _ _) (aa rfl)) ?_);have y:(((decide (r.2.2.1<0)||decide (r.2.2.1>255))||(decide (r.2.2.2.1<0)||decide (r.2.2.2.1>16777216)))||(decide (r.2.2.2.2.1<0)||decide (r.2.2.2.2.1>4294967295)))=zcG r:=by unfold zcG;grind
 refine ao (λh=>aa ?_) λw=>?_;·rw[show uu r=5 from by unfold uu;grind]
 have w:¬zcG r=true:=by grind
 rw[show uu r=zcp r.2.2.2.2.2.1 from by unfold uu;grind];unfold zcp;refine ao (λh=>aa ?_) λk=>?_;·grind
 have k:¬r.2.2.2.2.2.1.length>64:=by grind
 rw[if_neg k];refine ae (ot (N:=r.2.2.2.2.2.1.length) (f:=Hf r.2.2.2.2.2.1) (enc:=λi=>((i:Int),())) (oB:=λe=>(e,())) (oE:=()) (λi a=>?_) ?_ ?_)
 ·unfold pR;have x:=(l.h _ (b_ a)).2;refine a6 a (aF a ?_);refine aj (kR _ _ _) (ae (bn (b:=decide (r.2.2.2.2.2.1[i].2.2.2.1<1)||decide (r.2.2.2.2.2.1[i].2.2.2.1>255)) (λ_=>aj (kR _ _ _) (aa rfl)) ?_));have p:((decide (r.2.2.2.2.2.1[i].2.1< -1)||decide (r.2.2.2.2.2.1[i].2.1>15))||(decide (r.2.2.2.2.2.1[i].2.2.2.1<1)||decide (r.2.2.2.2.2.1[i].2.2.2.1>255)))=Z4 r.2.2.2.2.2.1[i]:=by unfold Z4;grind
  refine ao (λh=>aa ?_) λd=>?_;·rw[show Hf _ i=5 from by rw[yj a,if_pos (p▸h)],if_neg (by simp)]
  have d:¬Z4 r.2.2.2.2.2.1[i]=true:=by grind
  refine aj (gM _ x) (ao (λh=>aa ?_) λj=>?_);·rw[show Hf _ i=1 from by rw[yj a,if_neg d,if_pos (show(!dE _)=true from h)],if_neg (by simp)]
  have j:¬(!dE r.2.2.2.2.2.1[i].2.2.2.2.1)=true:=by grind
  refine ae (bb (b:=match r.2.2.2.2.2.1[i - 1]? with|some g=> !IQ g r.2.2.2.2.2.1[i]|none=>false) (λs=>?_) (ao (λh=>aa ?_) λh=>aa ?_))
  ·have s:0<i:=by grind
   have c:i - 1<r.2.2.2.2.2.1.length:=by omega
   rw[wn (by omega) (by omega)];refine aF c (aj (HQ _ _) (aa ?_));rw[c_ c,zca]
  ·rw[show Hf _ i=16 from by rw[yj a,if_neg d,if_neg j,if_pos ((V1 a rfl).1 h)],if_neg (by simp)]
  ·rw[show Hf _ i=0 from by rw[yj a,if_neg d,if_neg j,if_neg (λg=>by grind)],if_pos rfl,aB a (by omega)]
 ·unfold pR;exact aT (aa rfl)
 by_cases e:jR (Hf r.2.2.2.2.2.1) r.2.2.2.2.2.1.length=0;·rw[if_pos e];refine aa ?_;rw[e]
 ·rw[if_neg e];exact aa rfl
theorem Pm(n:Int):aC tbl tx [.d tI n] [] o9 (decide (n>=1)&&decide (n<=7),()):=by refine ap rfl (aA QY rfl (λO k=>bI (GA O k n)) ?_);unfold GA;exact ae (bb (b:=decide (n<=7)) (λ_=>aa rfl) (aa rfl))
theorem Sy(l:List HOP)(r:∀x∈l,hU x.1/\hU x.2.2.2.2.1.1):aC tbl vV [.d (.list yHO) l] [] kG (zcp l,()):=by
 refine ap rfl (aA T6 rfl (λO n=>bI (H1 O n l)) ?_);unfold H1 zcp;refine ao (λh=>aa ?_) λk=>?_;·grind
 have k:¬l.length>64:=by grind
 rw[if_neg k];refine ae (ot (N:=l.length) (f:=Hf l) (enc:=λi=>((i:Int),())) (oB:=λe=>(e,())) (oE:=()) (λi a=>?_) ?_ ?_)
 ·unfold wC;have s:=(r _ (b_ a)).2;refine a6 a (aF a ?_);refine ae (bn (b:=decide (l[i].2.1>=16)) (λ_=>aa rfl) (ae (bn (b:=decide (l[i].2.2.2.1<1)) (λ_=>aa rfl) (ae (bn (b:=decide (l[i].2.2.2.1>255)) (λ_=>aa rfl) ?_)))));refine ao (λh=>aa ?_) λc=>?_;·rw[show Hf _ i=5 from by rw[yj a,if_pos (show Z4 _=true from h)],if_neg (by simp)]
  have c:¬Z4 l[i]=true:=by rw[y_];exact c
  refine aj (dG _ s) (ao (λh=>aa ?_) λd=>?_);·rw[show Hf _ i=1 from by rw[yj a,if_neg c,if_pos (show(!dE _)=true from h)],if_neg (by simp)]
  have d:¬(!dE l[i].2.2.2.2.1)=true:=by grind
  refine ae (bb (b:=match l[i - 1]? with|some g=> !IQ g l[i]|none=>false) (λp=>?_) (ao (λh=>aa ?_) λh=>aa ?_))
  ·have p:0<i:=by grind
   have j:i - 1<l.length:=by omega
   rw[wn (by omega) (by omega)];refine aF j (aj (Sw _ _) (aa ?_));grind
  ·rw[show Hf _ i=16 from by rw[yj a,if_neg c,if_neg d,if_pos ((V1 a rfl).1 h)],if_neg (by simp)]
  ·rw[show Hf _ i=0 from by rw[yj a,if_neg c,if_neg d,if_neg (λg=>by grind)],if_pos rfl,aB a (by omega)]
 ·unfold wC;exact aT (aa rfl)
 by_cases e:jR (Hf l) l.length=0;·rw[if_pos e];refine aa ?_;rw[e]
 ·rw[if_neg e];exact aa rfl
theorem Pk(r:lF)(e:RteQ r):aC tbl tw [.d KI r] [] gF (uu r,()):=by
 refine ap rfl (aA QX rfl (λO n=>bI (Gz O n r)) ?_);unfold Gz;refine aj (dG r.1 e.p) (ao (λh=>aa ?_) λa=>?_);·have h:(!dE r.1)=true:=h;rw[show uu r=1 from if_pos h]
 have a:¬(!dE r.1)=true:=by grind
 have f:(!(decide (r.2.1>=1)&&decide (r.2.1<=7)))=(decide (r.2.1<1)||decide (r.2.1>7)):=by grind
 refine aj (Pm _) (ao (λh=>aa ?_) λc=>?_);·rw[show uu r=15 from by unfold uu;grind]
 have c:¬(decide (r.2.1<1)||decide (r.2.1>7))=true:=by grind
 refine ae (bn (b:=decide (r.2.2.1>255)) (λ_=>aa rfl) (ae (bn (b:=decide (r.2.2.2.1<0)) (λ_=>aa rfl) (ae (bn (b:=decide (r.2.2.2.1>16777216)) (λ_=>aa rfl) ?_)))));refine ae (bn (b:=decide (r.2.2.2.2.1<0)) (λ_=>aa rfl) (ae (bn (b:=decide (r.2.2.2.2.1>4294967295)) (λ_=>aa rfl) ?_)));refine ao (λh=>aa ?_) λd=>?_;·rw[show uu r=5 from by unfold uu;rw[if_neg a,if_neg c,if_pos (show zcG r=true from h)]]
 have d:¬zcG r=true:=by rw[y_];exact d
 rw[show uu r=zcp r.2.2.2.2.2.1 from by unfold uu;grind];exact aj (Sy _ e.h) (aa rfl)
abbrev KEY:Type:=G2×(Int×Unit)
abbrev yK:Ty:=pr [yP,tI]
def zN(r:lF):KEY:=(r.1,r.2.1,())
theorem za2(p q:G2):nH yP p q=decide (p=q):=by obtain⟨a,b,⟨⟩⟩:=p;obtain⟨c,d,⟨⟩⟩:=q;show((a==c)&&((b==d)&&true))=_;rw[I_];simp
theorem IH(p q:KEY):nH yK p q=decide (p=q):=by obtain⟨a,b,⟨⟩⟩:=p;obtain⟨c,d,⟨⟩⟩:=q;show(nH yP a c&&((b==d)&&true))=_;rw[za2,I_];simp
theorem zeb(x y:KEY)(v:Bool):∀a:List (KEY×Bool),jU yK tB (oU yK tB a y v) x=if x=y then some v else jU yK tB a x
 |[]=>by show(bif nH yK x y then some v else none)=_;rw[IH];by_cases h:x=y<;>simp[h,jU]
 |(k,w)::l=>by
  have b:=zeb x y v l;show jU yK tB (bif nH yK y k then(y,v)::l else(k,w)::oU yK tB l y v) x=if x=y then some v else(bif nH yK x k then some w else jU yK tB l x);rw[IH y k,IH x k];by_cases h:y=k;·subst h;rw[decide_eq_true rfl];show(bif nH yK x y then some v else jU yK tB l x)=_;rw[IH];grind
  ·rw[decide_eq_false h];show(bif nH yK x k then some w else jU yK tB (oU yK tB l y v) x)=_;rw[IH,b];grind
theorem zec(y:KEY)(v:Bool):∀a:List (KEY×Bool),(oU yK tB a y v).length<=a.length+1
 |[]=>o_ _
 |(k,w)::l=>by have b:=zec y v l;show(bif nH yK y k then(y,v)::l else(k,w)::oU yK tB l y v).length<=_;grind
def kvF(l:List lF)(a:List (KEY×Bool)):List (KEY×Bool):=l.foldl (λa r=>oU yK tB a (zN r) true) a
theorem zbh:∀(l:List lF) (a:List (KEY×Bool)),(kvF l a).length<=a.length+l.length
 |[],a=>o_ _
 |r::l,a=>by have b:=zbh l (oU yK tB a (zN r) true);have c:=zec (zN r) true a;have e:kvF (r::l) a=kvF l (oU yK tB a (zN r) true):=rfl;grind
theorem zbg(x:KEY):∀(l:List lF) (a:List (KEY×Bool)),(jU yK tB (kvF l a) x).getD false=((jU yK tB a x).getD false||l.any λr=>decide (zN r=x))
 |[],a=>by simp[kvF]
 |r::l,a=>by have b:=zbg x l (oU yK tB a (zN r) true);have e:kvF (r::l) a=kvF l (oU yK tB a (zN r) true):=rfl;rw[e,b,zeb,List.any_cons];grind
def Tl(l:List lF)(x:KEY):Bool:=l.any λr=>decide (zN r=x)
def Hq(l:List lF)(i:Nat):Int:=match l[i]? with
 |some r=>if uu r≠0 then uu r else if Tl (l.take i) (zN r)then 7 else if 0<i/\(match l[i - 1]? with|some g=> !GQ g r|none=>false)=true then 16 else 0
 |none=>0
theorem yp{l:List lF}{i:Nat}(a:i<l.length):Hq l i=if uu l[i]≠0 then uu l[i]else if Tl (l.take i) (zN l[i])then 7 else if 0<i/\(match l[i - 1]? with|some g=> !GQ g l[i]|none=>false)=true then 16 else 0:=by unfold Hq;grind
def Qr(l:List lF):Int:=if l.length>2000 then 4 else jR (Hq l) l.length
theorem WR{l:List lF}{i:Nat}{O:Bool}{r:lF}(h:O=(decide (0<(i:Int))&&(match l[i - 1]? with|some g=> !GQ g r|none=>false))):(O=true↔0<i/\(match l[i - 1]? with|some g=> !GQ g r|none=>false)=true):=by grind
theorem zea{l:List lF}{i:Nat}(a:i<l.length):oU yK tB (kvF (l.take i) []) (zN l[i]) true=kvF (l.take (i+1)) []:=by rw[d_ a];unfold kvF;grind
theorem UT(l:List lF)(v:∀r∈l,RteQ r):aC tbl ye [.d (.list KI) l] [] mZ (Qr l,()):=by
 refine ap rfl (aA Xu rfl (λO n=>bI (K0 O n l)) ?_);unfold K0 Qr;refine ao (λh=>aa ?_) λp=>?_;·grind
 have p:¬l.length>2000:=by grind
 rw[if_neg p];refine ae (ot (N:=l.length) (f:=Hq l) (enc:=λi=>((i:Int),kvF (l.take i) [],())) (oB:=λe=>(e,())) (oE:=()) (λi a=>?_) ?_ ?_)
 ·unfold yE;refine a6 a (aF a (aj (JF _ (v _ (b_ a))) (ao (λh=>aa ?_) λj=>?_)))
  ·have h:uu l[i]≠0:=by grind
   rw[show Hq _ i=uu l[i]from by rw[yp a,if_pos h],if_neg h]
  have j:¬uu l[i]≠0:=by grind
  have s:(jU yK tB (kvF (l.take i) []) (zN l[i])).getD false=Tl (l.take i) (zN l[i]):=by rw[zbg];rfl
  refine ao (λh=>aa ?_) λk=>?_;·rw[show Hq _ i=7 from by rw[yp a,if_neg j,if_pos (s▸h)],if_neg (by simp)]
  have k:¬Tl (l.take i) (zN l[i])=true:=by rw[y_,<-s];exact k
  have c:=zbh (l.take i) [];rw[n_]at c;have c:(kvF (l.take i) []).length<=2000:=by grind
  refine aD (by unfold maxLen;grind) ?_;refine ae (bb (b:=match l[i - 1]? with|some g=> !GQ g l[i]|none=>false) (λu=>?_) (ao (λh=>aa ?_) λh=>aa ?_))
  ·have u:0<i:=by grind
   have d:i - 1<l.length:=by omega
   rw[wn (by omega) (by omega)];refine aF d (aj (Pv _ _) (aa ?_));rw[c_ d,Vq]
  ·rw[show Hq _ i=16 from by rw[yp a,if_neg j,if_neg k,if_pos ((WR rfl).1 h)],if_neg (by simp)]
  ·rw[show Hq _ i=0 from by rw[yp a,if_neg j,if_neg k,if_neg (λg=>by grind)],if_pos rfl,aB a (by omega),<-zea a];rfl
 ·unfold yE;exact aT (aa rfl)
 by_cases e:jR (Hq l) l.length=0;·rw[if_pos e];refine aa ?_;rw[e]
 ·rw[if_neg e];exact aa rfl
theorem US(l:List lF)(p:G2)(k:Int)(hl:l.length<=9223372036854775807):aC tbl t7 [.d (.list KI) l,.d yP p,.d tI k] [] mX (Tl l (p,k,()),()):=by
 refine ap rfl (aA Xt rfl (λO n=>bI (KZ O n l p k)) ?_);unfold KZ;refine ae (OW (xs:=l) (p:=λr=>decide (zN r=(p,k,()))) (enc:=λi=>((i:Int),())) (g:=λ_=>.inl (true,())) (e:=.inr ()) (λi a=>?_) ?_ ?_)
 ·unfold yB;refine a6 a (aF a (ae (bb (b:=l[i].2.1==k) (λ_=>aa rfl) ?_)));have e:((false ^^ nH yP l[i].1 p)&&(l[i].2.1==k))=decide (zN l[i]=(p,k,())):=by rw[za2,I_];simp[zN]
  rw[e];refine ao (λh=>aa ?_) λh=>aa ?_;·grind
  ·rw[if_neg (by grind),aB a hl]
 ·unfold yB;exact aT (aa rfl)
 have e:Tl l (p,k,())=(l.find? λr=>decide (zN r=(p,k,()))).isSome:=by unfold Tl;grind
 rw[e];cases l.find? λr=>decide (zN r=(p,k,()))with|some x=>exact aa rfl|none=>exact aa rfl
theorem Pj(l:List lF)(s:∀r∈l,RteQ r):aC tbl tv [.d (.list KI) l] [] jc (Qr l,()):=by
 refine ap rfl (aA QW rfl (λO n=>bI (Gy O n l)) ?_);unfold Gy Qr;refine ao (λh=>aa ?_) λk=>?_;·grind
 have k:¬l.length>2000:=by grind
 rw[if_neg k];refine ae (ot (N:=l.length) (f:=Hq l) (enc:=λi=>((i:Int),())) (oB:=λe=>(e,())) (oE:=()) (λi a=>?_) ?_ ?_)
 ·unfold uO;refine a6 a (aF a (aj (Pk _ (s _ (b_ a))) (ao (λh=>aa ?_) λc=>?_)))
  ·have h:uu l[i]≠0:=by grind
   rw[show Hq _ i=uu l[i]from by rw[yp a,if_pos h],if_neg h]
  have c:¬uu l[i]≠0:=by grind
  refine aD (decide_eq_true (by simp)) (aD (by grind) ?_);show Wp (λn=>e_ (au (sC tbl n) t7 [.d (.list KI) ((l.take (z_ (i:Int))).drop 0),.d yP l[i].1,.d tI l[i].2.1] [] mX) _) _;rw[s_,u_];refine aj (US _ _ _ (by grind)) (ao (λh=>aa ?_) λd=>?_);·rw[show Hq _ i=7 from by rw[yp a,if_neg c,if_pos (show Tl _ (zN _)=true from h)],if_neg (by simp)]
  have d:¬Tl (l.take i) (zN l[i])=true:=by rw[y_];exact d
  refine ae (bb (b:=match l[i - 1]? with|some g=> !GQ g l[i]|none=>false) (λp=>?_) (ao (λh=>aa ?_) λh=>aa ?_))
  ·have p:0<i:=by grind
   have j:i - 1<l.length:=by omega
   rw[wn (by omega) (by omega)];refine aF j (aj (MM _ _) (aa ?_));grind
  ·rw[show Hq _ i=16 from by rw[yp a,if_neg c,if_neg d,if_pos ((WR rfl).1 h)],if_neg (by simp)]
  ·rw[show Hq _ i=0 from by rw[yp a,if_neg c,if_neg d,if_neg (λg=>by grind)],if_pos rfl,aB a (by omega)]
 ·unfold uO;exact aT (aa rfl)
 by_cases e:jR (Hq l) l.length=0;·rw[if_pos e];refine aa ?_;rw[e]
 ·rw[if_neg e];exact aa rfl
def adj(l:List lF)(k:Nat):Bool:=match l[k - 1]?,l[k]? with
 |some a,some b=>nH yP a.1 b.1
 |_,_=>false
theorem zdw{l:List lF}{k:Nat}(a:k<l.length):adj l k=nH yP (l[k - 1]'(by omega)).1 l[k].1:=by unfold adj;grind
def LF(l:List lF)(n:Nat):Bool:=(af_ n).any λk=>decide (0<k)&&adj l k
theorem Rs(l:List lF)(n:Nat):LF l (n+1)=(LF l n||(decide (0<n)&&adj l n)):=by unfold LF;rw[Z_,List.any_append];simp
noncomputable def kP(l:List lF):List lF:=if Qr l≠0 then []else if LF l l.length then []else l
theorem Wd{l:List lF}{r:lF}(h:r∈kP l):r∈l:=by
 unfold kP at h;split at h;·cases h
 split at h;·cases h
 ·exact h
theorem NU(l:List lF):(kP l).length<=l.length:=by unfold kP;grind
theorem O6(l:List lF)(e:∀r∈l,RteQ r):aC tbl te [.d (.list KI) l] [] i7 (kP l,()):=by
 refine ap rfl (aA QE rfl (λO n=>bI (Gf O n l)) ?_);unfold Gf;refine aj (UT l e) (ao (λh=>aa ?_) λh=>?_);·rw[show kP l=[]from if_pos (by grind)]
 have c:Qr l=0:=by grind
 have hl:l.length<=2000:=by unfold Qr at c;omega
 rw[show kP l=if LF l l.length then []else l from if_neg (not_not_intro c)];refine ae (Wp.imp (Q:=λx=>x=if LF l l.length then .inl ()else .inr ()) (a8 (N:=l.length - 1) (I:=λj x=>x=(((j+1:Nat):Int),())/\LF l (j+1)=false) ⟨rfl,rfl⟩ (λj x g a=>?_) λx a=>?_) λx a=>?_)
 ·obtain⟨rfl,hd⟩:=a;unfold uE;have b:j+1<l.length:=by omega
  refine a6 b ?_;show Wp (λn=>e_ (aR l (a_ .i64 (((j+1:Nat):Int) - 1))) _) _;rw[wn (i:=j+1) (by simp) (by omega)];refine aF (show j+1 - 1<l.length by omega) (aF b ?_);have f:=zdw b;have hs:=Rs l (j+1);rw[hd,F_,decide_eq_true (Nat.succ_pos j),q_]at hs;refine ao (λh=>aa ?_) λh=>aa ?_
  ·have h:nH yP (l[j+1 - 1]).1 l[j+1].1=true:=by grind
   have d:LF l l.length=true:=by unfold LF;grind
   grind
  ·have h:nH yP (l[j+1 - 1]).1 l[j+1].1=false:=by grind
   refine⟨?_,?_⟩;·show(a_ .i64 (((j+1:Nat):Int)+1),())=_;rw[aB b (by omega)]
   grind
 ·obtain⟨rfl,hd⟩:=a;unfold uE;refine an (decide_eq_false (by omega)) (aa ?_);show _=_;by_cases h:l.length=0;·rw[show LF l l.length=false from by rw[h];rfl];rfl
  grind
 ·subst a;cases LF l l.length;·exact aa rfl
  ·exact aa rfl
def NN(l:List lF)(n:Nat):List lF:=(af_ n).flatMap λk=>if decide (0<k)&&adj l k then []else(l[k]?).toList
theorem J9(l:List lF)(n:Nat):NN l (n+1)=NN l n++(if decide (0<n)&&adj l n then []else(l[n]?).toList):=by unfold NN;rw[Z_,O_];simp
theorem NO(l:List lF):∀n,n<=l.length->(NN l n).length<=n/\((NN l n).length=n↔LF l n=false)
 |0,_=>⟨o_ _,⟨λ_=>rfl,λ_=>rfl⟩⟩
 |n+1,hn=>by obtain⟨b,a⟩:=NO l n (by omega);rw[J9,Rs,List.length_append,Bool.or_eq_false_iff,<-a];grind
noncomputable def MX(l:List lF):List lF:=if Qr l≠0 then []else NN l l.length
theorem ML(l:List lF)(e:∀r∈l,RteQ r):aC tbl qX [.d (.list KI) l] [] jN (MX l,()):=by
 refine ap rfl (aA OO rfl (λO n=>bI (DI O n l)) ?_);unfold DI;refine aj (Pj l e) (ao (λh=>aa ?_) λh=>?_);·rw[show MX l=[]from if_pos (by grind)]
 have d:Qr l=0:=by grind
 have hl:l.length<=2000:=by unfold Qr at d;omega
 rw[show MX l=NN l l.length from if_neg (not_not_intro d)];refine ae (Wp.imp (Q:=λx=>x=(NN l l.length,())) (a8 (N:=l.length) (I:=λj x=>x=((j:Int),NN l j,())) rfl (λj x b a=>?_) λx a=>?_) λx a=>?_)
 ·subst a;unfold sy;have g:=(NO l j (by omega)).1;refine a6 b (ae (aF b ?_));have c:Wp (λn=>bif (((j:Nat):Int)==0)then some true else e_ (aR l (a_ .i64 (((j:Nat):Int) - 1))) λf=>some ((true ^^ nH yP f.1 l[j].1))) (λx=>x= !(decide (0<j)&&adj l j)):=by
   refine ao (λh=>aa ?_) λh=>?_;·grind
   ·have h:j≠0:=by grind
    rw[wn (by omega) (by omega)];refine aF (show j - 1<l.length by omega) (aa ?_);rw[zdw b,decide_eq_true (show 0<j by omega),q_,Bool.true_xor]
  refine ae (Wp.imp c λx a=>?_);subst a;refine ao (λh=>aD (decide_eq_true ?_) (aa (aa ?_))) λh=>aa (aa ?_);·grind
  ·have h:(decide (0<j)&&adj l j)=false:=by grind
   show(a_ .i64 ((j:Int)+1),NN l j++[l[j]],())=_;rw[aB b (by omega),J9,h,c_ b];rfl
  ·have h:(decide (0<j)&&adj l j)=true:=by grind
   show(a_ .i64 ((j:Int)+1),NN l j,())=_;rw[aB b (by omega),J9,h,if_pos rfl,j_]
 ·subst a;unfold sy;exact aT (aa rfl)
 ·subst a;exact aa rfl
theorem Sx(l:List lF)(c:∀r∈l,RteQ r):aC tbl vU [.d (.list KI) l] [] ny (kP l,()):=by
 refine ap rfl (aA T5 rfl (λO n=>bI (H0 O n l)) ?_);unfold H0;have d:=NO l l.length (o_ _);refine aj (ML l c) (ao (λh=>aa ?_) λh=>aa ?_)
 ·have h:(MX l).length<l.length:=by grind
  have e:kP l=[]:=by unfold MX at h;unfold kP;grind
  rw[e]
 ·have h:¬(MX l).length<l.length:=by grind
  have e:kP l=l:=by
   unfold MX at h;unfold kP;split;·rename_i b;rw[if_pos b]at h;cases l with|nil=>rfl|cons a l=>grind
   grind
  rw[e]
abbrev MTC:Type:=z7×(oL×(oL×Unit))
abbrev yMT:Ty:=pr [yRU,Rb,Rb]
noncomputable def oq(s:PS)(x:z7)(r:lF):oL×Bool×Int:=if x.2.2.1=[]then(EJ r,true,0)else((On s x.2.2.1 (EJ r)).2.1,(On s x.2.2.1 (EJ r)).1,xq s x.2.2.1 (EJ r))
def zd3(a:Int)(r:lF)(x:z7):Bool:= !((x.2.1 != a)||(x.1 != r.2.1))
noncomputable def L1(s:PS)(a:Int)(r:lF)(x:z7):Bool:=zd3 a r x&&(((oq s x r).2.2 != 0)||(oq s x r).2.1)
noncomputable def zcl(s:PS)(b:Int)(a:List z7)(r:lF):Option z7:=a.find? (L1 s b r)
noncomputable def J5(s:PS)(b:Int)(a:List z7)(r:lF):Int:=match zcl s b a r with|some x=>(oq s x r).2.2|none=>0
noncomputable def N4(s:PS)(b:Int)(a:List z7)(r:lF):List MTC:=match zcl s b a r with|some x=>if(oq s x r).2.2≠0 then []else [(x,EJ r,(oq s x r).1,())]|none=>[]
theorem zeC(s:PS)(b:Int)(a:List z7)(r:lF):(N4 s b a r).length<=1:=by
 unfold N4;split;·split<;>simp
 ·simp
theorem smq{s:PS}(hs:SmP s){r:lF}(hr:RteQ r):SmQ s (EJ r):=by refine⟨hs,hr.p,?_,h_ _,h_ _⟩;obtain⟨p,pr,b,c,ta,a,⟨⟩⟩:=r;cases a with|nil=>exact⟨Int.le_refl 0,show(0:Int)<=4294967295 by simp⟩|cons h a=>exact(hr.h h (by simp)).1
theorem AX(s:PS)(hs:SmP s)(x:z7)(r:lF)(hr:RteQ r):aC tbl dL [.d yRU x,.d KI r,.dp yS s] [] cQ ((x,EJ r,(oq s x r).1,()),(oq s x r).2.1,(oq s x r).2.2,()):=by
 refine ap rfl (aA B9 rfl (λO n=>bI (qA O n x r s)) ?_);unfold qA;refine aj (z8 r) (aj (z8 r) (ao (λh=>aa ?_) λh=>?_));·rw[show oq s x r=(EJ r,true,0)from if_pos (by grind)]
 ·have e:oq s x r=_:=if_neg (show ¬x.2.2.1=[] by grind);rw[e];exact aj (UF s _ _ (smq hs hr)) (aa rfl)
noncomputable def Ey(s:PS)(b:Int)(a:List z7)(l:List lF):List MTC:=l.flatMap (N4 s b a)
theorem RN{s:PS}{b:Int}{a:List z7}{l:List lF}{i:Nat}(c:i<l.length):Ey s b a (l.take (i+1))=Ey s b a (l.take i)++N4 s b a l[i]:=by unfold Ey;rw[d_ c,O_];simp
theorem IT(s:PS)(b:Int)(a:List z7):∀l:List lF,(Ey s b a l).length<=l.length
 |[]=>o_ _
 |r::l=>by have c:=IT s b a l;have d:=zeC s b a r;have e:Ey s b a (r::l)=N4 s b a r++Ey s b a l:=rfl;grind
noncomputable def zeZ(s:PS)(b:Int)(a:List z7)(l:List lF):Int:=bS (J5 s b a) (kP l)
noncomputable def Lf(s:PS)(b:Int)(a:List z7)(l:List lF):Int:=if xE s a≠0 then xE s a else zeZ s b a l
noncomputable def C3(s:PS)(b:Int)(a:List z7)(l:List lF):List MTC:=if Lf s b a l≠0 then []else Ey s b a (kP l)
theorem ziY(s:PS)(hs:SmP s)(d:Int)(a:List z7)(hr:a.length<=64)(r:lF)(v:RteQ r)(c:List MTC)(w:c.length<=2000): Wp (λn=>aL n (j8 (sC tbl n) n s a d) ((0:Int),c,r.1.1,r.1.2.1,r.2.1,r.2.2.1,r.2.2.2.1,r.2.2.2.2.1,r.2.2.2.2.2.1,())) λx=>x=if J5 s d a r≠0 then .inl (J5 s d a r,())else .inr (c++N4 s d a r,()):=by
 refine OW (δ:=(Int×Unit)⊕(List MTC×Unit)) (xs:=a) (p:=L1 s d r) (enc:=λi=>((i:Int),c,r.1.1,r.1.2.1,r.2.1,r.2.2.1,r.2.2.2.1,r.2.2.2.2.1,r.2.2.2.2.2.1,())) (g:=λx=>if(oq s x r).2.2≠0 then .inl ((oq s x r).2.2,())else .inr (c++[(x,EJ r,(oq s x r).1,())],())) (e:=.inr (c,())) (λi f=>?_) ?_ ?_
 ·unfold j8;refine a6 f (ae (aF f (ae (bn (b:=a[i].1 != r.2.1) (λ_=>aa rfl) ?_))));refine ao (λh=>aa (aa ?_)) λh=>?_
  ·have k:L1 s d r a[i]=false:=by unfold L1 zd3;grind
   rw[k,if_neg (by simp)];show w_ (a_ .i64 ((i:Int)+1),_)=_;rw[aB f (by omega)]
  have k:L1 s d r a[i]=(((oq s a[i] r).2.2 != 0)||(oq s a[i] r).2.1):=by unfold L1 zd3;grind
  rw[k];have hc:=AX s hs a[i] r v;refine aj hc ?_;refine ao (λl=>aa (aa ?_)) λl=>?_;·grind
  have l:¬(oq s a[i] r).2.2≠0:=by grind
  have j:((oq s a[i] r).2.2 != 0)=false:=by omega
  rw[j,F_];refine ao (λu=>?_) λu=>aa (aa ?_);·refine aD (decide_eq_true ?_) (aa (aa ?_));all_goals grind
  ·rw[show(oq s a[i] r).2.1=false from u,if_neg (by simp)];show w_ (a_ .i64 ((i:Int)+1),_)=_;rw[aB f (by omega)]
 ·unfold j8;exact aT (aa rfl)
 ·unfold J5 N4 zcl;grind
theorem JA(l:List lF)(g:∀r∈l,RteQ r)(hl:l.length<=1000)(s:PS)(hs:SmP s)(a:List z7)(b:Int):aC tbl ng [.d (.list KI) l,.d yS s,.d (.list yRU) a,.d tI b] [] eJ (C3 s b a l,Lf s b a l,()):=by
 refine ap rfl (aA Ku rfl (λO n=>bI (Ah O n l s a b)) ?_);unfold Ah;refine aj (MH s hs a) (ao (λh=>aa ?_) λh=>?_)
 ·have h:xE s a≠0:=by grind
  have e:Lf s b a l=xE s a:=if_pos h;rw[show C3 s b a l=[]from by unfold C3;grind,e]
 have d:¬xE s a≠0:=by grind
 have hr:a.length<=64:=by have d:xE s a=0:=f_ d;unfold xE at d;omega
 have e:Lf s b a l=zeZ s b a l:=if_neg d;refine aj (O6 l g) ?_;have k:=NU l;refine ae (mg (l:=kP l) (f:=J5 s b a) (enc:=λi=>((i:Int),Ey s b a ((kP l).take i),())) (oB:=λe=>(e,())) (oE:=(Ey s b a (kP l),())) (λi c=>?_) ?_ ?_)
 ·unfold pL;have p:=IT s b a ((kP l).take i);rw[n_]at p;refine a6 c (aF c (ae (Wp.imp (ziY s hs b a hr (kP l)[i] (g _ (Wd (b_ c))) _ (by grind)) λx u=>?_)));subst u;by_cases h:J5 s b a (kP l)[i]=0;·rw[if_neg (not_not_intro h),if_pos h];refine aa ?_;show w_ (a_ .i64 ((i:Int)+1),_)=_;rw[aB c (by omega),RN c]
  ·rw[if_pos h,if_neg h];exact aa rfl
 ·unfold pL;refine aT (aa ?_);simp
 have j:zeZ s b a l=bS (J5 s b a) (kP l):=rfl;unfold C3;rw[e,j];by_cases h:bS (J5 s b a) (kP l)=0;·rw[if_pos h,if_neg (not_not_intro h)];refine aa ?_;rw[h]
 ·rw[if_neg h,if_pos h];exact aa rfl
def zgb(r:lF)(y:oL):Int:=if y.2.2.1=(EJ r).2.2.1 then 0 else y.2.2.1
def zdQ(x:z7)(y:oL):Int:=if x.2.2.2.1≠0 then x.2.2.2.1 else min y.2.2.2.2.2.2.2.1 16777216
theorem CR(m:MTC):aC tbl ey [.d yMT m] [] cn (zdQ m.1 m.2.2.1,()):=by refine ap rfl (aA Dd rfl (λO n=>bI (rW O n m)) ?_);unfold rW zdQ;refine ao (λh=>aa ?_) λh=>aa ?_;all_goals grind
theorem AW(m:MTC):aC tbl gr [.d yMT m] [] cP ((if m.2.2.1.2.2.1=m.2.1.2.2.1 then 0 else m.2.2.1.2.2.1),()):=by refine ap rfl (aA B8 rfl (λO n=>bI (qz O n m)) ?_);unfold qz;refine ao (λh=>aa ?_) λh=>aa ?_;all_goals grind
theorem map_take{α β:Type}{f:α->β}{l:List α}{i:Nat}(a:i<l.length):(l.take (i+1)).map f=(l.take i).map f++[f l[i]]:=by rw[d_ a,Y_];rfl
theorem Wl(s:PS)(b:Int)(a:List z7)(l:List lF):(C3 s b a l).length<=l.length:=by
 unfold C3;split;·simp
 ·exact t_ (IT s b a _) (NU l)
abbrev RES:Type:=z7×(oL×Unit)
abbrev yRE:Ty:=pr [yRU,Rb]
abbrev zRes:RES:=((0,0,[],0,false,()),((0,0,()),0,0,[],[],0,0,0,0,()),())
noncomputable def NJ(s:PS)(b:Int)(a:List z7)(r:lF):RES×(Bool×(Int×Unit)):=match zcl s b a r with
 |some x=>if(oq s x r).2.2≠0 then(zRes,false,(oq s x r).2.2,())else((x,(oq s x r).1,()),true,0,())
 |none=>(zRes,false,0,())
abbrev oF(b:Bool)(e:Int)(x:z7)(y:oL):Bool×Int×Int×Int×List UInt8×Int×Bool×Int×Int×Int×Int×List Int×List Int×Int×Int×Int×Int×Unit:=
 (b,e,x.1,x.2.1,x.2.2.1,x.2.2.2.1,x.2.2.2.2.1,y.1.1,y.1.2.1,y.2.1,y.2.2.1,y.2.2.2.1,y.2.2.2.2.1,y.2.2.2.2.2.1,y.2.2.2.2.2.2.1,y.2.2.2.2.2.2.2.1,y.2.2.2.2.2.2.2.2.1,())
theorem Pp(s:PS)(hs:SmP s)(c:Int)(a:List z7)(hr:a.length<=64)(r:lF)(u:RteQ r):aC tbl tA [.d yS s,.d (.list yRU) a,.d tI c,.d KI r] [] lh (NJ s c a r):=by
 refine ap (by unfold NJ;split<;>(try split)<;>kernel_rfl) (aA Q1 rfl (λO n=>bI (GD O n s a c r)) ?_)
 unfold GD;refine ae (OW (δ:=(Bool×Int×Int×Int×List UInt8×Int×Bool×Int×Int×Int×Int×List Int×List Int×Int×Int×Int×Int×Unit)⊕(Int×Int×List UInt8×Int×Bool×Int×Int×Int×Int×Int×Int×Int×Int×Unit)) (xs:=a) (p:=L1 s c r) (enc:=λi=>((i:Int),0,0,[],0,false,0,0,0,0,0,0,0,0,())) (g:=λx=>if(oq s x r).2.2≠0 then .inl (oF false (oq s x r).2.2 zRes.1 zRes.2.1)else .inl (oF true 0 x (oq s x r).1)) (e:=.inr (0,0,[],0,false,0,0,0,0,0,0,0,0,())) (λi d=>?_) ?_ ?_)
 ·unfold uQ;refine a6 d (ae (aF d (ae (bn (b:=a[i].1 != r.2.1) (λ_=>aa rfl) ?_))));refine ao (λh=>aa (aa ?_)) λh=>?_
  ·have j:L1 s c r a[i]=false:=by unfold L1 zd3;grind
   rw[j,if_neg (by simp)];show w_ (a_ .i64 ((i:Int)+1),_)=_;rw[aB d (by omega)]
  have j:L1 s c r a[i]=(((oq s a[i] r).2.2 != 0)||(oq s a[i] r).2.1):=by unfold L1 zd3;grind
  rw[j];refine ao (λhp=>?_) λhp=>?_;·have e:oq s a[i] r=(EJ r,true,0):=if_pos (by grind);rw[e];refine aj (uy r) (aa (aa ?_));simp
  have e:oq s a[i] r=_:=if_neg (show ¬a[i].2.2.1=[] by grind);rw[e];refine aj (uy r) (aj (UQ s _ _ (smq hs u)) ?_);refine ao (λk=>aa (aa ?_)) λk=>?_;·grind
  have k:¬xq s a[i].2.2.1 (EJ r)≠0:=by grind
  have f:(xq s a[i].2.2.1 (EJ r) != 0)=false:=by omega
  rw[f,F_];refine ao (λl=>aa (aa ?_)) λl=>aa (aa ?_);·grind
  ·rw[show(On s a[i].2.2.1 (EJ r)).1=false from l,if_neg (by simp)];show w_ (a_ .i64 ((i:Int)+1),_)=_;rw[aB d (by omega)]
 ·unfold uQ;exact aT (aa rfl)
 ·unfold NJ zcl;cases v:a.find? (L1 s c r)with
  |none=>exact aa rfl|some x=>
   by_cases h:(oq s x r).2.2≠0;·simp only[if_pos h];exact aa rfl
   ·simp only[if_neg h];exact aa rfl
theorem Lt(r:lF)(x:RES):aC tbl pA [.d KI r,.d yRE x] [] iy (zgb r x.2.1,()):=by refine ap rfl (aA Mj rfl (λO n=>bI (CG O n r x)) ?_);unfold CG zgb;refine aj (uy r) (ao (λh=>aa ?_) λh=>aa ?_);all_goals grind
theorem zga(s:PS)(b:Int)(a:List z7)(r:lF):(NJ s b a r).2.2.1=J5 s b a r:=by unfold NJ J5;grind
abbrev SEG:Type:=Int×(List Int×Unit)
abbrev ySG:Ty:=pr [tI,.list tI]
abbrev UNK:Type:=Int×(List Int×Unit)
abbrev ATT:Type:=Int×(List SEG×(Int×(Bool×(Int×(Bool×(Int×(Bool×(Bool×(Int×(Int×(List Int×(Bool×(Int×(List Int×(List UNK×Unit)))))))))))))))
abbrev yAT:Ty:=pr [tI,.list ySG,tW,tB,tI,tB,tI,tB,tB,tI,tW,.list tW,tB,tW,.list tW,.list (pr [tI,.list tY])]
abbrev PVR:Type:=G2×(ATT×(Int×(Int×(Int×(Bool×Unit)))))
abbrev yPV:Ty:=pr [yP,yAT,tI,tI,tW,tB]
def Z0(x:z7)(y:oL):Int:=if y.2.2.2.2.2.2.1=0 then zdQ x y else y.2.2.2.2.2.2.1
def Pz(x:z7)(y:oL)(a:Int):ATT:=(2,(if 0<y.2.2.2.1.length then [(2,y.2.2.2.1,())]else []),a,true,Z0 x y,(y.2.2.2.2.2.1 != 100),(if y.2.2.2.2.2.1≠100 then y.2.2.2.2.2.1 else 0),false,false,0,0,y.2.2.2.2.1,false,0,[],[],())
def Tj(m:MTC):Int:=if m.2.2.1.2.2.1=m.2.1.2.2.1 then 0 else m.2.2.1.2.2.1
def Jq(a:Int)(m:MTC):PVR:=(m.2.1.1,Pz m.1 m.2.2.1 (Tj m),-1,0,a,false,())
theorem zdh(l:List Int)(h:l.length*4<=140737488355328):aC tbl cf [.d (.list tW) l] [] fJ (l,()):=As vp (by show(bif decide (l.length*4<=140737488355328)then _ else _)=_;rw[decide_eq_true h];rfl) rfl
theorem zdg(l:List Int)(h:l.length*8<=140737488355328):aC tbl dO [.d (.list tI) l] [] kH (l,()):=As Ch (by show(bif decide (l.length*8<=140737488355328)then _ else _)=_;rw[decide_eq_true h];rfl) rfl
theorem MI(m:MTC)(r:SmR 200000 m.2.2.1):aC tbl qS [.d yMT m] [] dW (Pz m.1 m.2.2.1 (Tj m),()):=by
 refine ap rfl (aA OH rfl (λO n=>bI (Dx O n m)) ?_);unfold Dx;have k:=r.pt;have p:=r.cm;refine aj (AW m) (aj (zdh _ (by omega)) ?_);have f:∀(c:List SEG),c=(if 0<m.2.2.1.2.2.2.1.length then [(2,m.2.2.1.2.2.2.1,())]else [])->Wp (λn=>
  e_ (bif (m.2.2.1.2.2.2.2.2.2.1==(0:Int))then e_ (au (sC tbl n) ey [.d yMT m] [] cn) λu=>some (((0:Int),(0:Int),false,(0:Int),false,(0:Int),false,false,(0:Int),(0:Int),false,(0:Int),(2:Int),c,Tj m,true,u.1,false,(0:Int),false,false,(0:Int),(0:Int),m.2.2.1.2.2.2.2.1,false,(0:Int),()))
  else some (((0:Int),(0:Int),false,(0:Int),false,(0:Int),false,false,(0:Int),(0:Int),false,(0:Int),(2:Int),c,Tj m,true,m.2.2.1.2.2.2.2.2.2.1,false,(0:Int),false,false,(0:Int),(0:Int),m.2.2.1.2.2.2.2.1,false,(0:Int),()))) fun(a:(Int×Int×Bool×Int×Bool×Int×Bool×Bool×Int×Int×Bool×Int×Int×(List (Int×((List Int)×Unit)))×Int×Bool×Int×Bool×Int×Bool×Bool×Int×Int×(List Int)×Bool×Int×Unit))=>
  e_ (bif (m.2.2.1.2.2.2.2.2.1 != (100:Int))then some ((a.1,a.2.1,a.2.2.1,a.2.2.2.1,a.2.2.2.2.1,a.2.2.2.2.2.1,a.2.2.2.2.2.2.1,a.2.2.2.2.2.2.2.1,a.2.2.2.2.2.2.2.2.1,a.2.2.2.2.2.2.2.2.2.1,a.2.2.2.2.2.2.2.2.2.2.1,a.2.2.2.2.2.2.2.2.2.2.2.1,a.2.2.2.2.2.2.2.2.2.2.2.2.1,a.2.2.2.2.2.2.2.2.2.2.2.2.2.1,a.2.2.2.2.2.2.2.2.2.2.2.2.2.2.1,a.2.2.2.2.2.2.2.2.2.2.2.2.2.2.2.1,a.2.2.2.2.2.2.2.2.2.2.2.2.2.2.2.2.1,true,m.2.2.1.2.2.2.2.2.1,a.2.2.2.2.2.2.2.2.2.2.2.2.2.2.2.2.2.2.2.1,a.2.2.2.2.2.2.2.2.2.2.2.2.2.2.2.2.2.2.2.2.1,a.2.2.2.2.2.2.2.2.2.2.2.2.2.2.2.2.2.2.2.2.2.1,a.2.2.2.2.2.2.2.2.2.2.2.2.2.2.2.2.2.2.2.2.2.2.1,a.2.2.2.2.2.2.2.2.2.2.2.2.2.2.2.2.2.2.2.2.2.2.2.1,a.2.2.2.2.2.2.2.2.2.2.2.2.2.2.2.2.2.2.2.2.2.2.2.2.1,a.2.2.2.2.2.2.2.2.2.2.2.2.2.2.2.2.2.2.2.2.2.2.2.2.2.1,()))
  else some (a.1,a.2.1,a.2.2.1,a.2.2.2.1,a.2.2.2.2.1,a.2.2.2.2.2.1,a.2.2.2.2.2.2.1,a.2.2.2.2.2.2.2.1,a.2.2.2.2.2.2.2.2.1,a.2.2.2.2.2.2.2.2.2.1,a.2.2.2.2.2.2.2.2.2.2.1,a.2.2.2.2.2.2.2.2.2.2.2.1,a.2.2.2.2.2.2.2.2.2.2.2.2.1,a.2.2.2.2.2.2.2.2.2.2.2.2.2.1,a.2.2.2.2.2.2.2.2.2.2.2.2.2.2.1,a.2.2.2.2.2.2.2.2.2.2.2.2.2.2.2.1,a.2.2.2.2.2.2.2.2.2.2.2.2.2.2.2.2.1,a.2.2.2.2.2.2.2.2.2.2.2.2.2.2.2.2.2.1,a.2.2.2.2.2.2.2.2.2.2.2.2.2.2.2.2.2.2.1,a.2.2.2.2.2.2.2.2.2.2.2.2.2.2.2.2.2.2.2.1,a.2.2.2.2.2.2.2.2.2.2.2.2.2.2.2.2.2.2.2.2.1,a.2.2.2.2.2.2.2.2.2.2.2.2.2.2.2.2.2.2.2.2.2.1,a.2.2.2.2.2.2.2.2.2.2.2.2.2.2.2.2.2.2.2.2.2.2.1,a.2.2.2.2.2.2.2.2.2.2.2.2.2.2.2.2.2.2.2.2.2.2.2.1,a.2.2.2.2.2.2.2.2.2.2.2.2.2.2.2.2.2.2.2.2.2.2.2.2.1,a.2.2.2.2.2.2.2.2.2.2.2.2.2.2.2.2.2.2.2.2.2.2.2.2.2.1,())) fun(e:(Int×Int×Bool×Int×Bool×Int×Bool×Bool×Int×Int×Bool×Int×Int×(List (Int×((List Int)×Unit)))×Int×Bool×Int×Bool×Int×Bool×Bool×Int×Int×(List Int)×Bool×Int×Unit))=>
  ar dW ((e.2.2.2.2.2.2.2.2.2.2.2.2.1,e.2.2.2.2.2.2.2.2.2.2.2.2.2.1,e.2.2.2.2.2.2.2.2.2.2.2.2.2.2.1,e.2.2.2.2.2.2.2.2.2.2.2.2.2.2.2.1,e.2.2.2.2.2.2.2.2.2.2.2.2.2.2.2.2.1,e.2.2.2.2.2.2.2.2.2.2.2.2.2.2.2.2.2.1,e.2.2.2.2.2.2.2.2.2.2.2.2.2.2.2.2.2.2.1,e.2.2.2.2.2.2.2.2.2.2.2.2.2.2.2.2.2.2.2.1,e.2.2.2.2.2.2.2.2.2.2.2.2.2.2.2.2.2.2.2.2.1,e.2.2.2.2.2.2.2.2.2.2.2.2.2.2.2.2.2.2.2.2.2.1,e.2.2.2.2.2.2.2.2.2.2.2.2.2.2.2.2.2.2.2.2.2.2.1,e.2.2.2.2.2.2.2.2.2.2.2.2.2.2.2.2.2.2.2.2.2.2.2.1,e.2.2.2.2.2.2.2.2.2.2.2.2.2.2.2.2.2.2.2.2.2.2.2.2.1,e.2.2.2.2.2.2.2.2.2.2.2.2.2.2.2.2.2.2.2.2.2.2.2.2.2.1,([]:List Int),([]:List (Int×((List Int)×Unit))),()),())) (λx=>x=some (jm dW (Pz m.1 m.2.2.1 (Tj m),()))):=λc g=>by
  have pk:∀d,d=Z0 m.1 m.2.2.1->∀b pf,b=(m.2.2.1.2.2.2.2.2.1 != 100)->pf=(if m.2.2.1.2.2.2.2.2.1≠100 then m.2.2.1.2.2.2.2.2.1 else 0)->((2,c,Tj m,true,d,b,pf,false,false,0,0,m.2.2.1.2.2.2.2.1,false,0,[],[],()):ATT)=Pz m.1 m.2.2.1 (Tj m):=λd k b pf p s=>by rw[k,p,s,g];rfl
  have j:∀d,d=Z0 m.1 m.2.2.1->Wp (fun(n:Nat)=>e_ (bif (m.2.2.1.2.2.2.2.2.1 != (100:Int))then some (true,m.2.2.1.2.2.2.2.2.1)else some (false,(0:Int))) fun(v:Bool×Int)=>ar dW ((2,c,Tj m,true,d,v.1,v.2,false,false,(0:Int),(0:Int),m.2.2.1.2.2.2.2.1,false,(0:Int),([]:List Int),([]:List (Int×((List Int)×Unit))),()),())) (λx=>x=some (jm dW (Pz m.1 m.2.2.1 (Tj m),()))):=λd k=>by
   refine ae (ao (λh=>aa (aa ?_)) λh=>aa (aa ?_));·rw[pk d k _ _ h.symm (by rw[if_pos (by simpa using h)])]
   ·rw[pk d k _ _ h.symm (by rw[if_neg (by simpa using h)])]
  refine ae (ao (λh=>aj (CR m) (aa ?_)) λh=>aa ?_)
  ·have:=j (zdQ m.1 m.2.2.1) (by unfold Z0;rw[if_pos (by simpa using h)]);cases l:(m.2.2.1.2.2.2.2.2.1 != (100:Int))<;>rw[l]at this<;>exact this
  ·have:=j m.2.2.1.2.2.2.2.2.2.1 (by unfold Z0;rw[if_neg (by simpa using h)]);cases l:(m.2.2.1.2.2.2.2.2.1 != (100:Int))<;>rw[l]at this<;>exact this
 refine ae (ao (λh=>aj (zdg _ (by omega)) (aa ?_)) λh=>aa ?_);·exact f [(2,m.2.2.1.2.2.2.1,())] (by rw[if_pos (by have:=of_decide_eq_true h;omega)])
 ·exact f [] (by rw[if_neg (by have:=of_decide_eq_false h;omega)])
theorem zhg{x:z7}{y:oL}{d c:Int}{a:List SEG}{b:Bool}{pf:Int}(e:c=Z0 x y)(f:a=if 0<y.2.2.2.1.length then [(2,y.2.2.2.1,())]else [])(g:b=(y.2.2.2.2.2.1 != 100))(h:pf=if y.2.2.2.2.2.1≠100 then y.2.2.2.2.2.1 else 0):((2,a,d,true,c,b,pf,false,false,0,0,y.2.2.2.2.1,false,0,[],[],()):ATT)=Pz x y d:=by rw[e,f,g,h];rfl
theorem Po(r:lF)(x:RES):aC tbl tz [.d KI r,.d yRE x] [] lg (Pz x.1 x.2.1 (zgb r x.2.1),()):=by refine ap rfl (aA Q0 rfl (λO n=>bI (GC O n r x)) ?_);unfold GC;refine aj (Lt r x) ?_;refine ae (ao (λb=>aa ?_) λb=>aa ?_)<;>refine ae (ao (λc=>aa ?_) λc=>aa ?_)<;>refine ae (ao (λd=>aa ?_) λd=>aa ?_)<;>refine ae (ao (λe=>aa (aa ?_)) λe=>aa (aa ?_));all_goals exact congrArg (λa:ATT=>some (jm lg (a,()))) (zhg (by unfold Z0 zdQ;grind) (by grind) (by grind) (by grind))
theorem zgE{s:PS}{n:List UInt8}{r:oL}(h:SmR 100000 r):SmR 200000 (On s n r).2.1:=by
 unfold On;split;·exact⟨h_ _,h_ _⟩
 rename_i a;have a:xq s n r=0:=f_ a;obtain⟨p,b,c,f,_⟩:=I3 a;rw[c];unfold XD;split;·exact⟨h_ _,h_ _⟩
 ·have hp:=f.r4 p (xc b);have k:=hp.tl;have:=wj (hold:=vr s r) (l:=p.2.1) (i:=0) (d:=p.2.2.1) (λt j=>(hp.tr t j).al);have e:ji (vr s r) p.2.1 0 p.2.2.1=Ef s p r:=rfl;rw[e]at this;have g:=SE (l:=(Ef s p r).2.1) h;exact⟨g.pt,t_ g.cm (by omega)⟩
theorem zbm{s:PS}{c:Int}{a:List z7}{l:List lF}:∀m∈C3 s c a l,SmR 200000 m.2.2.1:=by
 intro m b;unfold C3 at b;split at b;·grind
 unfold Ey at b;obtain⟨r,_,hr⟩:=List.mem_flatMap.1 b;unfold N4 at hr;split at hr
 ·rename_i x _;split at hr;·grind
  ·have e:m=(x,EJ r,(oq s x r).1,()):=by grind
   rw[e];show SmR 200000 (oq s x r).1;unfold oq;split;·exact⟨h_ _,h_ _⟩
   ·exact zgE ⟨h_ _,h_ _⟩
 grind
theorem Jz(l:List lF)(e:∀r∈l,RteQ r)(hl:l.length<=1000)(s:PS)(hs:SmP s)(a:List z7)(b:Int):aC tbl gH [.d (.list KI) l,.d yS s,.d (.list yRU) a,.d tW b] [] eI ((C3 s 6 a l).map (Jq b),Lf s 6 a l,()):=by
 refine ap rfl (aA Kt rfl (λO n=>bI (Ag O n l s a b)) ?_);unfold Ag;refine aj (JA l e hl s hs a 6) ?_;have f:=Wl s 6 a l;refine ae (Wp.imp (Q:=λx=>x=((C3 s 6 a l).map (Jq b),())) (a8 (N:=(C3 s 6 a l).length) (I:=λj x=>x=((j:Int),((C3 s 6 a l).take j).map (Jq b),())) rfl (λj x c d=>?_) λx d=>?_) λx d=>?_)
 ·subst d;unfold pK;refine a6 c (aF c (aj (MI _ (zbm _ (b_ c))) (aD (decide_eq_true ?_) (aa ?_))));·grind
  ·show(a_ .i64 ((j:Int)+1),_)=_;rw[aB c (by omega),map_take c];rfl
 ·subst d;unfold pK;refine aT (aa ?_);simp
 ·subst d;exact aa rfl
theorem zgM(s:PS)(c:Int)(a:List z7)(r:lF)(b:Int):(N4 s c a r).map (Jq b)=if(NJ s c a r).2.1 then [(r.1,Pz (NJ s c a r).1.1 (NJ s c a r).1.2.1 (zgb r (NJ s c a r).1.2.1),-1,0,b,false,())]else []:=by
 unfold N4 NJ;cases zcl s c a r with
 |none=>rfl|some x=>
  by_cases h:(oq s x r).2.2≠0;·grind
  ·simp only[if_neg h];rfl
theorem Ls(l:List lF)(v:∀r∈l,RteQ r)(hl:l.length<=1000)(s:PS)(hs:SmP s)(a:List z7)(b:Int):aC tbl py [.d (.list KI) l,.d yS s,.d (.list yRU) a,.d tW b] [] fH ((C3 s 6 a l).map (Jq b),Lf s 6 a l,()):=by
 refine ap rfl (aA Mi rfl (λO n=>bI (CF O n l s a b)) ?_);unfold CF;refine aj (Pn s hs a) (ao (λh=>aa ?_) λh=>?_)
 ·have h:xE s a≠0:=by grind
  have e:Lf s 6 a l=xE s a:=if_pos h;rw[show C3 s 6 a l=[]from by unfold C3;grind,e];rfl
 have k:¬xE s a≠0:=by grind
 have hr:a.length<=64:=by have k:xE s a=0:=f_ k;unfold xE at k;omega
 have e:Lf s 6 a l=zeZ s 6 a l:=if_neg k;refine aj (Sx l v) ?_;have A:=NU l;refine ae (mg (l:=kP l) (f:=J5 s 6 a) (enc:=λi=>((i:Int),(Ey s 6 a ((kP l).take i)).map (Jq b),())) (oB:=λe=>(e,())) (oE:=((Ey s 6 a (kP l)).map (Jq b),())) (λi d=>?_) ?_ ?_)
 ·unfold qN;have B:=IT s 6 a ((kP l).take i);rw[n_]at B;have c:(Ey s 6 a ((kP l).take (i+1))).map (Jq b)=(Ey s 6 a ((kP l).take i)).map (Jq b)++(N4 s 6 a (kP l)[i]).map (Jq b):=by rw[RN d,Y_]
  have u:=v _ (Wd (b_ d));refine a6 d (ae (aF d ?_));have p:=Pp s hs 6 a hr (kP l)[i] u;have y:=zgM s 6 a (kP l)[i] b;have z:=zga s 6 a (kP l)[i];rw[y]at c;rw[<-z];have j:((Ey s 6 a ((kP l).take i)).map (Jq b)).length<=1000:=by grind
  generalize(Ey s 6 a ((kP l).take i)).map (Jq b)=C at c j⊢;generalize(Ey s 6 a ((kP l).take (i+1))).map (Jq b)=w at c⊢;generalize(kP l)[i]=r at p c⊢;generalize NJ s 6 a r=f at p c⊢;refine aj p (ao (λh=>aa (aa ?_)) λh=>?_);·grind
  have h:f.2.2.1=0:=by grind
  rw[if_pos h];refine ao (λg=>?_) λg=>aa (aa ?_)
  ·have g:f.2.1=true:=by omega
   rw[g,if_pos rfl]at c;refine aj (Po r f.1) (aD (decide_eq_true ?_) (aa (aa ?_)));·grind
   rw[c];show w_ (a_ .i64 ((i:Int)+1),_)=_;rw[aB d (by omega)]
  ·have g:f.2.1=false:=by omega
   rw[g,if_neg (by simp),j_]at c;rw[c];show w_ (a_ .i64 ((i:Int)+1),_)=_;rw[aB d (by omega)]
 ·unfold qN;refine aT (aa ?_);simp
 have x:zeZ s 6 a l=bS (J5 s 6 a) (kP l):=rfl;unfold C3;rw[e,x];by_cases h:bS (J5 s 6 a) (kP l)=0;·rw[if_pos h,if_neg (not_not_intro h)];refine aa ?_;rw[h]
 ·rw[if_neg h,if_pos h];exact aa rfl
theorem MR(a:List SEG)(hl:a.length<=9223372036854775807)(hp:∀x∈a,x.2.1.length<=9223372036854775807):aC tbl iB [.d (.list ySG) a,.d (.list ySG) a] [] cx (true,()):=by
 refine ap rfl (aA EK rfl (λO n=>bI (tL O n a a)) ?_);unfold tL;refine an (by simp) ?_;refine ae (Wp.imp (Q:=λx=>x= .inr ()) (a8 (N:=a.length) (I:=λj x=>x=((j:Int),())) rfl (λj x b c=>?_) λx c=>?_) λx c=>?_);·subst c;unfold jZ;refine a6 b (aF b (aF b (ae (an (by simp) (aF b (aj (JB _ _ (hp _ (b_ b))) (aa ?_)))))));refine an (by simp) (aa ?_);show(a_ .i64 ((j:Int)+1),())=_;rw[aB b hl]
 ·subst c;unfold jZ;exact aT (aa rfl)
 ·subst c;exact aa rfl
theorem JG(p:G2)(x:z7)(y:oL)(d a:Int)(e:SmR 200000 y):aC tbl lZ [.d yPV ((p,Pz x y d,-1,0,a,false,()):PVR),.d yPV ((p,Pz x y d,-1,0,a,false,()):PVR)] [] dT (true,()):=by
 refine ap rfl (aA Je rfl (λO n=>Js O n _ _) ?_);unfold xO;have g:=e.pt;have h:=e.cm;have b:∀x:Int,(x != x)=false:=λx=>by simp
 have c:∀x:Bool,(true ^^ (x==x))=false:=λx=>by simp
 refine ae (an (by rw[zf4];rfl) (aa ?_));refine ae (an (b _) (aa ?_));refine ae (an (b _) (aa ?_));refine ae (an (b _) (aa ?_));refine ae (an (c _) (aa ?_));refine ae (an (b _) (aj (MR _ ?_ ?_) (aa ?_)));·show(if 0<y.2.2.2.1.length then [((2:Int),y.2.2.2.1,())]else []).length<=_;grind
 ·intro z f;have f:z∈(if 0<y.2.2.2.1.length then [((2:Int),y.2.2.2.1,())]else []):=f;grind
 refine ae (an rfl (aa ?_));refine an (b _) ?_;refine ae (an (c _) (aa ?_));refine ae (an (b _) (aa ?_));refine ae (an (c _) (aa ?_));refine ae (an (b _) (aj (Ft _ _ (by show y.2.2.2.2.1.length<=_;omega)) (aa ?_)));refine an (by simp) ?_;refine ae (aE rfl (aa ?_));refine ae (aE rfl (aa ?_));refine ae (aE rfl (aa ?_));refine ae (aE rfl (aa ?_));refine ae (aE rfl (aa ?_));refine ae (aE rfl (aa ?_));refine ae (aE rfl (aa ?_));exact aa rfl
theorem IP{t:Ty}{l:List t.den}(h:∀x∈l,1<=fT t x):l.length<=(l.map (fT t)).sum:=by induction l with|nil=>simp|cons x l a=>grind
theorem Wm{t:Ty}{l:List t.den}{x:t.den}(a:x∈l):fT t x<=(l.map (fT t)).sum:=by induction l with|nil=>grind|cons y l b=>grind
theorem zai{s:PS}(a:okD yS s)(b:fT yS s<=1048576):SmP s:=by
 have b:(T_ (fT yL) s.1).sum+1+((T_ (fT yG) s.2.1).sum+1+((T_ (fT yD) s.2.2.1).sum+1+((T_ (fT yO) s.2.2.2.1).sum+1+0)))<=1048576:=b;have g:=IP (t:=yL) (l:=s.1) λx _=>by show 1<=M_ x.1+1+_;omega
 have h:=IP (t:=yG) (l:=s.2.1) λx _=>by show 1<=M_ x.1+1+_;omega
 have j:=IP (t:=yD) (l:=s.2.2.1) λx _=>by show 1<=M_ x.1+1+_;omega
 have k:=IP (t:=yO) (l:=s.2.2.2.1) λx _=>by show 1<=M_ x.1+1+_;omega
 refine⟨a,by omega,by omega,by omega,by omega,λl hl r hr=>?_⟩;have c:=Wm (t:=yG) hl;have d:=Wm (t:=yH) hr;have e:fT yG l=l.1.length+1+((T_ (fT yH) l.2.1).sum+1+0):=rfl;have f:fT yH r=1+(r.2.1.length+1+0):=rfl;omega
theorem zgD{r:lF}(h:okD KI r):RteQ r:=⟨h.1.1,λx a=>⟨(h.2.2.2.2.2.1.2 x a).1,(h.2.2.2.2.2.1.2 x a).2.2.2.2.1.1⟩⟩
theorem XC(l:List lF)(s:PS)(a:List z7)(c:Int)(hs:SmP s)(k:∀r∈l,RteQ r):Conv tbl g8 [.d (.list KI) l,.d yS s,.d (.list yRU) a,.d tW c] [] (·=some (jm cj (true,()))):=by
 refine aA C9 rfl (λO n=>bI (rS O n l s a c)) ?_;unfold rS;obtain⟨b,f,g⟩:=zfB l s a;refine aj g (ao (λ_=>aj zaL (aa rfl)) λp=>?_);have hl:=(f p).1;have u:=Wl s 6 a l;refine aj (Jz l k (by omega) s hs a c) (aj (Ls l k (by omega) s hs a c) ?_);refine ae (an (by simp) (aa ?_));refine an (by simp) ?_;refine ae (Wp.imp (Q:=λx=>x= .inr ()) (a8 (N:=(C3 s 6 a l).length) (I:=λj x=>x=((j:Int),())) rfl (λj x h e=>?_) λx e=>?_) λx e=>?_)
 ·subst e;unfold jx;have d:j<((C3 s 6 a l).map (Jq c)).length:=by grind
  refine a6 d (aF d (aF d ?_));rw[List.getElem_map];refine aj (JG _ _ _ _ c (zbm _ (b_ h))) (an rfl (aa ?_));show(a_ .i64 ((j:Int)+1),())=_;rw[aB h (by omega)]
 ·subst e;unfold jx;refine an (decide_eq_false ?_) (aa rfl);simp
 ·subst e;exact aj zaL (aa rfl)
theorem IN:LawOkU g8 [.list KI,yS,.list yRU,tW]:=by rintro⟨l,s,b,a,_⟩ ⟨hl,hs,_⟩ c;have c:fT (.list KI) l+(fT yS s+_)<=1048576:=c;exact⟨jm cj (true,()),XC l s b a (zai hs (by omega)) λr hr=>zgD (hl.2 r hr),rfl⟩
end Go.Proofs.YtmfolppncelceaaGreatDoor
