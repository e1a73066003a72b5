import Derived.Test.YtmfolppncelceaaGreatDoorELawPfx
import Derived.Test.YtmfolppncelceaaGreatDoorEPlPfx
import Derived.Test.YtmfolppncelceaaGreatDoorEL7
import Derived.Test.YtmfolppncelceaaGreatDoorEGlueB
import Derived.Test.YtmfolppncelceaaGreatDoorEL5
set_option linter.unusedVariables false
set_option linter.unusedSimpArgs false
open Bool renaming false_eq_true->p_,true_and->q_,and_eq_true->w_,not_eq_true->x_,false_or->E_,eq_iff_iff->H_,false_and->K_,not_eq_true'->Q_,or_eq_true->U_,not_false->Y_,not_true->Z_
open Classical renaming byContradiction->f_
open Int renaming toNat_natCast->r_,toNat->y_,eq_ofNat_of_zero_le->F_
open Go.IntKind renaming wrap->a_,bits->aa_
open List renaming getElem_mem->b_,take_succ_eq_append_getElem->c_,getElem?_eq_getElem->d_,replicate->g_,drop_eq_getElem_cons->i_,append_nil->j_,take_length->k_,getElem?_eq_some_iff->l_,mem_of_find?_eq_some->m_,length_take->n_,drop_zero->t_,foldl_append->u_,getD->z_,eq_nil_of_length_eq_zero->A_,pairwise_append->B_,length_pos_iff->C_,pairwise_iff_getElem->D_,drop_length->G_,all_append->I_,length_filter_le->J_,length->L_,replicate_succ'->M_,flatMap_append->N_,filter_append->O_,pairwise_cons->P_,map->R_,all_eq_true->S_,countP_cons->T_,foldl_cons->V_,map_append->W_,range_succ->X_,filter->ac_,range->ad_
open Nat renaming zero_le->h_,le_refl->o_,le_trans->v_,sub_self->ab_
open Option renaming bind->e_
open Sum renaming inl->s_
namespace Go.Proofs.YtmfolppncelceaaGreatDoor
open Go Go.Av Go.Ev Go.Pl
theorem Hb(r:CRU):aC tbl iB [.d yC r] [] dV (oo r,()):=by
 refine ap rfl (aA zio rfl (λO n=>bK (xp O n r)) ?_);unfold xp;refine ae (bn (b:=decide (r.2.1>65535)) (λ_=>aa rfl) (ae (bn (b:=decide (r.2.2.1< -1)) (λ_=>aa rfl) (ae (bn (b:=decide (r.2.2.1>65535)) (λ_=>aa rfl) ?_)))));refine ao (λh=>aa ?_) λh=>aa ?_;·rw[show oo r=5 from if_pos (by grind)]
 ·rw[show oo r=0 from if_neg (by grind)]
def XK(k:Int):Bool:=decide (k=4\/k=5\/k=6\/k=8)
theorem Rz(k:Int):∃lo g:Int,(XK k=true->lo=zfA k/\g=Ve k)/\aC tbl vm [.d tI k] [] gm (lo,g,XK k,()):=by
 have a:∀{j:Int},k≠j->(k==j)=false:=λh=>beq_eq_false_iff_ne.2 h;by_cases b:k=4;·subst b;exact⟨1,7,λ_=>⟨rfl,rfl⟩,ap rfl (aA rq rfl (λO n=>bK (eM O n 4)) (by unfold eM;exact aF rfl (aa rfl)))⟩
 by_cases c:k=5;·subst c;exact⟨0,4294967295,λ_=>⟨rfl,rfl⟩,ap rfl (aA rq rfl (λO n=>bK (eM O n 5)) (by unfold eM;exact an rfl (aF rfl (aa rfl))))⟩
 by_cases d:k=6;·subst d;exact⟨0,16777216,λ_=>⟨rfl,rfl⟩,ap rfl (aA rq rfl (λO n=>bK (eM O n 6)) (by unfold eM;exact an rfl (an rfl (aF rfl (aa rfl)))))⟩
 by_cases f:k=8;·subst f;exact⟨0,2000,λ_=>⟨rfl,rfl⟩,ap rfl (aA rq rfl (λO n=>bK (eM O n 8)) (by unfold eM;exact an rfl (an rfl (an rfl (aF rfl (aa rfl))))))⟩
 have e:XK k=false:=decide_eq_false (by omega);rw[e];exact⟨0,0,(λh=>by grind),ap rfl (aA rq rfl (λO n=>bK (eM O n k)) (by unfold eM;exact an (a b) (an (a c) (an (a d) (an (a f) (aa rfl))))))⟩
def gr(s:PS)(n:List UInt8):Option PLS:=s.1.find? (·.1==n)
theorem zu(s:PS)(n:List UInt8)(hl:s.1.length<=9223372036854775807):aC tbl jm [.d yS s,.d tS n] [] eH ((gr s n).getD ([],[],()),(gr s n).isSome,()):=by
 refine ap rfl (aA JZ rfl (λO k=>bK (zF O k s n)) ?_);unfold zF;refine ae (mO (xs:=s.1) (p:=(·.1==n)) (enc:=λi=>((i:Int),([]:List UInt8),())) (g:=λx=>(true,x.1,x.2.1,())) (e:=(([]:List UInt8),())) (λi a=>?_) ?_ ?_)
 ·unfold pg;refine a7 a (aG a (ao (λh=>aa ?_) λh=>aa ?_));·rw[if_pos h]
  ·rw[if_neg (by simp[h]),aB a hl]
 ·unfold pg;exact aU (aa rfl)
 ·unfold gr;cases s.1.find? (·.1==n)with|some r=>exact aa rfl|none=>exact aa rfl
def ov(s:PS)(n:List UInt8):Option HLS:=s.2.1.find? (·.1==n)
theorem Fy(s:PS)(n:List UInt8)(hl:s.2.1.length<=9223372036854775807):aC tbl nY [.d yS s,.d tS n] [] iT ((ov s n).getD ([],[],()),(ov s n).isSome,()):=by
 refine ap rfl (aA P8 rfl (λO k=>bK (FV O k s n)) ?_);unfold FV;refine ae (mO (xs:=s.2.1) (p:=(·.1==n)) (enc:=λi=>((i:Int),([]:List UInt8),())) (g:=λx=>(true,x.1,x.2.1,())) (e:=(([]:List UInt8),())) (λi a=>?_) ?_ ?_)
 ·unfold uh;refine a7 a (aG a (ao (λh=>aa ?_) λh=>aa ?_));·rw[if_pos h]
  ·rw[if_neg (by simp[h]),aB a hl]
 ·unfold uh;exact aU (aa rfl)
 ·unfold ov;cases s.2.1.find? (·.1==n)with|some r=>exact aa rfl|none=>exact aa rfl
def de(s:PS)(n:List UInt8):Option CLS:=s.2.2.1.find? (·.1==n)
theorem uW(s:PS)(n:List UInt8)(hl:s.2.2.1.length<=9223372036854775807):aC tbl fL [.d yS s,.d tS n] [] cT ((de s n).getD ([],[],()),(de s n).isSome,()):=by
 refine ap rfl (aA Fo rfl (λO k=>bK (vf O k s n)) ?_);unfold vf;refine ae (mO (xs:=s.2.2.1) (p:=(·.1==n)) (enc:=λi=>((i:Int),([]:List UInt8),())) (g:=λx=>(true,x.1,x.2.1,())) (e:=(([]:List UInt8),())) (λi a=>?_) ?_ ?_)
 ·unfold kU;refine a7 a (aG a (ao (λh=>aa ?_) λh=>aa ?_));·rw[if_pos h]
  ·rw[if_neg (by simp[h]),aB a hl]
 ·unfold kU;exact aU (aa rfl)
 ·unfold de;cases s.2.2.1.find? (·.1==n)with|some r=>exact aa rfl|none=>exact aa rfl
theorem zgF{s:PS}{n:List UInt8}:Ln s 1 n=(gr s n).isSome:=by unfold Ln gr;rw[if_pos rfl,HF]
theorem zgG{s:PS}{n:List UInt8}:Ln s 2 n=(ov s n).isSome:=by unfold Ln ov;rw[if_neg (by decide),if_pos rfl,HF]
theorem zgH{s:PS}{n:List UInt8}:Ln s 3 n=(de s n).isSome:=by unfold Ln de;grind
theorem Oo(s:PS)(m:MAT)(hs:okD yS s)(v:gU m.2.2.2.1.1):aC tbl sQ [.d yS s,.d yM m] [] dI (wX s m,()):=by
 obtain⟨k,nm,N,⟨d,pl,⟨⟩⟩,x,⟨⟩⟩:=m;refine ap rfl (aA P7 rfl (λO n=>bK (FU O n s (k,nm,N,(d,pl,()),x,()))) ?_);unfold FU;refine ae (bn (b:=decide (k>8)) (λ_=>aa rfl) (ao (λh=>aa ?_) λh=>?_));·rw[Nh (show k<1\/8<k by grind)]
 have z:1<=k/\k<=8:=by grind
 obtain⟨lo,y,p,hc⟩:=Rz k;refine aj hc (ae (ba (b:= !(nm==[])) (λ_=>aa rfl) ?_));refine ae (bn (b:= !XK k&&(N != 0)) (λ_=>ae (ba (b:=(N != 0)) (λ_=>aa rfl) (aa rfl))) ?_);refine ae (bn (b:=(k != 7)&&(true ^^ nk yP (d,pl,()) (0,0,()))) (λ_=>ae (ba (b:=(true ^^ nk yP (d,pl,()) (0,0,()))) (λ_=>aa rfl) (aa rfl))) ?_);have w:(true ^^ nk yP (d,pl,()) (0,0,()))= !(d==0&&pl==0):=by show(true ^^ ((d==0)&&((pl==0)&&true)))=_;simp
 rw[w];have e:dE ((0:Int),(0:Int),())=true:=by decide
 have c:∀{j:Int},k≠j->(k==j)=false:=λh=>beq_eq_false_iff_ne.2 h;by_cases hn:k=1\/k=2\/k=3
 ·rw[Bp hn];have g:decide (k<=3)=true:=decide_eq_true (by omega);have f:XK k=false:=decide_eq_false (by omega);have l:(k != 7)=true:=bne_iff_ne.2 (by omega);rw[g,f,l];simp only[Z_,K_,Y_,q_,E_];refine ao (λh=>aa ?_) λh=>?_;·grind
  simp at h;obtain⟨rfl,rfl,rfl⟩:=h;rw[if_neg (by simp)];refine ae (Wp.imp (Q:=λr=>r=(Ln s k nm,())) ?_ λr hr=>?_)
  ·rcases hn with rfl|rfl|rfl;·rw[zgF];exact aF rfl (aj (zu s nm hs.1.1) (aa rfl))
   ·rw[zgG];exact an rfl (aF rfl (aj (Fy s nm hs.2.1.1) (aa rfl)))
   ·rw[zgH];exact an rfl (an rfl (aF rfl (aj (uW s nm hs.2.2.1.1) (aa rfl))))
  ·subst hr;refine ao (λh=>aa ?_) λh=>ae (aa (an rfl (aj (dG ((0:Int),(0:Int),()) (by omega)) ?_)));·grind
   ·rw[e];refine an rfl (aa ?_);grind
 by_cases u:k=7
 ·subst u;rw[Vw];refine ao (λh=>aa ?_) λh=>?_;·grind
  simp[XK]at h;obtain⟨rfl,rfl⟩:=h;rw[if_neg (by simp)];refine ae (an rfl (an rfl (an rfl (aa (an rfl (ae (aa (aj (dG (d,pl,()) v) ?_))))))));refine ao (λh=>aa ?_) λh=>aa ?_;all_goals grind
 have a:k=4\/k=5\/k=6\/k=8:=by omega
 rw[Vx a];have g:decide (k<=3)=false:=decide_eq_false (by omega);have f:XK k=true:=decide_eq_true a;have l:(k != 7)=true:=bne_iff_ne.2 u;obtain⟨rfl,rfl⟩:=p f;rw[g,f,l];simp only[Z_,K_,Y_,q_,Bool.or_false];refine ao (λh=>aa ?_) λh=>?_;·grind
 simp at h;obtain⟨rfl,rfl,rfl⟩:=h;rw[if_neg (by simp)];refine ae (an (c (by omega)) (an (c (by omega)) (an (c (by omega)) (aa (an rfl ?_)))));refine ae (ae (bn (b:=decide (N>Ve k)) (λ_=>aa rfl) (aa ?_)));refine ao (λh=>aa ?_) λh=>aj (dG ((0:Int),(0:Int),()) (by omega)) ?_;·grind
 ·rw[e];refine an rfl (aa ?_);grind
theorem CS(a:CL):aC tbl mb [.d yA a] [] bL (i8 a,()):=by
 refine ap rfl (aA NZ rfl (λO n=>bK (C5 O n a)) ?_);unfold C5;refine ae (ae ?_);by_cases D:a.1<1\/8<a.1;·have j:∀k:Int,1<=k->k<=8->(a.1==k)=false:=λk p l=>beq_eq_false_iff_ne.2 (by omega);refine an (j 1 (by simp) (by simp)) (an (j 2 (by simp) (by simp)) (aa (an (j 4 (by simp) (by simp)) (an (j 3 (by simp) (by simp)) (an (j 5 (by simp) (by simp)) ?_)))));refine ae (an (j 6 (by simp) (by simp)) (aa (an (j 7 (by simp) (by simp)) (an (j 8 (by simp) (by simp)) (aa (aa ?_))))));rw[show i8 a=15 from if_pos D]
 have f:∀(only:CL) (c:Int),ra a=only->(a=only->((a.2.1<0\/c<a.2.1\/(a.1=5/\a.2.2.2.2.1=0)\/(a.1=8/\(a.2.1<1\/a.2.2.1<1\/a.2.2.1>4294967295)))↔ou a=false))->Wp (λ_=>bif (true ^^ nk yA a only)then aw bL ((1:Int),())else e_ (bif decide (a.2.1<(0:Int))then some (true)else some (decide (a.2.1>c))) λH=>bif H then aw bL ((5:Int),())else e_ (bif (a.1==(5:Int))then some ((a.2.2.2.2.1==(0:Int)))else some (false)) λI=>e_ (bif I then some (true)else e_ (bif (a.1==(8:Int))then e_ (bif decide (a.2.1<(1:Int))then some (true)else some (decide (a.2.2.1<(1:Int)))) λJ=>e_ (bif J then some (true)else some (decide (a.2.2.1>(4294967295:Int)))) λL=>some (L)else some (false)) λM=>some (M)) λv=>bif v then aw bL ((5:Int),())else aw bL ((0:Int),())) (λx=>x=some (kh bL (i8 a,()))):=λonly c p l=>by
  have e:i8 a=if ¬a=only then 1 else if ou a=false then 5 else 0:=by unfold i8;grind
  rw[e]
  refine ao (λh=>aa ?_) λh=>?_
  ·rw[if_pos (ne_eqD.1 h)]
  have r:a=only:=f_ λx=>by rw[ne_eqD.2 x]at h;grind
  have l:=l r
  rw[if_neg (not_not_intro r)]
  refine ae (bn (b:=decide (a.2.1>c)) (λ_=>aa rfl) (ao (λh=>aa ?_) λh=>?_))
  ·grind
  refine ae (ba (b:=(a.2.2.2.2.1==0)) (λ_=>aa rfl) ?_)
  refine ae (bn (b:=(a.1==8)&&((decide (a.2.1<1)||decide (a.2.2.1<1))||decide (a.2.2.1>4294967295))) (λ_=>ae (ba (b:=(decide (a.2.1<1)||decide (a.2.2.1<1))||decide (a.2.2.1>4294967295)) (λ_=>ae (bn (b:=decide (a.2.2.1<1)) (λ_=>aa rfl) (ae (bn (b:=decide (a.2.2.1>4294967295)) (λ_=>aa rfl) (aa rfl))))) (aa rfl))) ?_)
  refine ao (λh'=>aa ?_) λh'=>aa ?_
  all_goals grind
 have g:∀{k:Int},a.1≠k->(a.1==k)=false:=λh=>beq_eq_false_iff_ne.2 h;have d:∀{k:Int},a.1=k->(a.1==k)=true:=λh=>beq_iff_eq.2 h;have s:∀(c:Int),(a.1=1\/a.1=2\/a.1=4)->c=4294967295->((a.2.1<0\/c<a.2.1\/(a.1=5/\a.2.2.2.2.1=0)\/(a.1=8/\(a.2.1<1\/a.2.2.1<1\/a.2.2.1>4294967295)))↔ou a=false):=λc F E=>by unfold ou;grind
 by_cases p:a.1=1;·refine aF (d p) (aa (aF (d p) (aa (f _ _ ?_ λ_=>s _ (by omega) rfl))));unfold ra;grind
 refine an (g p) ?_;by_cases l:a.1=2;·refine aF (d l) (aa (aF (d l) (aa (f _ _ ?_ λ_=>s _ (by omega) rfl))));unfold ra;grind
 refine an (g l) (aa ?_);by_cases z:a.1=4;·refine aF (d z) (aa (f _ _ ?_ λ_=>s _ (by omega) rfl));unfold ra;grind
 refine an (g z) ?_;by_cases y:a.1=3
 ·refine aF (d y) (aa (f _ _ ?_ λ_=>?_));·unfold ra;grind
  ·unfold ou;grind
 refine an (g y) ?_;by_cases A:a.1=5
 ·refine aF (d A) (aa (f _ _ ?_ λr=>?_));·unfold ra;grind
  ·have C:a.2.1=0:=by grind
   unfold ou;grind
 refine an (g A) (ae ?_);have w:∀(only:CL) (c:Int),only.2.1=0->(a.1=6\/a.1=7)->c=4294967295->(a=only->((a.2.1<0\/c<a.2.1\/(a.1=5/\a.2.2.2.2.1=0)\/(a.1=8/\(a.2.1<1\/a.2.2.1<1\/a.2.2.1>4294967295)))↔ou a=false)):=λonly c N F E r=>by
  have C:a.2.1=0:=by grind
  unfold ou;grind
 by_cases u:a.1=6;·refine aF (d u) (aa (aF (d u) (aa (f _ _ ?_ (w _ _ rfl (by omega) rfl)))));unfold ra;grind
 refine an (g u) (aa ?_);by_cases B:a.1=7;·refine aF (d B) (aa (f _ _ ?_ (w _ _ rfl (by omega) rfl)));unfold ra;grind
 refine an (g B) (aF (d (by omega)) (aa (f _ _ ?_ λr=>?_)));·unfold ra;grind
 ·unfold ou;grind
def Bh(name a:List UInt8)(first:Bool)(sz:Nat):Int:=if mA name=false then 1 else if first=false/\Bt name a=true then 16 else if sz>64 then 4 else 0
theorem p9(name a:List UInt8)(first:Bool)(sz:Nat)(hn:name.length<=9223372036854775807):aC tbl gL [.d tS name,.d tS a,.d tB first,.d tI (sz:Int)] [] cB (Bh name a first sz,()):=by
 refine ap rfl (aA N0 rfl (λO n=>bK (C6 O n name a first (sz:Int))) ?_)
 unfold C6;refine aj (He name hn) (ao (λh=>aa ?_) λh=>?_);·rw[show Bh name a first sz=1 from if_pos (by grind)]
 have c:¬mA name=false:=by grind
 refine ae (ba (b:=Bt name a) (λ_=>aa rfl) (ao (λh=>aa ?_) λh=>?_));·rw[show Bh name a first sz=16 from by unfold Bh;grind]
 have d:¬(first=false/\Bt name a=true):=by grind
 refine ao (λh=>aa ?_) λh=>aa ?_;·rw[show Bh name a first sz=4 from by unfold Bh;grind]
 ·rw[show Bh name a first sz=0 from by unfold Bh;grind]
def RP(l:List (List UInt8))(i:Nat):List UInt8:=if i=0 then []else l.getD (i - 1) []
theorem HG{α:Type}{nm:α->List UInt8}{l:List α}{i:Nat}(a:i<l.length):RP (l.map nm) (i+1)=nm l[i]:=by unfold RP;grind
theorem LL{α:Type}{nm:α->List UInt8}{sz:α->Nat}{ck:α->Int}{l:List α}{i:Nat}(c:i<l.length): Lk nm sz ck l i=if Bh (nm l[i]) (RP (l.map nm) i) ((i:Int)==0) (sz l[i])=0 then ck l[i]else Bh (nm l[i]) (RP (l.map nm) i) ((i:Int)==0) (sz l[i]):=by
 rw[H7 c];have b:vB (l.map nm) i=if mA (nm l[i])=false then 1 else if 0<i/\Bt (nm l[i]) ((l.map nm).getD (i - 1) [])=true then 16 else 0:=by unfold vB;grind
 rw[b];unfold Bh;by_cases a:mA (nm l[i])=false;·grind
 ·rw[if_neg a,if_neg a];have d:(((i:Int)==0)=false/\Bt (nm l[i]) (RP (l.map nm) i)=true)↔(0<i/\Bt (nm l[i]) ((l.map nm).getD (i - 1) [])=true):=by unfold RP;grind
  grind
def zhE(x:PLS):Prop:=∀r∈x.2.1,gU r.2.1.1
def zhF(x:HLS):Prop:=∀r∈x.2.1,r.2.1.length<=1048576
def zhG(_:CLS):Prop:=True
theorem zg8{x:PLS}(h:zhE x){j:Nat}(a:j<x.2.1.length)(hl:x.2.1.length<=64):Wp (λn=>e_ (au (s5 tbl n) kI [.d yR x.2.1[j]] [] eS) λb=>bif (b.1 != (0:Int))then some (.inr (.inl ((b.1,()))))else some (.inl (a_ .i64 ((j:Int)+(1:Int)),()))) (fun(r:(Int×Unit)⊕(Int×Unit)⊕Unit)=>r=if mB x.2.1[j]=0 then .inl (((j+1:Nat):Int),())else .inr (.inl (mB x.2.1[j],()))):=by
 refine aj (Fw _ (h _ (b_ a))) (ao (λh=>aa ?_) λh=>aa ?_);·grind
 ·rw[if_pos (by grind),aB a (by omega)]
theorem zg9{x:HLS}(h:zhF x){j:Nat}(a:j<x.2.1.length)(hl:x.2.1.length<=64):Wp (λn=>e_ (au (s5 tbl n) kH [.d tS x.2.1[j].2.1] [] eR) λb=>bif (b.2.1 != (0:Int))then some (.inr (.inl ((b.2.1,()))))else some (.inl (a_ .i64 ((j:Int)+(1:Int)),()))) (fun(r:(Int×Unit)⊕(Int×Unit)⊕Unit)=>r=if(λr:HRU=>gl r.2.1) x.2.1[j]=0 then .inl (((j+1:Nat):Int),())else .inr (.inl ((λr:HRU=>gl r.2.1) x.2.1[j],()))):=by
 obtain⟨c,d,e⟩:=Fv x.2.1[j].2.1 (h _ (b_ a));simp only;rw[<-zaH d];refine aj e (ao (λh=>aa ?_) λh=>aa ?_);·grind
 ·rw[if_pos (by grind),aB a (by omega)]
theorem zha{x:CLS}(_:zhG x){j:Nat}(b:j<x.2.1.length)(hl:x.2.1.length<=64):Wp (λn=>e_ (au (s5 tbl n) iB [.d yC x.2.1[j]] [] dV) λa=>bif (a.1 != (0:Int))then some (.inr (.inl ((a.1,()))))else some (.inl (a_ .i64 ((j:Int)+(1:Int)),()))) (fun(r:(Int×Unit)⊕(Int×Unit)⊕Unit)=>r=if oo x.2.1[j]=0 then .inl (((j+1:Nat):Int),())else .inr (.inl (oo x.2.1[j],()))):=by
 refine aj (Hb _) (ao (λh=>aa ?_) λh=>aa ?_);·grind
 ·rw[if_pos (by grind),aB b (by omega)]
theorem I4(l:List PLS)(hn:∀x∈l,x.1.length<=9223372036854775807)(hr:∀x∈l,zhE x):aC tbl mU [.d (.list yL) l] [] eI (gO (·.1) (λl=>l.2.1.length) (λl=>bT mB l.2.1) l,()):=by
 refine ap rfl (aA J0 rfl (λO n=>bK (zG O n l)) ?_);unfold zG;refine ao (λh=>aa ?_) λh=>?_;·rw[show gO (·.1) (λl=>l.2.1.length) (λl=>bT mB l.2.1) l=4 from if_pos (by have:=of_decide_eq_true h;omega)]
 have c:¬l.length>64:=by have:=of_decide_eq_false h;omega
 rw[show gO (·.1) (λl=>l.2.1.length) (λl=>bT mB l.2.1) l=jG (Lk (·.1) (λl=>l.2.1.length) (λl=>bT mB l.2.1) l) l.length from if_neg c];generalize k:Lk (·.1) (λl=>l.2.1.length) (λl=>bT mB l.2.1) l=E;refine ae (nR (N:=l.length) (f:=E) (enc:=λi=>(RP (l.map (·.1)) i,(i:Int),())) (oB:=λe=>(e,())) (oE:=()) (λi a=>?_) ?_ ?_)
 ·unfold pj;have b:=LL (nm:=(·.1)) (sz:=λl=>l.2.1.length) (ck:=λl=>bT mB l.2.1) a;rw[k]at b;refine a7 a (aG a (aj (p9 _ _ _ _ (hn _ (b_ a))) (ao (λh=>aa ?_) λh=>?_)));·rw[if_neg (by simpa using h)]at b;rw[b,if_neg (by simpa using h)]
  rw[if_pos (by simpa using h)]at b;rw[b];have g:l[i].2.1.length<=64:=by
   have h:Bh l[i].1 (RP (l.map (·.1)) i) ((i:Int)==0) l[i].2.1.length=0:=by simpa using h
   unfold Bh at h;split at h;·cases h
   split at h;·cases h
   split at h;·cases h
   ·omega
  refine ae (lR (l:=l[i].2.1) (f:=mB) (enc:=λi=>((i:Int),())) (oB:=λe=>(e,())) (oE:=()) (λj d=>?_) ?_ ?_);·unfold pi;exact a7 d (aG d (zg8 (hr _ (b_ a)) d g))
  ·unfold pi;exact aU (aa rfl)
  by_cases e:bT mB l[i].2.1=0;·rw[if_pos e,if_pos e];refine aa ?_;show _=s_ (RP (l.map (·.1)) (i+1),((i+1:Nat):Int),());rw[HG (nm:=(·.1)) a,aB a (by omega)]
  ·rw[if_neg e,if_neg e];exact aa rfl
 ·unfold pj;exact aU (aa rfl)
 by_cases e:jG E l.length=0;·rw[if_pos e];refine aa ?_;rw[e]
 ·rw[if_neg e];exact aa rfl
theorem Oq(l:List HLS)(hn:∀x∈l,x.1.length<=9223372036854775807)(hr:∀x∈l,zhF x):aC tbl sR [.d (.list yG) l] [] iU (gO (·.1) (λl=>l.2.1.length) (λl=>bT (λr=>gl r.2.1) l.2.1) l,()):=by
 refine ap rfl (aA P9 rfl (λO n=>bK (FW O n l)) ?_);unfold FW;refine ao (λh=>aa ?_) λh=>?_;·rw[show gO (·.1) (λl=>l.2.1.length) (λl=>bT (λr=>gl r.2.1) l.2.1) l=4 from if_pos (by have:=of_decide_eq_true h;omega)]
 have c:¬l.length>64:=by have:=of_decide_eq_false h;omega
 rw[show gO (·.1) (λl=>l.2.1.length) (λl=>bT (λr=>gl r.2.1) l.2.1) l=jG (Lk (·.1) (λl=>l.2.1.length) (λl=>bT (λr=>gl r.2.1) l.2.1) l) l.length from if_neg c];generalize k:Lk (·.1) (λl=>l.2.1.length) (λl=>bT (λr=>gl r.2.1) l.2.1) l=E;refine ae (nR (N:=l.length) (f:=E) (enc:=λi=>(RP (l.map (·.1)) i,(i:Int),())) (oB:=λe=>(e,())) (oE:=()) (λi a=>?_) ?_ ?_)
 ·unfold uj;have b:=LL (nm:=(·.1)) (sz:=λl=>l.2.1.length) (ck:=λl=>bT (λr=>gl r.2.1) l.2.1) a;rw[k]at b;refine a7 a (aG a (aj (p9 _ _ _ _ (hn _ (b_ a))) (ao (λh=>aa ?_) λh=>?_)));·rw[if_neg (by simpa using h)]at b;rw[b,if_neg (by simpa using h)]
  rw[if_pos (by simpa using h)]at b;rw[b];have g:l[i].2.1.length<=64:=by
   have h:Bh l[i].1 (RP (l.map (·.1)) i) ((i:Int)==0) l[i].2.1.length=0:=by simpa using h
   unfold Bh at h;split at h;·cases h
   split at h;·cases h
   split at h;·cases h
   ·omega
  refine ae (lR (l:=l[i].2.1) (f:=(λr=>gl r.2.1)) (enc:=λi=>((i:Int),())) (oB:=λe=>(e,())) (oE:=()) (λj d=>?_) ?_ ?_);·unfold ui;exact a7 d (aG d (zg9 (hr _ (b_ a)) d g))
  ·unfold ui;exact aU (aa rfl)
  by_cases e:bT (λr=>gl r.2.1) l[i].2.1=0;·rw[if_pos e,if_pos e];refine aa ?_;show _=s_ (RP (l.map (·.1)) (i+1),((i+1:Nat):Int),());rw[HG (nm:=(·.1)) a,aB a (by omega)]
  ·rw[if_neg e,if_neg e];exact aa rfl
 ·unfold uj;exact aU (aa rfl)
 by_cases e:jG E l.length=0;·rw[if_pos e];refine aa ?_;rw[e]
 ·rw[if_neg e];exact aa rfl
theorem EN(l:List CLS)(hn:∀x∈l,x.1.length<=9223372036854775807)(hr:∀x∈l,zhG x):aC tbl jd [.d (.list yD) l] [] cU (gO (·.1) (λl=>l.2.1.length) (λl=>bT oo l.2.1) l,()):=by
 refine ap rfl (aA Fp rfl (λO n=>bK (vg O n l)) ?_);unfold vg;refine ao (λh=>aa ?_) λh=>?_;·rw[show gO (·.1) (λl=>l.2.1.length) (λl=>bT oo l.2.1) l=4 from if_pos (by have:=of_decide_eq_true h;omega)]
 have c:¬l.length>64:=by have:=of_decide_eq_false h;omega
 rw[show gO (·.1) (λl=>l.2.1.length) (λl=>bT oo l.2.1) l=jG (Lk (·.1) (λl=>l.2.1.length) (λl=>bT oo l.2.1) l) l.length from if_neg c];generalize k:Lk (·.1) (λl=>l.2.1.length) (λl=>bT oo l.2.1) l=E;refine ae (nR (N:=l.length) (f:=E) (enc:=λi=>(RP (l.map (·.1)) i,(i:Int),())) (oB:=λe=>(e,())) (oE:=()) (λi a=>?_) ?_ ?_)
 ·unfold kW;have b:=LL (nm:=(·.1)) (sz:=λl=>l.2.1.length) (ck:=λl=>bT oo l.2.1) a;rw[k]at b;refine a7 a (aG a (aj (p9 _ _ _ _ (hn _ (b_ a))) (ao (λh=>aa ?_) λh=>?_)));·rw[if_neg (by simpa using h)]at b;rw[b,if_neg (by simpa using h)]
  rw[if_pos (by simpa using h)]at b;rw[b];have g:l[i].2.1.length<=64:=by
   have h:Bh l[i].1 (RP (l.map (·.1)) i) ((i:Int)==0) l[i].2.1.length=0:=by simpa using h
   unfold Bh at h;split at h;·cases h
   split at h;·cases h
   split at h;·cases h
   ·omega
  refine ae (lR (l:=l[i].2.1) (f:=oo) (enc:=λi=>((i:Int),())) (oB:=λe=>(e,())) (oE:=()) (λj d=>?_) ?_ ?_);·unfold kV;exact a7 d (aG d (zha (hr _ (b_ a)) d g))
  ·unfold kV;exact aU (aa rfl)
  by_cases e:bT oo l[i].2.1=0;·rw[if_pos e,if_pos e];refine aa ?_;show _=s_ (RP (l.map (·.1)) (i+1),((i+1:Nat):Int),());rw[HG (nm:=(·.1)) a,aB a (by omega)]
  ·rw[if_neg e,if_neg e];exact aa rfl
 ·unfold kW;exact aU (aa rfl)
 by_cases e:jG E l.length=0;·rw[if_pos e];refine aa ?_;rw[e]
 ·rw[if_neg e];exact aa rfl
theorem RA(s:PS)(hs:okD yS s)(p:Kl)(hp:okD yO p)(i:Nat)(d:i<p.2.1.length):aC tbl vn [.d yS s,.d yO p,.d tI (i:Int)] [] dt (iZ s (p.2.1.take i) p.2.1[i],()):=by
 refine ap rfl (aA Tb rfl (λO n=>bK (Ho O n s p (i:Int))) ?_);unfold Ho;refine aG d ?_;have y:okD yT p.2.1[i]:=hp.2.1.2 _ (b_ d);have z:(p.2.1.take i).length<=9223372036854775807:=by have:p.2.1.length<=9223372036854775807:=hp.2.1.1;grind
 have v:(p.2.1.take (y_ (i:Int))).drop 0=p.2.1.take i:=by simp
 generalize p.2.1[i]=t at y;have x:∀m∈t.2.1,gU m.2.2.2.1.1:=λm x=>((y.2.1.2 m x).2.2.2.1).1;refine aj (He t.1 y.1) (ao (λh=>aa ?_) λh=>?_);·rw[show iZ s (p.2.1.take i) t=1 from if_pos (by grind)]
 have hn:¬mA t.1=false:=by grind
 refine aD (decide_eq_true (by simp)) (aD (by grind) ?_);unfold Da;rw[v];generalize D:p.2.1.take i=a at z;refine ae (mO (xs:=a) (p:=(·.1==t.1)) (enc:=λi=>((i:Int),t.1,t.2.1,t.2.2.1,t.2.2.2.1,())) (g:=λ_=>((7:Int),())) (e:=(t.1,t.2.1,t.2.2.1,t.2.2.2.1,())) (λj w=>?_) ?_ ?_)
 ·refine a7 w (aG w (ao (λh=>aa ?_) λh=>aa ?_));·grind
  ·rw[if_neg (by grind),aB w z]
 ·exact aU (aa rfl)
 have c:a.any (·.1==t.1)=(a.find? (·.1==t.1)).isSome:=HF;cases e:a.find? (·.1==t.1)with
 |some r=>rw[e]at c;have c:a.any (·.1==t.1)=true:=c;refine aa ?_;rw[show iZ s a t=7 from by unfold iZ;grind]|none=>
  rw[e]at c;have C:¬a.any (·.1==t.1)=true:=by grind
  refine ao (λh=>aa ?_) λh=>?_;·have h:decide ((t.2.1.length:Int)>64)=true:=h;rw[show iZ s a t=4 from by unfold iZ;grind]
  have h:decide ((t.2.1.length:Int)>64)=false:=h;have A:¬t.2.1.length>64:=by grind
  refine ae (lR (l:=t.2.1) (f:=wX s) (enc:=λi=>((i:Int),t.1,t.2.1,t.2.2.1,t.2.2.2.1,())) (oB:=λe=>(e,())) (oE:=(t.1,t.2.1,t.2.2.1,t.2.2.2.1,())) (λi d=>?_) ?_ ?_)
  ·unfold vW;refine a7 d (aG d (aj (Oo s _ hs (x _ (b_ d))) (ao (λh=>aa ?_) λh=>aa ?_)));·grind
   ·rw[if_pos (by grind),aB d (by omega)]
  ·unfold vW;exact aU (aa rfl)
  by_cases k:bT (wX s) t.2.1=0
  ·rw[if_pos k];refine ao (λh=>aa ?_) λh=>?_;·have h:decide ((t.2.2.1.length:Int)>64)=true:=h;rw[show iZ s a t=4 from by unfold iZ;grind]
   have h:decide ((t.2.2.1.length:Int)>64)=false:=h;have B:¬t.2.2.1.length>64:=by grind
   refine ae (lR (l:=t.2.2.1) (f:=i8) (enc:=λi=>((i:Int),t.1,t.2.1,t.2.2.1,t.2.2.2.1,())) (oB:=λe=>(e,())) (oE:=(t.1,t.2.1,t.2.2.1,t.2.2.2.1,())) (λi d=>?_) ?_ ?_)
   ·unfold vX;refine a7 d (aG d (aj (CS _) (ao (λh=>aa ?_) λh=>aa ?_)));·grind
    ·rw[if_pos (by grind),aB d (by omega)]
   ·unfold vX;exact aU (aa rfl)
   by_cases u:bT i8 t.2.2.1=0
   ·rw[if_pos u];refine ae (ba (b:=(t.2.2.2.1 != 2)) (λ_=>aa rfl) (ae (ba (b:=(t.2.2.2.1 != 3)) (λ_=>aa rfl) (ao (λh=>aa ?_) λh=>aa ?_))));·have h:((t.2.2.2.1 != 1&&t.2.2.2.1 != 2)&&t.2.2.2.1 != 3)=true:=h;rw[show iZ s a t=15 from by unfold iZ;grind]
    ·have h:((t.2.2.2.1 != 1&&t.2.2.2.1 != 2)&&t.2.2.2.1 != 3)=false:=h;rw[show iZ s a t=0 from by unfold iZ;rw[if_neg hn,if_neg C,if_neg A,if_neg (not_not_intro k),if_neg B,if_neg (not_not_intro u),if_neg (by simp at h;omega)]]
   ·rw[if_neg u];refine aa ?_;rw[show iZ s a t=bT i8 t.2.2.1 from by unfold iZ;grind]
  ·rw[if_neg k];refine aa ?_;rw[show iZ s a t=bT (wX s) t.2.1 from by unfold iZ;grind]
theorem Fx(s:PS)(hs:SmP s):aC tbl kJ [.d yS s] [] cF (sv gl s,()):=by
 refine ap rfl (aA P6 rfl (λO n=>bK (FT O n s)) ?_);unfold FT;have a:=hs.ok;have y:=I4 s.1 (λx d=>(a.1.2 x d).1) (λx d r hr=>((a.1.2 x d).2.1.2 r hr).2.1.1);have z:=Oq s.2.1 (λx d=>(a.2.1.2 x d).1) (λx d r hr=>hs.pt x d r hr);have A:=EN s.2.2.1 (λx d=>(a.2.2.1.2 x d).1) (λ_ _=>trivial);generalize Q:gO (·.1) (λl=>l.2.1.length) (λl=>bT mB l.2.1) s.1=F at y;generalize R:gO (·.1) (λl=>l.2.1.length) (λl=>bT (λr=>gl r.2.1) l.2.1) s.2.1=H at z;generalize T:gO (·.1) (λl=>l.2.1.length) (λl=>bT oo l.2.1) s.2.2.1=I at A;generalize B:gO (·.1) (λp=>p.2.1.length) (uR s) s.2.2.2.1=M;have hp:sv gl s=if F≠0 then F else if H≠0 then H else if I≠0 then I else M:=by unfold sv;omega
 rw[hp];refine aj y (ao (λh=>aa ?_) λh=>aj z (ao (λh'=>aa ?_) λh'=>aj A (ao (λk=>aa ?_) λk=>?_)));·grind
 ·grind
 ·grind
 rw[if_neg (by grind),if_neg (by grind),if_neg (by grind)];clear y z A h h' k;generalize hl:s.2.2.2.1=l at B;refine ao (λh=>aa ?_) λh=>?_;·rw[<-B,show gO (·.1) (λp=>p.2.1.length) (uR s) l=4 from if_pos (by grind)]
 have v:¬l.length>64:=by grind
 rw[<-B,show gO (·.1) (λp=>p.2.1.length) (uR s) l=jG (Lk (·.1) (λp=>p.2.1.length) (uR s) l) l.length from if_neg v];have L:s.2.2.2.1=l:=hl;have C:∀p∈l,okD yO p:=λp hp=>by rw[<-hl]at hp;exact a.2.2.2.1.2 p hp
 generalize P:Lk (·.1) (λp=>p.2.1.length) (uR s) l=E;refine ae (nR (N:=l.length) (f:=E) (enc:=λi=>(RP (l.map (·.1)) i,(i:Int),())) (oB:=λe=>(e,())) (oE:=()) (λi g=>?_) ?_ ?_)
 ·unfold ug;rw[L];have J:E i=if Bh l[i].1 (RP (l.map (·.1)) i) ((i:Int)==0) l[i].2.1.length=0 then uR s l[i]else Bh l[i].1 (RP (l.map (·.1)) i) ((i:Int)==0) l[i].2.1.length:=by rw[<-P];exact LL g
  have c:=C _ (b_ g);refine a7 g (aG g (aj (p9 _ _ _ _ c.1) (ao (λh=>aa ?_) λh=>?_)));·grind
  rw[if_pos (by grind)]at J;rw[J,zaI];have u:=HG (nm:=λp:Kl=>p.1) g;generalize l[i]=p at c u;have D:p.2.1.length<=9223372036854775807:=c.2.1.1;refine ae (nR (N:=p.2.1.length) (f:=WG s p.2.1) (enc:=λi=>((i:Int),p.1,p.2.1,p.2.2.1,())) (oB:=λe=>(e,())) (oE:=(p.1,p.2.1,p.2.2.1,())) (λj w=>?_) ?_ ?_)
  ·unfold uf;refine a7 w (aj (RA s a p c j w) ?_);rw[<-WH w];refine ao (λh=>aa ?_) λh=>aa ?_;·grind
   ·rw[if_pos (by grind),aB w D]
  ·unfold uf;exact aU (aa rfl)
  by_cases e:jG (WG s p.2.1) p.2.1.length=0
  ·rw[if_pos e,if_neg (not_not_intro e)];refine ae (ba (b:=(p.2.2.1 != 2)) (λ_=>aa rfl) (ao (λh=>aa ?_) λh=>aa ?_));·grind
   ·rw[if_neg (show ¬(p.2.2.1≠1/\p.2.2.1≠2) by grind),if_pos rfl];show _=s_ (RP (l.map (·.1)) (i+1),((i+1:Nat):Int),());rw[u,aB g (by omega)]
  ·rw[if_neg e,if_pos e,if_neg e];exact aa rfl
 ·unfold ug;rw[L];exact aU (aa rfl)
 by_cases e:jG E l.length=0;·rw[if_pos e];refine aa ?_;rw[e]
 ·rw[if_neg e];exact aa rfl
abbrev WM:Kl:=([],[],0,())
theorem Hc(s:PS)(n:List UInt8)(hl:s.2.2.2.1.length<=9223372036854775807):aC tbl qz [.d yS s,.d tS n] [] ki ((uN s n).getD WM,(uN s n).isSome,()):=by
 refine ap rfl (aA S9 rfl (λO k=>bK (Hm O k s n)) ?_);unfold Hm;refine ae (mO (xs:=s.2.2.2.1) (p:=(·.1==n)) (enc:=λi=>((i:Int),([]:List UInt8),(0:Int),())) (g:=λx=>(true,x.1,x.2.1,x.2.2.1,())) (e:=(([]:List UInt8),(0:Int),())) (λi a=>?_) ?_ ?_)
 ·unfold vU;refine a7 a (aG a (ao (λh=>aa ?_) λh=>aa ?_));·grind
  ·rw[if_neg (by grind),aB a hl]
 ·unfold vU;exact aU (aa rfl)
 ·unfold uN;cases s.2.2.2.1.find? (·.1==n)with|some r=>exact aa rfl|none=>exact aa rfl
theorem Fu(s:PS)(n:List UInt8)(d:PolOk gl s):aC tbl kG [.d yS s,.d tS n] [] gv ((uN s n).getD WM,(uN s n).isSome,()):=by
 have hl:=d.l4;refine ap rfl (aA PU rfl (λO k=>bK (FI O k s n)) ?_);unfold FI;refine ae (mO (xs:=s.2.2.2.1) (p:=(·.1==n)) (enc:=λi=>((i:Int),([]:List UInt8),(0:Int),())) (g:=λx=>(true,x.1,x.2.1,x.2.2.1,())) (e:=(([]:List UInt8),(0:Int),())) (λi c=>?_) ?_ ?_)
 ·unfold ub;refine a7 c (aG c (ao (λh=>aa ?_) λh=>?_));·rw[if_neg (by grind),aB c (by omega)]
  have hp:=d.r4 _ (b_ c);have h:(s.2.2.2.1[i].1==n)=true:=by grind
  rw[if_pos h];generalize s.2.2.2.1[i]=p at hp;have f:=hp.tl;refine ae (bb (N:=p.2.1.length) (I:=λj t=>t=((j:Int),([]:List UInt8),(0:Int),p.1,p.2.2.1,p.2.1.take j,())) rfl (λj t b a=>?_) λt a=>?_)
  ·subst a;unfold ua;have a:=hp.tr _ (b_ b);have l:=a.ml;have u:=a.al;refine a7 b (aG b (aD (decide_eq_true (by grind)) (aD (decide_eq_true (by grind)) (aD ?_ (aa ?_)))));·grind
   ·show(a_ .i64 ((j:Int)+1),([]:List UInt8),(0:Int),p.1,p.2.2.1,p.2.1.take j++[p.2.1[j]],())=_;rw[aB b (by omega),List.take_append_getElem b]
  ·subst a;unfold ua;refine aU (aa (aa ?_));simp
 ·unfold ub;exact aU (aa rfl)
 ·unfold uN;cases s.2.2.2.1.find? (·.1==n)with|some r=>exact aa rfl|none=>exact aa rfl
end Go.Proofs.YtmfolppncelceaaGreatDoor
namespace Go.Cm
def insGo(x:Int):List Int->Bool->List Int
 |[],d=>if d then []else [x]
 |y::r,d=>(if !d&&decide (x<=y)then [x]else [])++((if y != x then [y]else [])++insGo x r (d||decide (x<=y)))
abbrev ins(x:Int)(l:List Int):List Int:=insGo x l false
def asc(l:List Int):List Int:=l.foldl (λo x=>ins x o) []
abbrev Up(l:List Int):Prop:=l.Pairwise (·<·)
theorem JF(x z:Int):∀(l:List Int) (d:Bool),z∈insGo x l d↔(z∈l/\z≠x)\/(d=false/\z=x)
 |[],d=>by cases d<;>simp[insGo]
 |y::r,d=>by have:=JF x z r (d||decide (x<=y));grind [insGo]
theorem zaA(x z:Int)(l:List Int):z∈ins x l↔z∈l\/z=x:=by have:=JF x z l false;grind
theorem zhY:∀(a b:List Int),Up a->Up b->(∀z,z∈a↔z∈b)->a=b
 |[],[],_,_,_=>rfl
 |[],y::b,_,_,h=>by have:=h y;simp at this
 |y::b,[],_,_,h=>by have:=h y;simp at this
 |x::a,y::b,c,d,h=>by
  have f:=(h x).1 (by simp);have g:=(h y).2 (by simp);unfold Up at c d;rw[P_]at c d;have e:x=y:=by grind
  subst e;rw[zhY a b c.2 d.2];grind
theorem QU(x:Int):∀(l:List Int) (d:Bool),(insGo x l d).length<=l.length+(if d then 0 else 1)
 |[],d=>by cases d<;>simp[insGo]
 |y::r,d=>by have:=QU x r (d||decide (x<=y));grind [insGo]
theorem len_ins(x:Int)(l:List Int):(ins x l).length<=l.length+1:=QU x l false
theorem WI(x:Int):∀(l:List Int) (d:Bool),Up l->(d=true->∀z∈l,x<=z)->Up (insGo x l d)
 |[],d,_,_=>by cases d<;>simp[insGo]
 |y::r,d,hl,hd=>by unfold Up at hl⊢;rw[P_]at hl;have b:=WI x r (d||decide (x<=y)) hl.2 (by grind);have a:=λz=>JF x z r (d||decide (x<=y));simp only[insGo,B_];grind [List.Pairwise.nil]
theorem zey(x:Int)(l:List Int)(h:Up l):Up (ins x l):=WI x l false h (by simp)
theorem fold_ins:∀(l o:List Int),Up o->Up (l.foldl (λo x=>ins x o) o)/\(∀z,z∈l.foldl (λo x=>ins x o) o↔z∈o\/z∈l)/\(l.foldl (λo x=>ins x o) o).length<=o.length+l.length
 |[],o,h=>⟨h,by simp,by simp⟩
 |x::l,o,h=>by
  have⟨a,b,d⟩:=fold_ins l (ins x o) (zey x o h);have:=len_ins x o;have c:=λz=>zaA x z o;refine⟨a,λz=>?_,?_⟩;·rw[V_,b,c];grind
  ·rw[V_];grind
theorem zex(l:List Int):Up (asc l):=(fold_ins l [] List.Pairwise.nil).1
theorem zfC(l:List Int)(z:Int):z∈asc l↔z∈l:=by have:=(fold_ins l [] List.Pairwise.nil).2.1 z;simpa[asc]using this
theorem len_asc(l:List Int):(asc l).length<=l.length:=by have:=(fold_ins l [] List.Pairwise.nil).2.2;simpa[asc]using this
theorem zcN{l o:List Int}(h:Up o)(a:∀z,z∈o↔z∈l):o=asc l:=zhY _ _ h (zex l) (by grind [zfC])
theorem zfr(x:Int)(l:List Int):ins x (asc l)=asc (asc l++[x]):=zcN (zey x _ (zex l)) (by intro z;rw[zaA];simp)
theorem insGo_step(x:Int)(l:List Int)(k:Nat)(d:Bool)(h:k<l.length):insGo x (l.drop k) d=(if !d&&decide (x<=l.getD k 0)then [x]else [])++((if l.getD k 0 != x then [l.getD k 0]else [])++insGo x (l.drop (k+1)) (d||decide (x<=l.getD k 0))):=by
 have e:l.getD k 0=l[k]:=by simp[z_,d_ h]
 rw[e,i_ h];rfl
theorem wQ{l:List Int}{k:Nat}(h:k<l.length):l.take (k+1)=l.take k++[l.getD k 0]:=by
 have e:l.getD k 0=l[k]:=by simp[z_,d_ h]
 rw[c_ h,e]
def left(l a:List Int):Nat:=l.countP λz=>a.all (λy=>decide (y<z))
theorem left_step{l a:List Int}{b:Int}(c:b∈l)(f:∀y∈a,y<b):left l (a++[b])+1<=left l a:=by
 unfold left;induction l with
 |nil=>simp at c|cons z l n=>
  rw[T_,T_];have j:l.countP (λz=>(a++[b]).all λy=>decide (y<z))<=l.countP (λz=>a.all λy=>decide (y<z)):=by apply List.countP_mono_left;intro z _ h;simp only[I_,w_]at h;exact h.1
  by_cases e:z=b
  ·subst e;have g:((a++[z]).all λy=>decide (y<z))=false:=by simp
   have k:(a.all λy=>decide (y<z))=true:=by simpa using f
   rw[g,k];simp only[p_,if_false,if_true];omega
  ·have d:b∈l:=by simp at c;rcases c with h|h;exact absurd h.symm e;exact h
   have p:=n d;have g:(if((a++[b]).all λy=>decide (y<z))=true then 1 else 0)<=(if(a.all λy=>decide (y<z))=true then 1 else 0):=by
    split;·rename_i h;simp only[I_,w_]at h;rw[if_pos h.1];exact o_ 1
    ·exact h_ _
   omega
structure Best(l out:List Int)(k:Nat)(found:Bool)(best:Int):Prop where
 yes:found=true->best∈l/\(∀y∈out,y<best)
 least:∀z∈l.take k,(∀y∈out,y<z)->found=true/\best<=z
structure Out(l out:List Int):Prop where
 up:Up out
 sub:∀z∈out,z∈l
 all:∀z∈l,z∈out\/∀y∈out,y<z
 len:out.length+left l out<=l.length
theorem Out.zero(l:List Int):Out l []:=⟨List.Pairwise.nil,by simp,by simp,by simp[left]⟩
theorem Out.step{l E:List Int}{b:Int}(h:Out l E)(J:Best l E l.length true b):Out l (E++[b]):=by
 obtain⟨R,U⟩:=J.yes rfl;have hl:=left_step R U;have H:=J.least;rw[k_]at H;refine⟨?_,?_,λz N=>?_,?_⟩;·have:=h.up;unfold Up at this⊢;rw[B_];grind
 ·have:=h.sub;grind
 ·rcases h.all z N with I|I;·grind
  ·have:=(H z N I).2;by_cases e:z=b;·left;simp[e]
   ·right;grind
 ·have:=h.len;simp;omega
theorem Out.outDone{l E:List Int}{b:Int}(h:Out l E)(N:Best l E l.length false b):E=asc l:=by
 refine zcN h.up λz=>⟨h.sub z,λJ=>?_⟩;have I:=N.least;rw[k_]at I;rcases h.all z J with H|H;·exact H
 ·have:=(I z J H).1;cases this
theorem last_gt{a:List Int}(h:Up a)(b:a≠[])(z:Int):(∀y∈a,y<z)↔a.getD (a.length - 1) 0<z:=by
 have hl:a.length - 1<a.length:=by have:=C_.2 b;omega
 have e:a.getD (a.length - 1) 0=a[a.length - 1]:=by simp[z_,d_ hl]
 rw[e];refine⟨λh=>h _ (b_ hl),λf y d=>?_⟩;obtain⟨i,c,rfl⟩:=List.getElem_of_mem d;unfold Up at h;rw[D_]at h;by_cases e:i=a.length - 1;·subst e;exact f
 ·have:=h i (a.length - 1) c hl (by omega);omega
theorem Best.zero(l z:List Int)(b:Int):Best l z 0 false b:=⟨by simp,by simp⟩
theorem Best.take{l E:List Int}{k:Nat}{f:Bool}{b:Int}(h:Best l E k f b)(H:k<l.length)(I:∀y∈E,y<l.getD k 0)(R:f=false\/l.getD k 0<b):Best l E (k+1) true (l.getD k 0):=by
 have e:l.getD k 0=l[k]:=by simp[z_,d_ H]
 have J:l.getD k 0∈l:=by rw[e];exact b_ H
 refine⟨λ_=>⟨J,I⟩,λz N hg=>⟨rfl,?_⟩⟩;rw[wQ H]at N;have:=h.least z;grind
theorem Best.skip{l E:List Int}{k:Nat}{f:Bool}{b:Int}(h:Best l E k f b)(H:k<l.length)(J:(∀y∈E,y<l.getD k 0)->f=true/\b<=l.getD k 0):Best l E (k+1) f b:=by refine⟨h.yes,λz I hg=>?_⟩;rw[wQ H]at I;have:=h.least z;grind
theorem up_take{l:List Int}{k:Nat}(h:Up (l.take k))(j:k<l.length)(c:k=0\/l.getD (k - 1) 0<l.getD k 0):Up (l.take (k+1)):=by
 rw[wQ j];by_cases e:l.take k=[];·rw[e];simp
 ·have:=(last_gt h e (l.getD k 0)).2 ?_;·unfold Up at h⊢;rw[B_];refine⟨h,by simp,λa g b f=>?_⟩;simp only[List.mem_singleton]at f;rw[f];exact this a g
  ·have d:k≠0:=by intro h;subst h;simp at e
   have:(l.take k).getD ((l.take k).length - 1) 0=l.getD (k - 1) 0:=by simp only[z_,n_,List.getElem?_take];rw[show min k l.length=k by omega,if_pos (by omega)]
   rw[this];rcases c with c|c;·exact absurd c d
   ·exact c
theorem not_up{l:List Int}{k:Nat}(a:k<l.length)(d:0<k)(e:l.getD k 0<=l.getD (k - 1) 0):¬Up l:=by
 intro h;unfold Up at h;rw[D_]at h;have:=h (k - 1) k (by omega) a (by omega);have b:l.getD k 0=l[k]:=by simp[z_,d_ a]
 have c:l.getD (k - 1) 0=l[k - 1]:=by simp[z_,d_ (show k - 1<l.length by omega)]
 omega
def check(l:List Int):Int:=if 255<l.length then 4 else if Up l then 0 else 16
theorem check_long{l:List Int}(h:255<l.length):check l=4:=by unfold check;rw[if_pos h]
theorem check_up{l:List Int}(h:¬255<l.length)(a:Up l):check l=0:=by unfold check;rw[if_neg h,if_pos a]
theorem check_not{l:List Int}(h:¬255<l.length)(a:¬Up l):check l=16:=by unfold check;rw[if_neg h,if_neg a]
def add(l:List Int)(c:Int):List Int:=if 255<=(asc l).length/\c∉asc l then asc l else ins c (asc l)
def drop(l:List Int)(c:Int):List Int:=(asc l).filter (λx=>x != c)
theorem add_eq(l:List Int)(c:Int):ins c (asc l)=asc (asc l++[c]):=zfr c l
end Go.Cm
namespace Go.Pl
open Go Go.Av Go.Ev
abbrev p6:Type:=HA×(Int×(Int×(List Int×(List Int×(Int×(Int×(Int×(Int×Unit))))))))
abbrev Qs:Ty:=pr [yP,tI,tW,.list tI,.list tW,tI,tI,tI,tI]
abbrev zck:p6:=((0,0,()),0,0,[],[],0,0,0,0,())
abbrev y8(x:Int):Prop:=0<=x/\x<=4294967295
def BA(r:p6):Int:=
 if dE r.1=false then 1
 else if r.2.1<1\/7<r.2.1 then 5
 else if r.2.2.2.1.length>2000 then 4
 else if ¬∀v∈r.2.2.2.1,1<=v/\v<=4294967295 then 5
 else if Cm.check r.2.2.2.2.1≠0 then Cm.check r.2.2.2.2.1
 else if ¬(y8 r.2.2.2.2.2.1/\y8 r.2.2.2.2.2.2.1/\y8 r.2.2.2.2.2.2.2.2.1)\/r.2.2.2.2.2.2.2.1<0\/16777216<r.2.2.2.2.2.2.2.1 then 5 else 0
def K2(a:CL):p6->p6
 |(p,po,nh,pt,cm,pf,md,mt,tg,u)=>
  if a.1=1 then(p,po,nh,pt,cm,a.2.1,md,mt,tg,u)
  else if a.1=2 then(p,po,nh,pt,cm,pf,a.2.1,mt,tg,u)
  else if a.1=3 then(p,po,nh,pt,cm,pf,md,a.2.1,tg,u)
  else if a.1=4 then(p,po,nh,pt,cm,pf,md,mt,a.2.1,u)
  else if a.1=5 then(p,po,a.2.2.2.2.1,pt,cm,pf,md,mt,tg,u)
  else if a.1=6 then(p,po,nh,pt,Cm.add cm a.2.2.2.1,pf,md,mt,tg,u)
  else if a.1=7 then(p,po,nh,pt,Cm.drop cm a.2.2.2.1,pf,md,mt,tg,u)
  else if(pt.length:Int)+a.2.1<=2000 then(p,po,nh,g_ a.2.1.toNat a.2.2.1++pt,cm,pf,md,mt,tg,u)
  else(p,po,nh,pt,cm,pf,md,mt,tg,u)
def Mg(a:CL)(r:p6):p6:=if i8 a=0 then K2 a r else r
def I6(l:List CL)(r:p6):p6:=l.foldl (λr a=>Mg a r) r
def jt(hold:Gd->Bool):List Gd->Nat->Int->List Int×List CL×Int
 |[],_,d=>([],[],d)
 |t::l,i,d=>if hold t then(if t.2.2.2.1≠3 then([(i:Int)],t.2.2.1,t.2.2.2.1)else((i:Int)::(jt hold l (i+1) d).1,t.2.2.1++(jt hold l (i+1) d).2.1,(jt hold l (i+1) d).2.2))else jt hold l (i+1) d
structure SmR(k:Nat)(r:p6):Prop where
 pt:r.2.2.2.1.length<=100000
 cm:r.2.2.2.2.1.length<=k
theorem zfw(l:List Int)(c:Int):(Cm.add l c).length<=l.length+1:=by have a:=Cm.len_asc l;have b:=Cm.len_ins c (Cm.asc l);unfold Cm.add;grind
theorem zdo(l:List Int)(c:Int):(Cm.drop l c).length<=l.length:=by have a:=Cm.len_asc l;unfold Cm.drop;grind
theorem zgu{a:CL}(s:i8 a=0){k:Nat}{r:p6}(h:SmR k r):SmR (k+1) (K2 a r):=by
 obtain⟨p,po,nh,pt,cm,pf,md,mt,tg,u⟩:=r;obtain⟨e,f⟩:=h;simp only at e f;have l:=zfw cm a.2.2.2.1;have n:=zdo cm a.2.2.2.1;have j:(Cm.add cm a.2.2.2.1).length<=k+1:=by omega
 have g:∀(p:HA) (po nh:Int) (d c:List Int) (t:Int×Int×Int×Int×Unit),d.length<=100000->c.length<=k+1->SmR (k+1) (p,po,nh,d,c,t):=λ_ _ _ _ _ _ a b=>⟨a,b⟩;simp only[K2];split;·grind
 split;·grind
 split;·grind
 split;·grind
 split;·grind
 split;·grind
 split;all_goals grind
theorem ze2{a:CL}{k:Nat}{r:p6}(h:SmR k r):SmR (k+1) (Mg a r):=by
 unfold Mg;split;·rename_i b;exact zgu b h
 ·exact⟨h.pt,by have:=h.cm;omega⟩
theorem Y9{l:List CL}:∀{k:Nat} {r:p6},SmR k r->SmR (k+l.length) (I6 l r):=by induction l with|nil=>intro k r h;exact h|cons a l b=>intro k r h;have:=b (ze2 (a:=a) h);unfold I6 at this⊢;grind
theorem zS{hold:Gd->Bool}:∀{l:List Gd} {i:Nat} {d:Int},(∀t∈l,t.2.2.1.length<=64)->(jt hold l i d).1.length<=l.length/\(jt hold l i d).2.1.length<=64*l.length
 |[],_,_,_=>⟨o_ _,o_ _⟩
 |t::l,i,d,h=>by have c:=zS (hold:=hold) (l:=l) (i:=i+1) (d:=d) λx b=>h x (by grind);have a:=h t (by simp);unfold jt;grind
abbrev zer(a:CL):PS:=([],[],[],[([112],[([116],[],[a],1,())],1,())],())
theorem zhd(pe:List UInt8->Int)(a:CL):sv pe (zer a)=i8 a:=by
 have g:∀s:PS,iZ s [] (([116],[],[a],1,()):Gd)=i8 a:=λs=>by
  have b:bT (wX s) ([]:List MAT)=0:=rfl;have c:bT i8 [a]=i8 a:=by show(if i8 a=0 then 0 else i8 a)=i8 a;omega
  unfold iZ;rw[if_neg (by show ¬mA [116]=false;decide),if_neg (by simp),if_neg (by simp),b,if_neg (λh=>h rfl),if_neg (by simp),c];grind
 have f:∀s:PS,uR s (([112],[([116],[],[a],1,())],1,()):Kl)=i8 a:=λs=>by
  have e:jG (λi=>match([([116],[],[a],1,())]:List Gd)[i]? with|some t=>iZ s (([([116],[],[a],1,())]:List Gd).take i) t|none=>0) 1=i8 a:=by show(if iZ s [] (([116],[],[a],1,()):Gd)=0 then 0 else iZ s [] (([116],[],[a],1,()):Gd))=i8 a;grind
  unfold uR;grind
 have l4:∀s:PS,gO (·.1) (λp=>p.2.1.length) (uR s) ([([112],[([116],[],[a],1,())],1,())]:List Kl)=i8 a:=λs=>by
  have d:Lk (·.1) (λp=>p.2.1.length) (uR s) ([([112],[([116],[],[a],1,())],1,())]:List Kl) 0=i8 a:=by
   unfold Lk;rw[if_neg (show ¬(vB (([([112],[([116],[],[a],1,())],1,())]:List Kl).map (·.1)) 0≠0) by show ¬(vB [[112]] 0≠0);decide)]
   grind
  unfold gO;rw[if_neg (by simp)];show(if Lk (·.1) (λp=>p.2.1.length) (uR s) ([([112],[([116],[],[a],1,())],1,())]:List Kl) 0=0 then 0 else Lk (·.1) (λp=>p.2.1.length) (uR s) ([([112],[([116],[],[a],1,())],1,())]:List Kl) 0)=i8 a;omega
 unfold sv;have j:∀{α:Type} (nm:α->List UInt8) (sz:α->Nat) (ck:α->Int),gO nm sz ck []=0:=λ_ _ _=>rfl;grind
end Go.Pl
namespace Go.Proofs.YtmfolppncelceaaGreatDoor
open Go Go.Av Go.Ev
abbrev TT:Type:=Bool×(Int×(Int×Unit))
def fits(r:TT)(c:Int):Bool:=
 ((r.2.1==(-1:Int))||(r.2.1==a_ .i64 (Int.fdiv c (2^(min (y_ (16:Int)) (aa_ .u32))))))&&
 ((r.2.2.1==(-1:Int))||(r.2.2.1==a_ .i64 (rH .u32 .and c (65535:Int))))
def wE(r:TT)(l:List Int):Bool:=(l.find? (fits r)).isSome
def tK(a:List TT)(l:List Int):Bool:=match a.find? (λr=>wE r l)with
 |some r=>r.1
 |none=>false
theorem Nk(r:TT)(c:Int){β:Type}{k:Nat->Bool->Option β}{Q:β->Prop}(a:Wp (λn=>k n (fits r c)) Q):Wp (λn=>e_ (bif (r.2.1==(-1:Int))then some (true)else aE (decide (0<=(16:Int))) (let b:=a_ .i64 (Int.fdiv c (2^(min (y_ (16:Int)) (aa_ .u32))));some ((r.2.1==b)))) λd=>e_ (bif d then e_ (bif (r.2.2.1==(-1:Int))then some (true)else some ((r.2.2.1==a_ .i64 (rH .u32 .and c (65535:Int))))) λe=>some (e) else some (false)) λf=>k n f) Q:=by refine ae (bn (λ_=>aD rfl (aa rfl)) ?_);refine ae (ba (λ_=>ae (bn (λ_=>aa rfl) (aa rfl))) ?_);exact a
theorem G9(r:TT)(l:List Int)(hl:l.length<=9223372036854775807):aC tbl lF [.d (pr [tB,tI,tI]) r,.d (.list tW) l] [] fo (wE r l,()):=by
 refine ap rfl (aA IH rfl (λO n=>bK (xi O n r l)) ?_);unfold xi;refine ae (xV (xs:=l) (p:=fits r) (g:=λ_=>((true,()):Bool×Unit)) (e:=()) (λi x a=>?_) ?_ ?_)
 ·unfold nr;have b:=(l_.1 a).1;refine ao (λ_=>?_) (λh=>absurd h (by simp;omega));refine i6 (by simp) (by simpa using a) ?_;refine Nk r x ?_;cases fits r x;·exact aa (by simp only[p_,if_false];rw[aB b hl])
  ·exact aa rfl
 ·unfold nr;exact ao (λh=>absurd h (by simp)) λ_=>aa rfl
 ·unfold wE;cases l.find? (fits r);·exact aa rfl
  ·exact aa rfl
theorem EL(a:List TT)(l:List Int)(hr:a.length<=9223372036854775807)(hl:l.length<=9223372036854775807):aC tbl jb [.d (.list (pr [tB,tI,tI])) a,.d (.list tW) l] [] dY (tK a l,()):=by
 refine ap rfl (aA Fb rfl (λO n=>bK (uY O n a l)) ?_);unfold uY;refine ae (xV (xs:=a) (p:=λr=>wE r l) (g:=λr=>((r.1,()):Bool×Unit)) (e:=()) (λi x b=>?_) ?_ ?_)
 ·unfold kT;have c:=(l_.1 b).1;refine ao (λ_=>?_) (λh=>absurd h (by simp;omega));refine i6 (by simp) (by simpa using b) ?_;refine aj (G9 x l hl) ?_;cases h:wE x l;·exact aa (by simp only[p_,if_false];rw[aB c hr])
  ·exact aa rfl
 ·unfold kT;exact ao (λh=>absurd h (by simp)) λ_=>aa rfl
 ·unfold tK;cases a.find? (λr=>wE r l);·exact aa rfl
  ·exact aa rfl
theorem Om(r:TT)(l:List Int)(hl:l.length<=9223372036854775807):aC tbl sO [.d (pr [tB,tI,tI]) r,.d (.list tW) l] [] kO (wE r l,()):=by
 refine ap rfl (aA P3 rfl (λO n=>bK (FQ O n r l)) ?_);unfold FQ;refine ae (xV (xs:=l) (p:=fits r) (g:=λ_=>((true,()):Bool×Unit)) (e:=()) (λi x a=>?_) ?_ ?_)
 ·unfold ue;have b:=(l_.1 a).1;refine ao (λ_=>?_) (λh=>absurd h (by simp;omega));refine i6 (by simp) (by simpa using a) ?_;refine Nk r x ?_;cases fits r x;·exact aa (by simp only[p_,if_false];rw[aB b hl])
  ·exact aa rfl
 ·unfold ue;exact ao (λh=>absurd h (by simp)) λ_=>aa rfl
 ·unfold wE;cases l.find? (fits r);·exact aa rfl
  ·exact aa rfl
theorem BO(a:List TT)(l:List Int)(hr:a.length<=9223372036854775807)(hl:l.length<=9223372036854775807):aC tbl oU [.d (.list (pr [tB,tI,tI])) a,.d (.list tW) l] [] ij (tK a l,()):=by
 refine ap rfl (aA Lz rfl (λO n=>bK (B5 O n a l)) ?_);unfold B5;refine ae (xV (xs:=a) (p:=λr=>wE r l) (g:=λr=>((r.1,()):Bool×Unit)) (e:=()) (λi x b=>?_) ?_ ?_)
 ·unfold qp;have c:=(l_.1 b).1;refine ao (λ_=>?_) (λh=>absurd h (by simp;omega));refine i6 (by simp) (by simpa using b) ?_;refine aj (Om x l hl) ?_;cases h:wE x l;·exact aa (by simp only[p_,if_false];rw[aB c hr])
  ·exact aa rfl
 ·unfold qp;exact ao (λh=>absurd h (by simp)) λ_=>aa rfl
 ·unfold tK;cases a.find? (λr=>wE r l);·exact aa rfl
  ·exact aa rfl
theorem q6{l:List Int}{k:Nat}(h:k<l.length):l.getD k 0=l[k]:=by simp[z_,d_ h]
theorem G8(l:List Int):aC tbl lE [.d (.list tW) l] [] dR (Cm.check l,()):=by
 refine ap rfl (aA IG rfl (λO n=>bK (xg O n l)) ?_);unfold xg;refine ao (λh=>aa ?_) λh=>?_;·rw[Cm.check_long (by grind)]
 have hl:¬255<l.length:=by grind
 refine ae (zeE (N:=l.length) (good:=λi=>i=0\/l.getD (i - 1) 0<l.getD i 0) (e:=((16:Int),())) (g:=()) (λi a=>?_) ?_ (λh=>?_) λh=>?_)
 ·unfold nq;refine a7 a (ae (ba (b:=decide (l.getD i 0<=l.getD (i - 1) 0)) (λc=>?_) (s8 ?_ (by rw[aB a (by omega)]))))
  ·have c:=of_decide_eq_true c;have e:a_ .i64 ((i:Int) - 1)=((i - 1:Nat):Int):=by rw[wrap_i64 (by omega) (by omega)];omega
   rw[e];refine aG a (aG (by omega) (aa ?_));grind
  grind
 ·unfold nq;exact aU (aa rfl)
 ·refine aa ?_;have d:∀k,k<=l.length->Cm.Up (l.take k):=by intro k;induction k with|zero=>simp|succ k f=>intro j;exact Cm.up_take (f (by omega)) (by omega) (h k (by omega))
  have:=d l.length (o_ _);rw[k_]at this;rw[Cm.check_up hl this]
 ·refine aa ?_;obtain⟨i,a,hg⟩:=h;rw[Cm.check_not hl (Cm.not_up a (by omega) (by omega))]
theorem Ol(l:List Int):aC tbl sN [.d (.list tW) l] [] iS (Cm.check l,()):=by
 refine ap rfl (aA P2 rfl (λO n=>bK (FP O n l)) ?_);unfold FP;refine ao (λh=>aa ?_) λh=>?_;·rw[Cm.check_long (by grind)]
 have hl:¬255<l.length:=by grind
 refine ae (Wp.imp (Q:=λr=>(r= .inr ()/\Cm.Up l)\/(r= .inl ((16:Int),())/\¬Cm.Up l)) (Go.Ev.wp_loop (fun(s:Int×Unit)=>∃k:Nat,s=((k:Int),())/\1<=k/\(l.length<=1\/k<=l.length)/\Cm.Up (l.take k)) (fun(s:Int×Unit)=>l.length - s.1.toNat) ⟨1,rfl,by simp,by omega,?_⟩ λs hs=>?_) λr hr=>?_);·cases l with|nil=>simp|cons x l=>simp
 ·obtain⟨k,rfl,b,c,a⟩:=hs;unfold Cb;refine ao (λh=>?_) λh=>aa (.inl ⟨rfl,?_⟩)
  ·have h:k<l.length:=by grind
   have e:a_ .i64 ((k:Int) - 1)=((k - 1:Nat):Int):=by rw[wrap_i64 (by omega) (by omega)];omega
   simp only;rw[e];refine aG h (aG (by omega) (ao (λh'=>aa (.inr ⟨rfl,?_⟩)) λh'=>aa ⟨⟨k+1,?_,by simp,by omega,?_⟩,?_⟩));·have h':=of_decide_eq_true h';exact Cm.not_up h (by omega) (by grind)
   ·rw[aB h (by omega)]
   ·have h':=of_decide_eq_false h';refine Cm.up_take a h (.inr ?_);grind
   ·show l.length - (a_ .i64 ((k:Int)+1)).toNat<l.length - ((k:Int)).toNat;rw[aB h (by omega)];omega
  ·have h:¬k<l.length:=by grind
   rw[List.take_of_length_le (by omega)]at a;omega
 ·rcases hr with⟨rfl,a⟩|⟨rfl,a⟩;·refine aa ?_;rw[Cm.check_up hl a]
  ·refine aa ?_;rw[Cm.check_not hl a]
theorem Tz(l:List Int)(x:Int)(hl:l.length<=2000000):aC tbl cQ [.d (.list tW) l,.d tW x] [] b7 (Cm.ins x l,()):=by
 refine ap rfl (aA w8 rfl (λO n=>bK (nf O n l x)) ?_);unfold nf;have D:a_ .i64 ((l.length:Int)+1)=((l.length+1:Nat):Int):=by rw[wrap_i64 (by omega) (by omega)];rfl
 refine aD (by grind) ?_;refine ae (bb (N:=l.length) (I:=λi s=>s.2.1=(i:Int)/\s.2.2.1++Cm.insGo x (l.drop i) s.1=Cm.ins x l/\s.2.2.1.length<=i+(if s.1 then 1 else 0)) ⟨rfl,by simp,by simp⟩ (λi s k hs=>?_) λs hs=>?_)
 ·obtain⟨d,j,c,⟨⟩⟩:=s;obtain⟨g,e,u⟩:=hs;simp only at g e u;subst g;unfold f7;rw[Cm.insGo_step x l i d k,q6 k]at e;have z:a_ .i64 ((i:Int)+1)=((i+1:Nat):Int):=aB k (by omega);refine a7 k (ae (aG k (ae ?_)));generalize l[i]=y at e;have a:∀(f:Bool) (o:List Int),o++((if y != x then [y]else [])++Cm.insGo x (l.drop (i+1)) f)=Cm.ins x l->o.length<=i+(if f then 1 else 0)->Wp (λ_=>bif (y != x)then aE (decide ((o.length+([y]:List Int).length)*4<=140737488355328)) (some ((f,o++([y]:List Int),())))else some ((f,o,())))
   (λA:Bool×List Int×Unit=>Wp (λ_=>some (s_ (A.1,a_ .i64 ((i:Int)+(1:Int)),A.2.1,()))) fun(r:(Bool×Int×List Int×Unit)⊕(Bool×List Int×Unit))=>match r with
    | .inl s'=>s'.2.1=((i+1:Nat):Int)/\s'.2.2.1++Cm.insGo x (l.drop (i+1)) s'.1=Cm.ins x l/\s'.2.2.1.length<=i+1+(if s'.1 then 1 else 0)
    | .inr _=>False):=λf o E B=>by
   have w:o.length<=i+1:=by grind
   refine ao (λh=>aD (decide_eq_true (by grind)) (aa (aa ⟨z,?_,?_⟩))) λh=>aa (aa ⟨z,?_,?_⟩)
   ·grind
   all_goals grind
  refine ae (ba (b:=decide (x<=y)) (λ_=>aa rfl) ?_);cases d with
  |true=>refine an rfl (aa (Wp.imp (a true c (by grind) (by omega)) λv p=>Wp.imp p λr hr=>?_));grind|false=>
   by_cases C:x<=y;·refine aF (by grind) (aD (decide_eq_true (by grind)) (aa (Wp.imp (a true (c++[x]) (by grind) (by grind)) λv p=>Wp.imp p λr hr=>?_)));grind
   ·refine an (by grind) (aa (Wp.imp (a false c (by grind) (by omega)) λv p=>Wp.imp p λr hr=>?_));grind
 ·obtain⟨d,j,c,⟨⟩⟩:=s;obtain⟨g,e,u⟩:=hs;simp only at g e u;subst g;unfold f7;refine aU (aa ?_);rw[G_]at e;cases d with|true=>refine ae (an rfl (aa (aa ?_)));rw[<-e];simp[Cm.insGo]|false=>refine ae (aF rfl (aD (decide_eq_true (by grind)) (aa (aa ?_))));rw[<-e];simp[Cm.insGo]
theorem TO(l:List Int)(hl:l.length<=2000000):aC tbl cS [.d (.list tW) l] [] b8 (Cm.asc l,()):=by
 refine ap rfl (aA w9 rfl (λO n=>bK (ng O n l)) ?_);unfold ng;refine ae (bb (N:=l.length) (I:=λi s=>s=((l.take i).foldl (λo x=>Cm.ins x o) [],(i:Int),())) rfl (λi s a hs=>?_) λs hs=>?_)
 ·subst hs;unfold f8;have b:((l.take i).foldl (λo x=>Cm.ins x o) []).length<=i:=by have:=(Cm.fold_ins (l.take i) [] List.Pairwise.nil).2.2;grind
  refine a7 a (aG a (aj (Tz ((l.take i).foldl (λo x=>Cm.ins x o) []) l[i] (by omega)) (aa ?_)));show(Cm.ins l[i] ((l.take i).foldl (λo x=>Cm.ins x o) []),a_ .i64 ((i:Int)+1),())=_;rw[aB a (by omega),c_ a,u_];rfl
 ·subst hs;unfold f8;refine aU (aa (aa ?_));rw[k_];rfl
theorem Al(l:List Int)(x:Int)(hl:l.length<=9223372036854775807):aC tbl f9 [.d (.list tW) l,.d tW x] [] cJ (decide (x∈l),()):=by
 refine ap rfl (aA BB rfl (λO n=>bK (qb O n l x)) ?_);unfold qb;refine ae (vF (xs:=l) (P:=λy=>y≠x) (e:=(true,())) (g:=()) (λi a=>?_) ?_ (λh=>aa ?_) λh=>aa ?_);·unfold iM;refine a7 a (aG a (s8 ?_ (by rw[aB a hl])));simp
 ·unfold iM;exact aU (aa rfl)
 ·rw[decide_eq_false λb=>h x b rfl]
 ·rw[decide_eq_true (f_ λb=>h λy c e=>b (e▸c))]
theorem TH(l:List Int)(x:Int)(hl:l.length<=9223372036854775807):aC tbl xB [.d (.list tW) l,.d tW x] [] pX (decide (x∈l),()):=by
 refine ap rfl (aA Wv rfl (λO n=>bK (Ke O n l x)) ?_);unfold Ke;refine ae (vF (xs:=l) (P:=λy=>y≠x) (e:=(true,())) (g:=()) (λi a=>?_) ?_ (λh=>aa ?_) λh=>aa ?_);·unfold xX;refine a7 a (aG a (s8 ?_ (by rw[aB a hl])));simp
 ·unfold xX;exact aU (aa rfl)
 ·rw[decide_eq_false λb=>h x b rfl]
 ·rw[decide_eq_true (f_ λb=>h λy c e=>b (e▸c))]
theorem KI(l:List Int)(c:Int)(hl:l.length<=1000000):aC tbl oQ [.d (.list tW) l,.d tW c] [] ig (Cm.add l c,()):=by
 refine ap rfl (aA Lq rfl (λO n=>bK (BW O n l c)) ?_);unfold BW;have a:=Cm.len_asc l;refine aj (TO l (by omega)) (ae (ba (b:= !decide (c∈Cm.asc l)) (λ_=>aj (Al (Cm.asc l) c (by omega)) (aa rfl)) (ao (λh=>aa ?_) λh=>aj (Tz (Cm.asc l) c (by omega)) (aa ?_))));·rw[show Cm.add l c=Cm.asc l from if_pos (by grind)]
 ·rw[show Cm.add l c=Cm.ins c (Cm.asc l)from if_neg (fun⟨d,e⟩=>by grind)]
theorem Mx(c:Int)(v:List Int×Unit)(d:v.1.length<=1000000):Wp (λn=>aL n (jN (s5 tbl n) n c v) ((0:Int),([]:List Int),())) λr=>r=(v.1.filter (λx=>x != c),()):=by
 refine bb (N:=v.1.length) (I:=λi s=>s=((i:Int),(v.1.take i).filter (λx=>x != c),())) rfl (λi s a hs=>?_) λs hs=>?_
 ·subst hs;unfold jN;have b:((v.1.take i).filter (λx=>x != c)).length<=i:=v_ (J_ _ _) (by rw[n_];omega);have e:(v.1.take (i+1)).filter (λx=>x != c)=(v.1.take i).filter (λx=>x != c)++(if v.1[i] != c then [v.1[i]]else []):=by rw[c_ a,O_];congr 1;cases h:(v.1[i] != c)<;>simp[ac_,h]
  refine a7 a (ae (aG a (ao (λh=>aD (decide_eq_true (by show(((v.1.take i).filter (λx=>x != c)).length+1)*4<=_;omega)) (aa (aa ?_))) λh=>aa (aa ?_))));·show(a_ .i64 ((i:Int)+1),(v.1.take i).filter (λx=>x != c)++[v.1[i]],())=_;rw[e,if_pos h,aB a (by omega)]
  ·show(a_ .i64 ((i:Int)+1),(v.1.take i).filter (λx=>x != c),())=_;rw[e,if_neg (by rw[h];decide),j_,aB a (by omega)]
 ·subst hs;unfold jN;refine aU (aa ?_);rw[k_]
theorem Xt(c:Int)(v:List Int×Unit)(d:v.1.length<=1000000):Wp (λn=>aL n (qo (s5 tbl n) n c v) ((0:Int),([]:List Int),())) λr=>r=(v.1.filter (λx=>x != c),()):=by
 refine bb (N:=v.1.length) (I:=λi s=>s=((i:Int),(v.1.take i).filter (λx=>x != c),())) rfl (λi s a hs=>?_) λs hs=>?_
 ·subst hs;unfold qo;have b:((v.1.take i).filter (λx=>x != c)).length<=i:=v_ (J_ _ _) (by rw[n_];omega);have e:(v.1.take (i+1)).filter (λx=>x != c)=(v.1.take i).filter (λx=>x != c)++(if v.1[i] != c then [v.1[i]]else []):=by rw[c_ a,O_];congr 1;cases h:(v.1[i] != c)<;>simp[ac_,h]
  refine a7 a (ae (aG a (ao (λh=>aD (decide_eq_true (by show(((v.1.take i).filter (λx=>x != c)).length+1)*4<=_;omega)) (aa (aa ?_))) λh=>aa (aa ?_))));·show(a_ .i64 ((i:Int)+1),(v.1.take i).filter (λx=>x != c)++[v.1[i]],())=_;rw[e,if_pos h,aB a (by omega)]
  ·show(a_ .i64 ((i:Int)+1),(v.1.take i).filter (λx=>x != c),())=_;rw[e,if_neg (by rw[h];decide),j_,aB a (by omega)]
 ·subst hs;unfold qo;refine aU (aa ?_);rw[k_]
theorem I0(l:List Int)(c:Int)(hl:l.length<=1000000):aC tbl mR [.d (.list tW) l,.d tW c] [] jA (Cm.drop l c,()):=by refine ap rfl (aA JS rfl (λO n=>bK (zw O n l c)) ?_);unfold zw;refine aj (TO l (by omega)) (ae (Wp.imp (Mx c (Cm.asc l,()) (v_ (Cm.len_asc l) hl)) λr hr=>?_));subst hr;exact aa rfl
theorem wA(l a:List Int)(hl:l.length<=1000000)(A:Cm.Out l a):Wp (λn=>aL n (eN (s5 tbl n) n l) (false,(0:Int),(0:Int),a,())) λr=>r.2.2.1=a/\Cm.Best l a l.length r.1 r.2.1:=by
 refine bb (N:=l.length) (I:=λi s=>s.2.2.1=(i:Int)/\s.2.2.2.1=a/\Cm.Best l a i s.1 s.2.1) ⟨rfl,rfl,Cm.Best.zero l a 0⟩ (λi s c hs=>?_) λs hs=>?_
 ·obtain⟨f,b,j,o,⟨⟩⟩:=s;obtain⟨k,p,e⟩:=hs;simp only at k p e;subst k;subst p;have D:=A.len;unfold eN;have B:a_ .i64 ((i:Int)+1)=((i+1:Nat):Int):=aB c (by omega);refine a7 c (ae (aG c ?_));have w:∃g:Bool,(g=true↔∀y∈o,y<l[i])/\Wp (λn=>(bif ((o.length:Int)==(0:Int))then some (true)else e_ (aR o (a_ .i64 ((o.length:Int) - (1:Int)))) λ_=>e_ o[y_ (a_ .i64 ((o.length:Int) - (1:Int)))]? λF=>some (decide (l[i]>F)):Option Bool)) (·=g):=by
   by_cases u:o=[]
   ·subst u;exact⟨true,by simp,aF rfl (aa rfl)⟩
   ·have hp:0<o.length:=C_.2 u;have C:a_ .i64 ((o.length:Int) - 1)=((o.length - 1:Nat):Int):=by rw[wrap_i64 (by omega) (by omega)];omega
    refine⟨decide (l[i]>o[o.length - 1]),?_,an (beq_eq_false_iff_ne.2 (by omega)) ?_⟩;·rw[Cm.last_gt A.up u l[i],q6 (by omega),decide_eq_true_eq]
    ·simp only[C];refine aG (by omega) (mP (x:=o[o.length - 1]) ?_ (aa rfl));rw[r_];exact d_ _
  obtain⟨g,hg,z⟩:=w;refine ae (Wp.imp z λv E=>?_);subst E;refine ae (ba (b:= !f||decide (l[i]<b)) (λ_=>ae (bn (b:=decide (l[i]<b)) (λ_=>aa rfl) (aa rfl))) (ao (λh=>aa (aa ⟨B,rfl,?_⟩)) λh=>aa (aa ⟨B,rfl,?_⟩)));·simp only[w_,U_,decide_eq_true_eq,Q_]at h;have:=Cm.Best.take e c (by rw[q6 c];exact hg.1 h.1) (by rw[q6 c];exact h.2);rw[q6 c]at this;exact this
  ·refine Cm.Best.skip e c λd=>?_;rw[q6 c]at d⊢;rw[hg.2 d]at h;simp at h;exact⟨h.1,h.2⟩
 ·obtain⟨f,b,j,o,⟨⟩⟩:=s;obtain⟨k,p,e⟩:=hs;simp only at k p e;subst k;subst p;unfold eN;exact aU (aa ⟨rfl,e⟩)
theorem Cs(l a:List Int)(hl:l.length<=1000000)(A:Cm.Out l a):Wp (λn=>aL n (ja (s5 tbl n) n l) (false,(0:Int),(0:Int),a,())) λr=>r.2.2.1=a/\Cm.Best l a l.length r.1 r.2.1:=by
 refine bb (N:=l.length) (I:=λi s=>s.2.2.1=(i:Int)/\s.2.2.2.1=a/\Cm.Best l a i s.1 s.2.1) ⟨rfl,rfl,Cm.Best.zero l a 0⟩ (λi s c hs=>?_) λs hs=>?_
 ·obtain⟨f,b,j,o,⟨⟩⟩:=s;obtain⟨k,p,e⟩:=hs;simp only at k p e;subst k;subst p;have D:=A.len;unfold ja;have B:a_ .i64 ((i:Int)+1)=((i+1:Nat):Int):=aB c (by omega);refine a7 c (ae (aG c ?_));have w:∃g:Bool,(g=true↔∀y∈o,y<l[i])/\Wp (λn=>(bif ((o.length:Int)==(0:Int))then some (true)else e_ (aR o (a_ .i64 ((o.length:Int) - (1:Int)))) λ_=>e_ o[y_ (a_ .i64 ((o.length:Int) - (1:Int)))]? λF=>some (decide (l[i]>F)):Option Bool)) (·=g):=by
   by_cases u:o=[]
   ·subst u;exact⟨true,by simp,aF rfl (aa rfl)⟩
   ·have hp:0<o.length:=C_.2 u;have C:a_ .i64 ((o.length:Int) - 1)=((o.length - 1:Nat):Int):=by rw[wrap_i64 (by omega) (by omega)];omega
    refine⟨decide (l[i]>o[o.length - 1]),?_,an (beq_eq_false_iff_ne.2 (by omega)) ?_⟩;·rw[Cm.last_gt A.up u l[i],q6 (by omega),decide_eq_true_eq]
    ·simp only[C];refine aG (by omega) (mP (x:=o[o.length - 1]) ?_ (aa rfl));rw[r_];exact d_ _
  obtain⟨g,hg,z⟩:=w;refine ae (Wp.imp z λv E=>?_);subst E;refine ae (ba (b:= !f||decide (l[i]<b)) (λ_=>ae (bn (b:=decide (l[i]<b)) (λ_=>aa rfl) (aa rfl))) (ao (λh=>aa (aa ⟨B,rfl,?_⟩)) λh=>aa (aa ⟨B,rfl,?_⟩)));·simp only[w_,U_,decide_eq_true_eq,Q_]at h;have:=Cm.Best.take e c (by rw[q6 c];exact hg.1 h.1) (by rw[q6 c];exact h.2);rw[q6 c]at this;exact this
  ·refine Cm.Best.skip e c λd=>?_;rw[q6 c]at d⊢;rw[hg.2 d]at h;simp at h;exact⟨h.1,h.2⟩
 ·obtain⟨f,b,j,o,⟨⟩⟩:=s;obtain⟨k,p,e⟩:=hs;simp only at k p e;subst k;subst p;unfold ja;exact aU (aa ⟨rfl,e⟩)
theorem wF(l:List Int)(hl:l.length<=1000000):Wp (λn=>aL n (iN (s5 tbl n) n l) (([]:List Int),())) λr=>r=(Cm.asc l,()):=by refine Go.Ev.wp_loop (fun(s:List Int×Unit)=>Cm.Out l s.1) (fun(s:List Int×Unit)=>Cm.left l s.1) (Cm.Out.zero l) λs hs=>?_;unfold iN;have d:=hs.len;refine ae (Wp.imp (wA l s.1 hl hs) λr hr=>?_);obtain⟨f,b,o,⟨⟩⟩:=r;obtain⟨c,a⟩:=hr;simp only at c a;subst c;cases f with|false=>exact aF rfl (aa (by show(s.1,())=_;rw[Cm.Out.outDone hs a]))|true=>refine an rfl (aD (decide_eq_true (by show(s.1.length+1)*4<=_;omega)) (aa ⟨Cm.Out.step hs a,?_⟩));have:=a.yes rfl;exact Cm.left_step this.1 this.2
theorem Cv(l:List Int)(hl:l.length<=1000000):Wp (λn=>aL n (nz (s5 tbl n) n l) (([]:List Int),())) λr=>r=(Cm.asc l,()):=by refine Go.Ev.wp_loop (fun(s:List Int×Unit)=>Cm.Out l s.1) (fun(s:List Int×Unit)=>Cm.left l s.1) (Cm.Out.zero l) λs hs=>?_;unfold nz;have d:=hs.len;refine ae (Wp.imp (Cs l s.1 hl hs) λr hr=>?_);obtain⟨f,b,o,⟨⟩⟩:=r;obtain⟨c,a⟩:=hr;simp only at c a;subst c;cases f with|false=>exact aF rfl (aa (by show(s.1,())=_;rw[Cm.Out.outDone hs a]))|true=>refine an rfl (aD (decide_eq_true (by show(s.1.length+1)*4<=_;omega)) (aa ⟨Cm.Out.step hs a,?_⟩));have:=a.yes rfl;exact Cm.left_step this.1 this.2
theorem zfY(l:List Int)(hl:l.length<=1000000):aC tbl iA [.d (.list tW) l] [] fv (Cm.asc l,()):=by refine ap rfl (aA IN rfl (λO n=>bK (xo O n l)) ?_);unfold xo;refine ae (Wp.imp (Cv l hl) λr hr=>?_);subst hr;exact aa rfl
theorem zgg(l:List Int)(hl:l.length<=1000000):aC tbl gj [.d (.list tW) l] [] dU (Cm.asc l,()):=by refine ap rfl (aA BH rfl (λO n=>bK (qh O n l)) ?_);unfold qh;refine ae (Wp.imp (wF l hl) λr hr=>?_);subst hr;exact aa rfl
theorem TG(l:List Int)(c:Int)(hl:l.length<=900000):aC tbl xA [.d (.list tW) l,.d tW c] [] pW (Cm.add l c,()):=by
 refine ap rfl (aA Wu rfl (λO n=>bK (Kd O n l c)) ?_);unfold Kd;have a:=Cm.len_asc l;have d:(Cm.asc l,()).1.length<=900000:=by grind
 refine aj (zgg l (by omega)) (ae (ba (b:= !decide (c∈Cm.asc l)) (λ_=>aj (TH _ c (by omega)) (aa rfl)) (ao (λh=>aa ?_) λh=>aD (decide_eq_true (by grind)) (aj (zfY _ (by grind)) (aa ?_)))));·rw[show Cm.add l c=Cm.asc l from if_pos (by grind)]
 ·rw[show Cm.add l c=Cm.ins c (Cm.asc l)from if_neg (fun⟨e,f⟩=>by grind),Cm.add_eq]
theorem Ry(l:List Int)(c:Int)(hl:l.length<=1000000):aC tbl vl [.d (.list tW) l,.d tW c] [] rh (Cm.drop l c,()):=by refine ap rfl (aA S8 rfl (λO n=>bK (Hl O n l c)) ?_);unfold Hl;refine aj (zfY l hl) (ae (Wp.imp (Xt c (Cm.asc l,()) (v_ (Cm.len_asc l) hl)) λr hr=>?_));subst hr;exact aa rfl
open Go Go.Av Go.Ev Go.Pl
theorem if5{P:Prop} [Decidable P]:(if P then(0:Int)else 5)=0\/(if P then(0:Int)else 5)=5:=by omega
theorem Rq{r:p6}(a:dE r.1=true)(b:¬(r.2.1<1\/7<r.2.1))(c:¬r.2.2.2.1.length>2000):BA r=if ¬∀v∈r.2.2.2.1,1<=v/\v<=4294967295 then 5 else if Cm.check r.2.2.2.2.1≠0 then Cm.check r.2.2.2.2.1 else if ¬(y8 r.2.2.2.2.2.1/\y8 r.2.2.2.2.2.2.1/\y8 r.2.2.2.2.2.2.2.2.1)\/r.2.2.2.2.2.2.2.1<0\/16777216<r.2.2.2.2.2.2.2.1 then 5 else 0:=by unfold BA;grind
theorem Od(r:p6)(hp:gU r.1.1):aC tbl sF [.d Qs r] [] cD (BA r,()):=by
 refine ap rfl (aA PL rfl (λO n=>bK (FC O n r)) ?_);unfold FC;refine aj (gE r.1 hp) (ao (λh=>aa ?_) λh=>?_);·rw[show BA r=1 from if_pos (by grind)]
 have p:dE r.1=true:=by grind
 refine ae (bn (b:=decide (r.2.1>7)) (λ_=>aa rfl) (ao (λh=>aa ?_) λh=>?_));·rw[show BA r=5 from by unfold BA;grind]
 have C:¬(r.2.1<1\/7<r.2.1):=by grind
 refine ao (λh=>aa ?_) λh=>?_;·rw[show BA r=4 from by unfold BA;grind]
 have D:¬r.2.2.2.1.length>2000:=by grind
 rw[Rq p C D];refine ae (vF (xs:=r.2.2.2.1) (P:=λv=>1<=v/\v<=4294967295) (e:=((5:Int),())) (g:=()) (λi l=>?_) ?_ (λh=>?_) λh=>aa ?_);·unfold tZ;refine a7 l (aG l (ae (bn (b:=decide (r.2.2.2.1[i]>4294967295)) (λ_=>aa rfl) (s8 ?_ (by rw[aB l (by omega)])))));grind
 ·unfold tZ;exact aU (aa rfl)
 ·rw[if_neg (not_not_intro h)];refine aj (G8 r.2.2.2.2.1) (ao (λh=>aa ?_) λh=>?_);·grind
  rw[if_neg (by grind)];generalize r.2.2.2.2.2.1=x0;generalize r.2.2.2.2.2.2.1=d;generalize r.2.2.2.2.2.2.2=y;obtain⟨F,k,⟨⟩⟩:=y;have one:∀x:Int,Wp (λ_=>e_ (bif decide (x<(0:Int))then some (true)else some (decide (x>(4294967295:Int)))) λv=>some v) (λb=>b= !decide (y8 x)):=λx=>by refine ae (bn (b:=decide (x>4294967295)) (λ_=>aa rfl) (aa ?_));grind
  refine ae (nR (N:=3) (f:=λi=>if y8 (if i=0 then x0 else if i=1 then d else k)then 0 else 5) (enc:=λi=>((x0,d,k,()),(i:Int),())) (oB:=λe=>(e,())) (oE:=()) (λi l=>?_) ?_ ?_)
  ·unfold t6;have s:∀x:Int,x=(if i=0 then x0 else if i=1 then d else k)->Wp (λ_=>e_ (bif decide (x<(0:Int))then some (true)else some (decide (x>(4294967295:Int)))) λw=>
    bif w then some (.inr (.inl (((5:Int),()))))else some (.inl ((x0,d,k,()),a_ .i64 ((i:Int)+(1:Int)),())))
    (fun(r:((Int×Int×Int×Unit)×Int×Unit)⊕(Int×Unit)⊕Unit)=>r=if(if y8 (if i=0 then x0 else if i=1 then d else k)then(0:Int)else 5)=0 then .inl ((x0,d,k,()),((i+1:Nat):Int),())else .inr (.inl ((if y8 (if i=0 then x0 else if i=1 then d else k)then(0:Int)else 5),()))):=λx E=>by
    subst E
    refine ae (bn (b:=decide (_>4294967295)) (λ_=>aa rfl) (ao (λh=>aa ?_) λh=>aa ?_))
    ·grind
    ·rw[if_pos (show y8 _ by grind),if_pos rfl,aB (n:=3) l (by simp)]
   refine a7 l ?_;have u:i=0\/i=1\/i=2:=by omega
   rcases u with rfl|rfl|rfl;·exact Ak (a:=x0) rfl (s x0 rfl)
   ·exact Ak (a:=d) rfl (s d rfl)
   ·exact Ak (a:=k) rfl (s k rfl)
  ·unfold t6;exact aU (aa rfl)
  have A:jG (λi=>if y8 (if i=0 then x0 else if i=1 then d else k)then(0:Int)else 5) 3=if y8 x0/\y8 d/\y8 k then 0 else 5:=by
   by_cases h:y8 x0/\y8 d/\y8 k;·rw[if_pos h];refine errN_zero.2 λj J=>?_;omega
   ·rw[if_neg h];refine(zc7 (c:=5) (λj=>if5)).resolve_left λB=>h ?_;have p:=errN_zero.1 B;have g0:=p 0 (by simp);have H:=p 1 (by simp);have I:=p 2 (by simp);omega
  rw[A];by_cases z:y8 x0/\y8 d/\y8 k;·rw[if_pos z,if_pos rfl];refine ae (bn (b:=decide (F>16777216)) (λ_=>aa rfl) (ao (λh=>aa ?_) λh=>aa ?_));all_goals grind
  ·rw[if_neg z,if_neg (by simp)];refine aa ?_;grind
 grind
theorem Ma(r:Rx)(hs:sz r<=100000):aC tbl s3 [.d .rx r,.d (.list tI) []] [] eU (dF r&&Nj (ow r 0) [],()):=by
 refine ap rfl (aA Qk rfl (λO m=>bK (F7 O m r [])) ?_);unfold F7;refine aj (RI r (by omega)) (ao (λh=>aa ?_) λh=>?_);·grind
 have c:dF r=true:=by grind
 rw[c,q_];have n:cnt r<=100000:=v_ (zcY r) hs;obtain⟨k,_⟩:=tz r c 0;have a:=Bg r 0;refine aj (OE r (by omega)) (aD ?_ (ae (Ev.wp_mono (XZ (M:=cnt r) (by omega)) ?_)));·grind
 rintro t rfl;have b:=EO (M:=cnt r) (by omega) r c (by omega) [] [] [] rfl (by simp);simp only[List.nil_append,List.length_nil]at b;generalize hg:ow r 0=g at*;have hl:(pZ (cnt r) g.pr).length=cnt r:=Vv _ _;have l:g_ (y_ ((pZ (cnt r) g.pr).length:Int)) (Ty.zero tB)=uV (cnt r) λ_=>false:=by rw[hl,r_];exact zeB _
 refine aj b (aD ?_ ?_);·grind
 have d:=Sr (M:=cnt r) (by omega) g.fi g.la g.em (g.sp.map (·.1)) (g.sp.map (·.2)) (pZ (cnt r) g.pr) (λp hp=>by have:=a.fi p hp;omega) (by have:=a.fl;omega);rw[<-l]at d;refine ae (Ev.wp_mono d ?_);rintro t rfl;have j:(uV (cnt r) λp=>decide (p∈g.fi)).length=cnt r:=WJ _ _;refine aD ?_ ?_;·grind
 refine ae (bb (N:=0) (I:=λ_ s=>s.1=0/\s.2.2.2.2.2.2.1=g.em) ⟨rfl,rfl⟩ (λi s u _=>by omega) ?_);rintro s ⟨e,f⟩;unfold Cc;refine an (by rw[e];rfl) (aa ?_);show Wp _ _;simp only[Sum.elim_inr];refine ao (λ_=>aa ?_) λh=>?_;·rw[f];rfl
 exact absurd h (by decide)
theorem L4(r:Rx)(hs:sz r<=100000):aC tbl sM [.d .rx r,.d (.list tI) []] [] gw (dF r&&Nj (ow r 0) [],()):=by
 refine ap rfl (aA PZ rfl (λO m=>bK (FM O m r [])) ?_);unfold FM;refine aj (Gp r (by omega)) (ao (λh=>aa ?_) λh=>?_);·grind
 have b:dF r=true:=by grind
 rw[b,q_];obtain⟨_,a⟩:=tz r b 0;refine ao (λ_=>aj (I2 r (by omega)) (aa ?_)) λh=>?_;·rw[<-a];rfl
 exact absurd h (by decide)
open Classical in
noncomputable def GJ(s:List UInt8)(a:List Int):Bool:=decide (∃r,mg r=0/\jf r=s/\Nj (ow r 0) a=true)
noncomputable def VR(l:List HRU)(a:List Int):Bool:=match l.find? (λu=>GJ u.2.1 a)with|some u=>u.1|none=>false
open Classical in
theorem zay{s:List UInt8}{c:Rx×Int×Unit}(h:ParsedX s c)(hc:(c.2.1==0)=false)(a:List Int):GJ s a=false:=by unfold GJ;refine decide_eq_false ?_;rintro⟨r,b,d,_⟩;rcases h with⟨f,_,_,rfl⟩|⟨e,_⟩;all_goals grind
open Classical in
theorem Vy{s:List UInt8}(hs:s.length<=1048576){c:Rx×Int×Unit}(h:ParsedX s c)(hc:(c.2.1==0)=true)(a:List Int):∃r,c=(r,0,())/\dF r=true/\sz r<=64/\GJ s a=Nj (ow r 0) a:=by
 rcases h with⟨r,b,d,rfl⟩|⟨_,rfl⟩
 ·obtain⟨e,f,_⟩:=EK b;refine⟨r,rfl,e,f,?_⟩;unfold GJ;cases l:Nj (ow r 0) a;·refine decide_eq_false ?_;rintro⟨k,g,j,n⟩;have:=ParsedX.pxUniq hs (.inl ⟨k,g,j,rfl⟩) (.inl ⟨r,b,d,rfl⟩);grind
  grind
 grind
theorem Of(l:List HRU)(a:List Int)(hl:l.length<=9223372036854775807)(hr:∀u∈l,u.2.1.length<=1048576)(hp:a.length<=0):aC tbl sH [.d (.list yH) l,.d (.list tI) a] [] kM (VR l a,()):=by
 have f:a=[]:=A_ (by omega);refine ap rfl (aA PN rfl (λO n=>bK (FD O n l a)) ?_);unfold FD;refine ae (mO (xs:=l) (p:=λu=>GJ u.2.1 a) (enc:=λi=>((i:Int),())) (g:=λu=>(u.1,())) (e:=()) (λi d=>?_) ?_ ?_)
 ·unfold t7;have k:=hr _ (b_ d);obtain⟨c,j,s⟩:=FB l[i].2.1 k;refine a7 d (aG d (aj s (ae (ba (b:=GJ l[i].2.1 a) (λh=>?_) ?_))));·obtain⟨r,rfl,w,x,v⟩:=Vy k j h a;rw[cP];subst f;refine aj (Ma r (by omega)) (aa ?_);rw[v,w];rfl
  ·have e:((c.2.1==0)&&GJ l[i].2.1 a)=GJ l[i].2.1 a:=by
    cases hc:(c.2.1==0);·rw[zay j hc];rfl
    simp
   rw[e];refine ao (λh=>aa ?_) λh=>aa ?_;·grind
   ·rw[if_neg (by grind),aB d hl]
 ·unfold t7;exact aU (aa rfl)
 ·unfold VR;cases l.find? (λu=>GJ u.2.1 a)with|some r=>exact aa rfl|none=>exact aa rfl
theorem uX(l:List HRU)(a:List Int)(hl:l.length<=9223372036854775807)(hr:∀u∈l,u.2.1.length<=1048576)(hp:a.length<=0):aC tbl je [.d (.list yH) l,.d (.list tI) a] [] dZ (VR l a,()):=by
 have f:a=[]:=A_ (by omega);refine ap rfl (aA Fq rfl (λO n=>bK (vh O n l a)) ?_);unfold vh;refine ae (mO (xs:=l) (p:=λu=>GJ u.2.1 a) (enc:=λi=>((i:Int),())) (g:=λu=>(u.1,())) (e:=()) (λi d=>?_) ?_ ?_)
 ·unfold kX;have k:=hr _ (b_ d);obtain⟨c,j,s⟩:=Fv l[i].2.1 k;refine a7 d (aG d (aj s (ae (ba (b:=GJ l[i].2.1 a) (λh=>?_) ?_))));·obtain⟨r,rfl,w,x,v⟩:=Vy k j h a;rw[cP];subst f;refine aj (L4 r (by omega)) (aa ?_);grind
  ·have e:((c.2.1==0)&&GJ l[i].2.1 a)=GJ l[i].2.1 a:=by
    cases hc:(c.2.1==0);·rw[zay j hc];rfl
    simp
   rw[e];refine ao (λh=>aa ?_) λh=>aa ?_;·grind
   ·rw[if_neg (by grind),aB d hl]
 ·unfold kX;exact aU (aa rfl)
 ·unfold VR;cases l.find? (λu=>GJ u.2.1 a)with|some r=>exact aa rfl|none=>exact aa rfl
noncomputable def lz(s:PS)(m:MAT)(r:p6):Bool:=
 if m.1=1 then(match gr s m.2.1 with|some l=>VS l.2.1 r.1|none=>false)
 else if m.1=2 then(match ov s m.2.1 with|some l=>VR l.2.1 r.2.2.2.1|none=>false)
 else if m.1=3 then(match de s m.2.1 with|some l=>tK l.2.1 r.2.2.2.2.1|none=>false)
 else if m.1=4 then r.2.1==m.2.2.1
 else if m.1=5 then r.2.2.2.2.2.2.2.2.1==m.2.2.1
 else if m.1=6 then decide (r.2.2.2.2.2.2.2.1<=m.2.2.1)
 else if m.1=7 then Kr m.2.2.2.1 r.2.2.1
 else decide ((r.2.2.2.1.length:Int)<=m.2.2.1)
noncomputable def XF(s:PS)(r:p6)(m:MAT):Bool:=true ^^ (lz s m r==m.2.2.2.2.1)
noncomputable def wS(s:PS)(r:p6)(t:Gd):Bool:=t.2.1.all (XF s r)
structure SmQ(s:PS)(r:p6):Prop where
 s:SmP s
 p:gU r.1.1
 n:gU r.2.2.1
 pt:r.2.2.2.1.length<=0
 cm:r.2.2.2.2.1.length<=100000
abbrev bxU(r:p6):Ob:=.box fk [.d tW r.1.1,.d tI r.1.2.1,.d tI r.2.1,.d tW r.2.2.1,.d (.list tI) r.2.2.2.1,.d (.list tW) r.2.2.2.2.1,.d tI r.2.2.2.2.2.1,.d tI r.2.2.2.2.2.2.1,.d tI r.2.2.2.2.2.2.2.1,.d tI r.2.2.2.2.2.2.2.2.1]
abbrev cR(s:PS)(r:p6):List PLS×List HLS×List CLS×List Kl×Int×Int×Int×Int×List Int×List Int×Int×Int×Int×Int×Unit:=
 (s.1,s.2.1,s.2.2.1,s.2.2.2.1,r.1.1,r.1.2.1,r.2.1,r.2.2.1,r.2.2.2.1,r.2.2.2.2.1,r.2.2.2.2.2.1,r.2.2.2.2.2.2.1,r.2.2.2.2.2.2.2.1,r.2.2.2.2.2.2.2.2.1,())
theorem zic(x:HL q_apply_conditions_1_drr.sl):DY q_apply_conditions_1_drr (kh q_apply_conditions_1_drr x)=some x:=by kernel_rfl
theorem zid(x:HL q_apply_conditions_2_dr.sl):DY q_apply_conditions_2_dr (kh q_apply_conditions_2_dr x)=some x:=by kernel_rfl
theorem zib(x:HL q_apply_conditions.sl):DY q_apply_conditions (kh q_apply_conditions x)=some x:=by kernel_rfl
theorem zeH(s:PS)(m:MAT)(r:p6)(h:SmQ s r)(D:1<=m.1/\m.1<=8)(w:gU m.2.2.2.1.1):aC tbl da [.d yM m,.ptr 0 0,.ptr 1 0] [Z6 s,bxU r] q_apply_conditions_1_drr (lz s m r,cR s r):=by
 refine ap (zic _) (aA zj rfl (λO n=>bK (nT O n m s.1 s.2.1 s.2.2.1 s.2.2.2.1 r.1.1 r.1.2.1 r.2.1 r.2.2.1 r.2.2.2.1 r.2.2.2.2.1 r.2.2.2.2.2.1 r.2.2.2.2.2.2.1 r.2.2.2.2.2.2.2.1 r.2.2.2.2.2.2.2.2.1)) ?_);unfold nT;have f:=h.s.ok;have b:∀{k:Int},m.1≠k->(m.1==k)=false:=λh=>beq_eq_false_iff_ne.2 h;have c:∀{k:Int},m.1=k->(m.1==k)=true:=λh=>beq_iff_eq.2 h;by_cases j:m.1=1
 ·have a:lz s m r=match gr s m.2.1 with|some l=>VS l.2.1 r.1|none=>false:=by unfold lz;grind
  refine ae (aF (c j) (ae (mO (xs:=s.1) (p:=(·.1==m.2.1)) (enc:=λi=>((i:Int),cR s r)) (g:=λl=>(VS l.2.1 r.1,cR s r)) (e:=cR s r) (λi d=>?_) ?_ ?_)))
  ·unfold gF;refine a7 d (aG d (ao (λh'=>?_) λh'=>aa ?_));·have hl:=f.1.2 _ (b_ d);refine aj (KJ s.1[i].2.1 r.1 hl.2.1.1 (λu x=>(hl.2.1.2 u x).2.1.1) h.p) (aa ?_);grind
   ·rw[if_neg (by grind),aB d (by exact f.1.1)]
  ·unfold gF;exact aU (aa rfl)
  ·unfold gr at a;cases e:s.1.find? (·.1==m.2.1)with|some l=>rw[e]at a;rw[a];exact aa (aa rfl)|none=>rw[e]at a;rw[a];exact aa (aa rfl)
 by_cases v:m.1=2
 ·have a:lz s m r=match ov s m.2.1 with|some l=>VR l.2.1 r.2.2.2.1|none=>false:=by unfold lz;grind
  refine ae (an (b j) (aF (c v) (ae (mO (xs:=s.2.1) (p:=(·.1==m.2.1)) (enc:=λi=>((i:Int),cR s r)) (g:=λl=>(VR l.2.1 r.2.2.2.1,cR s r)) (e:=cR s r) (λi d=>?_) ?_ ?_))))
  ·unfold gG;refine a7 d (aG d (ao (λh'=>?_) λh'=>aa ?_));·have hl:=f.2.1.2 _ (b_ d);refine aj (Of s.2.1[i].2.1 r.2.2.2.1 hl.2.1.1 (λu x=>h.s.pt _ (b_ d) u x) (by have:=h.pt;omega)) (aa ?_);grind
   ·rw[if_neg (by grind),aB d (by exact f.2.1.1)]
  ·unfold gG;exact aU (aa rfl)
  ·unfold ov at a;cases e:s.2.1.find? (·.1==m.2.1)with|some l=>rw[e]at a;rw[a];exact aa (aa rfl)|none=>rw[e]at a;rw[a];exact aa (aa rfl)
 by_cases y:m.1=3
 ·have a:lz s m r=match de s m.2.1 with|some l=>tK l.2.1 r.2.2.2.2.1|none=>false:=by unfold lz;grind
  refine ae (an (b j) (an (b v) (aF (c y) (ae (mO (xs:=s.2.2.1) (p:=(·.1==m.2.1)) (enc:=λi=>((i:Int),cR s r)) (g:=λl=>(tK l.2.1 r.2.2.2.2.1,cR s r)) (e:=cR s r) (λi d=>?_) ?_ ?_)))))
  ·unfold gH;refine a7 d (aG d (ao (λh'=>?_) λh'=>aa ?_));·have hl:=f.2.2.1.2 _ (b_ d);refine aj (EL s.2.2.1[i].2.1 r.2.2.2.2.1 hl.2.1.1 (by have:=h.cm;omega)) (aa ?_);grind
   ·rw[if_neg (by grind),aB d (by exact f.2.2.1.1)]
  ·unfold gH;exact aU (aa rfl)
  ·unfold de at a;cases e:s.2.2.1.find? (·.1==m.2.1)with|some l=>rw[e]at a;rw[a];exact aa (aa rfl)|none=>rw[e]at a;rw[a];exact aa (aa rfl)
 refine ae (an (b j) (an (b v) (an (b y) ?_)));by_cases z:m.1=4;·refine aF (c z) (aa (aa ?_));rw[show lz s m r=(r.2.1==m.2.2.1)from by unfold lz;grind]
 refine an (b z) ?_;by_cases A:m.1=5;·refine aF (c A) (aa (aa ?_));rw[show lz s m r=(r.2.2.2.2.2.2.2.2.1==m.2.2.1)from by unfold lz;grind]
 refine an (b A) ?_;by_cases B:m.1=6;·refine aF (c B) (aa (aa ?_));rw[show lz s m r=decide (r.2.2.2.2.2.2.2.1<=m.2.2.1)from by unfold lz;grind]
 refine an (b B) ?_;by_cases C:m.1=7;·refine aF (c C) (aj (xd m.2.2.2.1 r.2.2.1 w h.n) (aa (aa ?_)));rw[show lz s m r=Kr m.2.2.2.1 r.2.2.1 from by unfold lz;grind]
 refine an (b C) (aF (c (by omega)) (aa (aa ?_)));rw[show lz s m r=decide ((r.2.2.2.1.length:Int)<=m.2.2.1)from by unfold lz;grind]
theorem zeI(s:PS)(m:MAT)(r:p6)(h:SmQ s r)(b:1<=m.1/\m.1<=8)(a:gU m.2.2.2.1.1):aC tbl dw [.d yM m,.ptr 0 0] [.box RL [.clo eX [1,2]],Z6 s,bxU r] q_apply_conditions_2_dr (XF s r m,cR s r):=by refine ap (zid _) (aA Ae rfl (λO n=>bK (pG O n m s.1 s.2.1 s.2.2.1 s.2.2.2.1 r.1.1 r.1.2.1 r.2.1 r.2.2.1 r.2.2.2.1 r.2.2.2.2.1 r.2.2.2.2.2.1 r.2.2.2.2.2.2.1 r.2.2.2.2.2.2.2.1 r.2.2.2.2.2.2.2.2.1)) ?_);unfold pG;exact aj (zeH s m r h b a) (aa rfl)
theorem Ru(s:PS)(r:p6):aC tbl jV [.d yS s,.d Qs r] [] q_apply_conditions (cR s r):=ap (zib _) (aA GZ rfl (λO n=>bK (Gr O n s r)) (aa rfl))
theorem TJ(s:PS)(m:MAT)(r:p6)(h:SmQ s r)(A:1<=m.1/\m.1<=8)(g:gU m.2.2.2.1.1):aC tbl xD [.d yS s,.d yM m,.d Qs r] [] d6 (lz s m r,()):=by
 refine ap rfl (aA Wx rfl (λO n=>bK (Kg O n s m r)) ?_);unfold Kg;have d:=h.s.ok;have c:∀{k:Int},m.1≠k->(m.1==k)=false:=λh=>beq_eq_false_iff_ne.2 h;have b:∀{k:Int},m.1=k->(m.1==k)=true:=λh=>beq_iff_eq.2 h;by_cases j:m.1=1
 ·have a:lz s m r=match gr s m.2.1 with|some l=>VS l.2.1 r.1|none=>false:=by unfold lz;grind
  refine aF (b j) (aj (zu s m.2.1 d.1.1) ?_);cases e:gr s m.2.1 with|some l=>rw[e]at a;rw[a];have hl:=d.1.2 l (m_ e);exact aj (BP l.2.1 r.1 hl.2.1.1 (λu f=>(hl.2.1.2 u f).2.1.1) h.p) (aa rfl)|none=>rw[e]at a;rw[a];exact aj (BP [] r.1 (h_ _) (λu f=>by grind) h.p) (aa rfl)
 refine an (c j) ?_;by_cases p:m.1=2
 ·have a:lz s m r=match ov s m.2.1 with|some l=>VR l.2.1 r.2.2.2.1|none=>false:=by unfold lz;grind
  refine aF (b p) (aj (Fy s m.2.1 d.2.1.1) ?_);cases e:ov s m.2.1 with|some l=>rw[e]at a;rw[a];have hl:=d.2.1.2 l (m_ e);exact aj (uX l.2.1 r.2.2.2.1 hl.2.1.1 (λu f=>h.s.pt _ (m_ e) u f) (by have:=h.pt;omega)) (aa rfl)|none=>rw[e]at a;rw[a];exact aj (uX [] r.2.2.2.1 (h_ _) (λu f=>by grind) (by have:=h.pt;omega)) (aa rfl)
 refine an (c p) ?_;by_cases v:m.1=3
 ·have a:lz s m r=match de s m.2.1 with|some l=>tK l.2.1 r.2.2.2.2.1|none=>false:=by unfold lz;grind
  refine aF (b v) (aj (uW s m.2.1 d.2.2.1.1) ?_);cases e:de s m.2.1 with|some l=>rw[e]at a;rw[a];have hl:=d.2.2.1.2 l (m_ e);exact aj (BO l.2.1 r.2.2.2.2.1 hl.2.1.1 (by have:=h.cm;omega)) (aa rfl)|none=>rw[e]at a;rw[a];exact aj (BO [] r.2.2.2.2.1 (h_ _) (by have:=h.cm;omega)) (aa rfl)
 refine an (c v) ?_;by_cases w:m.1=4;·refine aF (b w) (aa ?_);rw[show lz s m r=(r.2.1==m.2.2.1)from by unfold lz;grind]
 refine an (c w) ?_;by_cases x:m.1=5;·refine aF (b x) (aa ?_);rw[show lz s m r=(r.2.2.2.2.2.2.2.2.1==m.2.2.1)from by unfold lz;grind]
 refine an (c x) ?_;by_cases y:m.1=6;·refine aF (b y) (aa ?_);rw[show lz s m r=decide (r.2.2.2.2.2.2.2.1<=m.2.2.1)from by unfold lz;grind]
 refine an (c y) ?_;by_cases z:m.1=7;·refine aF (b z) (aj (zr m.2.2.2.1 r.2.2.1 g h.n) (aa ?_));rw[show lz s m r=Kr m.2.2.2.1 r.2.2.1 from by unfold lz;grind]
 refine an (c z) (aa ?_);rw[show lz s m r=decide ((r.2.2.2.1.length:Int)<=m.2.2.1)from by unfold lz;grind]
theorem G7(r:p6)(a:r.2.2.2.1.length<=1000000)(b:r.2.2.2.2.1.length<=1000000):aC tbl lD [.d Qs r] [] iI (r,()):=by obtain⟨p,po,nh,pt,cm,t⟩:=r;simp only at a b;refine ap rfl (aA IF rfl (λO n=>bK (xe O n (p,po,nh,pt,cm,t))) ?_);unfold xe;refine aD (by grind) (aD (by grind) (aa ?_));simp
theorem Ot(r:p6)(a:r.2.2.2.1.length<=1000000)(b:r.2.2.2.2.1.length<=1000000):aC tbl sS [.d Qs r] [] oI (r,()):=by obtain⟨p,po,nh,pt,cm,t⟩:=r;simp only at a b;refine ap rfl (aA Qb rfl (λO n=>bK (FY O n (p,po,nh,pt,cm,t))) ?_);unfold FY;exact aD (decide_eq_true (by grind)) (aD (decide_eq_true (by grind)) (aa rfl))
theorem TW{a:CL}(b:i8 a=0)(c:a.1=8):1<=a.2.1/\a.2.1<=16:=by
 unfold i8 at b;split at b;·omega
 split at b;·omega
 split at b;·omega
 rename_i h;have h:ou a=true:=by grind
 unfold ou at h;grind
theorem Qv{a:CL}(b:i8 a=0):1<=a.1/\a.1<=8:=by
 unfold i8 at b;split at b;·cases b
 ·omega
section
variable {a:CL} {p:HA} {po nh:Int} {pt cm:List Int} {pf md mt tg:Int} {u:Unit}
theorem zhp(h:a.1=1):K2 a (p,po,nh,pt,cm,pf,md,mt,tg,u)=(p,po,nh,pt,cm,a.2.1,md,mt,tg,u):=by simp[K2,h]
theorem zhq(h:a.1=2):K2 a (p,po,nh,pt,cm,pf,md,mt,tg,u)=(p,po,nh,pt,cm,pf,a.2.1,mt,tg,u):=by simp[K2,h]
theorem zhr(h:a.1=3):K2 a (p,po,nh,pt,cm,pf,md,mt,tg,u)=(p,po,nh,pt,cm,pf,md,a.2.1,tg,u):=by simp[K2,h]
theorem zhs(h:a.1=4):K2 a (p,po,nh,pt,cm,pf,md,mt,tg,u)=(p,po,nh,pt,cm,pf,md,mt,a.2.1,u):=by simp[K2,h]
theorem zht(h:a.1=5):K2 a (p,po,nh,pt,cm,pf,md,mt,tg,u)=(p,po,a.2.2.2.2.1,pt,cm,pf,md,mt,tg,u):=by simp[K2,h]
theorem zhu(h:a.1=6):K2 a (p,po,nh,pt,cm,pf,md,mt,tg,u)=(p,po,nh,pt,Cm.add cm a.2.2.2.1,pf,md,mt,tg,u):=by simp[K2,h]
theorem zhv(h:a.1=7):K2 a (p,po,nh,pt,cm,pf,md,mt,tg,u)=(p,po,nh,pt,Cm.drop cm a.2.2.2.1,pf,md,mt,tg,u):=by simp[K2,h]
theorem zhw(h:a.1=8)(hl:(pt.length:Int)+a.2.1<=2000):K2 a (p,po,nh,pt,cm,pf,md,mt,tg,u)=(p,po,nh,g_ a.2.1.toNat a.2.2.1++pt,cm,pf,md,mt,tg,u):=by simp[K2,h,hl]
theorem zhx(h:a.1=8)(hl:¬(pt.length:Int)+a.2.1<=2000):K2 a (p,po,nh,pt,cm,pf,md,mt,tg,u)=(p,po,nh,pt,cm,pf,md,mt,tg,u):=by simp[K2,h];omega
end
theorem LY(a:CL)(r:p6)(A:i8 a=0)(C:r.2.2.2.1.length<=900000)(D:r.2.2.2.2.1.length<=900000):aC tbl qu [.d yA a,.d Qs r] [] mC (K2 a r,()):=by
 obtain⟨⟨y,z,⟨⟩⟩,po,nh,pt,cm,pf,md,mt,tg,⟨⟩⟩:=r;simp only at C D;refine ap rfl (aA NO rfl (λO n=>bK (CU O n a ((y,z,()),po,nh,pt,cm,pf,md,mt,tg,()))) ?_);unfold CU;have J:=Qv A;have b:∀{k:Int},a.1≠k->(a.1==k)=false:=λh=>beq_eq_false_iff_ne.2 h;have c:∀{k:Int},a.1=k->(a.1==k)=true:=λh=>beq_iff_eq.2 h;by_cases d:a.1=1;·rw[zhp d];exact ae (aF (c d) (aa (aa rfl)))
 by_cases e:a.1=2;·rw[zhq e];exact ae (an (b d) (aF (c e) (aa (aa rfl))))
 by_cases f:a.1=3;·rw[zhr f];exact ae (an (b d) (an (b e) (aF (c f) (aa (aa rfl)))))
 by_cases g:a.1=4;·rw[zhs g];exact ae (an (b d) (an (b e) (an (b f) (aF (c g) (aa (aa rfl))))))
 by_cases j:a.1=5;·rw[zht j];exact ae (an (b d) (an (b e) (an (b f) (an (b g) (aF (c j) (aa (aa rfl)))))))
 by_cases p:a.1=6;·rw[zhu p];exact ae (an (b d) (an (b e) (an (b f) (an (b g) (an (b j) (aF (c p) (aj (KI cm a.2.2.2.1 (by omega)) (aa (aa rfl)))))))))
 by_cases w:a.1=7;·rw[zhv w];exact ae (an (b d) (an (b e) (an (b f) (an (b g) (an (b j) (an (b p) (aF (c w) (aj (I0 cm a.2.2.2.1 (by omega)) (aa (aa rfl))))))))))
 have u:a.1=8:=by omega
 obtain⟨F,H⟩:=TW A u;generalize l:a.2.1=N at F H;obtain⟨m,rfl⟩:=F_ (show 0<=N by omega);refine ae (an (b d) (an (b e) (an (b f) (an (b g) (an (b j) (an (b p) (an (b w) (aF (c u) ?_))))))));have B:a_ .i64 ((pt.length:Int)+(m:Int))=(pt.length:Int)+(m:Int):=wrap_i64 (by omega) (by omega);have v:a_ .i64 ((m:Int)+(pt.length:Int))=(m:Int)+(pt.length:Int):=wrap_i64 (by omega) (by omega);simp only[l,B,v];refine ao (λh=>?_) λh=>aa (aa ?_)
 ·have h:=of_decide_eq_true h;rw[zhw u (by omega),l];refine aD (by grind) ?_;refine ae (bb (N:=m) (I:=λi s=>s=((i:Int),y,z,po,nh,pt,cm,pf,md,mt,tg,(0:Int),(0:Int),(0:Int),(0:Int),(0:Int),(0:Int),(0:Int),(0:Int),g_ i a.2.2.1++g_ (m - i) (0:Int),())) rfl (λi s E hs=>?_) λs hs=>?_)
  ·subst hs;unfold rR;simp only[l];have hl:(g_ i a.2.2.1++g_ (m - i) (0:Int)).length=m:=by grind
   refine aF (decide_eq_true (by grind)) ?_;refine aG (by omega) (mP (x:=(g_ i a.2.2.1++g_ (m - i) (0:Int))[i]'(by omega)) (by grind) (aa ?_));show(a_ .i64 ((i:Int)+1),y,z,po,nh,pt,cm,pf,md,mt,tg,(0:Int),(0:Int),(0:Int),(0:Int),(0:Int),(0:Int),(0:Int),(0:Int),(g_ i a.2.2.1++g_ (m - i) (0:Int)).set (y_ (i:Int)) a.2.2.1,())=_;rw[aB E (by omega),r_];have:(g_ i a.2.2.1++g_ (m - i) (0:Int)).set i a.2.2.1=g_ (i+1) a.2.2.1++g_ (m - (i+1)) (0:Int):=by rw[List.set_append_right _ _ (by simp),List.length_replicate,ab_,show m - i=(m - (i+1))+1 by omega,List.replicate_succ,List.set_cons_zero,M_ (n:=i),List.append_assoc];rfl
   grind
  ·subst hs;unfold rR;simp only[l];refine an (decide_eq_false (by simp)) (aa ?_);simp only[ab_,List.replicate_zero,j_];refine aD (decide_eq_true (by grind)) (aa (aa ?_));simp
 ·have h:=of_decide_eq_false h;rw[zhx u (by omega)]
theorem Oe(t:Gd):aC tbl sG [.d yT t] [] oA (([([112],[([116],t.2.1,t.2.2.1,1,())],1,())]:List Kl),()):=ap rfl (aA PM rfl (λO n=>bK (OG O n t)) (aa rfl))
theorem zfU{a:CL}(h:okD yA a):SmP (zer a):=by
 have l1:(1:Nat)<=maxLen:=by decide
 have c:IntKind.i64.min<=(1:Int)/\(1:Int)<=IntKind.i64.max:=by decide
 have e:okD yT ([116],[],[a],1,()):=by refine⟨l1,⟨h_ _,λy b=>by grind⟩,⟨l1,λx d=>?_⟩,c,trivial⟩;grind
 have hp:okD yO ([112],[([116],[],[a],1,())],1,()):=by refine⟨l1,⟨l1,λx d=>?_⟩,c,trivial⟩;grind
 refine⟨⟨⟨h_ _,λy b=>by grind⟩,⟨h_ _,λy b=>by grind⟩,⟨h_ _,λy b=>by grind⟩,⟨l1,λy b=>?_⟩,trivial⟩,h_ _,h_ _,h_ _,show(1:Nat)<=1048576 by simp,λl hl=>by grind⟩;grind
theorem Tu(l:List CL)(r:p6)(hl:l.length<=100000)(g:∀a∈l,okD yA a)(hr:SmR 100000 r):aC tbl xu [.d (.list yA) l,.d Qs r] [] tL (I6 l r,()):=by
 refine ap rfl (aA Wn rfl (λO n=>bK (J8 O n l r)) ?_);unfold J8;refine aj (G7 r (by have:=hr.pt;omega) (by have:=hr.cm;omega)) ?_;have enc:∀x:p6,x=((x.1.1,x.1.2.1,()),x.2.1,x.2.2.1,x.2.2.2.1,x.2.2.2.2.1,x.2.2.2.2.2.1,x.2.2.2.2.2.2.1,x.2.2.2.2.2.2.2.1,x.2.2.2.2.2.2.2.2.1,()):=λx=>rfl;refine ae (bb (N:=l.length) (I:=λi s=>∃x:p6,x=I6 (l.take i) r/\s=((i:Int),(0:Int),(0:Int),(0:Int),(0:Int),(0:Int),(0:Int),(0:Int),(0:Int),x.1.1,x.1.2.1,x.2.1,x.2.2.1,x.2.2.2.1,x.2.2.2.2.1,x.2.2.2.2.2.1,x.2.2.2.2.2.2.1,x.2.2.2.2.2.2.2.1,x.2.2.2.2.2.2.2.2.1,())) ⟨r,rfl,rfl⟩ (λi s c hs=>?_) λs hs=>?_)
 ·obtain⟨x,e,rfl⟩:=hs;unfold xW;have d:SmR (100000+(l.take i).length) x:=by rw[e];exact Y9 hr
  have hc:=d.cm;have hp:=d.pt;have f:=g _ (b_ c);have b:I6 (l.take (i+1)) r=Mg l[i] x:=by unfold I6 at e⊢;rw[c_ c,u_,e];rfl
  refine a7 c (ae (aG c (aj (Oe _) (aj (vM (zer l[i]) (zfU f)) ?_))));rw[zhd];refine ao (λh=>?_) λh=>?_
  ·have h:i8 l[i]=0:=by grind
   rw[show Mg l[i] x=K2 l[i] x from if_pos h]at b;refine aj (LY l[i] x h (by omega) (by grind)) (aa (aa ⟨K2 l[i] x,b.symm,?_⟩));show(a_ .i64 ((i:Int)+1),_)=_;rw[aB c (by omega)]
  ·have h:¬i8 l[i]=0:=by grind
   rw[show Mg l[i] x=x from if_neg h]at b;refine aa (aa ⟨x,b.symm,?_⟩);show(a_ .i64 ((i:Int)+1),_)=_;rw[aB c (by omega)]
 ·obtain⟨x,e,rfl⟩:=hs;unfold xW;refine aU (aa (aa ?_));grind
theorem TL(a:CL)(r:p6)(B:r.2.2.2.1.length<=900000)(C:r.2.2.2.2.1.length<=900000):aC tbl xF [.d yA a,.d Qs r] [] mG (Mg a r,()):=by
 obtain⟨⟨g,j,⟨⟩⟩,po,nh,pt,cm,pf,md,mt,tg,⟨⟩⟩:=r;simp only at B C;refine ap rfl (aA Wz rfl (λO n=>bK (Ki O n a ((g,j,()),po,nh,pt,cm,pf,md,mt,tg,()))) ?_);unfold Ki;refine aj (CS a) (ao (λh=>aa ?_) λh=>?_);·rw[show Mg a ((g,j,()),po,nh,pt,cm,pf,md,mt,tg,())=((g,j,()),po,nh,pt,cm,pf,md,mt,tg,())from if_neg (by grind)]
 have x:i8 a=0:=by grind
 rw[show Mg a ((g,j,()),po,nh,pt,cm,pf,md,mt,tg,())=K2 a ((g,j,()),po,nh,pt,cm,pf,md,mt,tg,())from if_pos x];have F:=Qv x;have b:∀{k:Int},a.1≠k->(a.1==k)=false:=λh=>beq_eq_false_iff_ne.2 h;have c:∀{k:Int},a.1=k->(a.1==k)=true:=λh=>beq_iff_eq.2 h;by_cases d:a.1=1;·rw[zhp d];exact ae (aF (c d) (aa (aa rfl)))
 by_cases e:a.1=2;·rw[zhq e];exact ae (an (b d) (aF (c e) (aa (aa rfl))))
 by_cases f:a.1=3;·rw[zhr f];exact ae (an (b d) (an (b e) (aF (c f) (aa (aa rfl)))))
 by_cases l:a.1=4;·rw[zhs l];exact ae (an (b d) (an (b e) (an (b f) (aF (c l) (aa (aa rfl))))))
 by_cases p:a.1=5;·rw[zht p];exact ae (an (b d) (an (b e) (an (b f) (an (b l) (aF (c p) (aa (aa rfl)))))))
 by_cases v:a.1=6;·rw[zhu v];exact ae (an (b d) (an (b e) (an (b f) (an (b l) (an (b p) (aF (c v) (aj (TG cm a.2.2.2.1 (by omega)) (aa (aa rfl)))))))))
 by_cases y:a.1=7;·rw[zhv y];exact ae (an (b d) (an (b e) (an (b f) (an (b l) (an (b p) (an (b v) (aF (c y) (aj (Ry cm a.2.2.2.1 (by omega)) (aa (aa rfl))))))))))
 have w:a.1=8:=by omega
 obtain⟨D,E⟩:=TW x w;generalize u:a.2.1=N at D E;obtain⟨m,rfl⟩:=F_ (show 0<=N by omega);refine ae (an (b d) (an (b e) (an (b f) (an (b l) (an (b p) (an (b v) (an (b y) (aF (c w) ?_))))))));have A:a_ .i64 ((pt.length:Int)+(m:Int))=(pt.length:Int)+(m:Int):=wrap_i64 (by omega) (by omega);simp only[u,A];refine ao (λh=>aa (aa ?_)) λh=>?_;·have h:=of_decide_eq_true h;rw[zhx w (by omega)]
 ·have h:=of_decide_eq_false h;rw[zhw w (by omega),u];refine ae (bb (N:=m) (I:=λi s=>s=((i:Int),g,j,po,nh,pt,cm,pf,md,mt,tg,(0:Int),(0:Int),(0:Int),(0:Int),(0:Int),(0:Int),(0:Int),(0:Int),g_ i a.2.2.1,())) rfl (λi s z hs=>?_) λs hs=>?_);·subst hs;unfold x5;simp only[u];refine a7 z (aD (decide_eq_true (by grind)) (aa ?_));show(a_ .i64 ((i:Int)+1),g,j,po,nh,pt,cm,pf,md,mt,tg,(0:Int),(0:Int),(0:Int),(0:Int),(0:Int),(0:Int),(0:Int),(0:Int),g_ i a.2.2.1++[a.2.2.1],())=_;rw[aB z (by omega),M_ (n:=i)]
  ·subst hs;unfold x5;simp only[u];refine aU (aa ?_);refine aD (decide_eq_true (by grind)) (aa (aa ?_));simp
theorem TI(l:List CL)(r:p6)(hl:l.length<=100000)(hr:SmR 100000 r):aC tbl xC [.d (.list yA) l,.d Qs r] [] tP (I6 l r,()):=by
 refine ap rfl (aA Ww rfl (λO n=>bK (Kf O n l r)) ?_);unfold Kf;refine aj (Ot r (by have:=hr.pt;omega) (by have:=hr.cm;omega)) ?_;refine ae (bb (N:=l.length) (I:=λi s=>∃x:p6,x=I6 (l.take i) r/\s=((i:Int),x.1.1,x.1.2.1,x.2.1,x.2.2.1,x.2.2.2.1,x.2.2.2.2.1,x.2.2.2.2.2.1,x.2.2.2.2.2.2.1,x.2.2.2.2.2.2.2.1,x.2.2.2.2.2.2.2.2.1,(0:Int),(0:Int),(0:Int),(0:Int),(0:Int),(0:Int),(0:Int),(0:Int),())) ⟨r,rfl,rfl⟩ (λi s c hs=>?_) λs hs=>?_)
 ·obtain⟨x,d,rfl⟩:=hs;unfold xY;have b:SmR (100000+(l.take i).length) x:=by rw[d];exact Y9 hr
  have hc:=b.cm;have hp:=b.pt;have a:I6 (l.take (i+1)) r=Mg l[i] x:=by unfold I6 at d⊢;rw[c_ c,u_,d];rfl
  refine a7 c (aG c (aj (TL l[i] x (by omega) (by grind)) (aa ⟨Mg l[i] x,a.symm,?_⟩)));show(a_ .i64 ((i:Int)+1),_)=_;rw[aB c (by omega)]
 ·obtain⟨x,d,rfl⟩:=hs;unfold xY;refine aU (aa (aa ?_));grind
theorem QX{s:PS}{m:MAT}(h:wX s m=0):1<=m.1/\m.1<=8:=by refine f_ λhn=>?_;rw[Nh (show m.1<1\/8<m.1 by omega)]at h;omega
theorem TY{α:Type}{p:α->Bool}{l:List α}{i:Nat}(a:i<l.length):(l.take (i+1)).all p=((l.take i).all p&&p l[i]):=by rw[c_ a,I_];simp
abbrev eE{α:Type}(s:PS)(r:p6)(x:α):List PLS×List HLS×List CLS×List Kl×Int×Int×Int×Int×List Int×List Int×Int×Int×Int×Int×α:=
 (s.1,s.2.1,s.2.2.1,s.2.2.2.1,r.1.1,r.1.2.1,r.2.1,r.2.2.1,r.2.2.2.1,r.2.2.2.2.1,r.2.2.2.2.2.1,r.2.2.2.2.2.2.1,r.2.2.2.2.2.2.2.1,r.2.2.2.2.2.2.2.2.1,x)
abbrev zE{α:Type}(x:α):Bool×Int×Int×Int×Int×Int×Int×Int×Int×α:=(false,0,0,0,0,0,0,0,0,x)
theorem ev0(s:PS)(r:p6)(h:SmQ s r)(t:Gd)(e:TrmOk s t)(f:∀m∈t.2.1,gU m.2.2.2.1.1)(T:List Int)(A:List CL): Wp (λn=>aL n (jM (s5 tbl n) n t) (true,(0:Int),zE (eE s r (T,A,t.1,t.2.1,t.2.2.1,t.2.2.2.1,())))) λx=>x=(wS s r t,zE (eE s r (T,A,t.1,t.2.1,t.2.2.1,t.2.2.2.1,()))):=by
 refine bb (N:=t.2.1.length) (I:=λi x=>x=((t.2.1.take i).all (XF s r),(i:Int),zE (eE s r (T,A,t.1,t.2.1,t.2.2.1,t.2.2.2.1,())))) rfl (λi x b d=>?_) λx d=>?_
 ·subst d;unfold jM;have hl:=e.ml;have c:=b_ b;refine a7 b (aG b (ao (λa=>?_) λa=>aa ?_));·refine aj (zeI s t.2.1[i] r h (QX (e.ma _ c)) (f _ c)) (aa ?_);show(XF s r t.2.1[i],a_ .i64 ((i:Int)+1),_)=_;have a:(t.2.1.take i).all (XF s r)=true:=a;rw[TY b,a,q_,aB b (by omega)]
  ·show(false,a_ .i64 ((i:Int)+1),_)=_;have a:(t.2.1.take i).all (XF s r)=false:=a;rw[TY b,a,K_,aB b (by omega)]
 ·subst d;unfold jM;refine aU (aa ?_);rw[k_];rfl
theorem wh{hold:Gd->Bool}{t:Gd}{l:List Gd}{i:Nat}{d:Int}:jt hold (t::l) i d=if hold t then(if t.2.2.2.1≠3 then([(i:Int)],t.2.2.1,t.2.2.2.1)else((i:Int)::(jt hold l (i+1) d).1,t.2.2.1++(jt hold l (i+1) d).2.1,(jt hold l (i+1) d).2.2))else jt hold l (i+1) d:=rfl
noncomputable def E6(s:PS)(p:Kl)(r:p6):List Int×List CL×Int:=jt (wS s r) p.2.1 0 p.2.2.1
noncomputable def YY(s:PS)(p:Kl)(r:p6):Bool×(p6×Unit):=if(E6 s p r).2.2=2 then(false,zck,())else(true,I6 (E6 s p r).2.1 r,())
theorem zdd{s:PS}{p:Kl}{r:p6}(hs:okD yO p):∀a∈(E6 s p r).2.1,okD yA a:=by
 have key:∀(l:List Gd) (i:Nat) (d:Int),(∀t∈l,okD yT t)->∀a∈(jt (wS s r) l i d).2.1,okD yA a:=by
  intro l;induction l with
  |nil=>intro i d _ a b;cases b|cons t l e=>
   intro i d h a b;rw[wh]at b;have c:=h t (by simp);split at b
   ·split at b;·exact c.2.2.1.2 a b
    ·rcases List.mem_append.1 b with b|b;·exact c.2.2.1.2 a b
     grind
   grind
 exact key p.2.1 0 p.2.2.1 hs.2.1.2
theorem IZ(s:PS)(p:Kl)(r:p6)(h:SmQ s r)(hp:PlcOk s p)(u:okD yO p):aC tbl mQ [.d yS s,.d yO p,.d Qs r] [] gA ((E6 s p r).1,YY s p r,()):=by
 refine ap rfl (aA JR rfl (λO n=>bK (zv O n s p r)) ?_);unfold zv;have J:=hp.tl;have C:∀t∈p.2.1,t.2.2.1.length<=64:=λt H=>(hp.tr t H).al;generalize g:E6 s p r=R;have D:R.1.length<=64/\R.2.1.length<=64*64:=by have:=zS (hold:=wS s r) (l:=p.2.1) (i:=0) (d:=p.2.2.1) C;have e:jt (wS s r) p.2.1 0 p.2.2.1=R:=g;grind
 refine aj (Ru s r) (ae (Wp.imp (Q:=λx=>x=(R.2.2,zE (R.1,R.2.1,()))) (bb (N:=p.2.1.length) (I:=λi x=>∃(T:List Int) (A:List CL),x=(p.2.2.1,(i:Int),zE (eE s r (T,A,())))/\T++(jt (wS s r) (p.2.1.drop i) i p.2.2.1).1=R.1/\A++(jt (wS s r) (p.2.1.drop i) i p.2.2.1).2.1=R.2.1/\(jt (wS s r) (p.2.1.drop i) i p.2.2.1).2.2=R.2.2) ⟨[],[],rfl,by rw[t_,<-g];rfl,by rw[t_,<-g];rfl,by rw[t_,<-g];rfl⟩ (λi x k B=>?_) λx B=>?_) λx B=>?_))
 ·obtain⟨T,A,rfl,b,c,a⟩:=B;unfold o9;have hT:T.length<=64:=by grind
  have Y:A.length<=64*64:=by grind
  have hw:a_ .i64 ((i:Int)+1)=((i+1:Nat):Int):=aB k (by omega);rw[i_ k,wh]at b c a;have w:=b_ k;have f:=hp.tr _ w;have v:=u.2.1.2 _ w;refine a7 k (ae (aG k ?_));generalize p.2.1[i]=t at b c a f v;have E:=f.al;refine ae (Wp.imp (ev0 s r h t f (λm F=>((v.2.1.2 m F).2.2.2.1).1) T A) λy L=>?_);subst L;refine ao (λj=>aa (aa ?_)) λj=>?_;·grind
  ·have j:wS s r t=true:=by grind
   rw[j]at b c a;refine aD (decide_eq_true (by grind)) (aD (decide_eq_true (by grind)) (ao (λz=>aa (aa ?_)) λz=>aa (aa ?_)));·grind
   ·have z:¬t.2.2.2.1≠3:=by grind
    rw[if_pos rfl,if_neg z]at b c a;refine⟨T++[(i:Int)],A++t.2.2.1,?_,?_,?_,a⟩;all_goals grind
 ·obtain⟨T,A,rfl,b,c,a⟩:=B;unfold o9;rw[G_]at b c a;refine aU (aa ?_);show(p.2.2.1,zE (T,A,()))=_;have M:T=R.1:=by rw[<-b];exact(j_ T).symm
  have P:A=R.2.1:=by rw[<-c];exact(j_ A).symm
  have U:p.2.2.1=R.2.2:=a;grind
 ·subst B;have z:YY s p r=if R.2.2=2 then(false,zck,())else(true,I6 R.2.1 r,()):=by unfold YY;grind
  rw[z];refine ao (λj=>aa ?_) λj=>?_;·grind
  ·rw[if_neg (by grind)];refine aj (Tu R.2.1 r (by omega) (by rw[<-g];exact zdd u) ⟨by have:=h.pt;omega,h.cm⟩) (aa rfl)
noncomputable def wZ(s:PS)(n:List UInt8)(r:p6):Int:=if sv gl s≠0 then sv gl s else if(uN s n).isSome=false then 6 else BA r
noncomputable def Iv(s:PS)(n:List UInt8):Kl:=if sv gl s≠0 then WM else(uN s n).getD WM
theorem KH(s:PS)(n:List UInt8)(r:p6)(h:SmQ s r):aC tbl oO [.d yS s,.d tS n,.d Qs r] [] fy (Iv s n,wZ s n r,()):=by
 refine ap rfl (aA Lp rfl (λO k=>bK (BS O k s n r)) ?_);unfold BS;refine aj (vM s h.s) (ao (λa=>aa ?_) λa=>?_)
 ·have a:sv gl s≠0:=by grind
  rw[show Iv s n=WM from if_pos a,show wZ s n r=sv gl s from if_pos a]
 have a:¬sv gl s≠0:=by grind
 have c:=Iu (f_ a);rw[show Iv s n=(uN s n).getD WM from if_neg a,show wZ s n r=if(uN s n).isSome=false then 6 else BA r from if_neg a];refine aj (Fu s n c) (ao (λb=>aa ?_) λb=>aj (Od r h.p) (aa ?_))
 ·have b:(uN s n).isSome=false:=by grind
  rw[if_pos b];cases e:uN s n with|some p=>grind|none=>rfl
 grind
theorem FA(s:PS)(n:List UInt8)(r:p6)(h:SmQ s r)(hc:aC tbl nZ [.d Qs r] [] cG (BA r,())):aC tbl oa [.d yS s,.d tS n,.d Qs r] [] gx (Iv s n,wZ s n r,()):=by
 refine ap rfl (aA Qd rfl (λO k=>bK (F0 O k s n r)) ?_);unfold F0;refine aj (Fx s h.s) (ao (λa=>aa ?_) λa=>?_)
 ·have a:sv gl s≠0:=by grind
  rw[show Iv s n=WM from if_pos a,show wZ s n r=sv gl s from if_pos a]
 have a:¬sv gl s≠0:=by grind
 have c:=Iu (f_ a);have d:=c.l4;rw[show Iv s n=(uN s n).getD WM from if_neg a,show wZ s n r=if(uN s n).isSome=false then 6 else BA r from if_neg a];refine aj (Hc s n (by omega)) (ao (λb=>aa ?_) λb=>aj hc (aa ?_))
 ·have b:(uN s n).isSome=false:=by grind
  rw[if_pos b];cases e:uN s n with|some p=>grind|none=>rfl
 grind
theorem Ap(x:Int):aC tbl mV [.d tI x] [] km (decide (x>=0)&&decide (x<=4294967295),()):=by refine ap rfl (aA Td rfl (λO k=>bK (Hq O k x)) ?_);unfold Hq;exact ae (ba (b:=decide (x<=4294967295)) (λ_=>aa rfl) (aa rfl))
theorem Fz(r:p6)(hp:gU r.1.1):aC tbl nZ [.d Qs r] [] cG (BA r,()):=by
 refine ap rfl (aA Qa rfl (λO n=>bK (FX O n r)) ?_);unfold FX;refine aj (dG r.1 hp) (ao (λh=>aa ?_) λh=>?_);·rw[show BA r=1 from if_pos (by grind)]
 have j:dE r.1=true:=by grind
 refine ae (bn (b:=decide (r.2.1>7)) (λ_=>aa rfl) (ao (λh=>aa ?_) λh=>?_));·rw[show BA r=5 from by unfold BA;grind]
 have k:¬(r.2.1<1\/7<r.2.1):=by grind
 refine ao (λh=>aa ?_) λh=>?_;·rw[show BA r=4 from by unfold BA;grind]
 have l:¬r.2.2.2.1.length>2000:=by grind
 rw[Rq j k l];refine ae (vF (xs:=r.2.2.2.1) (P:=λv=>1<=v/\v<=4294967295) (e:=((5:Int),())) (g:=()) (λi a=>?_) ?_ (λh=>?_) λh=>aa ?_);·unfold uk;refine a7 a (aG a (ae (bn (b:=decide (r.2.2.2.1[i]>4294967295)) (λ_=>aa rfl) (s8 ?_ (by rw[aB a (by omega)])))));grind
 ·unfold uk;exact aU (aa rfl)
 ·rw[if_neg (not_not_intro h)];refine aj (Ol r.2.2.2.2.1) (ao (λh=>aa ?_) λh=>?_);·grind
  rw[if_neg (by grind)];generalize r.2.2.2.2.2.1=x0;generalize r.2.2.2.2.2.2.1=c;generalize r.2.2.2.2.2.2.2=y;obtain⟨f,d,⟨⟩⟩:=y;refine aj (Ap x0) (ae (bn (b:= !(decide (c>=0)&&decide (c<=4294967295))) (λ_=>aj (Ap c) (aa rfl)) ?_));refine ae (bn (b:= !(decide (d>=0)&&decide (d<=4294967295))) (λ_=>aj (Ap d) (aa rfl)) ?_);refine ae (bn (b:=decide (f<0)) (λ_=>aa rfl) (ae (bn (b:=decide (f>16777216)) (λ_=>aa rfl) (ao (λh=>aa ?_) λh=>aa ?_))));all_goals grind
 grind
theorem NF{s:PS}{n:List UInt8}{r:p6}(h:wZ s n r=0):∃p,uN s n=some p/\Iv s n=p/\PolOk gl s/\BA r=0:=by
 unfold wZ at h;split at h;·omega
 rename_i a;split at h;·omega
 rename_i b;cases e:uN s n with|none=>grind|some p=>exact⟨p,rfl,by unfold Iv;grind,Iu (f_ a),h⟩
noncomputable def SQ(s:PS)(n:List UInt8)(r:p6):Bool×(p6×Unit):=if wZ s n r≠0 then(false,zck,())else YY s (Iv s n) r
noncomputable def runT(s:PS)(n:List UInt8)(r:p6):List Int:=if wZ s n r≠0 then []else(E6 s (Iv s n) r).1
theorem Tv(s:PS)(n:List UInt8)(r:p6)(h:SmQ s r):aC tbl xv [.d yS s,.d tS n,.d Qs r] [] pT (SQ s n r,wZ s n r,()):=by
 refine ap rfl (aA Wo rfl (λO k=>bK (J9 O k s n r)) ?_);unfold J9;refine aj (KH s n r h) (ao (λa=>aa ?_) λa=>?_)
 ·have a:wZ s n r≠0:=by grind
  rw[show SQ s n r=(false,zck,())from if_pos a]
 ·have a:wZ s n r=0:=by grind
  obtain⟨p,b,c,d,_⟩:=NF a;rw[show SQ s n r=YY s (Iv s n) r from if_neg (not_not_intro a),c,a];exact aj (IZ s p r h (d.r4 p (zY b)) (h.s.ok.2.2.2.1.2 p (zY b))) (aa rfl)
theorem RB(s:PS)(r:p6)(h:SmQ s r)(t:Gd)(c:TrmOk s t)(d:∀m∈t.2.1,gU m.2.2.2.1.1):aC tbl vo [.d yS s,.d yT t,.d Qs r] [] m6 (wS s r t,()):=by
 refine ap rfl (aA Tc rfl (λO n=>bK (Hp O n s t r)) ?_);unfold Hp;have hl:=c.ml;refine ae (vF (xs:=t.2.1) (P:=λm=>XF s r m=true) (e:=(false,())) (g:=()) (λi b=>?_) ?_ (λh=>aa ?_) λh=>aa ?_);·unfold vY;have a:=b_ b;refine a7 b (aG b (aj (TJ s t.2.1[i] r h (QX (c.ma _ a)) (d _ a)) (s8 ?_ (by rw[aB b (by omega)]))));show(false ^^ (lz s t.2.1[i] r==t.2.1[i].2.2.2.2.1))=true↔¬(true ^^ (lz s t.2.1[i] r==t.2.1[i].2.2.2.2.1))=true;simp
 ·unfold vY;exact aU (aa rfl)
 ·rw[show wS s r t=true from S_.2 h]
 ·rw[show wS s r t=false from by cases e:wS s r t;rfl;exact absurd (S_.1 e) h]
theorem Ou(s:PS)(n:List UInt8)(r:p6)(h:SmQ s r):aC tbl sU [.d yS s,.d tS n,.d Qs r] [] kP (runT s n r,wZ s n r,()):=by
 refine ap rfl (aA Qc rfl (λO k=>bK (FZ O k s n r)) ?_);unfold FZ;refine aj (FA s n r h (Fz r h.p)) (ao (λa=>aa ?_) λa=>?_)
 ·have a:wZ s n r≠0:=by grind
  rw[show runT s n r=[]from if_pos a]
 have a:wZ s n r=0:=by grind
 obtain⟨p,y,B,C,_⟩:=NF a;rw[show runT s n r=(E6 s (Iv s n) r).1 from if_neg (not_not_intro a),B,a];have hp:=C.r4 p (zY y);have v:=h.s.ok.2.2.2.1.2 p (zY y);have F:=hp.tl;generalize z:(E6 s p r).1=R;have A:R.length<=64:=by have:=zS (hold:=wS s r) (l:=p.2.1) (i:=0) (d:=p.2.2.1) (λt E=>(hp.tr t E).al);have e:(jt (wS s r) p.2.1 0 p.2.2.1).1=R:=z;grind
 refine ae (Wp.imp (Q:=λx=>x=(R,())) (bb (N:=p.2.1.length) (I:=λi x=>∃T:List Int,x=((i:Int),T,())/\T++(jt (wS s r) (p.2.1.drop i) i p.2.2.1).1=R) ⟨[],rfl,by rw[t_,<-z];rfl⟩ (λi x c u=>?_) λx u=>?_) λx u=>?_)
 ·obtain⟨T,rfl,b⟩:=u;unfold um;have H:T.length<=64:=by grind
  have J:a_ .i64 ((i:Int)+1)=((i+1:Nat):Int):=aB c (by omega);rw[i_ c,wh]at b;have g:=b_ c;have j:=hp.tr _ g;have f:=v.2.1.2 _ g;refine a7 c (ae (aG c ?_));generalize p.2.1[i]=t at b j f;refine aj (RB s r h t j (λm D=>((f.2.1.2 m D).2.2.2.1).1)) (ao (λa=>aa (aa ?_)) λa=>?_);·grind
  ·have a:wS s r t=true:=by grind
   rw[a]at b;refine aD (decide_eq_true (by grind)) (ao (λw=>aa (aa ?_)) λw=>aa (aa ?_));·grind
   ·have w:¬t.2.2.2.1≠3:=by grind
    rw[if_pos rfl,if_neg w]at b;refine⟨T++[(i:Int)],?_,?_⟩;all_goals grind
 ·obtain⟨T,rfl,b⟩:=u;unfold um;rw[G_]at b;refine aU (aa ?_);show(T,())=_;rw[show T=R from by rw[<-b];exact(j_ T).symm]
 ·subst u;exact aa rfl
def Ea(l:List Gd)(x:Int×List CL)(v:Int):Int×List CL:=((if(l.getD v.toNat ([],[],[],0,())).2.2.2.1≠3 then(l.getD v.toNat ([],[],[],0,())).2.2.2.1 else x.1),x.2++(l.getD v.toNat ([],[],[],0,())).2.2.1)
theorem Wl{hold:Gd->Bool}{l:List Gd}{d:Int}:∀(k i:Nat) (A:List CL),i+k=l.length->(jt hold (l.drop i) i d).1.foldl (Ea l) (d,A)=((jt hold (l.drop i) i d).2.2,A++(jt hold (l.drop i) i d).2.1)
 |0,i,A,h=>by rw[List.drop_eq_nil_of_le (by omega)];show(d,A)=(d,A++[]);simp
 |k+1,i,A,h=>by
  have a:i<l.length:=by omega
  have c:=λA=>Wl (hold:=hold) (l:=l) (d:=d) k (i+1) A (by omega);have hg:l.getD ((i:Int).toNat) ([],[],[],0,())=l[i]:=by grind
  rw[i_ a,wh];split
  ·split;·rename_i b;show Ea l (d,A) (i:Int)=_;unfold Ea;grind
   ·rename_i b;show(jt hold (l.drop (i+1)) (i+1) d).1.foldl (Ea l) (Ea l (d,A) (i:Int))=_;have e:Ea l (d,A) (i:Int)=(d,A++l[i].2.2.1):=by unfold Ea;grind
    grind
  grind
theorem U4{hold:Gd->Bool}:∀(l:List Gd) (i:Nat) (d:Int),∀v∈(jt hold l i d).1,(i:Int)<=v/\v<((i+l.length:Nat):Int)
 |[],_,_,v,a=>by cases a
 |t::l,i,d,v,a=>by have b:=U4 (hold:=hold) l (i+1) d v;rw[wh]at a;grind
theorem TK(s:PS)(n:List UInt8)(r:p6)(h:SmQ s r):aC tbl xE [.d yS s,.d tS n,.d Qs r] [] mF (SQ s n r,wZ s n r,()):=by
 refine ap rfl (aA Wy rfl (λO k=>bK (Kh O k s n r)) ?_);unfold Kh;refine aj (FA s n r h (Fz r h.p)) (ao (λa=>aa ?_) λa=>?_)
 ·have a:wZ s n r≠0:=by grind
  rw[show SQ s n r=(false,zck,())from if_pos a]
 have a:wZ s n r=0:=by grind
 obtain⟨p,H,J,P,_⟩:=NF a;have D:=Ou s n r h;rw[show runT s n r=(E6 s (Iv s n) r).1 from if_neg (not_not_intro a),J]at D;rw[show SQ s n r=YY s (Iv s n) r from if_neg (not_not_intro a),J,a];rw[a]at D;refine aj D ?_;have hp:=P.r4 p (zY H);have F:=h.s.ok.2.2.2.1.2 p (zY H);have U:=hp.tl;have c:∀t∈p.2.1,t.2.2.1.length<=64:=λt T=>(hp.tr t T).al;have f:(E6 s p r).1.foldl (Ea p.2.1) (p.2.2.1,[])=((E6 s p r).2.2,(E6 s p r).2.1):=Wl (hold:=wS s r) (l:=p.2.1) (d:=p.2.2.1) p.2.1.length 0 [] (by simp);have u:∀v∈(E6 s p r).1,0<=v/\v.toNat<p.2.1.length:=λv y=>by have:=U4 (hold:=wS s r) p.2.1 0 p.2.2.1 v y;omega
 have w:(E6 s p r).1.length<=64:=by have:=(zS (hold:=wS s r) (l:=p.2.1) (i:=0) (d:=p.2.2.1) c).1;have e:(jt (wS s r) p.2.1 0 p.2.2.1).1=(E6 s p r).1:=rfl;grind
 have g:(E6 s p r).2.1.length<=64*64:=by have:=(zS (hold:=wS s r) (l:=p.2.1) (i:=0) (d:=p.2.2.1) c).2;have e:(jt (wS s r) p.2.1 0 p.2.2.1).2.1=(E6 s p r).2.1:=rfl;grind
 have y:YY s p r=if(E6 s p r).2.2=2 then(false,zck,())else(true,I6 (E6 s p r).2.1 r,()):=rfl;rw[y];have E:=zdd (s:=s) (r:=r) F;generalize E6 s p r=R at f u w g E;refine ae (Wp.imp (Q:=λx=>x=(R.2.2,zE (R.2.1,()))) (bb (N:=R.1.length) (I:=λi x=>x=(((R.1.take i).foldl (Ea p.2.1) (p.2.2.1,[])).1,(i:Int),zE (p.1,p.2.1,p.2.2.1,((R.1.take i).foldl (Ea p.2.1) (p.2.2.1,[])).2,()))/\((R.1.take i).foldl (Ea p.2.1) (p.2.2.1,[])).2.length<=64*i) ⟨rfl,h_ _⟩ (λi x j z=>?_) λx z=>?_) λx z=>?_)
 ·obtain⟨rfl,L⟩:=z;unfold xZ;have hw:a_ .i64 ((i:Int)+1)=((i+1:Nat):Int):=aB j (by omega);obtain⟨C,B⟩:=u _ (b_ j);have b:(R.1.take (i+1)).foldl (Ea p.2.1) (p.2.2.1,[])=Ea p.2.1 ((R.1.take i).foldl (Ea p.2.1) (p.2.2.1,[])) R.1[i]:=by rw[c_ j,u_];rfl
  generalize(R.1.take i).foldl (Ea p.2.1) (p.2.2.1,[])=X at L b;obtain⟨d,A⟩:=X;simp only at L;refine a7 j (ae (aG j ?_));rw[b];generalize R.1[i]=v at C B;have hg:p.2.1.getD v.toNat ([],[],[],0,())=p.2.1[v.toNat]:=by grind
  have Y:=c _ (b_ B);have M:Ea p.2.1 (d,A) v=((if p.2.1[v.toNat].2.2.2.1≠3 then p.2.1[v.toNat].2.2.2.1 else d),A++p.2.1[v.toNat].2.2.1):=by unfold Ea;grind
  rw[M];refine To C B (aD (decide_eq_true (by grind)) (To C B (ao (λy=>To C B (aa (aa ⟨?_,?_⟩))) λy=>aa (aa ⟨?_,?_⟩))));·grind
  all_goals grind
 ·obtain⟨rfl,_⟩:=z;unfold xZ;refine aU (aa ?_);grind
 ·subst z;refine ao (λa=>aa ?_) λa=>?_;·grind
  ·rw[if_neg (by grind)];exact aj (TI R.2.1 r (by omega) ⟨by have:=h.pt;omega,h.cm⟩) (aa rfl)
theorem A0:aC tbl tw [] [] pV (((167772160,(8,()))),()):=LI (m:=90) λk=>by kernel_rfl
theorem A1:aC tbl eB [.d (.list (pr [(pr [tW,tI]),tI,tI,tI,tI,(.list (pr [tW,tI,tW,tI,(pr [tW,tI])]))])) ([((167772160,(8,())),(2,(1,(7,(0,([],()))))))]),.d (pr [(.list (pr [tS,(.list (pr [tB,(pr [tW,tI]),tI,tI]))])),(.list (pr [tS,(.list (pr [tB,tS]))])),(.list (pr [tS,(.list (pr [tB,tI,tI]))])),(.list (pr [tS,(.list (pr [tS,(.list (pr [tI,tS,tI,(pr [tW,tI]),tB])),(.list (pr [tI,tI,tI,tW,tW])),tI])),tI]))]) (([],([],([],([],()))))),.d (.list (pr [tI,tI,tS,tI,tB])) ([(2,(5,([],(20,(false,())))))])] [] dv (([((167772160,(8,())),(20,(false,(0,(0,())))))]),(0),()):=LI (m:=90) λk=>by kernel_rfl
theorem A2:aC tbl r5 [.d (.list (pr [(pr [tW,tI]),tI,tI,tI,tI,(.list (pr [tW,tI,tW,tI,(pr [tW,tI])]))])) ([((167772160,(8,())),(3,(110,(7,(0,([],()))))))]),.d (pr [(.list (pr [tS,(.list (pr [tB,(pr [tW,tI]),tI,tI]))])),(.list (pr [tS,(.list (pr [tB,tS]))])),(.list (pr [tS,(.list (pr [tB,tI,tI]))])),(.list (pr [tS,(.list (pr [tS,(.list (pr [tI,tS,tI,(pr [tW,tI]),tB])),(.list (pr [tI,tI,tI,tW,tW])),tI])),tI]))]) (([],([],([],([],()))))),.d (.list (pr [tI,tI,tS,tI,tB])) ([(3,(6,([],(0,(false,())))))]),.d tW (9)] [] m4 (([((167772160,(8,())),((2,([],(0,(true,(7,(false,(0,(false,(false,(0,(0,([],(false,(0,([],([],())))))))))))))))),((-1),(0,(9,(false,()))))))]),(0),()):=LI (m:=90) λk=>by kernel_rfl
theorem A3:aC tbl cX [.d (.list (pr [(pr [tW,tI]),tI,tB,tW,tI])) ([((167772160,(8,())),(20,(false,(0,(0,())))))]),.d (.list (pr [(pr [tW,tI]),tI,tB,tW,tI])) ([((167772160,(8,())),(20,(false,(0,(0,())))))])] [] bN ((true),()):=LI (m:=90) λk=>by kernel_rfl
theorem Y4:aC tbl nV [] [] kN (true,()):=by
 refine ap rfl (aA PP rfl (λO n=>Qr O n) ?_);unfold FE;repeat first
  |refine aj A0 ?_
  |refine aj A1 ?_
  |refine aj A2 ?_
  |refine aj A3 ?_
  |refine aF rfl ?_
  |refine an rfl ?_
  |refine aa ?_
  |refine i6 (by decide) rfl ?_
  |refine ae ?_
 rfl
abbrev Ci:Type:=Int×(Int×(List UInt8×(Int×(Bool×Unit))))
abbrev HOP:Type:=Int×(Int×(Int×(Int×(HA×Unit))))
abbrev lS:Type:=HA×(Int×(Int×(Int×(Int×(List HOP×Unit)))))
abbrev Y1:Ty:=pr [tI,tI,tS,tI,tB]
abbrev yHO:Ty:=pr [tW,tI,tW,tI,yP]
abbrev KG:Ty:=pr [yP,tI,tI,tI,tI,.list yHO]
def tT(s:PS)(r:Ci):Int:=
 if(r.1<1\/7<r.1)\/(r.2.1≠5/\r.2.1≠6)then 15
 else if(r.2.1=5/\3<=r.1/\r.1<=5)\/(r.2.1=6/\(r.1=6\/r.1=7))then 1
 else if r.2.2.2.1<0\/16777216<r.2.2.2.1 then 5
 else if r.2.2.1≠[]/\(uN s r.2.2.1).isSome=false then 6 else 0
noncomputable def wY(s:PS)(l:List Ci):Int:=if sv gl s≠0 then sv gl s else if l.length>64 then 4 else bT (tT s) l
theorem Gn(s:PS)(r:Ci)(d:PolOk gl s):aC tbl jY [.d yS s,.d Y1 r] [] bw (tT s r,()):=by
 refine ap rfl (aA G3 rfl (λO n=>bK (vR O n s r)) ?_);unfold vR;refine ae (bn (b:=decide (r.1>7)) (λ_=>aa rfl) (ao (λh=>aa ?_) λh=>?_));·rw[show tT s r=15 from if_pos (.inl (by grind))]
 have hr:¬(r.1<1\/7<r.1):=by grind
 have rest:¬(r.2.1≠5/\r.2.1≠6)->¬((r.2.1=5/\3<=r.1/\r.1<=5)\/(r.2.1=6/\(r.1=6\/r.1=7)))->Wp (λn=>
  e_ (bif decide (r.2.2.2.1<(0:Int))then some (true)else some (decide (r.2.2.2.1>(16777216:Int)))) λf=>
  bif f then aw bw ((5:Int),())else
  e_ (au (s5 tbl n) kG [.d yS s,.d tS r.2.2.1] [] gv) λg=>
  e_ (bif (!(r.2.2.1==([]:List UInt8)))then some ((!g.2.1))else some (false)) λj=>
  bif j then aw bw ((6:Int),())else aw bw ((0:Int),())) (λx=>x=some (kh bw (tT s r,()))):=λk l=>by
  refine ae (bn (b:=decide (r.2.2.2.1>16777216)) (λ_=>aa rfl) (ao (λh=>aa ?_) λh=>?_))
  ·rw[show tT s r=5 from by unfold tT;grind]
  have p:¬(r.2.2.2.1<0\/16777216<r.2.2.2.1):=by grind
  have e:tT s r=if r.2.2.1≠[]/\(uN s r.2.2.1).isSome=false then 6 else 0:=by unfold tT;omega
  rw[e]
  refine aj (Fu s r.2.2.1 d) (ae (ba (b:= !(uN s r.2.2.1).isSome) (λ_=>aa rfl) (ao (λh=>aa ?_) λh=>aa ?_)))
  all_goals grind
 by_cases a:r.2.1=5
 ·refine ae (aF (beq_iff_eq.2 a) (ae (ba (b:=decide (r.1<=5)) (λ_=>aa rfl) (ao (λh=>aa (aa ?_)) λh=>aa (rest ?_ ?_)))));·rw[show tT s r=1 from by unfold tT;grind]
  all_goals grind
 by_cases c:r.2.1=6
 ·refine ae (an (beq_eq_false_iff_ne.2 a) (aF (beq_iff_eq.2 c) (ae (bn (b:=(r.1==7)) (λ_=>aa rfl) (ao (λh=>aa (aa ?_)) λh=>aa (rest ?_ ?_))))));·rw[show tT s r=1 from by unfold tT;grind]
  all_goals grind
 refine ae (an (beq_eq_false_iff_ne.2 a) (an (beq_eq_false_iff_ne.2 c) (aa (aa ?_))));rw[show tT s r=15 from if_pos (.inr ⟨a,c⟩)]
theorem KM(s:PS)(hc:aC tbl gI [.d yS s] [] cu (sv gl s,()))(l:List Ci):aC tbl l7 [.d yS s,.d (.list Y1) l] [] dT (wY s l,()):=by
 refine ap rfl (aA NU rfl (λO n=>bK (C0 O n s l)) ?_);unfold C0;refine aj hc (ao (λh=>aa ?_) λh=>?_);·rw[show wY s l=sv gl s from if_pos (by grind)]
 have b:sv gl s=0:=by grind
 have c:=Iu b;have e:wY s l=if l.length>64 then 4 else bT (tT s) l:=by unfold wY;omega
 rw[e];refine ao (λh=>aa ?_) λh=>?_;·grind
 have hl:¬l.length>64:=by grind
 rw[if_neg hl];refine ae (lR (l:=l) (f:=tT s) (enc:=λi=>((i:Int),())) (oB:=λe=>(e,())) (oE:=()) (λi a=>?_) ?_ ?_)
 ·unfold rX;refine a7 a (aG a (aj (Gn s _ c) (ao (λh=>aa ?_) λh=>aa ?_)));·grind
  ·rw[if_pos (by grind),aB a (by omega)]
 ·unfold rX;exact aU (aa rfl)
 by_cases e:bT (tT s) l=0;·rw[if_pos e];refine aa ?_;rw[e]
 ·rw[if_neg e];exact aa rfl
theorem L2(s:PS)(hs:SmP s)(l:List Ci):aC tbl l7 [.d yS s,.d (.list Y1) l] [] dT (wY s l,()):=KM s (vM s hs) l
theorem Hg(n:Int):aC tbl lN [.d tI n] [] iJ (decide (n>=3)&&decide (n<=5),()):=by refine ap rfl (aA IQ rfl (λO k=>bK (xr O k n)) ?_);unfold xr;exact ae (ba (b:=decide (n<=5)) (λ_=>aa rfl) (aa rfl))
theorem L9(n:Int):aC tbl qD [.d tI n] [] mI ((n==6)||(n==7),()):=by refine ap rfl (aA N3 rfl (λO k=>bK (C9 O k n)) ?_);unfold C9;exact ae (bn (b:=(n==7)) (λ_=>aa rfl) (aa rfl))
theorem L8(s:PS)(hc:aC tbl kJ [.d yS s] [] cF (sv gl s,()))(l:List Ci):aC tbl od [.d yS s,.d (.list Y1) l] [] eT (wY s l,()):=by
 refine ap rfl (aA Qh rfl (λO n=>bK (F4 O n s l)) ?_);unfold F4;refine aj hc (ao (λh=>aa ?_) λh=>?_);·rw[show wY s l=sv gl s from if_pos (by grind)]
 have c:sv gl s=0:=by grind
 have d:=Iu c;have e:wY s l=if l.length>64 then 4 else bT (tT s) l:=by unfold wY;omega
 rw[e];refine ao (λh=>aa ?_) λh=>?_;·grind
 have hl:¬l.length>64:=by grind
 rw[if_neg hl];refine ae (lR (l:=l) (f:=tT s) (enc:=λi=>((i:Int),())) (oB:=λe=>(e,())) (oE:=()) (λi a=>?_) ?_ ?_)
 ·unfold uq;refine a7 a (aG a ?_);generalize l[i]=r;refine ae (bn (b:=decide (r.1>7)) (λ_=>aa rfl) (ae (bn (b:=(r.2.1 != 5)&&(r.2.1 != 6)) (λ_=>ae (ba (b:=(r.2.1 != 6)) (λ_=>aa rfl) (aa rfl))) ?_)));refine ao (λh=>aa ?_) λh=>?_;·rw[show tT s r=15 from if_pos (by grind),if_neg (by simp)]
  have j:¬((r.1<1\/7<r.1)\/(r.2.1≠5/\r.2.1≠6)):=by grind
  refine ae (ba (b:=decide (r.1>=3)&&decide (r.1<=5)) (λ_=>aj (Hg r.1) (aa rfl)) ?_);refine ae (bn (b:=(r.2.1==6)&&((r.1==6)||(r.1==7))) (λ_=>ae (ba (b:=(r.1==6)||(r.1==7)) (λ_=>aj (L9 r.1) (aa rfl)) (aa rfl))) ?_);refine ao (λh=>aa ?_) λh=>?_;·rw[show tT s r=1 from by unfold tT;grind,if_neg (by simp)]
  have k:¬((r.2.1=5/\3<=r.1/\r.1<=5)\/(r.2.1=6/\(r.1=6\/r.1=7))):=by grind
  refine ae (bn (b:=decide (r.2.2.2.1>16777216)) (λ_=>aa rfl) (ao (λh=>aa ?_) λh=>?_));·rw[show tT s r=5 from by unfold tT;grind,if_neg (by simp)]
  have p:¬(r.2.2.2.1<0\/16777216<r.2.2.2.1):=by grind
  have e:tT s r=if r.2.2.1≠[]/\(uN s r.2.2.1).isSome=false then 6 else 0:=by unfold tT;omega
  rw[e];have g:=d.l4;refine aj (Hc s r.2.2.1 (by omega)) (ae (ba (b:= !(uN s r.2.2.1).isSome) (λ_=>aa rfl) (ao (λh=>aa ?_) λh=>aa ?_)));·grind
  ·have hc:¬(r.2.2.1≠[]/\(uN s r.2.2.1).isSome=false):=by grind
   rw[if_neg hc,if_pos rfl,aB a (by omega)]
 ·unfold uq;exact aU (aa rfl)
 by_cases e:bT (tT s) l=0;·rw[if_pos e];refine aa ?_;rw[e]
 ·rw[if_neg e];exact aa rfl
theorem Oz(s:PS)(hs:SmP s)(l:List Ci):aC tbl od [.d yS s,.d (.list Y1) l] [] eT (wY s l,()):=L8 s (Fx s hs) l
def Fa(r:lS):p6:=(r.1,r.2.1,(match r.2.2.2.2.2.1 with|h::_=>h.1|[]=>0),[],[],100,0,r.2.2.2.1,r.2.2.2.2.1,())
theorem zq(r:lS):aC tbl jh [.d KG r] [] gB (Fa r,()):=by obtain⟨p,pr,b,c,ta,a,⟨⟩⟩:=r;refine ap rfl (aA JU rfl (λO n=>bK (zy O n (p,pr,b,c,ta,a,()))) ?_);unfold zy;cases a with|nil=>exact ae (an rfl (aa (aa rfl)))|cons h a=>exact ae (aF (decide_eq_true (by show(((h::a).length:Nat):Int)>0;simp)) (i6 (x:=h) (by decide) rfl (aa (aa rfl))))
theorem tX(r:lS):aC tbl hU [.d KG r] [] fB (Fa r,()):=by obtain⟨p,pr,b,c,ta,a,⟨⟩⟩:=r;refine ap rfl (aA LB rfl (λO n=>bK (B7 O n (p,pr,b,c,ta,a,()))) ?_);unfold B7;cases a with|nil=>exact ae (an rfl (aa (aa rfl)))|cons h a=>exact ae (aF (decide_eq_true (by show(((h::a).length:Nat):Int)>0;simp)) (i6 (x:=h) (by decide) rfl (aa (aa rfl))))
theorem zeN(l:List lS)(s:PS)(r:List Ci):∃b:Bool,(b=false->l.length<=40/\r.length<=70/\s.2.2.2.1.length<=10/\s.1.length<=10/\s.2.1.length<=10/\s.2.2.1.length<=10)/\aC tbl sI [.d (.list KG) l,.d yS s,.d (.list Y1) r] [] oC (b,()):=by
 refine⟨((((decide ((l.length:Int)>40)||decide ((r.length:Int)>70))||decide ((s.2.2.2.1.length:Int)>10))||decide ((s.1.length:Int)>10))||decide ((s.2.1.length:Int)>10))||decide ((s.2.2.1.length:Int)>10),λh=>?_,?_⟩;·grind
 refine ap rfl (aA PQ rfl (λO n=>bK (FF O n l s r)) ?_);unfold FF;refine ae (bn (b:=decide ((r.length:Int)>70)) (λ_=>aa rfl) ?_);refine ae (bn (b:=decide ((s.2.2.2.1.length:Int)>10)) (λ_=>aa rfl) ?_);refine ae (bn (b:=decide ((s.1.length:Int)>10)) (λ_=>aa rfl) ?_);refine ae (bn (b:=decide ((s.2.1.length:Int)>10)) (λ_=>aa rfl) ?_);exact ae (bn (b:=decide ((s.2.2.1.length:Int)>10)) (λ_=>aa rfl) (aa rfl))
theorem N9{α ρ δ:Type}{xs:List α}{p:α->Bool}{enc:Nat->ρ}{g:α->δ}{e:δ}{body:Nat->ρ->Option (ρ⊕δ)}{Q:δ->Prop} (h:∀(i:Nat) (a:i<xs.length),Wp (λn=>body n (enc i)) λr=>r=if p xs[i]then .inr (g xs[i])else .inl (enc (i+1))) (b:Wp (λn=>body n (enc xs.length)) λr=>r= .inr e) (c:Q (match xs.find? p with|some x=>g x|none=>e)):Wp (λn=>aL n (body n) (enc 0)) Q:=by
 refine bb (N:=xs.length) (I:=λi s=>s=enc i/\xs.find? p=(xs.drop i).find? p) ⟨rfl,by simp⟩ (λi s a hs=>?_) λs hs=>?_;·obtain⟨rfl,hd⟩:=hs;refine Go.Ev.wp_mono (h i a) λr hr=>?_;rw[i_ a,List.find?_cons]at hd;grind
 ·obtain⟨rfl,hd⟩:=hs;refine Go.Ev.wp_mono b λr hr=>?_;grind
def Ik(a b:HOP):Bool:=bif (a.1 != b.1)then decide (a.1<b.1)else bif (a.2.1 != b.2.1)then decide (a.2.1<b.2.1)else decide (a.2.2.1<b.2.2.1)
def Gi(a b:lS):Bool:=bif (nE a.1 b.1 != 0)then decide (nE a.1 b.1<0)else bif (a.2.2.1 != b.2.2.1)then decide (a.2.2.1<b.2.2.1)else decide (a.2.1<b.2.1)
theorem Jc(a b:Int):(a<b/\d9 a b= -1)\/(a=b/\d9 a b=0)\/(b<a/\d9 a b=1):=by unfold d9;omega
theorem XB(x y z:Int):eb [x,y,z]=if x≠0 then x else if y≠0 then y else z:=by
 simp only[eb]
 repeat' split
 all_goals omega
theorem zhH(a b f g c d:Int):decide (eb [d9 a b,d9 f g,d9 c d]>=0)= !(bif (a != b)then decide (a<b)else bif (f != g)then decide (f<g)else decide (c<d)):=by
 rw[XB];rcases Jc a b with⟨h,e⟩|⟨h,e⟩|⟨h,e⟩;·grind
 ·rw[e,show(a != b)=false by grind];rcases Jc f g with⟨h,e⟩|⟨h,e⟩|⟨h,e⟩;·grind
  ·rw[e,show(f != g)=false by grind];rcases Jc c d with⟨h,e⟩|⟨h,e⟩|⟨h,e⟩<;>rw[e]<;>simp<;>omega
  grind
 grind
theorem zbm(a b:HOP):decide (Xj a b>=0)= !Ik a b:=zhH _ _ _ _ _ _
theorem Xk(p q:HA):nE p q=if p.1≠q.1 then(if p.1<q.1 then -1 else 1)else if p.2.1<q.2.1 then -1 else if p.2.1>q.2.1 then 1 else 0:=by have h:nE p q=_:=zfb p.1 q.1 p.2.1 q.2.1;omega
theorem UE(a b:lS):decide (HO a b>=0)= !Gi a b:=by
 have e:HO a b=eb [nE a.1 b.1,d9 a.2.2.1 b.2.2.1,d9 a.2.1 b.2.1]:=rfl;rw[e,XB];unfold Gi;by_cases h:nE a.1 b.1=0;·rw[if_neg (not_not_intro h),show(nE a.1 b.1 != 0)=false by grind];have key:=zhH 0 0 a.2.2.1 b.2.2.1 a.2.1 b.2.1;rw[XB]at key;exact key
 grind
def XN(h:HOP):Bool:=(((decide (h.2.1< -1)||decide (h.2.1>=16))||decide (h.2.2.2.1<1))||decide (h.2.2.2.1>255))
def GD(l:List HOP)(i:Nat):Int:=match l[i]? with
 |some h=>if XN h then 5 else if !dE h.2.2.2.2.1 then 1 else if 0<i/\(match l[i - 1]? with|some g=> !Ik g h|none=>false)=true then 16 else 0
 |none=>0
theorem xL{l:List HOP}{i:Nat}(a:i<l.length):GD l i=if XN l[i]then 5 else if !dE l[i].2.2.2.2.1 then 1 else if 0<i/\(match l[i - 1]? with|some g=> !Ik g l[i]|none=>false)=true then 16 else 0:=by unfold GD;grind
theorem kF(a b c:Int):aC tbl eQ [.d tI a,.d tI b,.d tI c] [] dK (decide (a<b)||decide (a>c),()):=by refine ap rfl (aA Qq rfl (λO n=>bK (Gc O n a b c)) ?_);unfold Gc;exact ae (bn (b:=decide (a>c)) (λ_=>aa rfl) (aa rfl))
theorem Hi(a b:HOP):aC tbl iD [.d yHO a,.d yHO b] [] ri (Xj a b,()):=I9 IS rfl rfl
theorem OF(a b:lS):aC tbl oj [.d KG a,.d KG b] [] zi (HO a b,()):=I9 Qp rfl rfl
theorem RD(a b:HOP):aC tbl vp [.d yHO a,.d yHO b] [] ko (Ik a b,()):=by
 refine ap rfl (aA Te rfl (λO n=>bK (Hr O n a b)) ?_);unfold Hr Ik;refine ao (λh=>aa ?_) λh=>?_;·grind
 rw[h];refine ao (λh=>aa ?_) λh=>aa ?_;all_goals grind
theorem KN(p q:HA):aC tbl oT [.d yP p,.d yP q] [] dq (nE p q,()):=by
 refine ap rfl (aA Lw rfl (λO n=>bK (B2 O n p q)) ?_);unfold B2;rw[Xk];refine ao (λh=>?_) λh=>?_;·rw[if_pos (by grind)];refine ao (λh=>aa ?_) λh=>aa ?_;all_goals grind
 rw[if_neg (by grind)];refine ao (λh=>aa ?_) λh=>ao (λh'=>aa ?_) λh'=>aa ?_;all_goals grind
theorem L6(a b:lS):aC tbl qC [.d KG a,.d KG b] [] gQ (Gi a b,()):=by
 refine ap rfl (aA N2 rfl (λO n=>bK (C8 O n a b)) ?_);unfold C8 Gi;refine aj (KN a.1 b.1) (ao (λh=>aa ?_) λh=>?_);·grind
 rw[show(nE a.1 b.1 != 0)=false from h];refine ao (λh=>aa ?_) λh=>aa ?_;all_goals grind
structure RteQ(r:lS):Prop where
 p:gU r.1.1
 h:∀x∈r.2.2.2.2.2.1,gU x.1/\gU x.2.2.2.2.1.1
def zbU(r:lS):Bool:=((((decide (r.2.2.1<0)||decide (r.2.2.1>255))||decide (r.2.2.2.1<0))||decide (r.2.2.2.1>16777216))||decide (r.2.2.2.2.1<0))||decide (r.2.2.2.2.1>4294967295)
def zbD(l:List HOP):Int:=if l.length>64 then 4 else jG (GD l) l.length
def tR(r:lS):Int:=if !dE r.1 then 1 else if decide (r.2.1<1)||decide (r.2.1>7)then 15 else if zbU r then 5 else zbD r.2.2.2.2.2.1
theorem Vg{l:List HOP}{i:Nat}(a:i<l.length){O:Bool}(h:O=(decide (0<(i:Int))&&(match l[i - 1]? with|some g=> !Ik g l[i]|none=>false))):(O=true↔0<i/\(match l[i - 1]? with|some g=> !Ik g l[i]|none=>false)=true):=by grind
theorem vL{i:Nat}(a:0<i)(hn:i<=9223372036854775807):a_ .i64 ((i:Int) - 1)=((i - 1:Nat):Int):=by rw[wrap_i64 (by omega) (by omega)];omega
theorem I5(r:lS)(l:RteQ r):aC tbl mW [.d KG r] [] cg (tR r,()):=by
 refine ap rfl (aA J1 rfl (λO n=>bK (zH O n r)) ?_);unfold zH;refine aj (gE r.1 l.p) (ao (λh=>aa ?_) λu=>?_);·have h:(!dE r.1)=true:=h;rw[show tR r=1 from if_pos h]
 have u:¬(!dE r.1)=true:=by grind
 refine aj (kF _ _ _) (ao (λh=>aa ?_) λv=>?_);·rw[show tR r=15 from by unfold tR;grind]
 have v:¬(decide (r.2.1<1)||decide (r.2.1>7))=true:=by grind
 refine aj (kF _ _ _) (ae (bn (b:=decide (r.2.2.2.1<0)||decide (r.2.2.2.1>16777216)) (λ_=>aj (kF _ _ _) (aa rfl)) ?_));refine ae (bn (b:=decide (r.2.2.2.2.1<0)||decide (r.2.2.2.2.1>4294967295)) (λ_=>aj (kF _ _ _) (aa rfl)) ?_);have y:(((decide (r.2.2.1<0)||decide (r.2.2.1>255))||(decide (r.2.2.2.1<0)||decide (r.2.2.2.1>16777216)))||(decide (r.2.2.2.2.1<0)||decide (r.2.2.2.2.1>4294967295)))=zbU r:=by unfold zbU;grind
 refine ao (λh=>aa ?_) λw=>?_;·rw[show tR r=5 from by unfold tR;grind]
 have w:¬zbU r=true:=by grind
 rw[show tR r=zbD r.2.2.2.2.2.1 from by unfold tR;grind];unfold zbD;refine ao (λh=>aa ?_) λk=>?_;·grind
 have k:¬r.2.2.2.2.2.1.length>64:=by grind
 rw[if_neg k];refine ae (nR (N:=r.2.2.2.2.2.1.length) (f:=GD r.2.2.2.2.2.1) (enc:=λi=>((i:Int),())) (oB:=λe=>(e,())) (oE:=()) (λi a=>?_) ?_ ?_)
 ·unfold pm;have x:=(l.h _ (b_ a)).2;refine a7 a (aG a ?_);refine aj (kF _ _ _) (ae (bn (b:=decide (r.2.2.2.2.2.1[i].2.2.2.1<1)||decide (r.2.2.2.2.2.1[i].2.2.2.1>255)) (λ_=>aj (kF _ _ _) (aa rfl)) ?_));have p:((decide (r.2.2.2.2.2.1[i].2.1< -1)||decide (r.2.2.2.2.2.1[i].2.1>15))||(decide (r.2.2.2.2.2.1[i].2.2.2.1<1)||decide (r.2.2.2.2.2.1[i].2.2.2.1>255)))=XN r.2.2.2.2.2.1[i]:=by unfold XN;grind
  refine ao (λh=>aa ?_) λd=>?_;·rw[show GD _ i=5 from by rw[xL a,if_pos (p▸h)],if_neg (by simp)]
  have d:¬XN r.2.2.2.2.2.1[i]=true:=by grind
  refine aj (gE _ x) (ao (λh=>aa ?_) λj=>?_);·rw[show GD _ i=1 from by rw[xL a,if_neg d,if_pos (show(!dE _)=true from h)],if_neg (by simp)]
  have j:¬(!dE r.2.2.2.2.2.1[i].2.2.2.2.1)=true:=by grind
  refine ae (ba (b:=match r.2.2.2.2.2.1[i - 1]? with|some g=> !Ik g r.2.2.2.2.2.1[i]|none=>false) (λs=>?_) (ao (λh=>aa ?_) λh=>aa ?_))
  ·have s:0<i:=by grind
   have c:i - 1<r.2.2.2.2.2.1.length:=by omega
   rw[vL (by omega) (by omega)];refine aG c (aj (Hi _ _) (aa ?_));rw[d_ c,zbm]
  ·rw[show GD _ i=16 from by rw[xL a,if_neg d,if_neg j,if_pos ((Vg a rfl).1 h)],if_neg (by simp)]
  ·rw[show GD _ i=0 from by rw[xL a,if_neg d,if_neg j,if_neg (λg=>by grind)],if_pos rfl,aB a (by omega)]
 ·unfold pm;exact aU (aa rfl)
 by_cases e:jG (GD r.2.2.2.2.2.1) r.2.2.2.2.2.1.length=0;·rw[if_pos e];refine aa ?_;rw[e]
 ·rw[if_neg e];exact aa rfl
theorem Oy(n:Int):aC tbl sX [.d tI n] [] oJ (decide (n>=1)&&decide (n<=7),()):=by refine ap rfl (aA Qg rfl (λO k=>bK (F3 O k n)) ?_);unfold F3;exact ae (ba (b:=decide (n<=7)) (λ_=>aa rfl) (aa rfl))
theorem RF(l:List HOP)(r:∀x∈l,gU x.1/\gU x.2.2.2.2.1.1):aC tbl vr [.d (.list yHO) l] [] kq (zbD l,()):=by
 refine ap rfl (aA Tg rfl (λO n=>bK (Ht O n l)) ?_);unfold Ht zbD;refine ao (λh=>aa ?_) λk=>?_;·grind
 have k:¬l.length>64:=by grind
 rw[if_neg k];refine ae (nR (N:=l.length) (f:=GD l) (enc:=λi=>((i:Int),())) (oB:=λe=>(e,())) (oE:=()) (λi a=>?_) ?_ ?_)
 ·unfold vZ;have s:=(r _ (b_ a)).2;refine a7 a (aG a ?_);refine ae (bn (b:=decide (l[i].2.1>=16)) (λ_=>aa rfl) (ae (bn (b:=decide (l[i].2.2.2.1<1)) (λ_=>aa rfl) (ae (bn (b:=decide (l[i].2.2.2.1>255)) (λ_=>aa rfl) ?_)))));refine ao (λh=>aa ?_) λc=>?_;·rw[show GD _ i=5 from by rw[xL a,if_pos (show XN _=true from h)],if_neg (by simp)]
  have c:¬XN l[i]=true:=by rw[x_];exact c
  refine aj (dG _ s) (ao (λh=>aa ?_) λd=>?_);·rw[show GD _ i=1 from by rw[xL a,if_neg c,if_pos (show(!dE _)=true from h)],if_neg (by simp)]
  have d:¬(!dE l[i].2.2.2.2.1)=true:=by grind
  refine ae (ba (b:=match l[i - 1]? with|some g=> !Ik g l[i]|none=>false) (λp=>?_) (ao (λh=>aa ?_) λh=>aa ?_))
  ·have p:0<i:=by grind
   have j:i - 1<l.length:=by omega
   rw[vL (by omega) (by omega)];refine aG j (aj (RD _ _) (aa ?_));grind
  ·rw[show GD _ i=16 from by rw[xL a,if_neg c,if_neg d,if_pos ((Vg a rfl).1 h)],if_neg (by simp)]
  ·rw[show GD _ i=0 from by rw[xL a,if_neg c,if_neg d,if_neg (λg=>by grind)],if_pos rfl,aB a (by omega)]
 ·unfold vZ;exact aU (aa rfl)
 by_cases e:jG (GD l) l.length=0;·rw[if_pos e];refine aa ?_;rw[e]
 ·rw[if_neg e];exact aa rfl
theorem Ow(r:lS)(e:RteQ r):aC tbl sW [.d KG r] [] gy (tR r,()):=by
 refine ap rfl (aA Qf rfl (λO n=>bK (F2 O n r)) ?_);unfold F2;refine aj (dG r.1 e.p) (ao (λh=>aa ?_) λa=>?_);·have h:(!dE r.1)=true:=h;rw[show tR r=1 from if_pos h]
 have a:¬(!dE r.1)=true:=by grind
 have f:(!(decide (r.2.1>=1)&&decide (r.2.1<=7)))=(decide (r.2.1<1)||decide (r.2.1>7)):=by grind
 refine aj (Oy _) (ao (λh=>aa ?_) λc=>?_);·rw[show tR r=15 from by unfold tR;grind]
 have c:¬(decide (r.2.1<1)||decide (r.2.1>7))=true:=by grind
 refine ae (bn (b:=decide (r.2.2.1>255)) (λ_=>aa rfl) (ae (bn (b:=decide (r.2.2.2.1<0)) (λ_=>aa rfl) (ae (bn (b:=decide (r.2.2.2.1>16777216)) (λ_=>aa rfl) ?_)))));refine ae (bn (b:=decide (r.2.2.2.2.1<0)) (λ_=>aa rfl) (ae (bn (b:=decide (r.2.2.2.2.1>4294967295)) (λ_=>aa rfl) ?_)));refine ao (λh=>aa ?_) λd=>?_;·rw[show tR r=5 from by unfold tR;rw[if_neg a,if_neg c,if_pos (show zbU r=true from h)]]
 have d:¬zbU r=true:=by rw[x_];exact d
 rw[show tR r=zbD r.2.2.2.2.2.1 from by unfold tR;grind];exact aj (RF _ e.h) (aa rfl)
abbrev KEY:Type:=HA×(Int×Unit)
abbrev yK:Ty:=pr [yP,tI]
def y9(r:lS):KEY:=(r.1,r.2.1,())
theorem zae(p q:HA):nk yP p q=decide (p=q):=by obtain⟨a,b,⟨⟩⟩:=p;obtain⟨c,d,⟨⟩⟩:=q;show((a==c)&&((b==d)&&true))=_;rw[H_];simp
theorem Ib(p q:KEY):nk yK p q=decide (p=q):=by obtain⟨a,b,⟨⟩⟩:=p;obtain⟨c,d,⟨⟩⟩:=q;show(nk yP a c&&((b==d)&&true))=_;rw[zae,H_];simp
theorem zdm(x y:KEY)(v:Bool):∀a:List (KEY×Bool),jJ yK tB (oy yK tB a y v) x=if x=y then some v else jJ yK tB a x
 |[]=>by show(bif nk yK x y then some v else none)=_;rw[Ib];by_cases h:x=y<;>simp[h,jJ]
 |(k,w)::l=>by
  have b:=zdm x y v l;show jJ yK tB (bif nk yK y k then(y,v)::l else(k,w)::oy yK tB l y v) x=if x=y then some v else(bif nk yK x k then some w else jJ yK tB l x);rw[Ib y k,Ib x k];by_cases h:y=k;·subst h;rw[decide_eq_true rfl];show(bif nk yK x y then some v else jJ yK tB l x)=_;rw[Ib];grind
  ·rw[decide_eq_false h];show(bif nk yK x k then some w else jJ yK tB (oy yK tB l y v) x)=_;rw[Ib,b];grind
theorem zdn(y:KEY)(v:Bool):∀a:List (KEY×Bool),(oy yK tB a y v).length<=a.length+1
 |[]=>o_ _
 |(k,w)::l=>by have b:=zdn y v l;show(bif nk yK y k then(y,v)::l else(k,w)::oy yK tB l y v).length<=_;grind
def kvF(l:List lS)(a:List (KEY×Bool)):List (KEY×Bool):=l.foldl (λa r=>oy yK tB a (y9 r) true) a
theorem zau:∀(l:List lS) (a:List (KEY×Bool)),(kvF l a).length<=a.length+l.length
 |[],a=>o_ _
 |r::l,a=>by have b:=zau l (oy yK tB a (y9 r) true);have c:=zdn (y9 r) true a;have e:kvF (r::l) a=kvF l (oy yK tB a (y9 r) true):=rfl;grind
theorem zat(x:KEY):∀(l:List lS) (a:List (KEY×Bool)),(jJ yK tB (kvF l a) x).getD false=((jJ yK tB a x).getD false||l.any λr=>decide (y9 r=x))
 |[],a=>by simp[kvF]
 |r::l,a=>by have b:=zat x l (oy yK tB a (y9 r) true);have e:kvF (r::l) a=kvF l (oy yK tB a (y9 r) true):=rfl;rw[e,b,zdm,List.any_cons];grind
def Sv(l:List lS)(x:KEY):Bool:=l.any λr=>decide (y9 r=x)
def GO(l:List lS)(i:Nat):Int:=match l[i]? with
 |some r=>if tR r≠0 then tR r else if Sv (l.take i) (y9 r)then 7 else if 0<i/\(match l[i - 1]? with|some g=> !Gi g r|none=>false)=true then 16 else 0
 |none=>0
theorem xR{l:List lS}{i:Nat}(a:i<l.length):GO l i=if tR l[i]≠0 then tR l[i]else if Sv (l.take i) (y9 l[i])then 7 else if 0<i/\(match l[i - 1]? with|some g=> !Gi g l[i]|none=>false)=true then 16 else 0:=by unfold GO;grind
def PF(l:List lS):Int:=if l.length>2000 then 4 else jG (GO l) l.length
theorem V3{l:List lS}{i:Nat}{O:Bool}{r:lS}(h:O=(decide (0<(i:Int))&&(match l[i - 1]? with|some g=> !Gi g r|none=>false))):(O=true↔0<i/\(match l[i - 1]? with|some g=> !Gi g r|none=>false)=true):=by grind
theorem zdl{l:List lS}{i:Nat}(a:i<l.length):oy yK tB (kvF (l.take i) []) (y9 l[i]) true=kvF (l.take (i+1)) []:=by rw[c_ a];unfold kvF;grind
theorem TN(l:List lS)(v:∀r∈l,RteQ r):aC tbl xG [.d (.list KG) l] [] mJ (PF l,()):=by
 refine ap rfl (aA WB rfl (λO n=>bK (Kk O n l)) ?_);unfold Kk PF;refine ao (λh=>aa ?_) λp=>?_;·grind
 have p:¬l.length>2000:=by grind
 rw[if_neg p];refine ae (nR (N:=l.length) (f:=GO l) (enc:=λi=>((i:Int),kvF (l.take i) [],())) (oB:=λe=>(e,())) (oE:=()) (λi a=>?_) ?_ ?_)
 ·unfold x7;refine a7 a (aG a (aj (I5 _ (v _ (b_ a))) (ao (λh=>aa ?_) λj=>?_)))
  ·have h:tR l[i]≠0:=by grind
   rw[show GO _ i=tR l[i]from by rw[xR a,if_pos h],if_neg h]
  have j:¬tR l[i]≠0:=by grind
  have s:(jJ yK tB (kvF (l.take i) []) (y9 l[i])).getD false=Sv (l.take i) (y9 l[i]):=by rw[zat];rfl
  refine ao (λh=>aa ?_) λk=>?_;·rw[show GO _ i=7 from by rw[xR a,if_neg j,if_pos (s▸h)],if_neg (by simp)]
  have k:¬Sv (l.take i) (y9 l[i])=true:=by rw[x_,<-s];exact k
  have c:=zau (l.take i) [];rw[n_]at c;have c:(kvF (l.take i) []).length<=2000:=by grind
  refine aD (by unfold maxLen;grind) ?_;refine ae (ba (b:=match l[i - 1]? with|some g=> !Gi g l[i]|none=>false) (λu=>?_) (ao (λh=>aa ?_) λh=>aa ?_))
  ·have u:0<i:=by grind
   have d:i - 1<l.length:=by omega
   rw[vL (by omega) (by omega)];refine aG d (aj (OF _ _) (aa ?_));rw[d_ d,UE]
  ·rw[show GO _ i=16 from by rw[xR a,if_neg j,if_neg k,if_pos ((V3 rfl).1 h)],if_neg (by simp)]
  ·rw[show GO _ i=0 from by rw[xR a,if_neg j,if_neg k,if_neg (λg=>by grind)],if_pos rfl,aB a (by omega),<-zdl a];rfl
 ·unfold x7;exact aU (aa rfl)
 by_cases e:jG (GO l) l.length=0;·rw[if_pos e];refine aa ?_;rw[e]
 ·rw[if_neg e];exact aa rfl
theorem TM(l:List lS)(p:HA)(k:Int)(hl:l.length<=9223372036854775807):aC tbl tx [.d (.list KG) l,.d yP p,.d tI k] [] mH (Sv l (p,k,()),()):=by
 refine ap rfl (aA WA rfl (λO n=>bK (Kj O n l p k)) ?_);unfold Kj;refine ae (N9 (xs:=l) (p:=λr=>decide (y9 r=(p,k,()))) (enc:=λi=>((i:Int),())) (g:=λ_=>.inl (true,())) (e:=.inr ()) (λi a=>?_) ?_ ?_)
 ·unfold x6;refine a7 a (aG a (ae (ba (b:=l[i].2.1==k) (λ_=>aa rfl) ?_)));have e:((false ^^ nk yP l[i].1 p)&&(l[i].2.1==k))=decide (y9 l[i]=(p,k,())):=by rw[zae,H_];simp[y9]
  rw[e];refine ao (λh=>aa ?_) λh=>aa ?_;·grind
  ·rw[if_neg (by grind),aB a hl]
 ·unfold x6;exact aU (aa rfl)
 have e:Sv l (p,k,())=(l.find? λr=>decide (y9 r=(p,k,()))).isSome:=by unfold Sv;grind
 rw[e];cases l.find? λr=>decide (y9 r=(p,k,()))with|some x=>exact aa rfl|none=>exact aa rfl
theorem Ov(l:List lS)(s:∀r∈l,RteQ r):aC tbl sV [.d (.list KG) l] [] iV (PF l,()):=by
 refine ap rfl (aA Qe rfl (λO n=>bK (F1 O n l)) ?_);unfold F1 PF;refine ao (λh=>aa ?_) λk=>?_;·grind
 have k:¬l.length>2000:=by grind
 rw[if_neg k];refine ae (nR (N:=l.length) (f:=GO l) (enc:=λi=>((i:Int),())) (oB:=λe=>(e,())) (oE:=()) (λi a=>?_) ?_ ?_)
 ·unfold uo;refine a7 a (aG a (aj (Ow _ (s _ (b_ a))) (ao (λh=>aa ?_) λc=>?_)))
  ·have h:tR l[i]≠0:=by grind
   rw[show GO _ i=tR l[i]from by rw[xR a,if_pos h],if_neg h]
  have c:¬tR l[i]≠0:=by grind
  refine aD (decide_eq_true (by simp)) (aD (by grind) ?_);show Wp (λn=>e_ (au (s5 tbl n) tx [.d (.list KG) ((l.take (y_ (i:Int))).drop 0),.d yP l[i].1,.d tI l[i].2.1] [] mH) _) _;rw[r_,t_];refine aj (TM _ _ _ (by grind)) (ao (λh=>aa ?_) λd=>?_);·rw[show GO _ i=7 from by rw[xR a,if_neg c,if_pos (show Sv _ (y9 _)=true from h)],if_neg (by simp)]
  have d:¬Sv (l.take i) (y9 l[i])=true:=by rw[x_];exact d
  refine ae (ba (b:=match l[i - 1]? with|some g=> !Gi g l[i]|none=>false) (λp=>?_) (ao (λh=>aa ?_) λh=>aa ?_))
  ·have p:0<i:=by grind
   have j:i - 1<l.length:=by omega
   rw[vL (by omega) (by omega)];refine aG j (aj (L6 _ _) (aa ?_));grind
  ·rw[show GO _ i=16 from by rw[xR a,if_neg c,if_neg d,if_pos ((V3 rfl).1 h)],if_neg (by simp)]
  ·rw[show GO _ i=0 from by rw[xR a,if_neg c,if_neg d,if_neg (λg=>by grind)],if_pos rfl,aB a (by omega)]
 ·unfold uo;exact aU (aa rfl)
 by_cases e:jG (GO l) l.length=0;·rw[if_pos e];refine aa ?_;rw[e]
 ·rw[if_neg e];exact aa rfl
def adj(l:List lS)(k:Nat):Bool:=match l[k - 1]?,l[k]? with
 |some a,some b=>nk yP a.1 b.1
 |_,_=>false
theorem zcI{l:List lS}{k:Nat}(a:k<l.length):adj l k=nk yP (l[k - 1]'(by omega)).1 l[k].1:=by unfold adj;grind
def K3(l:List lS)(n:Nat):Bool:=(ad_ n).any λk=>decide (0<k)&&adj l k
theorem QH(l:List lS)(n:Nat):K3 l (n+1)=(K3 l n||(decide (0<n)&&adj l n)):=by unfold K3;rw[X_,List.any_append];simp
noncomputable def kD(l:List lS):List lS:=if PF l≠0 then []else if K3 l l.length then []else l
theorem Vs{l:List lS}{r:lS}(h:r∈kD l):r∈l:=by
 unfold kD at h;split at h;·cases h
 split at h;·cases h
 ·exact h
theorem Nf(l:List lS):(kD l).length<=l.length:=by unfold kD;grind
theorem Oh(l:List lS)(e:∀r∈l,RteQ r):aC tbl sK [.d (.list KG) l] [] iR (kD l,()):=by
 refine ap rfl (aA PW rfl (λO n=>bK (FJ O n l)) ?_);unfold FJ;refine aj (TN l e) (ao (λh=>aa ?_) λh=>?_);·rw[show kD l=[]from if_pos (by grind)]
 have c:PF l=0:=by grind
 have hl:l.length<=2000:=by unfold PF at c;omega
 rw[show kD l=if K3 l l.length then []else l from if_neg (not_not_intro c)];refine ae (Wp.imp (Q:=λx=>x=if K3 l l.length then .inl ()else .inr ()) (bb (N:=l.length - 1) (I:=λj x=>x=(((j+1:Nat):Int),())/\K3 l (j+1)=false) ⟨rfl,rfl⟩ (λj x g a=>?_) λx a=>?_) λx a=>?_)
 ·obtain⟨rfl,hd⟩:=a;unfold uc;have b:j+1<l.length:=by omega
  refine a7 b ?_;show Wp (λn=>e_ (aR l (a_ .i64 (((j+1:Nat):Int) - 1))) _) _;rw[vL (i:=j+1) (by simp) (by omega)];refine aG (show j+1 - 1<l.length by omega) (aG b ?_);have f:=zcI b;have hs:=QH l (j+1);rw[hd,E_,decide_eq_true (Nat.succ_pos j),q_]at hs;refine ao (λh=>aa ?_) λh=>aa ?_
  ·have h:nk yP (l[j+1 - 1]).1 l[j+1].1=true:=by grind
   have d:K3 l l.length=true:=by unfold K3;grind
   grind
  ·have h:nk yP (l[j+1 - 1]).1 l[j+1].1=false:=by grind
   refine⟨?_,?_⟩;·show(a_ .i64 (((j+1:Nat):Int)+1),())=_;rw[aB b (by omega)]
   grind
 ·obtain⟨rfl,hd⟩:=a;unfold uc;refine an (decide_eq_false (by omega)) (aa ?_);show _=_;by_cases h:l.length=0;·rw[show K3 l l.length=false from by rw[h];rfl];rfl
  grind
 ·subst a;cases K3 l l.length;·exact aa rfl
  ·exact aa rfl
def M6(l:List lS)(n:Nat):List lS:=(ad_ n).flatMap λk=>if decide (0<k)&&adj l k then []else(l[k]?).toList
theorem JA(l:List lS)(n:Nat):M6 l (n+1)=M6 l n++(if decide (0<n)&&adj l n then []else(l[n]?).toList):=by unfold M6;rw[X_,N_];simp
theorem M7(l:List lS):∀n,n<=l.length->(M6 l n).length<=n/\((M6 l n).length=n↔K3 l n=false)
 |0,_=>⟨o_ _,⟨λ_=>rfl,λ_=>rfl⟩⟩
 |n+1,hn=>by obtain⟨b,a⟩:=M7 l n (by omega);rw[JA,QH,List.length_append,Bool.or_eq_false_iff,<-a];grind
noncomputable def Mh(l:List lS):List lS:=if PF l≠0 then []else M6 l l.length
theorem L5(l:List lS)(e:∀r∈l,RteQ r):aC tbl qB [.d (.list KG) l] [] jC (Mh l,()):=by
 refine ap rfl (aA N1 rfl (λO n=>bK (C7 O n l)) ?_);unfold C7;refine aj (Ov l e) (ao (λh=>aa ?_) λh=>?_);·rw[show Mh l=[]from if_pos (by grind)]
 have d:PF l=0:=by grind
 have hl:l.length<=2000:=by unfold PF at d;omega
 rw[show Mh l=M6 l l.length from if_neg (not_not_intro d)];refine ae (Wp.imp (Q:=λx=>x=(M6 l l.length,())) (bb (N:=l.length) (I:=λj x=>x=((j:Int),M6 l j,())) rfl (λj x b a=>?_) λx a=>?_) λx a=>?_)
 ·subst a;unfold rZ;have g:=(M7 l j (by omega)).1;refine a7 b (ae (aG b ?_));have c:Wp (λn=>bif (((j:Nat):Int)==0)then some true else e_ (aR l (a_ .i64 (((j:Nat):Int) - 1))) λf=>some ((true ^^ nk yP f.1 l[j].1))) (λx=>x= !(decide (0<j)&&adj l j)):=by
   refine ao (λh=>aa ?_) λh=>?_;·grind
   ·have h:j≠0:=by grind
    rw[vL (by omega) (by omega)];refine aG (show j - 1<l.length by omega) (aa ?_);rw[zcI b,decide_eq_true (show 0<j by omega),q_,Bool.true_xor]
  refine ae (Wp.imp c λx a=>?_);subst a;refine ao (λh=>aD (decide_eq_true ?_) (aa (aa ?_))) λh=>aa (aa ?_);·grind
  ·have h:(decide (0<j)&&adj l j)=false:=by grind
   show(a_ .i64 ((j:Int)+1),M6 l j++[l[j]],())=_;rw[aB b (by omega),JA,h,d_ b];rfl
  ·have h:(decide (0<j)&&adj l j)=true:=by grind
   show(a_ .i64 ((j:Int)+1),M6 l j,())=_;rw[aB b (by omega),JA,h,if_pos rfl,j_]
 ·subst a;unfold rZ;exact aU (aa rfl)
 ·subst a;exact aa rfl
theorem RE(l:List lS)(c:∀r∈l,RteQ r):aC tbl vq [.d (.list KG) l] [] m7 (kD l,()):=by
 refine ap rfl (aA Tf rfl (λO n=>bK (Hs O n l)) ?_);unfold Hs;have d:=M7 l l.length (o_ _);refine aj (L5 l c) (ao (λh=>aa ?_) λh=>aa ?_)
 ·have h:(Mh l).length<l.length:=by grind
  have e:kD l=[]:=by unfold Mh at h;unfold kD;grind
  rw[e]
 ·have h:¬(Mh l).length<l.length:=by grind
  have e:kD l=l:=by
   unfold Mh at h;unfold kD;split;·rename_i b;rw[if_pos b]at h;cases l with|nil=>rfl|cons a l=>grind
   grind
  rw[e]
abbrev MTC:Type:=Ci×(p6×(p6×Unit))
abbrev yMT:Ty:=pr [Y1,Qs,Qs]
noncomputable def p5(s:PS)(x:Ci)(r:lS):p6×Bool×Int:=if x.2.2.1=[]then(Fa r,true,0)else((SQ s x.2.2.1 (Fa r)).2.1,(SQ s x.2.2.1 (Fa r)).1,wZ s x.2.2.1 (Fa r))
def zde(a:Int)(r:lS)(x:Ci):Bool:= !((x.2.1 != a)||(x.1 != r.2.1))
noncomputable def Lm(s:PS)(a:Int)(r:lS)(x:Ci):Bool:=zde a r x&&(((p5 s x r).2.2 != 0)||(p5 s x r).2.1)
noncomputable def zbz(s:PS)(b:Int)(a:List Ci)(r:lS):Option Ci:=a.find? (Lm s b r)
noncomputable def Jt(s:PS)(b:Int)(a:List Ci)(r:lS):Int:=match zbz s b a r with|some x=>(p5 s x r).2.2|none=>0
noncomputable def PD(s:PS)(b:Int)(a:List Ci)(r:lS):List MTC:=match zbz s b a r with|some x=>if(p5 s x r).2.2≠0 then []else [(x,Fa r,(p5 s x r).1,())]|none=>[]
theorem zdN(s:PS)(b:Int)(a:List Ci)(r:lS):(PD s b a r).length<=1:=by
 unfold PD;split;·split<;>simp
 ·simp
theorem smq{s:PS}(hs:SmP s){r:lS}(hr:RteQ r):SmQ s (Fa r):=by refine⟨hs,hr.p,?_,h_ _,h_ _⟩;obtain⟨p,pr,b,c,ta,a,⟨⟩⟩:=r;cases a with|nil=>exact⟨Int.le_refl 0,show(0:Int)<=4294967295 by simp⟩|cons h a=>exact(hr.h h (by simp)).1
theorem Ao(s:PS)(hs:SmP s)(x:Ci)(r:lS)(hr:RteQ r):aC tbl dL [.d Y1 x,.d KG r,.dp yS s] [] cN ((x,Fa r,(p5 s x r).1,()),(p5 s x r).2.1,(p5 s x r).2.2,()):=by
 refine ap rfl (aA BE rfl (λO n=>bK (qe O n x r s)) ?_);unfold qe;refine aj (zq r) (aj (zq r) (ao (λh=>aa ?_) λh=>?_));·rw[show p5 s x r=(Fa r,true,0)from if_pos (by grind)]
 ·have e:p5 s x r=_:=if_neg (show ¬x.2.2.1=[] by grind);rw[e];exact aj (Tv s _ _ (smq hs hr)) (aa rfl)
noncomputable def E8(s:PS)(b:Int)(a:List Ci)(l:List lS):List MTC:=l.flatMap (PD s b a)
theorem QY{s:PS}{b:Int}{a:List Ci}{l:List lS}{i:Nat}(c:i<l.length):E8 s b a (l.take (i+1))=E8 s b a (l.take i)++PD s b a l[i]:=by unfold E8;rw[c_ c,N_];simp
theorem Ip(s:PS)(b:Int)(a:List Ci):∀l:List lS,(E8 s b a l).length<=l.length
 |[]=>o_ _
 |r::l=>by have c:=Ip s b a l;have d:=zdN s b a r;have e:E8 s b a (r::l)=PD s b a r++E8 s b a l:=rfl;grind
noncomputable def zea(s:PS)(b:Int)(a:List Ci)(l:List lS):Int:=bT (Jt s b a) (kD l)
noncomputable def Kz(s:PS)(b:Int)(a:List Ci)(l:List lS):Int:=if wY s a≠0 then wY s a else zea s b a l
noncomputable def Io(s:PS)(b:Int)(a:List Ci)(l:List lS):List MTC:=if Kz s b a l≠0 then []else E8 s b a (kD l)
theorem zh8(s:PS)(hs:SmP s)(d:Int)(a:List Ci)(hr:a.length<=64)(r:lS)(v:RteQ r)(c:List MTC)(w:c.length<=2000): Wp (λn=>aL n (jU (s5 tbl n) n s a d) ((0:Int),c,r.1.1,r.1.2.1,r.2.1,r.2.2.1,r.2.2.2.1,r.2.2.2.2.1,r.2.2.2.2.2.1,())) λx=>x=if Jt s d a r≠0 then .inl (Jt s d a r,())else .inr (c++PD s d a r,()):=by
 refine N9 (δ:=(Int×Unit)⊕(List MTC×Unit)) (xs:=a) (p:=Lm s d r) (enc:=λi=>((i:Int),c,r.1.1,r.1.2.1,r.2.1,r.2.2.1,r.2.2.2.1,r.2.2.2.2.1,r.2.2.2.2.2.1,())) (g:=λx=>if(p5 s x r).2.2≠0 then .inl ((p5 s x r).2.2,())else .inr (c++[(x,Fa r,(p5 s x r).1,())],())) (e:=.inr (c,())) (λi f=>?_) ?_ ?_
 ·unfold jU;refine a7 f (ae (aG f (ae (bn (b:=a[i].1 != r.2.1) (λ_=>aa rfl) ?_))));refine ao (λh=>aa (aa ?_)) λh=>?_
  ·have k:Lm s d r a[i]=false:=by unfold Lm zde;grind
   rw[k,if_neg (by simp)];show s_ (a_ .i64 ((i:Int)+1),_)=_;rw[aB f (by omega)]
  have k:Lm s d r a[i]=(((p5 s a[i] r).2.2 != 0)||(p5 s a[i] r).2.1):=by unfold Lm zde;grind
  rw[k];have hc:=Ao s hs a[i] r v;refine aj hc ?_;refine ao (λl=>aa (aa ?_)) λl=>?_;·grind
  have l:¬(p5 s a[i] r).2.2≠0:=by grind
  have j:((p5 s a[i] r).2.2 != 0)=false:=by omega
  rw[j,E_];refine ao (λu=>?_) λu=>aa (aa ?_);·refine aD (decide_eq_true ?_) (aa (aa ?_));all_goals grind
  ·rw[show(p5 s a[i] r).2.1=false from u,if_neg (by simp)];show s_ (a_ .i64 ((i:Int)+1),_)=_;rw[aB f (by omega)]
 ·unfold jU;exact aU (aa rfl)
 ·unfold Jt PD zbz;grind
theorem I1(l:List lS)(g:∀r∈l,RteQ r)(hl:l.length<=1000)(s:PS)(hs:SmP s)(a:List Ci)(b:Int):aC tbl mS [.d (.list KG) l,.d yS s,.d (.list Y1) a,.d tI b] [] eG (Io s b a l,Kz s b a l,()):=by
 refine ap rfl (aA JV rfl (λO n=>bK (zz O n l s a b)) ?_);unfold zz;refine aj (L2 s hs a) (ao (λh=>aa ?_) λh=>?_)
 ·have h:wY s a≠0:=by grind
  have e:Kz s b a l=wY s a:=if_pos h;rw[show Io s b a l=[]from by unfold Io;grind,e]
 have d:¬wY s a≠0:=by grind
 have hr:a.length<=64:=by have d:wY s a=0:=f_ d;unfold wY at d;omega
 have e:Kz s b a l=zea s b a l:=if_neg d;refine aj (Oh l g) ?_;have k:=Nf l;refine ae (lR (l:=kD l) (f:=Jt s b a) (enc:=λi=>((i:Int),E8 s b a ((kD l).take i),())) (oB:=λe=>(e,())) (oE:=(E8 s b a (kD l),())) (λi c=>?_) ?_ ?_)
 ·unfold pc;have p:=Ip s b a ((kD l).take i);rw[n_]at p;refine a7 c (aG c (ae (Wp.imp (zh8 s hs b a hr (kD l)[i] (g _ (Vs (b_ c))) _ (by grind)) λx u=>?_)));subst u;by_cases h:Jt s b a (kD l)[i]=0;·rw[if_neg (not_not_intro h),if_pos h];refine aa ?_;show s_ (a_ .i64 ((i:Int)+1),_)=_;rw[aB c (by omega),QY c]
  ·rw[if_pos h,if_neg h];exact aa rfl
 ·unfold pc;refine aU (aa ?_);simp
 have j:zea s b a l=bT (Jt s b a) (kD l):=rfl;unfold Io;rw[e,j];by_cases h:bT (Jt s b a) (kD l)=0;·rw[if_pos h,if_neg (not_not_intro h)];refine aa ?_;rw[h]
 ·rw[if_neg h,if_pos h];exact aa rfl
abbrev EXT:Type:=HA×(Int×(Bool×(Int×(Int×Unit))))
abbrev yEX:Ty:=pr [yP,tI,tB,tW,tI]
def zgD(r:lS)(y:p6):Int:=if y.2.2.1=(Fa r).2.2.1 then 0 else y.2.2.1
def zbp(x:Ci)(y:p6):Int:=if x.2.2.2.1≠0 then x.2.2.2.1 else min y.2.2.2.2.2.2.2.1 16777216
def Jv(m:MTC):EXT:=(m.2.1.1,zbp m.1 m.2.2.1,m.1.2.2.2.2.1,(if m.2.2.1.2.2.1=m.2.1.2.2.1 then 0 else m.2.2.1.2.2.1),m.2.2.1.2.2.2.2.2.2.2.2)
theorem Ch(m:MTC):aC tbl gS [.d yMT m] [] c8 (zbp m.1 m.2.2.1,()):=by refine ap rfl (aA CE rfl (λO n=>bK (rB O n m)) ?_);unfold rB zbp;refine ao (λh=>aa ?_) λh=>aa ?_;all_goals grind
theorem An(m:MTC):aC tbl gh [.d yMT m] [] cM ((if m.2.2.1.2.2.1=m.2.1.2.2.1 then 0 else m.2.2.1.2.2.1),()):=by refine ap rfl (aA BD rfl (λO n=>bK (qd O n m)) ?_);unfold qd;refine ao (λh=>aa ?_) λh=>aa ?_;all_goals grind
theorem map_take{α β:Type}{f:α->β}{l:List α}{i:Nat}(a:i<l.length):(l.take (i+1)).map f=(l.take i).map f++[f l[i]]:=by rw[c_ a,W_];rfl
theorem Vz(s:PS)(b:Int)(a:List Ci)(l:List lS):(Io s b a l).length<=l.length:=by
 unfold Io;split;·simp
 ·exact v_ (Ip s b a _) (Nf l)
theorem Gm(l:List lS)(d:∀r∈l,RteQ r)(hl:l.length<=1000)(s:PS)(hs:SmP s)(a:List Ci):aC tbl eB [.d (.list KG) l,.d yS s,.d (.list Y1) a] [] dv ((Io s 5 a l).map Jv,Kz s 5 a l,()):=by
 refine ap rfl (aA G2 rfl (λO n=>bK (vQ O n l s a)) ?_);unfold vQ;refine aj (I1 l d hl s hs a 5) ?_;have e:=Vz s 5 a l;refine ae (Wp.imp (Q:=λx=>x=((Io s 5 a l).map Jv,())) (bb (N:=(Io s 5 a l).length) (I:=λj x=>x=((j:Int),((Io s 5 a l).take j).map Jv,())) rfl (λj x c b=>?_) λx b=>?_) λx b=>?_)
 ·subst b;unfold lZ;refine a7 c (aG c (aj (Ch _) (aj (An _) (aD (decide_eq_true ?_) (aa ?_)))));·grind
  ·show(a_ .i64 ((j:Int)+1),_)=_;rw[aB c (by omega),map_take c];rfl
 ·subst b;unfold lZ;refine aU (aa ?_);simp
 ·subst b;exact aa rfl
abbrev RES:Type:=Ci×(p6×Unit)
abbrev yRE:Ty:=pr [Y1,Qs]
abbrev zRes:RES:=((0,0,[],0,false,()),((0,0,()),0,0,[],[],0,0,0,0,()),())
noncomputable def Jw(s:PS)(b:Int)(a:List Ci)(r:lS):RES×(Bool×(Int×Unit)):=match zbz s b a r with
 |some x=>if(p5 s x r).2.2≠0 then(zRes,false,(p5 s x r).2.2,())else((x,(p5 s x r).1,()),true,0,())
 |none=>(zRes,false,0,())
abbrev oF(b:Bool)(e:Int)(x:Ci)(y:p6):Bool×Int×Int×Int×List UInt8×Int×Bool×Int×Int×Int×Int×List Int×List Int×Int×Int×Int×Int×Unit:=
 (b,e,x.1,x.2.1,x.2.2.1,x.2.2.2.1,x.2.2.2.2.1,y.1.1,y.1.2.1,y.2.1,y.2.2.1,y.2.2.2.1,y.2.2.2.2.1,y.2.2.2.2.2.1,y.2.2.2.2.2.2.1,y.2.2.2.2.2.2.2.1,y.2.2.2.2.2.2.2.2.1,())
theorem OA(s:PS)(hs:SmP s)(c:Int)(a:List Ci)(hr:a.length<=64)(r:lS)(u:RteQ r):aC tbl sY [.d yS s,.d (.list Y1) a,.d tI c,.d KG r] [] kQ (Jw s c a r):=by
 refine ap (by unfold Jw;split<;>(try split)<;>kernel_rfl) (aA Qi rfl (λO n=>bK (F5 O n s a c r)) ?_)
 unfold F5;refine ae (N9 (δ:=(Bool×Int×Int×Int×List UInt8×Int×Bool×Int×Int×Int×Int×List Int×List Int×Int×Int×Int×Int×Unit)⊕(Int×Int×List UInt8×Int×Bool×Int×Int×Int×Int×Int×Int×Int×Int×Unit)) (xs:=a) (p:=Lm s c r) (enc:=λi=>((i:Int),0,0,[],0,false,0,0,0,0,0,0,0,0,())) (g:=λx=>if(p5 s x r).2.2≠0 then .inl (oF false (p5 s x r).2.2 zRes.1 zRes.2.1)else .inl (oF true 0 x (p5 s x r).1)) (e:=.inr (0,0,[],0,false,0,0,0,0,0,0,0,0,())) (λi d=>?_) ?_ ?_)
 ·unfold ut;refine a7 d (ae (aG d (ae (bn (b:=a[i].1 != r.2.1) (λ_=>aa rfl) ?_))));refine ao (λh=>aa (aa ?_)) λh=>?_
  ·have j:Lm s c r a[i]=false:=by unfold Lm zde;grind
   rw[j,if_neg (by simp)];show s_ (a_ .i64 ((i:Int)+1),_)=_;rw[aB d (by omega)]
  have j:Lm s c r a[i]=(((p5 s a[i] r).2.2 != 0)||(p5 s a[i] r).2.1):=by unfold Lm zde;grind
  rw[j];refine ao (λhp=>?_) λhp=>?_;·have e:p5 s a[i] r=(Fa r,true,0):=if_pos (by grind);rw[e];refine aj (tX r) (aa (aa ?_));simp
  have e:p5 s a[i] r=_:=if_neg (show ¬a[i].2.2.1=[] by grind);rw[e];refine aj (tX r) (aj (TK s _ _ (smq hs u)) ?_);refine ao (λk=>aa (aa ?_)) λk=>?_;·grind
  have k:¬wZ s a[i].2.2.1 (Fa r)≠0:=by grind
  have f:(wZ s a[i].2.2.1 (Fa r) != 0)=false:=by omega
  rw[f,E_];refine ao (λl=>aa (aa ?_)) λl=>aa (aa ?_);·grind
  ·rw[show(SQ s a[i].2.2.1 (Fa r)).1=false from l,if_neg (by simp)];show s_ (a_ .i64 ((i:Int)+1),_)=_;rw[aB d (by omega)]
 ·unfold ut;exact aU (aa rfl)
 ·unfold Jw zbz;cases v:a.find? (Lm s c r)with
  |none=>exact aa rfl|some x=>
   by_cases h:(p5 s x r).2.2≠0;·simp only[if_pos h];exact aa rfl
   ·simp only[if_neg h];exact aa rfl
theorem BQ(r:lS)(x:RES):aC tbl oW [.d KG r,.d yRE x] [] im (zgD r x.2.1,()):=by refine ap rfl (aA LC rfl (λO n=>bK (B8 O n r x)) ?_);unfold B8 zgD;refine aj (tX r) (ao (λh=>aa ?_) λh=>aa ?_);all_goals grind
theorem zfi(s:PS)(b:Int)(a:List Ci)(r:lS):(PD s b a r).map Jv=if(Jw s b a r).2.1 then [(r.1,zbp (Jw s b a r).1.1 (Jw s b a r).1.2.1,(Jw s b a r).1.1.2.2.2.2.1,zgD r (Jw s b a r).1.2.1,(Jw s b a r).1.2.1.2.2.2.2.2.2.2.2)]else []:=by
 unfold PD Jw;cases zbz s b a r with
 |none=>rfl|some x=>
  by_cases h:(p5 s x r).2.2≠0;·grind
  ·simp only[if_neg h];rfl
theorem zfn(s:PS)(b:Int)(a:List Ci)(r:lS):(Jw s b a r).2.2.1=Jt s b a r:=by unfold Jw Jt;grind
theorem Hf(l:List lS)(v:∀r∈l,RteQ r)(hl:l.length<=1000)(s:PS)(hs:SmP s)(a:List Ci):aC tbl lM [.d (.list KG) l,.d yS s,.d (.list Y1) a] [] dW ((Io s 5 a l).map Jv,Kz s 5 a l,()):=by
 refine ap rfl (aA IP rfl (λO n=>bK (xq O n l s a)) ?_);unfold xq;refine aj (Oz s hs a) (ao (λh=>aa ?_) λh=>?_)
 ·have h:wY s a≠0:=by grind
  have e:Kz s 5 a l=wY s a:=if_pos h;rw[show Io s 5 a l=[]from by unfold Io;grind,e];rfl
 have k:¬wY s a≠0:=by grind
 have hr:a.length<=64:=by have k:wY s a=0:=f_ k;unfold wY at k;omega
 have e:Kz s 5 a l=zea s 5 a l:=if_neg k;refine aj (RE l v) ?_;have A:=Nf l;refine ae (lR (l:=kD l) (f:=Jt s 5 a) (enc:=λi=>((i:Int),(E8 s 5 a ((kD l).take i)).map Jv,())) (oB:=λe=>(e,())) (oE:=((E8 s 5 a (kD l)).map Jv,())) (λi c=>?_) ?_ ?_)
 ·unfold nA;have B:=Ip s 5 a ((kD l).take i);rw[n_]at B;have b:(E8 s 5 a ((kD l).take (i+1))).map Jv=(E8 s 5 a ((kD l).take i)).map Jv++(PD s 5 a (kD l)[i]).map Jv:=by rw[QY c,W_]
  have u:=v _ (Vs (b_ c));refine a7 c (ae (aG c ?_));have p:=OA s hs 5 a hr (kD l)[i] u;have y:=zfi s 5 a (kD l)[i];have z:=zfn s 5 a (kD l)[i];rw[y]at b;rw[<-z];have j:((E8 s 5 a ((kD l).take i)).map Jv).length<=1000:=by grind
  generalize(E8 s 5 a ((kD l).take i)).map Jv=C at b j⊢;generalize(E8 s 5 a ((kD l).take (i+1))).map Jv=w at b⊢;generalize(kD l)[i]=r at p b⊢;generalize Jw s 5 a r=f at p b⊢;refine aj p (ao (λh=>aa (aa ?_)) λh=>?_);·grind
  have h:f.2.2.1=0:=by grind
  rw[if_pos h];refine ao (λd=>aa (aa ?_)) λd=>?_
  ·have d:f.2.1=false:=by grind
   rw[d,if_neg (by simp),j_]at b;rw[b];show s_ (a_ .i64 ((i:Int)+1),_)=_;rw[aB c (by omega)]
  have d:f.2.1=true:=by grind
  rw[d,if_pos rfl]at b;refine ae (ao (λg=>aa ?_) λg=>aa ?_)
  ·have g:f.1.1.2.2.2.1=0:=by grind
   refine aj (BQ r f.1) (aD (decide_eq_true ?_) (aa (aa ?_)));·grind
   rw[b,show zbp f.1.1 f.1.2.1=min f.1.2.1.2.2.2.2.2.2.2.1 16777216 from if_neg (not_not_intro g)];show s_ (a_ .i64 ((i:Int)+1),_)=_;rw[aB c (by omega)]
  ·have g:f.1.1.2.2.2.1≠0:=by grind
   refine aj (BQ r f.1) (aD (decide_eq_true ?_) (aa (aa ?_)));·grind
   rw[b,show zbp f.1.1 f.1.2.1=f.1.1.2.2.2.1 from if_pos g];show s_ (a_ .i64 ((i:Int)+1),_)=_;rw[aB c (by omega)]
 ·unfold nA;refine aU (aa ?_);simp
 have x:zea s 5 a l=bT (Jt s 5 a) (kD l):=rfl;unfold Io;rw[e,x];by_cases h:bT (Jt s 5 a) (kD l)=0;·rw[if_pos h,if_neg (not_not_intro h)];refine aa ?_;rw[h]
 ·rw[if_neg h,if_pos h];exact aa rfl
theorem zfg(a:EXT):nk yEX a a=true:=by obtain⟨⟨a,b,⟨⟩⟩,c,d,e,f,⟨⟩⟩:=a;show(((a==a)&&((b==b)&&true))&&((c==c)&&((d==d)&&((e==e)&&((f==f)&&true)))))=true;simp
theorem Mb(a:List EXT)(hl:a.length<=9223372036854775807):aC tbl cX [.d (.list yEX) a,.d (.list yEX) a] [] bN (true,()):=by
 refine ap rfl (aA CF rfl (λO n=>bK (rC O n a a)) ?_);unfold rC;refine an (by simp) ?_;refine ae (Wp.imp (Q:=λx=>x= .inr ()) (bb (N:=a.length) (I:=λj x=>x=((j:Int),())) rfl (λj x c b=>?_) λx b=>?_) λx b=>?_);·subst b;unfold jg;refine a7 c (aG c (aG c (an (by rw[zfg];rfl) (aa ?_))));show(a_ .i64 ((j:Int)+1),())=_;rw[aB c hl]
 ·subst b;unfold jg;exact aU (aa rfl)
 ·subst b;exact aa rfl
theorem Ij{t:Ty}{l:List t.den}(h:∀x∈l,1<=fN t x):l.length<=(l.map (fN t)).sum:=by induction l with|nil=>simp|cons x l a=>grind
theorem VA{t:Ty}{l:List t.den}{x:t.den}(a:x∈l):fN t x<=(l.map (fN t)).sum:=by induction l with|nil=>grind|cons y l b=>grind
theorem X2{s:PS}(a:okD yS s)(b:fN yS s<=1048576):SmP s:=by
 have b:(R_ (fN yL) s.1).sum+1+((R_ (fN yG) s.2.1).sum+1+((R_ (fN yD) s.2.2.1).sum+1+((R_ (fN yO) s.2.2.2.1).sum+1+0)))<=1048576:=b;have g:=Ij (t:=yL) (l:=s.1) λx _=>by show 1<=L_ x.1+1+_;omega
 have h:=Ij (t:=yG) (l:=s.2.1) λx _=>by show 1<=L_ x.1+1+_;omega
 have j:=Ij (t:=yD) (l:=s.2.2.1) λx _=>by show 1<=L_ x.1+1+_;omega
 have k:=Ij (t:=yO) (l:=s.2.2.2.1) λx _=>by show 1<=L_ x.1+1+_;omega
 refine⟨a,by omega,by omega,by omega,by omega,λl hl r hr=>?_⟩;have c:=VA (t:=yG) hl;have d:=VA (t:=yH) hr;have e:fN yG l=l.1.length+1+((R_ (fN yH) l.2.1).sum+1+0):=rfl;have f:fN yH r=1+(r.2.1.length+1+0):=rfl;omega
theorem zfP{r:lS}(h:okD KG r):RteQ r:=⟨h.1.1,λx a=>⟨(h.2.2.2.2.2.1.2 x a).1,(h.2.2.2.2.2.1.2 x a).2.2.2.2.1.1⟩⟩
theorem Px(l:List lS)(s:PS)(a:List Ci)(hs:SmP s)(e:∀r∈l,RteQ r):Conv tbl fg [.d (.list KG) l,.d yS s,.d (.list Y1) a] [] (·=some (kh dA (true,()))):=by refine aA Af rfl (λO n=>bK (pH O n l s a)) ?_;unfold pH;obtain⟨b,c,d⟩:=zeN l s a;refine aj d (ao (λ_=>aj Y4 (aa rfl)) λf=>?_);have hl:=(c f).1;refine aj (Gm l e (by omega) s hs a) (aj (Hf l e (by omega) s hs a) (aj Y4 ?_));have g:=Vz s 5 a l;refine ae (aF rfl (aj (Mb _ (by grind)) (aa ?_)));exact ae (aF rfl (aa (by rw[beq_self_eq_true];exact aa rfl)))
theorem E7:LawOkU fg [.list KG,yS,.list Y1]:=by rintro⟨l,s,a,_⟩ ⟨hl,hs,_⟩ b;have b:fN (.list KG) l+(fN yS s+_)<=1048576:=b;exact⟨kh dA (true,()),Px l s a (X2 hs (by omega)) λr hr=>zfP (hl.2 r hr),rfl⟩
end Go.Proofs.YtmfolppncelceaaGreatDoor
