import Derived.Test.YtmfolppncelceaaGreatDoorMLawPfx
import Derived.Test.YtmfolppncelceaaGreatDoorMGlueB
import Derived.Test.YtmfolppncelceaaGreatDoorML7
import Derived.Test.YtmfolppncelceaaGreatDoorML5
set_option linter.unusedVariables false
set_option linter.unusedSimpArgs false
open Bool renaming and_eq_false_iff->e_,and_eq_true->k_,false_and->m_,not_false->n_,not_true->p_,true_and->q_
open Classical renaming byContradiction->o_
open Go.IntKind renaming wrap->f_
open List renaming getElem_mem->a_,getElem?_eq_getElem->b_,getElem?_eq_none->d_,length->g_,ext_getElem?->h_,getElem?_map->i_,map->j_,length_take->l_,map_cons->r_,sum_cons->s_
open Nat renaming zero_le->u_
open Option renaming bind->c_
open Sum renaming inl->t_
namespace Go.Proofs.YtmfolppncelceaaGreatDoor
open Go Go.Av Go.Ev Go.Pl
theorem Ai(r:V6):aE tbl fB [.d yC r] [] cP (ky r,()):=by
 refine aB rfl (aC BG rfl (λO n=>BP O n r) ?_)
 unfold ry
 refine ak (cf (b:=decide (r.2.1>65535)) (λ_=>aa rfl) (ak (cf (b:=decide (r.2.2.1< -1)) (λ_=>aa rfl) (ak (cf (b:=decide (r.2.2.1>65535)) (λ_=>aa rfl) ?_)))))
 refine ap (λh=>aa ?_) λh=>aa ?_
 ·rw[show ky r=5 from if_pos (by simp at h;omega)]
 ·rw[show ky r=0 from if_neg (by simp at h;omega)]
def Mm(k:Int):Bool:=decide (k=4\/k=5\/k=6\/k=8)
theorem JA(k:Int):∃lo hi:Int,(Mm k=true->lo=Us k/\hi=LV k)/\aE tbl p7 [.d tI k] [] eD (lo,hi,Mm k,()):=by
 have kne:∀{j:Int},k≠j->(k==j)=false:=λh=>beq_eq_false_iff_ne.2 h
 by_cases h4:k=4
 ·subst h4
  exact⟨1,7,λ_=>⟨rfl,rfl⟩,aB rfl (aC m5 rfl (λO n=>m8 O n 4) (by unfold jG;exact aK rfl (aa rfl)))⟩
 by_cases h5:k=5
 ·subst h5
  exact⟨0,4294967295,λ_=>⟨rfl,rfl⟩,aB rfl (aC m5 rfl (λO n=>m8 O n 5) (by unfold jG;exact ao rfl (aK rfl (aa rfl))))⟩
 by_cases h6:k=6
 ·subst h6
  exact⟨0,16777216,λ_=>⟨rfl,rfl⟩,aB rfl (aC m5 rfl (λO n=>m8 O n 6) (by unfold jG;exact ao rfl (ao rfl (aK rfl (aa rfl)))))⟩
 by_cases h8:k=8
 ·subst h8
  exact⟨0,2000,λ_=>⟨rfl,rfl⟩,aB rfl (aC m5 rfl (λO n=>m8 O n 8) (by unfold jG;exact ao rfl (ao rfl (ao rfl (aK rfl (aa rfl))))))⟩
 have e:Mm k=false:=decide_eq_false (by omega)
 rw[e]
 exact⟨0,0,(λh=>by cases h),aB rfl (aC m5 rfl (λO n=>m8 O n k) (by unfold jG;exact ao (kne h4) (ao (kne h5) (ao (kne h6) (ao (kne h8) (aa rfl))))))⟩
def oW(s:PS)(n:List UInt8):Option V8:=s.1.find? (·.1==n)
theorem B0(s:PS)(n:List UInt8)(hl:s.1.length<=9223372036854775807):aE tbl jK [.d yS s,.d tS n] [] eO ((oW s n).getD ([],[],()),(oW s n).isSome,()):=by
 refine aB rfl (aC CS rfl (λO k=>C4 O k s n) ?_)
 unfold sw
 refine ak (s6 (xs:=s.1) (p:=(·.1==n)) (enc:=λi=>((i:Int),([]:List UInt8),())) (g:=λx=>(true,x.1,x.2.1,())) (e:=(([]:List UInt8),())) (λi hi=>?_) ?_ ?_)
 ·unfold kX
  refine cm hi (aW hi (ap (λh=>aa ?_) λh=>aa ?_))
  ·rw[if_pos h]
  ·rw[if_neg (by simp[h]),aL hi hl]
 ·unfold kX
  exact bF (aa rfl)
 ·unfold oW
  cases s.1.find? (·.1==n)with
  |some r=>exact aa rfl
  |none=>exact aa rfl
def wt(s:PS)(n:List UInt8):Option V7:=s.2.1.find? (·.1==n)
theorem G6(s:PS)(n:List UInt8)(hl:s.2.1.length<=9223372036854775807):aE tbl nT [.d yS s,.d tS n] [] iB ((wt s n).getD ([],[],()),(wt s n).isSome,()):=by
 refine aB rfl (aC If rfl (λO k=>Iy O k s n) ?_)
 unfold yJ
 refine ak (s6 (xs:=s.2.1) (p:=(·.1==n)) (enc:=λi=>((i:Int),([]:List UInt8),())) (g:=λx=>(true,x.1,x.2.1,())) (e:=(([]:List UInt8),())) (λi hi=>?_) ?_ ?_)
 ·unfold pw
  refine cm hi (aW hi (ap (λh=>aa ?_) λh=>aa ?_))
  ·rw[if_pos h]
  ·rw[if_neg (by simp[h]),aL hi hl]
 ·unfold pw
  exact bF (aa rfl)
 ·unfold wt
  cases s.2.1.find? (·.1==n)with
  |some r=>exact aa rfl
  |none=>exact aa rfl
def jm(s:PS)(n:List UInt8):Option V5:=s.2.2.1.find? (·.1==n)
theorem xE(s:PS)(n:List UInt8)(hl:s.2.2.1.length<=9223372036854775807):aE tbl gg [.d yS s,.d tS n] [] cR ((jm s n).getD ([],[],()),(jm s n).isSome,()):=by
 refine aB rfl (aC yb rfl (λO k=>yo O k s n) ?_)
 unfold pU
 refine ak (s6 (xs:=s.2.2.1) (p:=(·.1==n)) (enc:=λi=>((i:Int),([]:List UInt8),())) (g:=λx=>(true,x.1,x.2.1,())) (e:=(([]:List UInt8),())) (λi hi=>?_) ?_ ?_)
 ·unfold iE
  refine cm hi (aW hi (ap (λh=>aa ?_) λh=>aa ?_))
  ·rw[if_pos h]
  ·rw[if_neg (by simp[h]),aL hi hl]
 ·unfold iE
  exact bF (aa rfl)
 ·unfold jm
  cases s.2.2.1.find? (·.1==n)with
  |some r=>exact aa rfl
  |none=>exact aa rfl
theorem Vu{s:PS}{n:List UInt8}:D7 s 1 n=(oW s n).isSome:=by unfold D7 oW;rw[if_pos rfl,vQ]
theorem Vv{s:PS}{n:List UInt8}:D7 s 2 n=(wt s n).isSome:=by unfold D7 wt;rw[if_neg (by decide),if_pos rfl,vQ]
theorem Vw{s:PS}{n:List UInt8}:D7 s 3 n=(jm s n).isSome:=by unfold D7 jm;rw[if_neg (by decide),if_neg (by decide),vQ]
theorem G5(s:PS)(m:Wi)(hs:okD yS s)(hm:Bl m.2.2.2.1.1):aE tbl nS [.d yS s,.d yM m] [] cH (sO s m,()):=by
 obtain⟨k,nm,N,⟨pa,pl,⟨⟩⟩,nt,⟨⟩⟩:=m
 refine aB rfl (aC Ie rfl (λO n=>Ix O n s (k,nm,N,(pa,pl,()),nt,())) ?_)
 unfold yI
 refine ak (cf (b:=decide (k>8)) (λ_=>aa rfl) (ap (λh=>aa ?_) λh=>?_))
 ·rw[Mc (show k<1\/8<k by simp at h;omega)]
 have hk:1<=k/\k<=8:=by simp at h;omega
 obtain⟨lo,hi,hlh,hc⟩:=JA k
 refine an hc (ak (bX (b:= !(nm==[])) (λ_=>aa rfl) ?_))
 refine ak (cf (b:= !Mm k&&(N != 0)) (λ_=>ak (bX (b:=(N != 0)) (λ_=>aa rfl) (aa rfl))) ?_)
 refine ak (cf (b:=(k != 7)&&(true ^^ qc yP (pa,pl,()) (0,0,()))) (λ_=>ak (bX (b:=(true ^^ qc yP (pa,pl,()) (0,0,()))) (λ_=>aa rfl) (aa rfl))) ?_)
 have hz:(true ^^ qc yP (pa,pl,()) (0,0,()))= !(pa==0&&pl==0):=by
  show(true ^^ ((pa==0)&&((pl==0)&&true)))=_
  rw[Bool.and_true,Bool.true_xor]
 rw[hz]
 have hvz:ut ((0:Int),(0:Int),())=true:=by decide
 have kne:∀{j:Int},k≠j->(k==j)=false:=λh=>beq_eq_false_iff_ne.2 h
 by_cases hn:k=1\/k=2\/k=3
 ·rw[t7 hn]
  have e1:decide (k<=3)=true:=decide_eq_true (by omega)
  have e2:Mm k=false:=decide_eq_false (by omega)
  have e3:(k != 7)=true:=bne_iff_ne.2 (by omega)
  rw[e1,e2,e3]
  simp only[p_,m_,n_,q_,Bool.false_or]
  refine ap (λh=>aa ?_) λh=>?_
  ·rw[if_pos]
   simp at h
   exact h
  simp at h
  obtain⟨rfl,rfl,rfl⟩:=h
  rw[if_neg (by simp)]
  refine ak (Wp.imp (Q:=λr=>r=(D7 s k nm,())) ?_ λr hr=>?_)
  ·rcases hn with rfl|rfl|rfl
   ·rw[Vu];exact aK rfl (an (B0 s nm hs.1.1) (aa rfl))
   ·rw[Vv];exact ao rfl (aK rfl (an (G6 s nm hs.2.1.1) (aa rfl)))
   ·rw[Vw];exact ao rfl (ao rfl (aK rfl (an (xE s nm hs.2.2.1.1) (aa rfl))))
  ·subst hr
   refine ap (λh=>aa ?_) λh=>ak (aa (ao rfl (an (nN ((0:Int),(0:Int),()) (by exact⟨by decide,by decide⟩)) ?_)))
   ·rw[if_neg (by simpa using h)]
   ·rw[hvz]
    refine ao rfl (aa ?_)
    rw[if_pos (by simpa using h)]
 by_cases h7:k=7
 ·subst h7
  rw[Md]
  refine ap (λh=>aa ?_) λh=>?_
  ·rw[if_pos]
   simp[Mm]at h
   rcases h with h|h
   ·exact .inl h
   ·exact .inr h
  simp[Mm]at h
  obtain⟨rfl,rfl⟩:=h
  rw[if_neg (by simp)]
  refine ak (ao rfl (ao rfl (ao rfl (aa (ao rfl (ak (aa (an (nN (pa,pl,()) hm) ?_))))))))
  refine ap (λh=>aa ?_) λh=>aa ?_
  ·rw[if_neg (by simpa using h)]
  ·rw[if_pos (by simpa using h)]
 have hnum:k=4\/k=5\/k=6\/k=8:=by omega
 rw[Me hnum]
 have e1:decide (k<=3)=false:=decide_eq_false (by omega)
 have e2:Mm k=true:=decide_eq_true hnum
 have e3:(k != 7)=true:=bne_iff_ne.2 h7
 obtain⟨rfl,rfl⟩:=hlh e2
 rw[e1,e2,e3]
 simp only[p_,m_,n_,q_,Bool.or_false]
 refine ap (λh=>aa ?_) λh=>?_
 ·rw[if_pos]
  simp at h
  exact h
 simp at h
 obtain⟨rfl,rfl,rfl⟩:=h
 rw[if_neg (by simp)]
 refine ak (ao (kne (by omega)) (ao (kne (by omega)) (ao (kne (by omega)) (aa (ao rfl ?_)))))
 refine ak (ak (cf (b:=decide (N>LV k)) (λ_=>aa rfl) (aa ?_)))
 refine ap (λh=>aa ?_) λh=>an (nN ((0:Int),(0:Int),()) (by exact⟨by decide,by decide⟩)) ?_
 ·rw[if_pos (by simpa using h)]
 ·rw[hvz]
  refine ao rfl (aa ?_)
  rw[if_neg (by simp at h;omega)]
theorem EP(a:Re):aE tbl md [.d yA a] [] bI (tq a,()):=by
 refine aB rfl (aC Gw rfl (λO n=>GQ O n a) ?_)
 unfold vM
 refine ak (ak ?_)
 by_cases hb:a.1<1\/8<a.1
 ·have n1:∀k:Int,1<=k->k<=8->(a.1==k)=false:=λk h1 h2=>beq_eq_false_iff_ne.2 (by omega)
  refine ao (n1 1 (by decide) (by decide)) (ao (n1 2 (by decide) (by decide)) (aa (ao (n1 4 (by decide) (by decide)) (ao (n1 3 (by decide) (by decide)) (ao (n1 5 (by decide) (by decide)) ?_)))))
  refine ak (ao (n1 6 (by decide) (by decide)) (aa (ao (n1 7 (by decide) (by decide)) (ao (n1 8 (by decide) (by decide)) (aa (aa ?_))))))
  rw[show tq a=15 from if_pos hb]
 have fin:∀(only:Re) (high:Int),mO a=only->(a=only->((a.2.1<0\/high<a.2.1\/(a.1=5/\a.2.2.2.2.1=0)\/(a.1=8/\(a.2.1<1\/a.2.2.1<1\/a.2.2.1>4294967295)))↔mK a=false))->Wp (λ_=>bif (true ^^ qc yA a only)then aA bI ((1:Int),())else
  c_ (bif decide (a.2.1<(0:Int))then some (true)else some (decide (a.2.1>high))) λv5=>
  bif v5 then aA bI ((5:Int),())else
  c_ (bif (a.1==(5:Int))then some ((a.2.2.2.2.1==(0:Int)))else some (false)) λv6=>
  c_ (bif v6 then some (true)else c_ (bif (a.1==(8:Int))then c_ (bif decide (a.2.1<(1:Int))then some (true)else some (decide (a.2.2.1<(1:Int)))) λv7=>c_ (bif v7 then some (true)else some (decide (a.2.2.1>(4294967295:Int)))) λv8=>some (v8)else some (false)) λv9=>some (v9)) λv10=>
  bif v10 then aA bI ((5:Int),())else aA bI ((0:Int),())) (λx=>x=some (iL bI (tq a,()))):=λonly high h1 h2=>by
  have e:tq a=if ¬a=only then 1 else if mK a=false then 5 else 0:=by unfold tq;rw[if_neg hb,h1]
  rw[e]
  refine ap (λh=>aa ?_) λh=>?_
  ·rw[if_pos (ne_eqD.1 h)]
  have ha:a=only:=o_ λx=>by rw[ne_eqD.2 x]at h;cases h
  have h2:=h2 ha
  rw[if_neg (not_not_intro ha)]
  refine ak (cf (b:=decide (a.2.1>high)) (λ_=>aa rfl) (ap (λh=>aa ?_) λh=>?_))
  ·rw[if_pos (h2.1 (by simp at h;omega))]
  refine ak (bX (b:=(a.2.2.2.2.1==0)) (λ_=>aa rfl) ?_)
  refine ak (cf (b:=(a.1==8)&&((decide (a.2.1<1)||decide (a.2.2.1<1))||decide (a.2.2.1>4294967295))) (λ_=>ak (bX (b:=(decide (a.2.1<1)||decide (a.2.2.1<1))||decide (a.2.2.1>4294967295)) (λ_=>ak (cf (b:=decide (a.2.2.1<1)) (λ_=>aa rfl) (ak (cf (b:=decide (a.2.2.1>4294967295)) (λ_=>aa rfl) (aa rfl))))) (aa rfl))) ?_)
  refine ap (λh'=>aa ?_) λh'=>aa ?_
  ·rw[if_pos (h2.1 (by simp at h';omega))]
  ·rw[if_neg]
   intro hf
   have:=h2.2 hf
   simp at h h'
   omega
 have kne:∀{k:Int},a.1≠k->(a.1==k)=false:=λh=>beq_eq_false_iff_ne.2 h
 have keq:∀{k:Int},a.1=k->(a.1==k)=true:=λh=>beq_iff_eq.2 h
 have f1:∀(high:Int),(a.1=1\/a.1=2\/a.1=4)->high=4294967295->((a.2.1<0\/high<a.2.1\/(a.1=5/\a.2.2.2.2.1=0)\/(a.1=8/\(a.2.1<1\/a.2.2.1<1\/a.2.2.1>4294967295)))↔mK a=false):=λhigh hk hh=>by
  unfold mK;rw[if_neg (by omega),if_pos (by omega)];simp only[e_,decide_eq_false_iff_not];omega
 by_cases h1:a.1=1
 ·refine aK (keq h1) (aa (aK (keq h1) (aa (fin _ _ ?_ λ_=>f1 _ (by omega) rfl))))
  unfold mO;rw[if_pos (by omega)]
 refine ao (kne h1) ?_
 by_cases h2:a.1=2
 ·refine aK (keq h2) (aa (aK (keq h2) (aa (fin _ _ ?_ λ_=>f1 _ (by omega) rfl))))
  unfold mO;rw[if_pos (by omega)]
 refine ao (kne h2) (aa ?_)
 by_cases h4:a.1=4
 ·refine aK (keq h4) (aa (fin _ _ ?_ λ_=>f1 _ (by omega) rfl))
  unfold mO;rw[if_pos (by omega)]
 refine ao (kne h4) ?_
 by_cases h3:a.1=3
 ·refine aK (keq h3) (aa (fin _ _ ?_ λ_=>?_))
  ·unfold mO;rw[if_pos (by omega)]
  ·unfold mK;rw[if_pos (by omega)];simp only[e_,decide_eq_false_iff_not];omega
 refine ao (kne h3) ?_
 by_cases h5:a.1=5
 ·refine aK (keq h5) (aa (fin _ _ ?_ λha=>?_))
  ·unfold mO;rw[if_neg (by omega),if_pos (by omega)]
  ·have hN:a.2.1=0:=by rw[ha]
   unfold mK;rw[if_neg (by omega),if_neg (by omega),if_pos (by omega)];simp only[bne_eq_false_iff_eq];omega
 refine ao (kne h5) (ak ?_)
 have f6:∀(only:Re) (high:Int),only.2.1=0->(a.1=6\/a.1=7)->high=4294967295->(a=only->((a.2.1<0\/high<a.2.1\/(a.1=5/\a.2.2.2.2.1=0)\/(a.1=8/\(a.2.1<1\/a.2.2.1<1\/a.2.2.1>4294967295)))↔mK a=false)):=λonly high ho hk hh ha=>by
  have hN:a.2.1=0:=by rw[ha];exact ho
  unfold mK;rw[if_neg (by omega),if_neg (by omega),if_neg (by omega),if_pos (by omega)]
  simp only[Bool.true_eq_false,iff_false];omega
 by_cases h6:a.1=6
 ·refine aK (keq h6) (aa (aK (keq h6) (aa (fin _ _ ?_ (f6 _ _ rfl (by omega) rfl)))))
  unfold mO;rw[if_neg (by omega),if_neg (by omega),if_pos (by omega)]
 refine ao (kne h6) (aa ?_)
 by_cases h7:a.1=7
 ·refine aK (keq h7) (aa (fin _ _ ?_ (f6 _ _ rfl (by omega) rfl)))
  unfold mO;rw[if_neg (by omega),if_neg (by omega),if_pos (by omega)]
 refine ao (kne h7) (aK (keq (by omega)) (aa (fin _ _ ?_ λha=>?_)))
 ·unfold mO;rw[if_neg (by omega),if_neg (by omega),if_neg (by omega)]
 ·unfold mK;rw[if_neg (by omega),if_neg (by omega),if_neg (by omega),if_neg (by omega)]
  simp only[e_,decide_eq_false_iff_not];omega
def tR(name before:List UInt8)(first:Bool)(sz:Nat):Int:=if ja name=false then 1 else if first=false/\sf name before=true then 16 else if sz>64 then 4 else 0
theorem lS(name before:List UInt8)(first:Bool)(sz:Nat)(hn:name.length<=9223372036854775807):aE tbl eR [.d tS name,.d tS before,.d tB first,.d tI (sz:Int)] [] cd (tR name before first sz,()):=by
 refine aB rfl (aC Gx rfl (λO n=>GR O n name before first (sz:Int)) ?_)
 unfold vN
 refine an (Aj name hn) (ap (λh=>aa ?_) λh=>?_)
 ·rw[show tR name before first sz=1 from if_pos (by simpa using h)]
 have e1:¬ja name=false:=by simpa using h
 refine ak (bX (b:=sf name before) (λ_=>aa rfl) (ap (λh=>aa ?_) λh=>?_))
 ·rw[show tR name before first sz=16 from by unfold tR;rw[if_neg e1,if_pos (by simpa using h)]]
 have e2:¬(first=false/\sf name before=true):=by
  rintro⟨h1,h2⟩
  rw[h1,h2]at h
  cases h
 refine ap (λh=>aa ?_) λh=>aa ?_
 ·rw[show tR name before first sz=4 from by unfold tR;rw[if_neg e1,if_neg e2,if_pos (by have:=of_decide_eq_true h;omega)]]
 ·rw[show tR name before first sz=0 from by unfold tR;rw[if_neg e1,if_neg e2,if_neg (by have:=of_decide_eq_false h;omega)]]
def JJ(l:List (List UInt8))(i:Nat):List UInt8:=if i=0 then []else l.getD (i - 1) []
theorem AA{α:Type}{nm:α->List UInt8}{l:List α}{i:Nat}(hi:i<l.length):JJ (l.map nm) (i+1)=nm l[i]:=by
 unfold JJ
 rw[if_neg (by omega),Nat.add_sub_cancel,List.getD,i_,b_ hi]
 rfl
theorem Ew{α:Type}{nm:α->List UInt8}{sz:α->Nat}{ck:α->Int}{l:List α}{i:Nat}(hi:i<l.length):
 HS nm sz ck l i=if tR (nm l[i]) (JJ (l.map nm) i) ((i:Int)==0) (sz l[i])=0 then ck l[i]else tR (nm l[i]) (JJ (l.map nm) i) ((i:Int)==0) (sz l[i]):=by
 rw[A4 hi]
 have en:qS (l.map nm) i=if ja (nm l[i])=false then 1 else if 0<i/\sf (nm l[i]) ((l.map nm).getD (i - 1) [])=true then 16 else 0:=by
  unfold qS
  rw[i_,b_ hi]
  rfl
 rw[en]
 unfold tR
 by_cases h1:ja (nm l[i])=false
 ·simp[h1]
 ·rw[if_neg h1,if_neg h1]
  have hb:(((i:Int)==0)=false/\sf (nm l[i]) (JJ (l.map nm) i)=true)↔(0<i/\sf (nm l[i]) ((l.map nm).getD (i - 1) [])=true):=by
   unfold JJ
   by_cases h0:i=0
   ·subst h0;simp
   ·rw[if_neg h0]
    have:((i:Int)==0)=false:=beq_eq_false_iff_ne.2 (by omega)
    rw[this]
    constructor
    ·rintro⟨_,h⟩;exact⟨by omega,h⟩
    ·rintro⟨_,h⟩;exact⟨rfl,h⟩
  by_cases h2:(0<i/\sf (nm l[i]) ((l.map nm).getD (i - 1) [])=true)
  ·rw[if_pos h2,if_pos (hb.2 h2)];simp
  ·rw[if_neg h2,if_neg (λx=>h2 (hb.1 x))]
   by_cases h3:sz l[i]>64<;>simp[h3]
def Wv(x:V8):Prop:=∀r∈x.2.1,Bl r.2.1.1
def Ww(x:V7):Prop:=∀r∈x.2.1,r.2.1.length<=1048576
def Wx(_:V5):Prop:=True
theorem VU{x:V8}(h:Wv x){j:Nat}(hj:j<x.2.1.length)(hl:x.2.1.length<=64):Wp (λn=>c_ (aD (sG tbl n) ku [.d yR x.2.1[j]] [] eJ) λv5=>bif (v5.1 != (0:Int))then some (.inr (.inl ((v5.1,()))))else some (.inl (f_ .i64 ((j:Int)+(1:Int)),())))
 (fun(r:(Int×Unit)⊕(Int×Unit)⊕Unit)=>r=if jT x.2.1[j]=0 then .inl (((j+1:Nat):Int),())else .inr (.inl (jT x.2.1[j],()))):=by
 refine an (G3 _ (h _ (a_ hj))) (ap (λh=>aa ?_) λh=>aa ?_)
 ·rw[if_neg (by simpa using h)]
 ·rw[if_pos (by simpa using h),aL hj (by omega)]
theorem VV{x:V7}(h:Ww x){j:Nat}(hj:j<x.2.1.length)(hl:x.2.1.length<=64):Wp (λn=>c_ (aD (sG tbl n) kq [.d tS x.2.1[j].2.1] [] eI) λv5=>bif (v5.2.1 != (0:Int))then some (.inr (.inl ((v5.2.1,()))))else some (.inl (f_ .i64 ((j:Int)+(1:Int)),())))
 (fun(r:(Int×Unit)⊕(Int×Unit)⊕Unit)=>r=if(λr:Wh=>iM r.2.1) x.2.1[j]=0 then .inl (((j+1:Nat):Int),())else .inr (.inl ((λr:Wh=>iM r.2.1) x.2.1[j],()))):=by
 obtain⟨c,h1,h2⟩:=G1 x.2.1[j].2.1 (h _ (a_ hj))
 simp only
 rw[<-Py h1]
 refine an h2 (ap (λh=>aa ?_) λh=>aa ?_)
 ·rw[if_neg (by simpa using h)]
 ·rw[if_pos (by simpa using h),aL hj (by omega)]
theorem VW{x:V5}(_:Wx x){j:Nat}(hj:j<x.2.1.length)(hl:x.2.1.length<=64):Wp (λn=>c_ (aD (sG tbl n) fB [.d yC x.2.1[j]] [] cP) λv5=>bif (v5.1 != (0:Int))then some (.inr (.inl ((v5.1,()))))else some (.inl (f_ .i64 ((j:Int)+(1:Int)),())))
 (fun(r:(Int×Unit)⊕(Int×Unit)⊕Unit)=>r=if ky x.2.1[j]=0 then .inl (((j+1:Nat):Int),())else .inr (.inl (ky x.2.1[j],()))):=by
 refine an (Ai _) (ap (λh=>aa ?_) λh=>aa ?_)
 ·rw[if_neg (by simpa using h)]
 ·rw[if_pos (by simpa using h),aL hj (by omega)]
theorem B1(l:List V8)(hn:∀x∈l,x.1.length<=9223372036854775807)(hr:∀x∈l,Wv x):aE tbl jL [.d (.list yL) l] [] dt (fT (·.1) (λl=>l.2.1.length) (λl=>bR jT l.2.1) l,()):=by
 refine aB rfl (aC CU rfl (λO n=>C5 O n l) ?_)
 unfold sx
 refine ap (λh=>aa ?_) λh=>?_
 ·rw[show fT (·.1) (λl=>l.2.1.length) (λl=>bR jT l.2.1) l=4 from if_pos (by have:=of_decide_eq_true h;omega)]
 have hlen:¬l.length>64:=by have:=of_decide_eq_false h;omega
 rw[show fT (·.1) (λl=>l.2.1.length) (λl=>bR jT l.2.1) l=lP (HS (·.1) (λl=>l.2.1.length) (λl=>bR jT l.2.1) l) l.length from if_neg hlen]
 generalize hE:HS (·.1) (λl=>l.2.1.length) (λl=>bR jT l.2.1) l=E
 refine ak (ra (N:=l.length) (f:=E) (enc:=λi=>(JJ (l.map (·.1)) i,(i:Int),())) (oB:=λe=>(e,())) (oE:=()) (λi hi=>?_) ?_ ?_)
 ·unfold kZ
  have en:=Ew (nm:=(·.1)) (sz:=λl=>l.2.1.length) (ck:=λl=>bR jT l.2.1) hi
  rw[hE]at en
  refine cm hi (aW hi (an (lS _ _ _ _ (hn _ (a_ hi))) (ap (λh=>aa ?_) λh=>?_)))
  ·rw[if_neg (by simpa using h)]at en
   rw[en,if_neg (by simpa using h)]
  rw[if_pos (by simpa using h)]at en
  rw[en]
  have hln:l[i].2.1.length<=64:=by
   have h:tR l[i].1 (JJ (l.map (·.1)) i) ((i:Int)==0) l[i].2.1.length=0:=by simpa using h
   unfold tR at h
   split at h
   ·cases h
   split at h
   ·cases h
   split at h
   ·cases h
   ·omega
  refine ak (kV (l:=l[i].2.1) (f:=jT) (enc:=λi=>((i:Int),())) (oB:=λe=>(e,())) (oE:=()) (λj hj=>?_) ?_ ?_)
  ·unfold kY
   exact cm hj (aW hj (VU (hr _ (a_ hi)) hj hln))
  ·unfold kY
   exact bF (aa rfl)
  by_cases e:bR jT l[i].2.1=0
  ·rw[if_pos e,if_pos e]
   refine aa ?_
   show _=t_ (JJ (l.map (·.1)) (i+1),((i+1:Nat):Int),())
   rw[AA (nm:=(·.1)) hi,aL hi (by omega)]
  ·rw[if_neg e,if_neg e]
   exact aa rfl
 ·unfold kZ
  exact bF (aa rfl)
 by_cases e:lP E l.length=0
 ·rw[if_pos e]
  refine aa ?_
  rw[e]
 ·rw[if_neg e]
  exact aa rfl
theorem G7(l:List V7)(hn:∀x∈l,x.1.length<=9223372036854775807)(hr:∀x∈l,Ww x):aE tbl nU [.d (.list yG) l] [] fY (fT (·.1) (λl=>l.2.1.length) (λl=>bR (λr=>iM r.2.1) l.2.1) l,()):=by
 refine aB rfl (aC Ig rfl (λO n=>Iz O n l) ?_)
 unfold yK
 refine ap (λh=>aa ?_) λh=>?_
 ·rw[show fT (·.1) (λl=>l.2.1.length) (λl=>bR (λr=>iM r.2.1) l.2.1) l=4 from if_pos (by have:=of_decide_eq_true h;omega)]
 have hlen:¬l.length>64:=by have:=of_decide_eq_false h;omega
 rw[show fT (·.1) (λl=>l.2.1.length) (λl=>bR (λr=>iM r.2.1) l.2.1) l=lP (HS (·.1) (λl=>l.2.1.length) (λl=>bR (λr=>iM r.2.1) l.2.1) l) l.length from if_neg hlen]
 generalize hE:HS (·.1) (λl=>l.2.1.length) (λl=>bR (λr=>iM r.2.1) l.2.1) l=E
 refine ak (ra (N:=l.length) (f:=E) (enc:=λi=>(JJ (l.map (·.1)) i,(i:Int),())) (oB:=λe=>(e,())) (oE:=()) (λi hi=>?_) ?_ ?_)
 ·unfold py
  have en:=Ew (nm:=(·.1)) (sz:=λl=>l.2.1.length) (ck:=λl=>bR (λr=>iM r.2.1) l.2.1) hi
  rw[hE]at en
  refine cm hi (aW hi (an (lS _ _ _ _ (hn _ (a_ hi))) (ap (λh=>aa ?_) λh=>?_)))
  ·rw[if_neg (by simpa using h)]at en
   rw[en,if_neg (by simpa using h)]
  rw[if_pos (by simpa using h)]at en
  rw[en]
  have hln:l[i].2.1.length<=64:=by
   have h:tR l[i].1 (JJ (l.map (·.1)) i) ((i:Int)==0) l[i].2.1.length=0:=by simpa using h
   unfold tR at h
   split at h
   ·cases h
   split at h
   ·cases h
   split at h
   ·cases h
   ·omega
  refine ak (kV (l:=l[i].2.1) (f:=(λr=>iM r.2.1)) (enc:=λi=>((i:Int),())) (oB:=λe=>(e,())) (oE:=()) (λj hj=>?_) ?_ ?_)
  ·unfold px
   exact cm hj (aW hj (VV (hr _ (a_ hi)) hj hln))
  ·unfold px
   exact bF (aa rfl)
  by_cases e:bR (λr=>iM r.2.1) l[i].2.1=0
  ·rw[if_pos e,if_pos e]
   refine aa ?_
   show _=t_ (JJ (l.map (·.1)) (i+1),((i+1:Nat):Int),())
   rw[AA (nm:=(·.1)) hi,aL hi (by omega)]
  ·rw[if_neg e,if_neg e]
   exact aa rfl
 ·unfold py
  exact bF (aa rfl)
 by_cases e:lP E l.length=0
 ·rw[if_pos e]
  refine aa ?_
  rw[e]
 ·rw[if_neg e]
  exact aa rfl
theorem xF(l:List V5)(hn:∀x∈l,x.1.length<=9223372036854775807)(hr:∀x∈l,Wx x):aE tbl gh [.d (.list yD) l] [] co (fT (·.1) (λl=>l.2.1.length) (λl=>bR ky l.2.1) l,()):=by
 refine aB rfl (aC yc rfl (λO n=>yp O n l) ?_)
 unfold pV
 refine ap (λh=>aa ?_) λh=>?_
 ·rw[show fT (·.1) (λl=>l.2.1.length) (λl=>bR ky l.2.1) l=4 from if_pos (by have:=of_decide_eq_true h;omega)]
 have hlen:¬l.length>64:=by have:=of_decide_eq_false h;omega
 rw[show fT (·.1) (λl=>l.2.1.length) (λl=>bR ky l.2.1) l=lP (HS (·.1) (λl=>l.2.1.length) (λl=>bR ky l.2.1) l) l.length from if_neg hlen]
 generalize hE:HS (·.1) (λl=>l.2.1.length) (λl=>bR ky l.2.1) l=E
 refine ak (ra (N:=l.length) (f:=E) (enc:=λi=>(JJ (l.map (·.1)) i,(i:Int),())) (oB:=λe=>(e,())) (oE:=()) (λi hi=>?_) ?_ ?_)
 ·unfold iG
  have en:=Ew (nm:=(·.1)) (sz:=λl=>l.2.1.length) (ck:=λl=>bR ky l.2.1) hi
  rw[hE]at en
  refine cm hi (aW hi (an (lS _ _ _ _ (hn _ (a_ hi))) (ap (λh=>aa ?_) λh=>?_)))
  ·rw[if_neg (by simpa using h)]at en
   rw[en,if_neg (by simpa using h)]
  rw[if_pos (by simpa using h)]at en
  rw[en]
  have hln:l[i].2.1.length<=64:=by
   have h:tR l[i].1 (JJ (l.map (·.1)) i) ((i:Int)==0) l[i].2.1.length=0:=by simpa using h
   unfold tR at h
   split at h
   ·cases h
   split at h
   ·cases h
   split at h
   ·cases h
   ·omega
  refine ak (kV (l:=l[i].2.1) (f:=ky) (enc:=λi=>((i:Int),())) (oB:=λe=>(e,())) (oE:=()) (λj hj=>?_) ?_ ?_)
  ·unfold iF
   exact cm hj (aW hj (VW (hr _ (a_ hi)) hj hln))
  ·unfold iF
   exact bF (aa rfl)
  by_cases e:bR ky l[i].2.1=0
  ·rw[if_pos e,if_pos e]
   refine aa ?_
   show _=t_ (JJ (l.map (·.1)) (i+1),((i+1:Nat):Int),())
   rw[AA (nm:=(·.1)) hi,aL hi (by omega)]
  ·rw[if_neg e,if_neg e]
   exact aa rfl
 ·unfold iG
  exact bF (aa rfl)
 by_cases e:lP E l.length=0
 ·rw[if_pos e]
  refine aa ?_
  rw[e]
 ·rw[if_neg e]
  exact aa rfl
end Go.Proofs.YtmfolppncelceaaGreatDoor
namespace Go.Proofs.YtmfolppncelceaaGreatDoor
open Go Go.Av Go.Ev Go.Pl
theorem JB(s:PS)(hs:okD yS s)(p:RF)(hp:okD yO p)(i:Nat)(hi:i<p.2.1.length):aE tbl p8 [.d yS s,.d yO p,.d tI (i:Int)] [] cz (iv s (p.2.1.take i) p.2.1[i],()):=by
 refine aB rfl (aC KF rfl (λO n=>KT O n s p (i:Int)) ?_)
 unfold Ao
 refine aW hi ?_
 have ht:okD yT p.2.1[i]:=hp.2.1.2 _ (a_ hi)
 have hb:(p.2.1.take i).length<=9223372036854775807:=by
  have:p.2.1.length<=9223372036854775807:=hp.2.1.1
  rw[l_];omega
 have hdt:(p.2.1.take (Int.toNat (i:Int))).drop 0=p.2.1.take i:=by rw[List.drop_zero,Int.toNat_natCast]
 generalize p.2.1[i]=t at ht
 have hm:∀m∈t.2.1,Bl m.2.2.2.1.1:=λm hm=>((ht.2.1.2 m hm).2.2.2.1).1
 refine an (Aj t.1 ht.1) (ap (λh=>aa ?_) λh=>?_)
 ·rw[show iv s (p.2.1.take i) t=1 from if_pos (by simpa using h)]
 have hn:¬ja t.1=false:=by simpa using h
 refine aN (decide_eq_true (by omega)) (aN (by simp;omega) ?_)
 unfold vP
 rw[hdt]
 generalize hbe:p.2.1.take i=before at hb
 refine ak (s6 (xs:=before) (p:=(·.1==t.1)) (enc:=λi=>((i:Int),t.1,t.2.1,t.2.2.1,t.2.2.2.1,())) (g:=λ_=>((7:Int),())) (e:=(t.1,t.2.1,t.2.2.1,t.2.2.2.1,())) (λj hj=>?_) ?_ ?_)
 ·refine cm hj (aW hj (ap (λh=>aa ?_) λh=>aa ?_))
  ·rw[if_pos h]
  ·rw[if_neg (by simp[h]),aL hj hb]
 ·exact bF (aa rfl)
 have hany:before.any (·.1==t.1)=(before.find? (·.1==t.1)).isSome:=vQ
 cases e:before.find? (·.1==t.1)with
 |some r=>
  rw[e]at hany
  have hany:before.any (·.1==t.1)=true:=hany
  refine aa ?_
  rw[show iv s before t=7 from by unfold iv;rw[if_neg hn,if_pos hany]]
 |none=>
  rw[e]at hany
  have ha:¬before.any (·.1==t.1)=true:=by rw[hany];decide
  refine ap (λh=>aa ?_) λh=>?_
  ·have h:decide ((t.2.1.length:Int)>64)=true:=h
   rw[show iv s before t=4 from by unfold iv;rw[if_neg hn,if_neg ha,if_pos (by have:=of_decide_eq_true h;omega)]]
  have h:decide ((t.2.1.length:Int)>64)=false:=h
  have h1:¬t.2.1.length>64:=by have:=of_decide_eq_false h;omega
  refine ak (kV (l:=t.2.1) (f:=sO s) (enc:=λi=>((i:Int),t.1,t.2.1,t.2.2.1,t.2.2.2.1,())) (oB:=λe=>(e,())) (oE:=(t.1,t.2.1,t.2.2.1,t.2.2.2.1,())) (λi hi=>?_) ?_ ?_)
  ·unfold qE
   refine cm hi (aW hi (an (G5 s _ hs (hm _ (a_ hi))) (ap (λh=>aa ?_) λh=>aa ?_)))
   ·rw[if_neg (by simpa using h)]
   ·rw[if_pos (by simpa using h),aL hi (by omega)]
  ·unfold qE
   exact bF (aa rfl)
  by_cases e1:bR (sO s) t.2.1=0
  ·rw[if_pos e1]
   refine ap (λh=>aa ?_) λh=>?_
   ·have h:decide ((t.2.2.1.length:Int)>64)=true:=h
    rw[show iv s before t=4 from by unfold iv;rw[if_neg hn,if_neg ha,if_neg h1,if_neg (not_not_intro e1),if_pos (by have:=of_decide_eq_true h;omega)]]
   have h:decide ((t.2.2.1.length:Int)>64)=false:=h
   have h2:¬t.2.2.1.length>64:=by have:=of_decide_eq_false h;omega
   refine ak (kV (l:=t.2.2.1) (f:=tq) (enc:=λi=>((i:Int),t.1,t.2.1,t.2.2.1,t.2.2.2.1,())) (oB:=λe=>(e,())) (oE:=(t.1,t.2.1,t.2.2.1,t.2.2.2.1,())) (λi hi=>?_) ?_ ?_)
   ·unfold qF
    refine cm hi (aW hi (an (EP _) (ap (λh=>aa ?_) λh=>aa ?_)))
    ·rw[if_neg (by simpa using h)]
    ·rw[if_pos (by simpa using h),aL hi (by omega)]
   ·unfold qF
    exact bF (aa rfl)
   by_cases e2:bR tq t.2.2.1=0
   ·rw[if_pos e2]
    refine ak (bX (b:=(t.2.2.2.1 != 2)) (λ_=>aa rfl) (ak (bX (b:=(t.2.2.2.1 != 3)) (λ_=>aa rfl) (ap (λh=>aa ?_) λh=>aa ?_))))
    ·have h:((t.2.2.2.1 != 1&&t.2.2.2.1 != 2)&&t.2.2.2.1 != 3)=true:=h
     rw[show iv s before t=15 from by unfold iv;rw[if_neg hn,if_neg ha,if_neg h1,if_neg (not_not_intro e1),if_neg h2,if_neg (not_not_intro e2),if_pos (by simp at h;omega)]]
    ·have h:((t.2.2.2.1 != 1&&t.2.2.2.1 != 2)&&t.2.2.2.1 != 3)=false:=h
     rw[show iv s before t=0 from by unfold iv;rw[if_neg hn,if_neg ha,if_neg h1,if_neg (not_not_intro e1),if_neg h2,if_neg (not_not_intro e2),if_neg (by simp at h;omega)]]
   ·rw[if_neg e2]
    refine aa ?_
    rw[show iv s before t=bR tq t.2.2.1 from by unfold iv;rw[if_neg hn,if_neg ha,if_neg h1,if_neg (not_not_intro e1),if_neg h2,if_pos e2]]
  ·rw[if_neg e1]
   refine aa ?_
   rw[show iv s before t=bR (sO s) t.2.1 from by unfold iv;rw[if_neg hn,if_neg ha,if_neg h1,if_pos e1]]
theorem G4(s:PS)(hs:SmP s):aE tbl nR [.d yS s] [] cG (Bp iM s,()):=by
 refine aB rfl (aC Ic rfl (λO n=>Iw O n s) ?_)
 unfold yE
 have hok:=hs.ok
 have c1:=B1 s.1 (λx hx=>(hok.1.2 x hx).1) (λx hx r hr=>((hok.1.2 x hx).2.1.2 r hr).2.1.1)
 have c2:=G7 s.2.1 (λx hx=>(hok.2.1.2 x hx).1) (λx hx r hr=>hs.pt x hx r hr)
 have c3:=xF s.2.2.1 (λx hx=>(hok.2.2.1.2 x hx).1) (λ_ _=>trivial)
 generalize e1:fT (·.1) (λl=>l.2.1.length) (λl=>bR jT l.2.1) s.1=E1 at c1
 generalize e2:fT (·.1) (λl=>l.2.1.length) (λl=>bR (λr=>iM r.2.1) l.2.1) s.2.1=E2 at c2
 generalize e3:fT (·.1) (λl=>l.2.1.length) (λl=>bR ky l.2.1) s.2.2.1=E3 at c3
 generalize e4:fT (·.1) (λp=>p.2.1.length) (ud s) s.2.2.2.1=E4
 have hp:Bp iM s=if E1≠0 then E1 else if E2≠0 then E2 else if E3≠0 then E3 else E4:=by unfold Bp;rw[e1,e2,e3,e4]
 rw[hp]
 refine an c1 (ap (λh=>aa ?_) λh=>an c2 (ap (λh'=>aa ?_) λh'=>an c3 (ap (λh''=>aa ?_) λh''=>?_)))
 ·rw[if_pos (by simpa using h)]
 ·rw[if_neg (by simpa using h),if_pos (by simpa using h')]
 ·rw[if_neg (by simpa using h),if_neg (by simpa using h'),if_pos (by simpa using h'')]
 rw[if_neg (by simpa using h),if_neg (by simpa using h'),if_neg (by simpa using h'')]
 clear c1 c2 c3 h h' h''
 generalize hl:s.2.2.2.1=l at e4
 refine ap (λh=>aa ?_) λh=>?_
 ·rw[<-e4,show fT (·.1) (λp=>p.2.1.length) (ud s) l=4 from if_pos (by have:=of_decide_eq_true h;omega)]
 have hlen:¬l.length>64:=by have:=of_decide_eq_false h;omega
 rw[<-e4,show fT (·.1) (λp=>p.2.1.length) (ud s) l=lP (HS (·.1) (λp=>p.2.1.length) (ud s) l) l.length from if_neg hlen]
 have hL:s.2.2.2.1=l:=hl
 have hpl:∀p∈l,okD yO p:=λp hp=>by rw[<-hl]at hp;exact hok.2.2.2.1.2 p hp
 generalize hE:HS (·.1) (λp=>p.2.1.length) (ud s) l=E
 refine ak (ra (N:=l.length) (f:=E) (enc:=λi=>(JJ (l.map (·.1)) i,(i:Int),())) (oB:=λe=>(e,())) (oE:=()) (λi hi=>?_) ?_ ?_)
 ·unfold pu
  rw[hL]
  have en:E i=if tR l[i].1 (JJ (l.map (·.1)) i) ((i:Int)==0) l[i].2.1.length=0 then ud s l[i]else tR l[i].1 (JJ (l.map (·.1)) i) ((i:Int)==0) l[i].2.1.length:=by rw[<-hE];exact Ew hi
  have hpi:=hpl _ (a_ hi)
  refine cm hi (aW hi (an (lS _ _ _ _ hpi.1) (ap (λh=>aa ?_) λh=>?_)))
  ·rw[if_neg (by simpa using h)]at en
   rw[en,if_neg (by simpa using h)]
  rw[if_pos (by simpa using h)]at en
  rw[en,Pz]
  have hbs:=AA (nm:=λp:RF=>p.1) hi
  generalize l[i]=p at hpi hbs
  have hpt:p.2.1.length<=9223372036854775807:=hpi.2.1.1
  refine ak (ra (N:=p.2.1.length) (f:=M1 s p.2.1) (enc:=λi=>((i:Int),p.1,p.2.1,p.2.2.1,())) (oB:=λe=>(e,())) (oE:=(p.1,p.2.1,p.2.2.1,())) (λj hj=>?_) ?_ ?_)
  ·unfold pq
   refine cm hj (an (JB s hok p hpi j hj) ?_)
   rw[<-M2 hj]
   refine ap (λh=>aa ?_) λh=>aa ?_
   ·rw[if_neg (by simpa using h)]
   ·rw[if_pos (by simpa using h),aL hj hpt]
  ·unfold pq
   exact bF (aa rfl)
  by_cases e:lP (M1 s p.2.1) p.2.1.length=0
  ·rw[if_pos e,if_neg (not_not_intro e)]
   refine ak (bX (b:=(p.2.2.1 != 2)) (λ_=>aa rfl) (ap (λh=>aa ?_) λh=>aa ?_))
   ·rw[if_pos (show p.2.2.1≠1/\p.2.2.1≠2 by have h:(p.2.2.1 != 1&&p.2.2.1 != 2)=true:=h;simpa using h),if_neg (by decide)]
   ·rw[if_neg (show ¬(p.2.2.1≠1/\p.2.2.1≠2) by have h:(p.2.2.1 != 1&&p.2.2.1 != 2)=false:=h;simp at h;omega),if_pos rfl]
    show _=t_ (JJ (l.map (·.1)) (i+1),((i+1:Nat):Int),())
    rw[hbs,aL hi (by omega)]
  ·rw[if_neg e,if_pos e,if_neg e]
   exact aa rfl
 ·unfold pu
  rw[hL]
  exact bF (aa rfl)
 by_cases e:lP E l.length=0
 ·rw[if_pos e]
  refine aa ?_
  rw[e]
 ·rw[if_neg e]
  exact aa rfl
abbrev WR:RF:=([],[],0,())
theorem Jz(s:PS)(n:List UInt8)(hl:s.2.2.2.1.length<=9223372036854775807):aE tbl p6 [.d yS s,.d tS n] [] jW ((Cr s n).getD WR,(Cr s n).isSome,()):=by
 refine aB rfl (aC KD rfl (λO k=>KR O k s n) ?_)
 unfold Am
 refine ak (s6 (xs:=s.2.2.2.1) (p:=(·.1==n)) (enc:=λi=>((i:Int),([]:List UInt8),(0:Int),())) (g:=λx=>(true,x.1,x.2.1,x.2.2.1,())) (e:=(([]:List UInt8),(0:Int),())) (λi hi=>?_) ?_ ?_)
 ·unfold qC
  refine cm hi (aW hi (ap (λh=>aa ?_) λh=>aa ?_))
  ·rw[if_pos h]
  ·rw[if_neg (by simp[h]),aL hi hl]
 ·unfold qC
  exact bF (aa rfl)
 ·unfold Cr
  cases s.2.2.2.1.find? (·.1==n)with
  |some r=>exact aa rfl
  |none=>exact aa rfl
theorem GY(s:PS)(n:List UInt8)(hk:PolOk iM s):aE tbl km [.d yS s,.d tS n] [] fX ((Cr s n).getD WR,(Cr s n).isSome,()):=by
 have hl:=hk.l4
 refine aB rfl (aC H6 rfl (λO k=>Iq O k s n) ?_)
 unfold yu
 refine ak (s6 (xs:=s.2.2.2.1) (p:=(·.1==n)) (enc:=λi=>((i:Int),([]:List UInt8),(0:Int),())) (g:=λx=>(true,x.1,x.2.1,x.2.2.1,())) (e:=(([]:List UInt8),(0:Int),())) (λi hi=>?_) ?_ ?_)
 ·unfold po
  refine cm hi (aW hi (ap (λh=>aa ?_) λh=>?_))
  ·rw[if_neg (by simpa using h),aL hi (by omega)]
  have hp:=hk.r4 _ (a_ hi)
  have h:(s.2.2.2.1[i].1==n)=true:=by simpa using h
  rw[if_pos h]
  generalize s.2.2.2.1[i]=p at hp
  have htl:=hp.tl
  refine ak (dI (N:=p.2.1.length) (I:=λj t=>t=((j:Int),([]:List UInt8),(0:Int),p.1,p.2.2.1,p.2.1.take j,())) rfl (λj t hj ht=>?_) λt ht=>?_)
  ·subst ht
   unfold pn
   have ht:=hp.tr _ (a_ hj)
   have h1:=ht.ml
   have h2:=ht.al
   refine cm hj (aW hj (aN (decide_eq_true (by show(0+p.2.1[j].2.1.length)*56<=_;omega)) (aN (decide_eq_true (by show(0+p.2.1[j].2.2.1.length)*32<=_;omega)) (aN ?_ (aa ?_)))))
   ·show decide (((p.2.1.take j).length+1)*72<=140737488355328)=true
    rw[l_];exact decide_eq_true (by omega)
   ·show(f_ .i64 ((j:Int)+1),([]:List UInt8),(0:Int),p.1,p.2.2.1,p.2.1.take j++[p.2.1[j]],())=_
    rw[aL hj (by omega),List.take_append_getElem hj]
  ·subst ht
   unfold pn
   refine bF (aa (aa ?_))
   rw[List.take_of_length_le (Nat.le_refl _)]
 ·unfold po
  exact bF (aa rfl)
 ·unfold Cr
  cases s.2.2.2.1.find? (·.1==n)with
  |some r=>exact aa rfl
  |none=>exact aa rfl
open Go Go.Av Go.Ev
theorem A0:aE tbl oS [] [] lN (((167772160,(8,()))),()):=Es (m:=90) λk=>by kernel_rfl
theorem A1:aE tbl lc [.d (.list (pr [(pr [tW,tI]),tI,tI,tI,tI,(.list (pr [tW,tI,tW,tI,(pr [tW,tI])]))])) ([((167772160,(8,())),(2,(1,(7,(0,([],()))))))]),.d (pr [(.list (pr [tS,(.list (pr [tB,(pr [tW,tI]),tI,tI]))])),(.list (pr [tS,(.list (pr [tB,tS]))])),(.list (pr [tS,(.list (pr [tB,tI,tI]))])),(.list (pr [tS,(.list (pr [tS,(.list (pr [tI,tS,tI,(pr [tW,tI]),tB])),(.list (pr [tI,tI,tI,tW,tW])),tI])),tI]))]) (([],([],([],([],()))))),.d (.list (pr [tI,tI,tS,tI,tB])) ([(2,(5,([],(20,(false,())))))])] [] ic (([((167772160,(8,())),(20,(false,(0,(0,())))))]),(0),()):=Es (m:=90) λk=>by kernel_rfl
theorem A2:aE tbl nz [.d (.list (pr [(pr [tW,tI]),tI,tI,tI,tI,(.list (pr [tW,tI,tW,tI,(pr [tW,tI])]))])) ([((167772160,(8,())),(3,(110,(7,(0,([],()))))))]),.d (pr [(.list (pr [tS,(.list (pr [tB,(pr [tW,tI]),tI,tI]))])),(.list (pr [tS,(.list (pr [tB,tS]))])),(.list (pr [tS,(.list (pr [tB,tI,tI]))])),(.list (pr [tS,(.list (pr [tS,(.list (pr [tI,tS,tI,(pr [tW,tI]),tB])),(.list (pr [tI,tI,tI,tW,tW])),tI])),tI]))]) (([],([],([],([],()))))),.d (.list (pr [tI,tI,tS,tI,tB])) ([(3,(6,([],(0,(false,())))))]),.d tW (9)] [] jV (([((167772160,(8,())),((2,([],(0,(true,(7,(false,(0,(false,(false,(0,(0,([],(false,(0,([],([],())))))))))))))))),((-1),(0,(9,(false,()))))))]),(0),()):=Es (m:=90) λk=>by kernel_rfl
theorem A3:aE tbl iH [.d (.list (pr [(pr [tW,tI]),tI,tB,tW,tI])) ([((167772160,(8,())),(20,(false,(0,(0,())))))]),.d (.list (pr [(pr [tW,tI]),tI,tB,tW,tI])) ([((167772160,(8,())),(20,(false,(0,(0,())))))])] [] fe ((true),()):=Es (m:=90) λk=>by kernel_rfl
theorem OL:aE tbl kj [] [] iz (true,()):=by
 refine aB rfl (aC H3 rfl (λO n=>Im O n) ?_)
 unfold yq
 repeat first
  |refine an A0 ?_
  |refine an A1 ?_
  |refine an A2 ?_
  |refine an A3 ?_
  |refine aK rfl ?_
  |refine ao rfl ?_
  |refine aa ?_
  |refine jx (by decide) rfl ?_
  |refine ak ?_
 rfl
abbrev U9:Type:=Int×(Int×(List UInt8×(Int×(Bool×Unit))))
abbrev Xu:Type:=Int×(Int×(Int×(Int×(TX×Unit))))
abbrev Wj:Type:=TX×(Int×(Int×(Int×(Int×(List Xu×Unit)))))
abbrev Xl:Type:=TX×(Int×(Int×(List Int×(List Int×(Int×(Int×(Int×(Int×Unit))))))))
abbrev We:Ty:=pr [tI,tI,tS,tI,tB]
abbrev Xz:Ty:=pr [tW,tI,tW,tI,yP]
abbrev WQ:Ty:=pr [yP,tI,tI,tI,tI,.list Xz]
abbrev Xo:Ty:=pr [yP,tI,tW,.list tI,.list tW,tI,tI,tI,tI]
def pi(s:PS)(r:U9):Int:=
 if(r.1<1\/7<r.1)\/(r.2.1≠5/\r.2.1≠6)then 15
 else if(r.2.1=5/\3<=r.1/\r.1<=5)\/(r.2.1=6/\(r.1=6\/r.1=7))then 1
 else if r.2.2.2.1<0\/16777216<r.2.2.2.1 then 5
 else if r.2.2.1≠[]/\(Cr s r.2.2.1).isSome=false then 6 else 0
noncomputable def Mz(s:PS)(l:List U9):Int:=if Bp iM s≠0 then Bp iM s else if l.length>64 then 4 else bR (pi s) l
theorem EB(n:List UInt8):(!(n==([]:List UInt8)))=true↔n≠[]:=by
 cases n<;>simp
theorem zz(s:PS)(r:U9)(hk:PolOk iM s):aE tbl g9 [.d yS s,.d We r] [] bn (pi s r,()):=by
 refine aB rfl (aC Ab rfl (λO n=>Ag O n s r) ?_)
 unfold qA
 refine ak (cf (b:=decide (r.1>7)) (λ_=>aa rfl) (ap (λh=>aa ?_) λh=>?_))
 ·rw[show pi s r=15 from if_pos (.inl (by simp at h;omega))]
 have hr:¬(r.1<1\/7<r.1):=by simp at h;omega
 have rest:¬(r.2.1≠5/\r.2.1≠6)->¬((r.2.1=5/\3<=r.1/\r.1<=5)\/(r.2.1=6/\(r.1=6\/r.1=7)))->Wp (λn=>
  c_ (bif decide (r.2.2.2.1<(0:Int))then some (true)else some (decide (r.2.2.2.1>(16777216:Int)))) λv5=>
  bif v5 then aA bn ((5:Int),())else
  c_ (aD (sG tbl n) km [.d yS s,.d tS r.2.2.1] [] fX) λv6=>
  c_ (bif (!(r.2.2.1==([]:List UInt8)))then some ((!v6.2.1))else some (false)) λv7=>
  bif v7 then aA bn ((6:Int),())else aA bn ((0:Int),())) (λx=>x=some (iL bn (pi s r,()))):=λh1 h2=>by
  refine ak (cf (b:=decide (r.2.2.2.1>16777216)) (λ_=>aa rfl) (ap (λh=>aa ?_) λh=>?_))
  ·rw[show pi s r=5 from by unfold pi;rw[if_neg (by omega),if_neg h2,if_pos (by simp at h;omega)]]
  have h3:¬(r.2.2.2.1<0\/16777216<r.2.2.2.1):=by simp at h;omega
  have e:pi s r=if r.2.2.1≠[]/\(Cr s r.2.2.1).isSome=false then 6 else 0:=by unfold pi;rw[if_neg (by omega),if_neg h2,if_neg h3]
  rw[e]
  refine an (GY s r.2.2.1 hk) (ak (bX (b:= !(Cr s r.2.2.1).isSome) (λ_=>aa rfl) (ap (λh=>aa ?_) λh=>aa ?_)))
  ·rw[if_pos]
   rw[k_,EB]at h
   exact⟨h.1,by simpa using h.2⟩
  ·rw[if_neg]
   rintro⟨h4,h5⟩
   rw[(EB _).2 h4,h5]at h
   cases h
 by_cases h5:r.2.1=5
 ·refine ak (aK (beq_iff_eq.2 h5) (ak (bX (b:=decide (r.1<=5)) (λ_=>aa rfl) (ap (λh=>aa (aa ?_)) λh=>aa (rest ?_ ?_)))))
  ·rw[show pi s r=1 from by unfold pi;rw[if_neg (by omega),if_pos (by simp at h;omega)]]
  ·omega
  ·simp at h;omega
 by_cases h6:r.2.1=6
 ·refine ak (ao (beq_eq_false_iff_ne.2 h5) (aK (beq_iff_eq.2 h6) (ak (cf (b:=(r.1==7)) (λ_=>aa rfl) (ap (λh=>aa (aa ?_)) λh=>aa (rest ?_ ?_))))))
  ·rw[show pi s r=1 from by unfold pi;rw[if_neg (by omega),if_pos (by simp at h;omega)]]
  ·omega
  ·simp at h;omega
 refine ak (ao (beq_eq_false_iff_ne.2 h5) (ao (beq_eq_false_iff_ne.2 h6) (aa (aa ?_))))
 rw[show pi s r=15 from if_pos (.inr ⟨h5,h6⟩)]
theorem EN(s:PS)(hs:SmP s)(l:List U9):aE tbl l9 [.d yS s,.d (.list We) l] [] dE (Mz s l,()):=by
 refine aB rfl (aC Gs rfl (λO n=>GM O n s l) ?_)
 unfold vI
 refine an (EL s hs) (ap (λh=>aa ?_) λh=>?_)
 ·rw[show Mz s l=Bp iM s from if_pos (by simpa using h)]
 have h0:Bp iM s=0:=by simpa using h
 have hk:=PC h0
 have e:Mz s l=if l.length>64 then 4 else bR (pi s) l:=by unfold Mz;rw[if_neg (not_not_intro h0)]
 rw[e]
 refine ap (λh=>aa ?_) λh=>?_
 ·rw[if_pos (by have:=of_decide_eq_true h;omega)]
 have hl:¬l.length>64:=by have:=of_decide_eq_false h;omega
 rw[if_neg hl]
 refine ak (kV (l:=l) (f:=pi s) (enc:=λi=>((i:Int),())) (oB:=λe=>(e,())) (oE:=()) (λi hi=>?_) ?_ ?_)
 ·unfold nw
  refine cm hi (aW hi (an (zz s _ hk) (ap (λh=>aa ?_) λh=>aa ?_)))
  ·rw[if_neg (by simpa using h)]
  ·rw[if_pos (by simpa using h),aL hi (by omega)]
 ·unfold nw
  exact bF (aa rfl)
 by_cases e:bR (pi s) l=0
 ·rw[if_pos e]
  refine aa ?_
  rw[e]
 ·rw[if_neg e]
  exact aa rfl
theorem Ak(n:Int):aE tbl iS [.d tI n] [] fU (decide (n>=3)&&decide (n<=5),()):=by
 refine aB rfl (aC BH rfl (λO k=>BQ O k n) ?_)
 unfold rz
 exact ak (bX (b:=decide (n<=5)) (λ_=>aa rfl) (aa rfl))
theorem EQ(n:Int):aE tbl mg [.d tI n] [] jq ((n==6)||(n==7),()):=by
 refine aB rfl (aC Gy rfl (λO k=>GU O k n) ?_)
 unfold vO
 exact ak (cf (b:=(n==7)) (λ_=>aa rfl) (aa rfl))
theorem G8(s:PS)(hs:SmP s)(l:List U9):aE tbl nV [.d yS s,.d (.list We) l] [] eK (Mz s l,()):=by
 refine aB rfl (aC Ih rfl (λO n=>IA O n s l) ?_)
 unfold yQ
 refine an (G4 s hs) (ap (λh=>aa ?_) λh=>?_)
 ·rw[show Mz s l=Bp iM s from if_pos (by simpa using h)]
 have h0:Bp iM s=0:=by simpa using h
 have hk:=PC h0
 have e:Mz s l=if l.length>64 then 4 else bR (pi s) l:=by unfold Mz;rw[if_neg (not_not_intro h0)]
 rw[e]
 refine ap (λh=>aa ?_) λh=>?_
 ·rw[if_pos (by have:=of_decide_eq_true h;omega)]
 have hl:¬l.length>64:=by have:=of_decide_eq_false h;omega
 rw[if_neg hl]
 refine ak (kV (l:=l) (f:=pi s) (enc:=λi=>((i:Int),())) (oB:=λe=>(e,())) (oE:=()) (λi hi=>?_) ?_ ?_)
 ·unfold pA
  refine cm hi (aW hi ?_)
  generalize l[i]=r
  refine ak (cf (b:=decide (r.1>7)) (λ_=>aa rfl) (ak (cf (b:=(r.2.1 != 5)&&(r.2.1 != 6)) (λ_=>ak (bX (b:=(r.2.1 != 6)) (λ_=>aa rfl) (aa rfl))) ?_)))
  refine ap (λh=>aa ?_) λh=>?_
  ·rw[show pi s r=15 from if_pos (by simp at h;omega),if_neg (by decide)]
  have h1:¬((r.1<1\/7<r.1)\/(r.2.1≠5/\r.2.1≠6)):=by simp at h;omega
  refine ak (bX (b:=decide (r.1>=3)&&decide (r.1<=5)) (λ_=>an (Ak r.1) (aa rfl)) ?_)
  refine ak (cf (b:=(r.2.1==6)&&((r.1==6)||(r.1==7))) (λ_=>ak (bX (b:=(r.1==6)||(r.1==7)) (λ_=>an (EQ r.1) (aa rfl)) (aa rfl))) ?_)
  refine ap (λh=>aa ?_) λh=>?_
  ·rw[show pi s r=1 from by unfold pi;rw[if_neg h1,if_pos (by simp at h;omega)],if_neg (by decide)]
  have h2:¬((r.2.1=5/\3<=r.1/\r.1<=5)\/(r.2.1=6/\(r.1=6\/r.1=7))):=by simp at h;omega
  refine ak (cf (b:=decide (r.2.2.2.1>16777216)) (λ_=>aa rfl) (ap (λh=>aa ?_) λh=>?_))
  ·rw[show pi s r=5 from by unfold pi;rw[if_neg h1,if_neg h2,if_pos (by simp at h;omega)],if_neg (by decide)]
  have h3:¬(r.2.2.2.1<0\/16777216<r.2.2.2.1):=by simp at h;omega
  have e:pi s r=if r.2.2.1≠[]/\(Cr s r.2.2.1).isSome=false then 6 else 0:=by unfold pi;rw[if_neg h1,if_neg h2,if_neg h3]
  rw[e]
  have hl4:=hk.l4
  refine an (Jz s r.2.2.1 (by omega)) (ak (bX (b:= !(Cr s r.2.2.1).isSome) (λ_=>aa rfl) (ap (λh=>aa ?_) λh=>aa ?_)))
  ·have hc:r.2.2.1≠[]/\(Cr s r.2.2.1).isSome=false:=by
    rw[k_,EB]at h
    exact⟨h.1,by simpa using h.2⟩
   rw[if_pos hc,if_neg (by decide)]
  ·have hc:¬(r.2.2.1≠[]/\(Cr s r.2.2.1).isSome=false):=by
    rintro⟨h4,h5⟩
    rw[(EB _).2 h4,h5]at h
    cases h
   rw[if_neg hc,if_pos rfl,aL hi (by omega)]
 ·unfold pA
  exact bF (aa rfl)
 by_cases e:bR (pi s) l=0
 ·rw[if_pos e]
  refine aa ?_
  rw[e]
 ·rw[if_neg e]
  exact aa rfl
def VZ(r:Wj):Xl:=(r.1,r.2.1,(match r.2.2.2.2.2.1 with|h::_=>h.1|[]=>0),[],[],100,0,r.2.2.2.1,r.2.2.2.2.1,())
theorem BX(r:Wj):aE tbl jH [.d WQ r] [] gF (VZ r,()):=by
 obtain⟨p,pr,di,me,ta,ho,⟨⟩⟩:=r
 refine aB rfl (aC CO rfl (λO n=>C1 O n (p,pr,di,me,ta,ho,())) ?_)
 unfold sr
 cases ho with
 |nil=>exact ak (ao rfl (aa (aa rfl)))
 |cons h ho=>exact ak (aK (decide_eq_true (by show(((h::ho).length:Nat):Int)>0;simp)) (jx (x:=h) (by decide) rfl (aa (aa rfl))))
theorem DC(r:Wj):aE tbl kJ [.d WQ r] [] iu (VZ r,()):=by
 obtain⟨p,pr,di,me,ta,ho,⟨⟩⟩:=r
 refine aB rfl (aC Ee rfl (λO n=>En O n (p,pr,di,me,ta,ho,())) ?_)
 unfold uJ
 cases ho with
 |nil=>exact ak (ao rfl (aa (aa rfl)))
 |cons h ho=>exact ak (aK (decide_eq_true (by show(((h::ho).length:Nat):Int)>0;simp)) (jx (x:=h) (by decide) rfl (aa (aa rfl))))
theorem BY(a b:List Int)(hl:a.length<=9223372036854775807):aE tbl jI [.d (.list tI) a,.d (.list tI) b] [] dq (decide (a=b),()):=by
 refine aB rfl (aC CP rfl (λO n=>C2 O n a b) ?_)
 unfold su
 refine ap (λh=>aa ?_) λh=>?_
 ·rw[decide_eq_false]
  rintro rfl
  simp at h
 have hlen:a.length=b.length:=by simp at h;omega
 refine ak (OH (N:=a.length) (good:=λi=>a[i]? =b[i]?) (e:=(false,())) (g:=()) (λi hi=>?_) ?_ (λh=>?_) λh=>?_)
 ·unfold kW
  refine cm hi (aW hi (aW (by omega) (EI ?_ (by rw[aL hi hl]))))
  rw[b_ hi,b_ (by omega)]
  simp
 ·unfold kW
  exact bF (aa rfl)
 ·refine aa ?_
  rw[decide_eq_true (h_ λi=>?_)]
  by_cases hi:i<a.length
  ·exact h i hi
  ·rw[d_ (by omega),d_ (by omega)]
 ·refine aa ?_
  rw[decide_eq_false]
  rintro rfl
  obtain⟨i,_,h⟩:=h
  exact h rfl
theorem xD(a b:List Int)(hl:a.length<=9223372036854775807):aE tbl f9 [.d (.list tW) a,.d (.list tW) b] [] cn (decide (a=b),()):=by
 refine aB rfl (aC ya rfl (λO n=>yn O n a b) ?_)
 unfold pT
 refine ap (λh=>aa ?_) λh=>?_
 ·rw[decide_eq_false]
  rintro rfl
  simp at h
 have hlen:a.length=b.length:=by simp at h;omega
 refine ak (OH (N:=a.length) (good:=λi=>a[i]? =b[i]?) (e:=(false,())) (g:=()) (λi hi=>?_) ?_ (λh=>?_) λh=>?_)
 ·unfold iD
  refine cm hi (aW hi (aW (by omega) (EI ?_ (by rw[aL hi hl]))))
  rw[b_ hi,b_ (by omega)]
  simp
 ·unfold iD
  exact bF (aa rfl)
 ·refine aa ?_
  rw[decide_eq_true (h_ λi=>?_)]
  by_cases hi:i<a.length
  ·exact h i hi
  ·rw[d_ (by omega),d_ (by omega)]
 ·refine aa ?_
  rw[decide_eq_false]
  rintro rfl
  obtain⟨i,_,h⟩:=h
  exact h rfl
theorem Ue(p:TX):qc yP p p=true:=by
 show((p.1==p.1)&&((p.2.1==p.2.1)&&true))=true
 simp
theorem K6(a:Xl)(h1:a.2.2.2.1.length<=9223372036854775807)(h2:a.2.2.2.2.1.length<=9223372036854775807):aE tbl f7 [.d Xo a,.d Xo a] [] d9 (true,()):=by
 refine aB rfl (aC xW rfl (λO n=>ye O n a a) ?_)
 unfold pK
 have b:∀x:Int,(x==x)=true:=λx=>beq_self_eq_true x
 refine ak (aK (by rw[Ue];rfl) (aa ?_))
 refine ak (aK (b _) (aa ?_))
 refine ak (aK (b _) (an (BY _ _ h1) (aa ?_)))
 refine ak (aK (decide_eq_true rfl) (an (xD _ _ h2) (aa ?_)))
 refine ak (aK (decide_eq_true rfl) (aa ?_))
 refine ak (aK (b _) (aa ?_))
 refine ak (aK (b _) (aa ?_))
 refine ak (aK (b _) (aa ?_))
 refine aa ?_
 rw[b]
theorem TN(l:List Wj)(s:PS)(r:List U9):∃b:Bool,(b=false->l.length<=40/\r.length<=70/\s.2.2.2.1.length<=10/\s.1.length<=10/\s.2.1.length<=10/\s.2.2.1.length<=10)/\aE tbl nO [.d (.list WQ) l,.d yS s,.d (.list We) r] [] kE (b,()):=by
 refine⟨((((decide ((l.length:Int)>40)||decide ((r.length:Int)>70))||decide ((s.2.2.2.1.length:Int)>10))||decide ((s.1.length:Int)>10))||decide ((s.2.1.length:Int)>10))||decide ((s.2.2.1.length:Int)>10),λh=>?_,?_⟩
 ·simp only[Bool.or_eq_false_iff,decide_eq_false_iff_not]at h
  omega
 refine aB rfl (aC H4 rfl (λO n=>Io O n l s r) ?_)
 unfold yr
 refine ak (cf (b:=decide ((r.length:Int)>70)) (λ_=>aa rfl) ?_)
 refine ak (cf (b:=decide ((s.2.2.2.1.length:Int)>10)) (λ_=>aa rfl) ?_)
 refine ak (cf (b:=decide ((s.1.length:Int)>10)) (λ_=>aa rfl) ?_)
 refine ak (cf (b:=decide ((s.2.1.length:Int)>10)) (λ_=>aa rfl) ?_)
 exact ak (cf (b:=decide ((s.2.2.1.length:Int)>10)) (λ_=>aa rfl) (aa rfl))
theorem Bg{t:Ty}{l:List t.den}(h:∀x∈l,1<=eG t x):l.length<=(l.map (eG t)).sum:=by
 induction l with
 |nil=>simp
 |cons x l ih=>
  have h1:=h x (by simp)
  have h2:=ih λy hy=>h y (by simp[hy])
  simp only[List.length_cons,r_,s_]
  omega
theorem Mf{t:Ty}{l:List t.den}{x:t.den}(hx:x∈l):eG t x<=(l.map (eG t)).sum:=by
 induction l with
 |nil=>cases hx
 |cons y l ih=>
  simp only[r_,s_]
  rcases List.mem_cons.1 hx with rfl|h
  ·omega
  ·have:=ih h;omega
theorem Od{s:PS}(hok:okD yS s)(hb:eG yS s<=1048576):SmP s:=by
 have hb:(j_ (eG yL) s.1).sum+1+((j_ (eG yG) s.2.1).sum+1+((j_ (eG yD) s.2.2.1).sum+1+((j_ (eG yO) s.2.2.2.1).sum+1+0)))<=1048576:=hb
 have h1:=Bg (t:=yL) (l:=s.1) λx _=>by show 1<=g_ x.1+1+_;omega
 have h2:=Bg (t:=yG) (l:=s.2.1) λx _=>by show 1<=g_ x.1+1+_;omega
 have h3:=Bg (t:=yD) (l:=s.2.2.1) λx _=>by show 1<=g_ x.1+1+_;omega
 have h4:=Bg (t:=yO) (l:=s.2.2.2.1) λx _=>by show 1<=g_ x.1+1+_;omega
 refine⟨hok,by omega,by omega,by omega,by omega,λl hl r hr=>?_⟩
 have g1:=Mf (t:=yG) hl
 have g2:=Mf (t:=yH) hr
 have g3:eG yG l=l.1.length+1+((j_ (eG yH) l.2.1).sum+1+0):=rfl
 have g4:eG yH r=1+(r.2.1.length+1+0):=rfl
 omega
theorem Ny(s:PS)(l:List U9)(r:Wj)(hs:SmP s):Conv tbl fq [.d yS s,.d (.list We) l,.d WQ r] [] (·=some (iL dC (true,()))):=by
 refine aC wF rfl (λO n=>wR O n s l r) ?_
 unfold oI
 obtain⟨b,_,hb2⟩:=TN [] s l
 refine an hb2 (ap (λ_=>an OL (aa rfl)) λ_=>?_)
 refine an OL (ak (aK rfl (an (EN s hs l) (an (G8 s hs l) (aa ?_)))))
 refine ak (aK (beq_self_eq_true _) (an (BX r) (an (DC r) (an (K6 (VZ r) (u_ _) (u_ _)) (aa (aa rfl))))))
theorem Cv:LawOkU fq [yS,.list We,WQ]:=by
 rintro⟨s,l,r,_⟩ ⟨hs,_⟩ hb
 have hb:eG yS s+_<=1048576:=hb
 exact⟨iL dC (true,()),Ny s l r (Od hs (by omega)),rfl⟩
end Go.Proofs.YtmfolppncelceaaGreatDoor
