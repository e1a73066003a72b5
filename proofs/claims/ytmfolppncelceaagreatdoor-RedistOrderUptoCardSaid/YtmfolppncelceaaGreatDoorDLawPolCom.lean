import Derived.Test.YtmfolppncelceaaGreatDoorDLawPfx
import Derived.Test.YtmfolppncelceaaGreatDoorDL7
import Derived.Test.YtmfolppncelceaaGreatDoorDGlueB
import Derived.Test.YtmfolppncelceaaGreatDoorDL5
set_option linter.unusedVariables false
set_option linter.unusedSimpArgs false
open Bool renaming and_eq_true->l_,not_eq_true->o_,eq_iff_iff->C_,or_eq_true->D_,or_eq_false_iff->E_,or_assoc->H_,false_eq_true->J_,false_xor->P_,false_or->R_,true_and->S_
open Classical renaming byContradiction->d_
open Int renaming toNat_natCast->n_,toNat->F_,fdiv->X_
open Go.IntKind renaming wrap->a_,bits->U_
open List renaming take_succ_eq_append_getElem->b_,getElem?_eq_getElem->c_,getElem_mem->e_,take_length->f_,replicate->g_,length_replicate->i_,length_take->j_,length_map->m_,length_append->p_,append_nil->q_,length_cons->r_,length->s_,drop_zero->u_,drop_eq_getElem_cons->v_,getElem?_eq_some_iff->w_,pairwise_iff_getElem->x_,foldl_append->y_,any_eq_true->z_,drop_length->A_,replicate_zero->G_,map_cons->I_,map->K_,mem_flatMap->M_,any_append->N_,map_append->O_,mem_range->Q_,sum_cons->T_,map_map->V_
open Nat renaming zero_le->h_,le_refl->t_,le_trans->B_,sub_self->L_
open Option renaming bind->k_
open Sum renaming inl->W_,inr->Y_
namespace Go.Proofs.YtmfolppncelceaaGreatDoor
open Go Go.Av Go.Ev
abbrev P5:Type:=Bool×(Int×(Int×Unit))
def fits(r:P5)(c:Int):Bool:=
 ((r.2.1==(-1:Int))||(r.2.1==a_ .i64 (X_ c (2^(min (F_ (16:Int)) (U_ .u32))))))&&
 ((r.2.2.1==(-1:Int))||(r.2.2.1==a_ .i64 (sy .u32 .and c (65535:Int))))
def Cv(r:P5)(l:List Int):Bool:=(l.find? (fits r)).isSome
def wU(rules:List P5)(l:List Int):Bool:=match rules.find? (λr=>Cv r l)with
 |some r=>r.1
 |none=>false
theorem NJ(r:P5)(c:Int){β:Type}{k:Nat->Bool->Option β}{Q:β->Prop}(hk:Wp (λn=>k n (fits r c)) Q):Wp (λn=>k_ (bif (r.2.1==(-1:Int))then some (true)else
 aK (decide (0<=(16:Int))) (
 let v2:=a_ .i64 (X_ c (2^(min (F_ (16:Int)) (U_ .u32))))
 some ((r.2.1==v2)))) λv3=>
 k_ (bif v3 then
 k_ (bif (r.2.2.1==(-1:Int))then some (true)else
 some ((r.2.2.1==a_ .i64 (sy .u32 .and c (65535:Int))))) λv4=>
 some (v4)
 else some (false)) λv5=>k n v5) Q:=by
 refine aj (dw (λ_=>aG rfl (aa rfl)) ?_)
 refine aj (cr (λ_=>aj (dw (λ_=>aa rfl) (aa rfl))) ?_)
 exact hk
theorem Aq(r:P5)(l:List Int)(hl:l.length<=9223372036854775807):aF tbl jK [.d (pr [tB,tI,tI]) r,.d (.list tW) l] [] eu (Cv r l,()):=by
 refine aw rfl (aC BB rfl (λO n=>BP O n r l) ?_)
 unfold sd
 refine aj (BK (xs:=l) (p:=fits r) (g:=λ_=>((true,()):Bool×Unit)) (e:=()) (λi x hx=>?_) ?_ ?_)
 ·unfold lm
  have hi:=(w_.1 hx).1
  refine ar (λ_=>?_) (λh=>absurd h (by simp;omega))
  refine oX (by simp) (by simpa using hx) ?_
  refine NJ r x ?_
  cases fits r x
  ·exact aa (by simp only[J_,if_false];rw[aA hi hl])
  ·exact aa rfl
 ·unfold lm
  exact ar (λh=>absurd h (by simp)) λ_=>aa rfl
 ·unfold Cv
  cases l.find? (fits r)
  ·exact aa rfl
  ·exact aa rfl
theorem xU(rules:List P5)(l:List Int)(hr:rules.length<=9223372036854775807)(hl:l.length<=9223372036854775807):aF tbl gZ [.d (.list (pr [tB,tI,tI])) rules,.d (.list tW) l] [] du (wU rules l,()):=by
 refine aw rfl (aC yh rfl (λO n=>yt O n rules l) ?_)
 unfold qD
 refine aj (BK (xs:=rules) (p:=λr=>Cv r l) (g:=λr=>((r.1,()):Bool×Unit)) (e:=()) (λi x hx=>?_) ?_ ?_)
 ·unfold jB
  have hi:=(w_.1 hx).1
  refine ar (λ_=>?_) (λh=>absurd h (by simp;omega))
  refine oX (by simp) (by simpa using hx) ?_
  refine an (Aq x l hl) ?_
  cases h:Cv x l
  ·exact aa (by simp only[J_,if_false];rw[aA hi hr])
  ·exact aa rfl
 ·unfold jB
  exact ar (λh=>absurd h (by simp)) λ_=>aa rfl
 ·unfold wU
  cases rules.find? (λr=>Cv r l)
  ·exact aa rfl
  ·exact aa rfl
theorem JL{l:List Int}{k:Nat}(h:k<l.length):l.getD k 0=l[k]:=by simp[List.getD,c_ h]
theorem Ap(l:List Int):aF tbl jJ [.d (.list tW) l] [] dh (Cm.check l,()):=by
 refine aw rfl (aC BA rfl (λO n=>BO O n l) ?_)
 unfold sb
 refine ar (λh=>aa ?_) λh=>?_
 ·rw[Cm.check_long (by have:=of_decide_eq_true h;omega)]
 have hl:¬255<l.length:=by have:=of_decide_eq_false h;omega
 refine aj (Ur (N:=l.length) (good:=λi=>i=0\/l.getD (i - 1) 0<l.getD i 0) (e:=((16:Int),())) (g:=()) (λi hi=>?_) ?_ (λh=>?_) λh=>?_)
 ·unfold lh
  refine bD hi (aj (cr (b:=decide (l.getD i 0<=l.getD (i - 1) 0)) (λh0=>?_) (BL ?_ (by rw[aA hi (by omega)]))))
  ·have h0:=of_decide_eq_true h0
   have e:a_ .i64 ((i:Int) - 1)=((i - 1:Nat):Int):=by rw[wrap_i64 (by omega) (by omega)];omega
   rw[e]
   refine aM hi (aM (by omega) (aa ?_))
   rw[JL hi,JL (by omega)]
  ·simp only[l_,decide_eq_true_eq]
   omega
 ·unfold lh
  exact be (aa rfl)
 ·refine aa ?_
  have hu:∀k,k<=l.length->Cm.Up (l.take k):=by
   intro k
   induction k with
   |zero=>intro _;simp
   |succ k ih=>intro hk;exact Cm.up_take (ih (by omega)) (by omega) (h k (by omega))
  have:=hu l.length (t_ _)
  rw[f_]at this
  rw[Cm.check_up hl this]
 ·refine aa ?_
  obtain⟨i,hi,hg⟩:=h
  rw[Cm.check_not hl (Cm.not_up hi (by omega) (by omega))]
theorem KA(l:List Int)(x:Int)(hl:l.length<=2000000):aF tbl ct [.d (.list tW) l,.d tW x] [] bP (Cm.ins x l,()):=by
 refine aw rfl (aC rY rfl (λO n=>r5 O n l x) ?_)
 unfold kZ
 have ew:a_ .i64 ((l.length:Int)+1)=((l.length+1:Nat):Int):=by rw[wrap_i64 (by omega) (by omega)];rfl
 refine aG (by rw[ew];simp;omega) ?_
 refine aj (bc (N:=l.length) (I:=λi s=>s.2.1=(i:Int)/\s.2.2.1++Cm.insGo x (l.drop i) s.1=Cm.ins x l/\s.2.2.1.length<=i+(if s.1 then 1 else 0)) ⟨rfl,by simp,by simp⟩ (λi s hi hs=>?_) λs hs=>?_)
 ·obtain⟨d,j,out,⟨⟩⟩:=s
  obtain⟨h1,h2,h3⟩:=hs
  simp only at h1 h2 h3
  subst h1
  unfold ff
  rw[Cm.insGo_step x l i d hi,JL hi]at h2
  have hw:a_ .i64 ((i:Int)+1)=((i+1:Nat):Int):=aA hi (by omega)
  refine bD hi (aj (aM hi (aj ?_)))
  generalize l[i]=y at h2
  have tail:∀(d':Bool) (o:List Int),o++((if y != x then [y]else [])++Cm.insGo x (l.drop (i+1)) d')=Cm.ins x l->o.length<=i+(if d' then 1 else 0)->Wp (λ_=>bif (y != x)then aK (decide ((o.length+([y]:List Int).length)*4<=140737488355328)) (some ((d',o++([y]:List Int),())))else some ((d',o,())))
   (λv4:Bool×List Int×Unit=>Wp (λ_=>some (W_ (v4.1,a_ .i64 ((i:Int)+(1:Int)),v4.2.1,()))) fun(r:(Bool×Int×List Int×Unit)⊕(Bool×List Int×Unit))=>match r with
    | .inl s'=>s'.2.1=((i+1:Nat):Int)/\s'.2.2.1++Cm.insGo x (l.drop (i+1)) s'.1=Cm.ins x l/\s'.2.2.1.length<=i+1+(if s'.1 then 1 else 0)
    | .inr _=>False):=λd' o ho hlo=>by
   have hlo2:o.length<=i+1:=by split at hlo<;>omega
   refine ar (λh=>aG (decide_eq_true (by show(o.length+1)*4<=_;omega)) (aa (aa ⟨hw,?_,?_⟩))) λh=>aa (aa ⟨hw,?_,?_⟩)
   ·show(o++[y])++Cm.insGo x (l.drop (i+1)) d'=_
    rw[if_pos h]at ho
    rw[<-ho];simp
   ·show(o++[y]).length<=i+1+(if d'=true then 1 else 0)
    rw[p_,List.length_singleton];omega
   ·show o++Cm.insGo x (l.drop (i+1)) d'=_
    rw[if_neg (by rw[h];decide)]at ho
    rw[<-ho];simp
   ·show o.length<=i+1+(if d'=true then 1 else 0)
    omega
  refine aj (cr (b:=decide (x<=y)) (λ_=>aa rfl) ?_)
  cases d with
  |true=>
   refine aB rfl (aa (Wp.imp (tail true out (by simpa using h2) (by simpa using h3)) λv hv=>Wp.imp hv λr hr=>?_))
   cases r with
   |inl s'=>exact hr
   |inr t=>exact hr.elim
  |false=>
   by_cases hxy:x<=y
   ·refine aX (by simp[hxy]) (aG (decide_eq_true (by show(out.length+1)*4<=_;simp at h3;omega)) (aa (Wp.imp (tail true (out++[x]) (by rw[<-h2];simp[hxy]) (by simp at h3⊢;omega)) λv hv=>Wp.imp hv λr hr=>?_)))
    cases r with
    |inl s'=>exact hr
    |inr t=>exact hr.elim
   ·refine aB (by simp[hxy]) (aa (Wp.imp (tail false out (by rw[<-h2];simp[hxy]) (by simpa using h3)) λv hv=>Wp.imp hv λr hr=>?_))
    cases r with
    |inl s'=>exact hr
    |inr t=>exact hr.elim
 ·obtain⟨d,j,out,⟨⟩⟩:=s
  obtain⟨h1,h2,h3⟩:=hs
  simp only at h1 h2 h3
  subst h1
  unfold ff
  refine be (aa ?_)
  rw[A_]at h2
  cases d with
  |true=>
   refine aj (aB rfl (aa (aa ?_)))
   rw[<-h2];simp[Cm.insGo]
  |false=>
   refine aj (aX rfl (aG (decide_eq_true (by show(out.length+1)*4<=_;simp at h3;omega)) (aa (aa ?_))))
   rw[<-h2];simp[Cm.insGo]
theorem KF(l:List Int)(hl:l.length<=2000000):aF tbl cu [.d (.list tW) l] [] bQ (Cm.asc l,()):=by
 refine aw rfl (aC rZ rfl (λO n=>r6 O n l) ?_)
 unfold lc
 refine aj (bc (N:=l.length) (I:=λi s=>s=((l.take i).foldl (λo x=>Cm.ins x o) [],(i:Int),())) rfl (λi s hi hs=>?_) λs hs=>?_)
 ·subst hs
  unfold fg
  have hlen:((l.take i).foldl (λo x=>Cm.ins x o) []).length<=i:=by
   have:=(Cm.fold_ins (l.take i) [] List.Pairwise.nil).2.2
   rw[j_]at this
   simp at this
   omega
  refine bD hi (aM hi (an (KA ((l.take i).foldl (λo x=>Cm.ins x o) []) l[i] (by omega)) (aa ?_)))
  show(Cm.ins l[i] ((l.take i).foldl (λo x=>Cm.ins x o) []),a_ .i64 ((i:Int)+1),())=_
  rw[aA hi (by omega),b_ hi,y_]
  rfl
 ·subst hs
  unfold fg
  refine be (aa (aa ?_))
  rw[f_]
  rfl
theorem ud(l:List Int)(x:Int)(hl:l.length<=9223372036854775807):aF tbl fh [.d (.list tW) l,.d tW x] [] cn (decide (x∈l),()):=by
 refine aw rfl (aC uR rfl (λO n=>u9 O n l x) ?_)
 unfold nj
 refine aj (EK (xs:=l) (P:=λy=>y≠x) (e:=(true,())) (g:=()) (λi hi=>?_) ?_ (λh=>aa ?_) λh=>aa ?_)
 ·unfold gS
  refine bD hi (aM hi (BL ?_ (by rw[aA hi hl])))
  simp
 ·unfold gS
  exact be (aa rfl)
 ·rw[decide_eq_false λhm=>h x hm rfl]
 ·rw[decide_eq_true (d_ λhm=>h λy hy e=>hm (e▸hy))]
theorem Dx(l:List Int)(c:Int)(hl:l.length<=1000000):aF tbl mi [.d (.list tW) l,.d tW c] [] gl (Cm.add l c,()):=by
 refine aw rfl (aC D8 rfl (λO n=>Ek O n l c) ?_)
 unfold vp
 have hlen:=Cm.len_asc l
 refine an (KF l (by omega)) (aj (cr (b:= !decide (c∈Cm.asc l)) (λ_=>an (ud (Cm.asc l) c (by omega)) (aa rfl)) (ar (λh=>aa ?_) λh=>an (KA (Cm.asc l) c (by omega)) (aa ?_))))
 ·rw[show Cm.add l c=Cm.asc l from if_pos (by simp at h;exact⟨by omega,h.2⟩)]
 ·rw[show Cm.add l c=Cm.ins c (Cm.asc l)from if_neg (fun⟨h1,h2⟩=>by
   have h1:((Cm.asc l).length:Int)>=255:=by omega
   rw[decide_eq_true h1,decide_eq_false h2]at h
   cases h)]
theorem Fe(c:Int)(v:List Int×Unit)(hv:v.1.length<=1000000):Wp (λn=>aS n (iO (qw tbl n) n c v) ((0:Int),([]:List Int),())) λr=>r=(v.1.filter (λx=>x != c),()):=by
 refine bc (N:=v.1.length) (I:=λi s=>s=((i:Int),(v.1.take i).filter (λx=>x != c),())) rfl (λi s hi hs=>?_) λs hs=>?_
 ·subst hs
  unfold iO
  have hle:((v.1.take i).filter (λx=>x != c)).length<=i:=B_ (List.length_filter_le _ _) (by rw[j_];omega)
  have e:(v.1.take (i+1)).filter (λx=>x != c)=(v.1.take i).filter (λx=>x != c)++(if v.1[i] != c then [v.1[i]]else []):=by
   rw[b_ hi,List.filter_append]
   congr 1
   cases h:(v.1[i] != c)<;>simp[List.filter,h]
  refine bD hi (aj (aM hi (ar (λh=>aG (decide_eq_true (by show(((v.1.take i).filter (λx=>x != c)).length+1)*4<=_;omega)) (aa (aa ?_))) λh=>aa (aa ?_))))
  ·show(a_ .i64 ((i:Int)+1),(v.1.take i).filter (λx=>x != c)++[v.1[i]],())=_
   rw[e,if_pos h,aA hi (by omega)]
  ·show(a_ .i64 ((i:Int)+1),(v.1.take i).filter (λx=>x != c),())=_
   rw[e,if_neg (by rw[h];decide),q_,aA hi (by omega)]
 ·subst hs
  unfold iO
  refine be (aa ?_)
  rw[f_]
theorem B3(l:List Int)(c:Int)(hl:l.length<=1000000):aF tbl kK [.d (.list tW) l,.d tW c] [] iz (Cm.drop l c,()):=by
 refine aw rfl (aC CO rfl (λO n=>C1 O n l c) ?_)
 unfold tj
 refine an (KF l (by omega)) (aj (Wp.imp (Fe c (Cm.asc l,()) (B_ (Cm.len_asc l) hl)) λr hr=>?_))
 subst hr
 exact aa rfl
open Go Go.Av Go.Ev Go.Pl
theorem Z4{P:Prop} [Decidable P]:(if P then(0:Int)else 5)=0\/(if P then(0:Int)else 5)=5:=by
 by_cases h:P
 ·exact .inl (if_pos h)
 ·exact .inr (if_neg h)
theorem Ro{r:qR}(h1:gW r.1=true)(h2:¬(r.2.1<1\/7<r.2.1))(h3:¬r.2.2.2.1.length>2000):Gk r=if ¬∀v∈r.2.2.2.1,1<=v/\v<=4294967295 then 5 else if Cm.check r.2.2.2.2.1≠0 then Cm.check r.2.2.2.2.1
 else if ¬(lS r.2.2.2.2.2.1/\lS r.2.2.2.2.2.2.1/\lS r.2.2.2.2.2.2.2.2.1)\/r.2.2.2.2.2.2.2.1<0\/16777216<r.2.2.2.2.2.2.2.1 then 5 else 0:=by
 unfold Gk
 rw[if_neg (by rw[h1];decide),if_neg h2,if_neg h3]
theorem GN(r:qR)(hp:qg r.1.1):aF tbl oY [.d Uy r] [] ci (Gk r,()):=by
 refine aw rfl (aC HB rfl (λO n=>HV O n r) ?_)
 unfold yW
 refine an (fK r.1 hp) (ar (λh=>aa ?_) λh=>?_)
 ·rw[show Gk r=1 from if_pos (by simpa using h)]
 have h1:gW r.1=true:=by simpa using h
 refine aj (dw (b:=decide (r.2.1>7)) (λ_=>aa rfl) (ar (λh=>aa ?_) λh=>?_))
 ·rw[show Gk r=5 from by unfold Gk;rw[if_neg (by rw[h1];decide),if_pos (by simp at h;omega)]]
 have h2:¬(r.2.1<1\/7<r.2.1):=by simp at h;omega
 refine ar (λh=>aa ?_) λh=>?_
 ·rw[show Gk r=4 from by unfold Gk;rw[if_neg (by rw[h1];decide),if_neg h2,if_pos (by have:=of_decide_eq_true h;omega)]]
 have h3:¬r.2.2.2.1.length>2000:=by have:=of_decide_eq_false h;omega
 rw[Ro h1 h2 h3]
 refine aj (EK (xs:=r.2.2.2.1) (P:=λv=>1<=v/\v<=4294967295) (e:=((5:Int),())) (g:=()) (λi hi=>?_) ?_ (λh=>?_) λh=>aa ?_)
 ·unfold ql
  refine bD hi (aM hi (aj (dw (b:=decide (r.2.2.2.1[i]>4294967295)) (λ_=>aa rfl) (BL ?_ (by rw[aA hi (by omega)])))))
  simp only[D_,decide_eq_true_eq]
  omega
 ·unfold ql
  exact be (aa rfl)
 ·rw[if_neg (not_not_intro h)]
  refine an (Ap r.2.2.2.2.1) (ar (λh=>aa ?_) λh=>?_)
  ·rw[if_pos (by simpa using h)]
  rw[if_neg (by simpa using h)]
  generalize r.2.2.2.2.2.1=x0
  generalize r.2.2.2.2.2.2.1=x1
  generalize r.2.2.2.2.2.2.2=y
  obtain⟨x3,x2,⟨⟩⟩:=y
  have one:∀x:Int,Wp (λ_=>k_ (bif decide (x<(0:Int))then some (true)else some (decide (x>(4294967295:Int)))) λv=>some v) (λb=>b= !decide (lS x)):=λx=>by
   refine aj (dw (b:=decide (x>4294967295)) (λ_=>aa rfl) (aa ?_))
   by_cases h:lS x
   ·rw[decide_eq_true h,decide_eq_false (by omega),decide_eq_false (by omega)];rfl
   ·rw[decide_eq_false h]
    show(decide (x<0)||decide (x>4294967295))=true
    simp only[D_,decide_eq_true_eq];omega
  refine aj (u5 (N:=3) (f:=λi=>if lS (if i=0 then x0 else if i=1 then x1 else x2)then 0 else 5) (enc:=λi=>((x0,x1,x2,()),(i:Int),())) (oB:=λe=>(e,())) (oE:=()) (λi hi=>?_) ?_ ?_)
  ·unfold qm
   have hb:∀x:Int,x=(if i=0 then x0 else if i=1 then x1 else x2)->Wp (λ_=>k_ (bif decide (x<(0:Int))then some (true)else some (decide (x>(4294967295:Int)))) λv11=>
    bif v11 then some (.inr (.inl (((5:Int),()))))else some (.inl ((x0,x1,x2,()),a_ .i64 ((i:Int)+(1:Int)),())))
    (fun(r:((Int×Int×Int×Unit)×Int×Unit)⊕(Int×Unit)⊕Unit)=>r=if(if lS (if i=0 then x0 else if i=1 then x1 else x2)then(0:Int)else 5)=0 then .inl ((x0,x1,x2,()),((i+1:Nat):Int),())else .inr (.inl ((if lS (if i=0 then x0 else if i=1 then x1 else x2)then(0:Int)else 5),()))):=λx hx=>by
    subst hx
    refine aj (dw (b:=decide (_>4294967295)) (λ_=>aa rfl) (ar (λh=>aa ?_) λh=>aa ?_))
    ·rw[if_neg (show ¬lS _ by simp only[D_,decide_eq_true_eq]at h;omega),if_neg (by decide)]
    ·rw[if_pos (show lS _ by simp only[E_,decide_eq_false_iff_not]at h;omega),if_pos rfl,aA (n:=3) hi (by decide)]
   refine bD hi ?_
   have hi3:i=0\/i=1\/i=2:=by omega
   rcases hi3 with rfl|rfl|rfl
   ·exact t7 (a:=x0) rfl (hb x0 rfl)
   ·exact t7 (a:=x1) rfl (hb x1 rfl)
   ·exact t7 (a:=x2) rfl (hb x2 rfl)
  ·unfold qm
   exact be (aa rfl)
  have e3:mL (λi=>if lS (if i=0 then x0 else if i=1 then x1 else x2)then(0:Int)else 5) 3=if lS x0/\lS x1/\lS x2 then 0 else 5:=by
   by_cases h:lS x0/\lS x1/\lS x2
   ·rw[if_pos h]
    refine errN_zero.2 λj hj=>?_
    have hj3:j=0\/j=1\/j=2:=by omega
    rcases hj3 with rfl|rfl|rfl
    ·exact if_pos h.1
    ·exact if_pos h.2.1
    ·exact if_pos h.2.2
   ·rw[if_neg h]
    refine(SI (c:=5) (λj=>Z4)).resolve_left λh0=>h ?_
    have h1:=errN_zero.1 h0
    have g0:=h1 0 (by decide)
    have g1:=h1 1 (by decide)
    have g2:=h1 2 (by decide)
    have f:∀{P:Prop} [Decidable P],(if P then(0:Int)else 5)=0->P:=fun{P} _ h=>by
     by_cases hp:P
     ·exact hp
     ·rw[if_neg hp]at h;cases h
    exact⟨f g0,f g1,f g2⟩
  rw[e3]
  by_cases h4:lS x0/\lS x1/\lS x2
  ·rw[if_pos h4,if_pos rfl]
   refine aj (dw (b:=decide (x3>16777216)) (λ_=>aa rfl) (ar (λh=>aa ?_) λh=>aa ?_))
   ·rw[if_pos (show ¬(lS x0/\lS x1/\lS x2)\/x3<0\/16777216<x3 by simp at h;omega)]
   ·rw[if_neg (show ¬(¬(lS x0/\lS x1/\lS x2)\/x3<0\/16777216<x3) by simp at h;omega)]
  ·rw[if_neg h4,if_neg (by decide)]
   refine aa ?_
   rw[if_pos (show ¬(lS x0/\lS x1/\lS x2)\/x3<0\/16777216<x3 from .inl h4)]
 ·rw[if_pos h]
open Classical in
noncomputable def Hr(s:List UInt8)(path:List Int):Bool:=decide (∃r,iv r=0/\j4 r=s/\uK (iG r 0) path=true)
noncomputable def TI(l:List XD)(path:List Int):Bool:=match l.find? (λu=>Hr u.2.1 path)with|some u=>u.1|none=>false
open Classical in
theorem Vv{s:List UInt8}{c:Rx×Int×Unit}(h:ParsedX s c)(hc:(c.2.1==0)=false)(path:List Int):Hr s path=false:=by
 unfold Hr
 refine decide_eq_false ?_
 rintro⟨r,h1,h2,_⟩
 rcases h with⟨r',_,_,rfl⟩|⟨h3,_⟩
 ·cases hc
 ·exact h3 r h1 h2
open Classical in
theorem Td{s:List UInt8}(hs:s.length<=1048576){c:Rx×Int×Unit}(h:ParsedX s c)(hc:(c.2.1==0)=true)(path:List Int):∃r,c=(r,0,())/\dq r=true/\sz r<=64/\Hr s path=uK (iG r 0) path:=by
 rcases h with⟨r,h1,h2,rfl⟩|⟨_,rfl⟩
 ·obtain⟨hw,hz,_⟩:=CY h1
  refine⟨r,rfl,hw,hz,?_⟩
  unfold Hr
  cases hm:uK (iG r 0) path
  ·refine decide_eq_false ?_
   rintro⟨r',k1,k2,k3⟩
   have:=ParsedX.pxUniq hs (.inl ⟨r',k1,k2,rfl⟩) (.inl ⟨r,h1,h2,rfl⟩)
   cases this
   rw[hm]at k3;cases k3
  ·exact decide_eq_true ⟨r,h1,h2,hm⟩
 ·cases hc
theorem GP(l:List XD)(path:List Int)(hl:l.length<=9223372036854775807)(hr:∀u∈l,u.2.1.length<=1048576)(hp:path.length<=1000000):aF tbl o7 [.d (.list yH) l,.d (.list tI) path] [] jx (TI l path,()):=by
 refine aw rfl (aC HE rfl (λO n=>HX O n l path) ?_)
 unfold yX
 refine aj (xm (xs:=l) (p:=λu=>Hr u.2.1 path) (enc:=λi=>((i:Int),())) (g:=λu=>(u.1,())) (e:=()) (λi hi=>?_) ?_ ?_)
 ·unfold qn
  have hu:=hr _ (e_ hi)
  obtain⟨c,h1,h2⟩:=yV l[i].2.1 hu
  refine bD hi (aM hi (an h2 (aj (cr (b:=Hr l[i].2.1 path) (λh=>?_) ?_))))
  ·obtain⟨r,rfl,hw,hz,hm⟩:=Td hu h1 h path
   rw[od]
   refine an (GV r (by omega) path hp) (aa ?_)
   rw[hm,hw]
   show(kq path&&uK (iG r 0) path)=_
   cases e:kq path
   ·rw[QO hw e];rfl
   ·rfl
  ·have e:((c.2.1==0)&&Hr l[i].2.1 path)=Hr l[i].2.1 path:=by
    cases hc:(c.2.1==0)
    ·rw[Vv h1 hc];rfl
    ·rfl
   rw[e]
   refine ar (λh=>aa ?_) λh=>aa ?_
   ·rw[if_pos h]
   ·rw[if_neg (by rw[h];decide),aA hi hl]
 ·unfold qn
  exact be (aa rfl)
 ·unfold TI
  cases l.find? (λu=>Hr u.2.1 path)with
  |some r=>exact aa rfl
  |none=>exact aa rfl
noncomputable def vQ(s:PS)(m:Uw)(r:qR):Bool:=
 if m.1=1 then(match wM s m.2.1 with|some l=>TJ l.2.1 r.1|none=>false)
 else if m.1=2 then(match FF s m.2.1 with|some l=>TI l.2.1 r.2.2.2.1|none=>false)
 else if m.1=3 then(match rC s m.2.1 with|some l=>wU l.2.1 r.2.2.2.2.1|none=>false)
 else if m.1=4 then r.2.1==m.2.2.1
 else if m.1=5 then r.2.2.2.2.2.2.2.2.1==m.2.2.1
 else if m.1=6 then decide (r.2.2.2.2.2.2.2.1<=m.2.2.1)
 else if m.1=7 then Lc m.2.2.2.1 r.2.2.1
 else decide ((r.2.2.2.1.length:Int)<=m.2.2.1)
noncomputable def QE(s:PS)(r:qR)(m:Uw):Bool:=true ^^ (vQ s m r==m.2.2.2.2.1)
noncomputable def Eh(s:PS)(r:qR)(t:zB):Bool:=t.2.1.all (QE s r)
structure SmQ(s:PS)(r:qR):Prop where
 s:SmP s
 p:qg r.1.1
 n:qg r.2.2.1
 pt:r.2.2.2.1.length<=100000
 cm:r.2.2.2.2.1.length<=100000
abbrev Y4(r:qR):Ob:=.box cw [.d tW r.1.1,.d tI r.1.2.1,.d tI r.2.1,.d tW r.2.2.1,.d (.list tI) r.2.2.2.1,.d (.list tW) r.2.2.2.2.1,.d tI r.2.2.2.2.2.1,.d tI r.2.2.2.2.2.2.1,.d tI r.2.2.2.2.2.2.2.1,.d tI r.2.2.2.2.2.2.2.2.1]
abbrev cR(s:PS)(r:qR):List Xx×List Xw×List Xv×List De×Int×Int×Int×Int×List Int×List Int×Int×Int×Int×Int×Unit:=
 (s.1,s.2.1,s.2.2.1,s.2.2.2.1,r.1.1,r.1.2.1,r.2.1,r.2.2.1,r.2.2.2.1,r.2.2.2.2.1,r.2.2.2.2.2.1,r.2.2.2.2.2.2.1,r.2.2.2.2.2.2.2.1,r.2.2.2.2.2.2.2.2.1,())
theorem YO(x:HL q_apply_conditions_1_drr.sl):wT q_apply_conditions_1_drr (gX q_apply_conditions_1_drr x)=some x:=by kernel_rfl
theorem YP(x:HL q_apply_conditions_2_dr.sl):wT q_apply_conditions_2_dr (gX q_apply_conditions_2_dr x)=some x:=by kernel_rfl
theorem YN(x:HL q_apply_conditions.sl):wT q_apply_conditions (gX q_apply_conditions x)=some x:=by kernel_rfl
theorem UA(s:PS)(m:Uw)(r:qR)(h:SmQ s r)(hm:1<=m.1/\m.1<=8)(hm2:qg m.2.2.2.1.1):aF tbl cB [.d yM m,.ptr 0 0,.ptr 1 0] [OQ s,Y4 r] q_apply_conditions_1_drr (vQ s m r,cR s r):=by
 refine aw (YO _) (aC s7 rfl (λO n=>s9 O n m s.1 s.2.1 s.2.2.1 s.2.2.2.1 r.1.1 r.1.2.1 r.2.1 r.2.2.1 r.2.2.2.1 r.2.2.2.2.1 r.2.2.2.2.2.1 r.2.2.2.2.2.2.1 r.2.2.2.2.2.2.2.1 r.2.2.2.2.2.2.2.2.1) ?_)
 unfold lF
 have hok:=h.s.ok
 have kne:∀{k:Int},m.1≠k->(m.1==k)=false:=λh=>beq_eq_false_iff_ne.2 h
 have keq:∀{k:Int},m.1=k->(m.1==k)=true:=λh=>beq_iff_eq.2 h
 by_cases h1:m.1=1
 ·have hraw:vQ s m r=match wM s m.2.1 with|some l=>TJ l.2.1 r.1|none=>false:=by unfold vQ;rw[if_pos h1]
  refine aj (aX (keq h1) (aj (xm (xs:=s.1) (p:=(·.1==m.2.1)) (enc:=λi=>((i:Int),cR s r)) (g:=λl=>(TJ l.2.1 r.1,cR s r)) (e:=cR s r) (λi hi=>?_) ?_ ?_)))
  ·unfold fL
   refine bD hi (aM hi (ar (λh'=>?_) λh'=>aa ?_))
   ·have hl:=hok.1.2 _ (e_ hi)
    refine an (Dy s.1[i].2.1 r.1 hl.2.1.1 (λu hu=>(hl.2.1.2 u hu).2.1.1) h.p) (aa ?_)
    rw[if_pos h']
   ·rw[if_neg (by rw[h'];decide),aA hi (by exact hok.1.1)]
  ·unfold fL
   exact be (aa rfl)
  ·unfold wM at hraw
   cases e:s.1.find? (·.1==m.2.1)with
   |some l=>rw[e]at hraw;rw[hraw];exact aa (aa rfl)
   |none=>rw[e]at hraw;rw[hraw];exact aa (aa rfl)
 by_cases h2:m.1=2
 ·have hraw:vQ s m r=match FF s m.2.1 with|some l=>TI l.2.1 r.2.2.2.1|none=>false:=by unfold vQ;rw[if_neg h1,if_pos h2]
  refine aj (aB (kne h1) (aX (keq h2) (aj (xm (xs:=s.2.1) (p:=(·.1==m.2.1)) (enc:=λi=>((i:Int),cR s r)) (g:=λl=>(TI l.2.1 r.2.2.2.1,cR s r)) (e:=cR s r) (λi hi=>?_) ?_ ?_))))
  ·unfold fM
   refine bD hi (aM hi (ar (λh'=>?_) λh'=>aa ?_))
   ·have hl:=hok.2.1.2 _ (e_ hi)
    refine an (GP s.2.1[i].2.1 r.2.2.2.1 hl.2.1.1 (λu hu=>h.s.pt _ (e_ hi) u hu) (by have:=h.pt;omega)) (aa ?_)
    rw[if_pos h']
   ·rw[if_neg (by rw[h'];decide),aA hi (by exact hok.2.1.1)]
  ·unfold fM
   exact be (aa rfl)
  ·unfold FF at hraw
   cases e:s.2.1.find? (·.1==m.2.1)with
   |some l=>rw[e]at hraw;rw[hraw];exact aa (aa rfl)
   |none=>rw[e]at hraw;rw[hraw];exact aa (aa rfl)
 by_cases h3:m.1=3
 ·have hraw:vQ s m r=match rC s m.2.1 with|some l=>wU l.2.1 r.2.2.2.2.1|none=>false:=by unfold vQ;rw[if_neg h1,if_neg h2,if_pos h3]
  refine aj (aB (kne h1) (aB (kne h2) (aX (keq h3) (aj (xm (xs:=s.2.2.1) (p:=(·.1==m.2.1)) (enc:=λi=>((i:Int),cR s r)) (g:=λl=>(wU l.2.1 r.2.2.2.2.1,cR s r)) (e:=cR s r) (λi hi=>?_) ?_ ?_)))))
  ·unfold fN
   refine bD hi (aM hi (ar (λh'=>?_) λh'=>aa ?_))
   ·have hl:=hok.2.2.1.2 _ (e_ hi)
    refine an (xU s.2.2.1[i].2.1 r.2.2.2.2.1 hl.2.1.1 (by have:=h.cm;omega)) (aa ?_)
    rw[if_pos h']
   ·rw[if_neg (by rw[h'];decide),aA hi (by exact hok.2.2.1.1)]
  ·unfold fN
   exact be (aa rfl)
  ·unfold rC at hraw
   cases e:s.2.2.1.find? (·.1==m.2.1)with
   |some l=>rw[e]at hraw;rw[hraw];exact aa (aa rfl)
   |none=>rw[e]at hraw;rw[hraw];exact aa (aa rfl)
 refine aj (aB (kne h1) (aB (kne h2) (aB (kne h3) ?_)))
 by_cases h4:m.1=4
 ·refine aX (keq h4) (aa (aa ?_))
  rw[show vQ s m r=(r.2.1==m.2.2.1)from by unfold vQ;rw[if_neg h1,if_neg h2,if_neg h3,if_pos h4]]
 refine aB (kne h4) ?_
 by_cases h5:m.1=5
 ·refine aX (keq h5) (aa (aa ?_))
  rw[show vQ s m r=(r.2.2.2.2.2.2.2.2.1==m.2.2.1)from by unfold vQ;rw[if_neg h1,if_neg h2,if_neg h3,if_neg h4,if_pos h5]]
 refine aB (kne h5) ?_
 by_cases h6:m.1=6
 ·refine aX (keq h6) (aa (aa ?_))
  rw[show vQ s m r=decide (r.2.2.2.2.2.2.2.1<=m.2.2.1)from by unfold vQ;rw[if_neg h1,if_neg h2,if_neg h3,if_neg h4,if_neg h5,if_pos h6]]
 refine aB (kne h6) ?_
 by_cases h7:m.1=7
 ·refine aX (keq h7) (an (r8 m.2.2.2.1 r.2.2.1 hm2 h.n) (aa (aa ?_)))
  rw[show vQ s m r=Lc m.2.2.2.1 r.2.2.1 from by unfold vQ;rw[if_neg h1,if_neg h2,if_neg h3,if_neg h4,if_neg h5,if_neg h6,if_pos h7]]
 refine aB (kne h7) (aX (keq (by omega)) (aa (aa ?_)))
 rw[show vQ s m r=decide ((r.2.2.2.1.length:Int)<=m.2.2.1)from by unfold vQ;rw[if_neg h1,if_neg h2,if_neg h3,if_neg h4,if_neg h5,if_neg h6,if_neg h7]]
theorem UB(s:PS)(m:Uw)(r:qR)(h:SmQ s r)(hm:1<=m.1/\m.1<=8)(hm2:qg m.2.2.2.1.1):aF tbl cM [.d yM m,.ptr 0 0] [.box EU [.clo cK [1,2]],OQ s,Y4 r] q_apply_conditions_2_dr (QE s r m,cR s r):=by
 refine aw (YP _) (aC tV rfl (λO n=>ua O n m s.1 s.2.1 s.2.2.1 s.2.2.2.1 r.1.1 r.1.2.1 r.2.1 r.2.2.1 r.2.2.2.1 r.2.2.2.2.1 r.2.2.2.2.2.1 r.2.2.2.2.2.2.1 r.2.2.2.2.2.2.2.1 r.2.2.2.2.2.2.2.2.1) ?_)
 unfold mS
 exact an (UA s m r h hm hm2) (aa rfl)
theorem Je(s:PS)(r:qR):aF tbl iW [.d yS s,.d Uy r] [] q_apply_conditions (cR s r):=
 aw (YN _) (aC Ab rfl (λO n=>Ah O n s r) (aa rfl))
theorem Io{l:List Int}{z:Int}:l.take (g_ (F_ (l.length:Int)) z).length++(g_ (F_ (l.length:Int)) z).drop l.length=l:=by
 rw[i_,n_,f_,List.drop_replicate,L_,G_,q_]
theorem Ao(r:qR)(h1:r.2.2.2.1.length<=1000000)(h2:r.2.2.2.2.1.length<=1000000):aF tbl jI [.d Uy r] [] gP (r,()):=by
 obtain⟨p,po,nh,pt,cm,t⟩:=r
 simp only at h1 h2
 refine aw rfl (aC Bz rfl (λO n=>BM O n (p,po,nh,pt,cm,t)) ?_)
 unfold r9
 refine aG (by simp only[l_,decide_eq_true_eq];omega) (aG (by simp only[l_,decide_eq_true_eq];omega) (aa ?_))
 simp only
 rw[Io,Io]
theorem R8{a:B0}(ha:jk a=0)(h8:a.1=8):1<=a.2.1/\a.2.1<=16:=by
 unfold jk at ha
 split at ha
 ·cases ha
 split at ha
 ·cases ha
 split at ha
 ·cases ha
 rename_i h
 have h:tE a=true:=by cases e:tE a;exact absurd e h;rfl
 unfold tE at h
 rw[if_neg (by omega),if_neg (by omega),if_neg (by omega),if_neg (by omega)]at h
 simp at h
 omega
theorem Qe{a:B0}(ha:jk a=0):1<=a.1/\a.1<=8:=by
 unfold jk at ha
 split at ha
 ·cases ha
 ·omega
section
variable {a:B0} {p:xX} {po nh:Int} {pt cm:List Int} {pf md mt tg:Int} {u:Unit}
theorem Yw(h:a.1=1):Ew a (p,po,nh,pt,cm,pf,md,mt,tg,u)=(p,po,nh,pt,cm,a.2.1,md,mt,tg,u):=by simp[Ew,h]
theorem Yx(h:a.1=2):Ew a (p,po,nh,pt,cm,pf,md,mt,tg,u)=(p,po,nh,pt,cm,pf,a.2.1,mt,tg,u):=by simp[Ew,h]
theorem Yy(h:a.1=3):Ew a (p,po,nh,pt,cm,pf,md,mt,tg,u)=(p,po,nh,pt,cm,pf,md,a.2.1,tg,u):=by simp[Ew,h]
theorem Yz(h:a.1=4):Ew a (p,po,nh,pt,cm,pf,md,mt,tg,u)=(p,po,nh,pt,cm,pf,md,mt,a.2.1,u):=by simp[Ew,h]
theorem YA(h:a.1=5):Ew a (p,po,nh,pt,cm,pf,md,mt,tg,u)=(p,po,a.2.2.2.2.1,pt,cm,pf,md,mt,tg,u):=by simp[Ew,h]
theorem YB(h:a.1=6):Ew a (p,po,nh,pt,cm,pf,md,mt,tg,u)=(p,po,nh,pt,Cm.add cm a.2.2.2.1,pf,md,mt,tg,u):=by simp[Ew,h]
theorem YC(h:a.1=7):Ew a (p,po,nh,pt,cm,pf,md,mt,tg,u)=(p,po,nh,pt,Cm.drop cm a.2.2.2.1,pf,md,mt,tg,u):=by simp[Ew,h]
theorem YD(h:a.1=8)(hl:(pt.length:Int)+a.2.1<=2000):Ew a (p,po,nh,pt,cm,pf,md,mt,tg,u)=(p,po,nh,g_ a.2.1.toNat a.2.2.1++pt,cm,pf,md,mt,tg,u):=by simp[Ew,h,hl]
theorem YE(h:a.1=8)(hl:¬(pt.length:Int)+a.2.1<=2000):Ew a (p,po,nh,pt,cm,pf,md,mt,tg,u)=(p,po,nh,pt,cm,pf,md,mt,tg,u):=by
 simp[Ew,h]
 intro h';exact absurd h' hl
end
theorem EN(a:B0)(r:qR)(ha:jk a=0)(h1:r.2.2.2.1.length<=900000)(h2:r.2.2.2.2.1.length<=900000):aF tbl nz [.d yA a,.d Uy r] [] kj (Ew a r,()):=by
 obtain⟨⟨p1,p2,⟨⟩⟩,po,nh,pt,cm,pf,md,mt,tg,⟨⟩⟩:=r
 simp only at h1 h2
 refine aw rfl (aC Gm rfl (λO n=>GD O n a ((p1,p2,()),po,nh,pt,cm,pf,md,mt,tg,())) ?_)
 unfold we
 have hk:=Qe ha
 have kne:∀{k:Int},a.1≠k->(a.1==k)=false:=λh=>beq_eq_false_iff_ne.2 h
 have keq:∀{k:Int},a.1=k->(a.1==k)=true:=λh=>beq_iff_eq.2 h
 by_cases k1:a.1=1
 ·rw[Yw k1];exact aj (aX (keq k1) (aa (aa rfl)))
 by_cases k2:a.1=2
 ·rw[Yx k2];exact aj (aB (kne k1) (aX (keq k2) (aa (aa rfl))))
 by_cases k3:a.1=3
 ·rw[Yy k3];exact aj (aB (kne k1) (aB (kne k2) (aX (keq k3) (aa (aa rfl)))))
 by_cases k4:a.1=4
 ·rw[Yz k4];exact aj (aB (kne k1) (aB (kne k2) (aB (kne k3) (aX (keq k4) (aa (aa rfl))))))
 by_cases k5:a.1=5
 ·rw[YA k5];exact aj (aB (kne k1) (aB (kne k2) (aB (kne k3) (aB (kne k4) (aX (keq k5) (aa (aa rfl)))))))
 by_cases k6:a.1=6
 ·rw[YB k6];exact aj (aB (kne k1) (aB (kne k2) (aB (kne k3) (aB (kne k4) (aB (kne k5) (aX (keq k6) (an (Dx cm a.2.2.2.1 (by omega)) (aa (aa rfl)))))))))
 by_cases k7:a.1=7
 ·rw[YC k7];exact aj (aB (kne k1) (aB (kne k2) (aB (kne k3) (aB (kne k4) (aB (kne k5) (aB (kne k6) (aX (keq k7) (an (B3 cm a.2.2.2.1 (by omega)) (aa (aa rfl))))))))))
 have k8:a.1=8:=by omega
 obtain⟨n1,n2⟩:=R8 ha k8
 generalize hN:a.2.1=N at n1 n2
 obtain⟨m,rfl⟩:=Int.eq_ofNat_of_zero_le (show 0<=N by omega)
 refine aj (aB (kne k1) (aB (kne k2) (aB (kne k3) (aB (kne k4) (aB (kne k5) (aB (kne k6) (aB (kne k7) (aX (keq k8) ?_))))))))
 have ew:a_ .i64 ((pt.length:Int)+(m:Int))=(pt.length:Int)+(m:Int):=wrap_i64 (by omega) (by omega)
 have ew2:a_ .i64 ((m:Int)+(pt.length:Int))=(m:Int)+(pt.length:Int):=wrap_i64 (by omega) (by omega)
 simp only[hN,ew,ew2]
 refine ar (λh=>?_) λh=>aa (aa ?_)
 ·have h:=of_decide_eq_true h
  rw[YD k8 (by rw[hN];exact h),hN]
  refine aG (by simp only[l_,decide_eq_true_eq];omega) ?_
  refine aj (bc (N:=m) (I:=λi s=>s=((i:Int),p1,p2,po,nh,pt,cm,pf,md,mt,tg,(0:Int),(0:Int),(0:Int),(0:Int),(0:Int),(0:Int),(0:Int),(0:Int),g_ i a.2.2.1++g_ (m - i) (0:Int),())) rfl (λi s hi hs=>?_) λs hs=>?_)
  ·subst hs
   unfold oC
   simp only[hN]
   have hl:(g_ i a.2.2.1++g_ (m - i) (0:Int)).length=m:=by rw[p_,i_,i_];omega
   refine aX (decide_eq_true (by rw[i_,n_];omega)) ?_
   refine aM (by rw[hl];exact hi) (rU (x:=(g_ i a.2.2.1++g_ (m - i) (0:Int))[i]'(by rw[hl];exact hi)) (by rw[n_];exact c_ _) (aa ?_))
   show(a_ .i64 ((i:Int)+1),p1,p2,po,nh,pt,cm,pf,md,mt,tg,(0:Int),(0:Int),(0:Int),(0:Int),(0:Int),(0:Int),(0:Int),(0:Int),(g_ i a.2.2.1++g_ (m - i) (0:Int)).set (F_ (i:Int)) a.2.2.1,())=_
   rw[aA hi (by omega),n_]
   have:(g_ i a.2.2.1++g_ (m - i) (0:Int)).set i a.2.2.1=g_ (i+1) a.2.2.1++g_ (m - (i+1)) (0:Int):=by
    rw[List.set_append_right _ _ (by rw[i_];exact t_ _),i_,L_,show m - i=(m - (i+1))+1 by omega,List.replicate_succ,List.set_cons_zero,List.replicate_succ' (n:=i),List.append_assoc]
    rfl
   rw[this]
  ·subst hs
   unfold oC
   simp only[hN]
   refine aB (decide_eq_false (by rw[i_,n_];omega)) (aa ?_)
   simp only[L_,G_,q_]
   refine aG (decide_eq_true (by rw[i_];omega)) (aa (aa ?_))
   rw[n_]
 ·have h:=of_decide_eq_false h
  rw[YE k8 (by rw[hN];exact h)]
theorem GO(t:zB):aF tbl oZ [.d yT t] [] lV (([([112],[([116],t.2.1,t.2.2.1,1,())],1,())]:List De),()):=
 aw rfl (aC HC rfl (λO n=>HW O n t) (aa rfl))
theorem VV{a:B0}(h:okD yA a):SmP (P2 a):=by
 have l1:(1:Nat)<=maxLen:=by decide
 have i1:IntKind.i64.min<=(1:Int)/\(1:Int)<=IntKind.i64.max:=by decide
 have ht:okD yT ([116],[],[a],1,()):=by
  refine⟨l1,⟨h_ _,λy hy=>by cases hy⟩,⟨l1,λx hx=>?_⟩,i1,trivial⟩
  have hx:x=a:=by simpa using hx
  subst hx
  exact h
 have hp:okD yO ([112],[([116],[],[a],1,())],1,()):=by
  refine⟨l1,⟨l1,λx hx=>?_⟩,i1,trivial⟩
  have hx:x=(([116],[],[a],1,()):zB):=by simpa using hx
  subst hx
  exact ht
 refine⟨⟨⟨h_ _,λy hy=>by cases hy⟩,⟨h_ _,λy hy=>by cases hy⟩,⟨h_ _,λy hy=>by cases hy⟩,⟨l1,λy hy=>?_⟩,trivial⟩,h_ _,h_ _,h_ _,show(1:Nat)<=1048576 by decide,λl hl=>by cases hl⟩
 have hy:y=(([112],[([116],[],[a],1,())],1,()):De):=by simpa using hy
 subst hy
 exact hp
theorem Kw(l:List B0)(r:qR)(hl:l.length<=100000)(hok:∀a∈l,okD yA a)(hr:SmR 100000 r):aF tbl sq [.d (.list yA) l,.d Uy r] [] qh (KJ l r,()):=by
 refine aw rfl (aC ME rfl (λO n=>MO O n l r) ?_)
 unfold C8
 refine an (Ao r (by have:=hr.pt;omega) (by have:=hr.cm;omega)) ?_
 have enc:∀x:qR,x=((x.1.1,x.1.2.1,()),x.2.1,x.2.2.1,x.2.2.2.1,x.2.2.2.2.1,x.2.2.2.2.2.1,x.2.2.2.2.2.2.1,x.2.2.2.2.2.2.2.1,x.2.2.2.2.2.2.2.2.1,()):=λx=>rfl
 refine aj (bc (N:=l.length) (I:=λi s=>∃x:qR,x=KJ (l.take i) r/\s=((i:Int),(0:Int),(0:Int),(0:Int),(0:Int),(0:Int),(0:Int),(0:Int),(0:Int),x.1.1,x.1.2.1,x.2.1,x.2.2.1,x.2.2.2.1,x.2.2.2.2.1,x.2.2.2.2.2.1,x.2.2.2.2.2.2.1,x.2.2.2.2.2.2.2.1,x.2.2.2.2.2.2.2.2.1,())) ⟨r,rfl,rfl⟩ (λi s hi hs=>?_) λs hs=>?_)
 ·obtain⟨x,hx,rfl⟩:=hs
  unfold sS
  have hsm:SmR (100000+(l.take i).length) x:=by rw[hx];exact OJ hr
  have hc:=hsm.cm
  have hp:=hsm.pt
  have hoa:=hok _ (e_ hi)
  have estep:KJ (l.take (i+1)) r=Qd l[i] x:=by
   unfold KJ at hx⊢
   rw[b_ hi,y_,hx]
   rfl
  refine bD hi (aj (aM hi (an (GO _) (an (rh (P2 l[i]) (VV hoa)) ?_))))
  rw[Xo]
  refine ar (λh=>?_) λh=>?_
  ·have h:jk l[i]=0:=by simpa using h
   rw[show Qd l[i] x=Ew l[i] x from if_pos h]at estep
   refine an (EN l[i] x h (by omega) (by rw[j_]at hc;omega)) (aa (aa ⟨Ew l[i] x,estep.symm,?_⟩))
   show(a_ .i64 ((i:Int)+1),_)=_
   rw[aA hi (by omega)]
  ·have h:¬jk l[i]=0:=by simpa using h
   rw[show Qd l[i] x=x from if_neg h]at estep
   refine aa (aa ⟨x,estep.symm,?_⟩)
   show(a_ .i64 ((i:Int)+1),_)=_
   rw[aA hi (by omega)]
 ·obtain⟨x,hx,rfl⟩:=hs
  unfold sS
  refine be (aa (aa ?_))
  rw[f_]at hx
  rw[<-hx]
theorem QL{s:PS}{m:Uw}(h:vO s m=0):1<=m.1/\m.1<=8:=by
 refine d_ λhn=>?_
 rw[LO (show m.1<1\/8<m.1 by omega)]at h
 cases h
theorem KM{α:Type}{p:α->Bool}{l:List α}{i:Nat}(hi:i<l.length):(l.take (i+1)).all p=((l.take i).all p&&p l[i]):=by
 rw[b_ hi,List.all_append]
 simp
abbrev eE{α:Type}(s:PS)(r:qR)(x:α):List Xx×List Xw×List Xv×List De×Int×Int×Int×Int×List Int×List Int×Int×Int×Int×Int×α:=
 (s.1,s.2.1,s.2.2.1,s.2.2.2.1,r.1.1,r.1.2.1,r.2.1,r.2.2.1,r.2.2.2.1,r.2.2.2.2.1,r.2.2.2.2.2.1,r.2.2.2.2.2.2.1,r.2.2.2.2.2.2.2.1,r.2.2.2.2.2.2.2.2.1,x)
abbrev zE{α:Type}(x:α):Bool×Int×Int×Int×Int×Int×Int×Int×Int×α:=(false,0,0,0,0,0,0,0,0,x)
theorem Z3(s:PS)(r:qR)(h:SmQ s r)(t:zB)(ht:TrmOk s t)(hm:∀m∈t.2.1,qg m.2.2.2.1.1)(T:List Int)(A:List B0):
 Wp (λn=>aS n (iN (qw tbl n) n t) (true,(0:Int),zE (eE s r (T,A,t.1,t.2.1,t.2.2.1,t.2.2.2.1,())))) λx=>x=(Eh s r t,zE (eE s r (T,A,t.1,t.2.1,t.2.2.1,t.2.2.2.1,()))):=by
 refine bc (N:=t.2.1.length) (I:=λi x=>x=((t.2.1.take i).all (QE s r),(i:Int),zE (eE s r (T,A,t.1,t.2.1,t.2.2.1,t.2.2.2.1,())))) rfl (λi x hi hx=>?_) λx hx=>?_
 ·subst hx
  unfold iN
  have hl:=ht.ml
  have hmi:=e_ hi
  refine bD hi (aM hi (ar (λhb=>?_) λhb=>aa ?_))
  ·refine an (UB s t.2.1[i] r h (QL (ht.ma _ hmi)) (hm _ hmi)) (aa ?_)
   show(QE s r t.2.1[i],a_ .i64 ((i:Int)+1),_)=_
   have hb:(t.2.1.take i).all (QE s r)=true:=hb
   rw[KM hi,hb,S_,aA hi (by omega)]
  ·show(false,a_ .i64 ((i:Int)+1),_)=_
   have hb:(t.2.1.take i).all (QE s r)=false:=hb
   rw[KM hi,hb,Bool.false_and,aA hi (by omega)]
 ·subst hx
  unfold iN
  refine be (aa ?_)
  rw[f_]
  rfl
theorem FB{hold:zB->Bool}{t:zB}{l:List zB}{i:Nat}{d:Int}:nI hold (t::l) i d=if hold t then(if t.2.2.2.1≠3 then([(i:Int)],t.2.2.1,t.2.2.2.1)else((i:Int)::(nI hold l (i+1) d).1,t.2.2.1++(nI hold l (i+1) d).2.1,(nI hold l (i+1) d).2.2))else nI hold l (i+1) d:=rfl
noncomputable def It(s:PS)(p:De)(r:qR):List Int×List B0×Int:=nI (Eh s r) p.2.1 0 p.2.2.1
noncomputable def Ru(s:PS)(p:De)(r:qR):Bool×(qR×Unit):=if(It s p r).2.2=2 then(false,VZ,())else(true,KJ (It s p r).2.1 r,())
theorem WI{s:PS}{p:De}{r:qR}(hs:okD yO p):∀a∈(It s p r).2.1,okD yA a:=by
 have key:∀(l:List zB) (i:Nat) (d:Int),(∀t∈l,okD yT t)->∀a∈(nI (Eh s r) l i d).2.1,okD yA a:=by
  intro l
  induction l with
  |nil=>intro i d _ a ha;cases ha
  |cons t l ih=>
   intro i d h a ha
   rw[FB]at ha
   have h0:=h t (by simp)
   split at ha
   ·split at ha
    ·exact h0.2.2.1.2 a ha
    ·rcases List.mem_append.1 ha with ha|ha
     ·exact h0.2.2.1.2 a ha
     ·exact ih (i+1) d (λx hx=>h x (by simp[hx])) a ha
   ·exact ih (i+1) d (λx hx=>h x (by simp[hx])) a ha
 exact key p.2.1 0 p.2.2.1 hs.2.1.2
theorem B2(s:PS)(p:De)(r:qR)(h:SmQ s r)(hp:PlcOk s p)(hok:okD yO p):aF tbl kJ [.d yS s,.d yO p,.d Uy r] [] fH ((It s p r).1,Ru s p r,()):=by
 refine aw rfl (aC CN rfl (λO n=>C0 O n s p r) ?_)
 unfold ti
 have htl:=hp.tl
 have hal:∀t∈p.2.1,t.2.2.1.length<=64:=λt ht=>(hp.tr t ht).al
 generalize hR:It s p r=R
 have hlen:R.1.length<=64/\R.2.1.length<=64*64:=by
  have:=Co (hold:=Eh s r) (l:=p.2.1) (i:=0) (d:=p.2.2.1) hal
  have e:nI (Eh s r) p.2.1 0 p.2.2.1=R:=hR
  rw[e]at this
  omega
 refine an (Je s r) (aj (Wp.imp (Q:=λx=>x=(R.2.2,zE (R.1,R.2.1,()))) (bc (N:=p.2.1.length) (I:=λi x=>∃(T:List Int) (A:List B0),x=(p.2.2.1,(i:Int),zE (eE s r (T,A,())))/\T++(nI (Eh s r) (p.2.1.drop i) i p.2.2.1).1=R.1/\A++(nI (Eh s r) (p.2.1.drop i) i p.2.2.1).2.1=R.2.1/\(nI (Eh s r) (p.2.1.drop i) i p.2.2.1).2.2=R.2.2)
  ⟨[],[],rfl,by rw[u_,<-hR];rfl,by rw[u_,<-hR];rfl,by rw[u_,<-hR];rfl⟩ (λi x hi hx=>?_) λx hx=>?_) λx hx=>?_))
 ·obtain⟨T,A,rfl,h1,h2,h3⟩:=hx
  unfold mH
  have hT:T.length<=64:=by have:=congrArg s_ h1;rw[p_]at this;omega
  have hA:A.length<=64*64:=by have:=congrArg s_ h2;rw[p_]at this;omega
  have hw:a_ .i64 ((i:Int)+1)=((i+1:Nat):Int):=aA hi (by omega)
  rw[v_ hi,FB]at h1 h2 h3
  have hti:=e_ hi
  have htr:=hp.tr _ hti
  have hot:=hok.2.1.2 _ hti
  refine bD hi (aj (aM hi ?_))
  generalize p.2.1[i]=t at h1 h2 h3 htr hot
  have hac:=htr.al
  refine aj (Wp.imp (Z3 s r h t htr (λm hm=>((hot.2.1.2 m hm).2.2.2.1).1) T A) λy hy=>?_)
  subst hy
  refine ar (λhb=>aa (aa ?_)) λhb=>?_
  ·have hb:Eh s r t=false:=by simpa using hb
   rw[hb]at h1 h2 h3
   exact⟨T,A,by show(_,a_ .i64 ((i:Int)+1),_)=_;rw[hw],h1,h2,h3⟩
  ·have hb:Eh s r t=true:=by simpa using hb
   rw[hb]at h1 h2 h3
   refine aG (decide_eq_true (by show(T.length+1)*8<=_;omega)) (aG (decide_eq_true (by show(A.length+t.2.2.1.length)*32<=_;omega)) (ar (λhv=>aa (aa ?_)) λhv=>aa (aa ?_)))
   ·have hv:t.2.2.2.1≠3:=by simpa using hv
    rw[if_pos rfl,if_pos hv]at h1 h2 h3
    show(t.2.2.2.1,zE (T++[(i:Int)],A++t.2.2.1,()))=_
    rw[<-h1,<-h2,<-h3]
   ·have hv:¬t.2.2.2.1≠3:=by simpa using hv
    rw[if_pos rfl,if_neg hv]at h1 h2 h3
    refine⟨T++[(i:Int)],A++t.2.2.1,?_,?_,?_,h3⟩
    ·show(_,a_ .i64 ((i:Int)+1),zE (eE s r (T++[(i:Int)],A++t.2.2.1,())))=_
     rw[hw]
    ·rw[<-h1];simp
    ·rw[<-h2];simp
 ·obtain⟨T,A,rfl,h1,h2,h3⟩:=hx
  unfold mH
  rw[A_]at h1 h2 h3
  refine be (aa ?_)
  show(p.2.2.1,zE (T,A,()))=_
  have g1:T=R.1:=by rw[<-h1];exact(q_ T).symm
  have g2:A=R.2.1:=by rw[<-h2];exact(q_ A).symm
  have g3:p.2.2.1=R.2.2:=h3
  rw[g1,g2,g3]
 ·subst hx
  have hv:Ru s p r=if R.2.2=2 then(false,VZ,())else(true,KJ R.2.1 r,()):=by unfold Ru;rw[hR]
  rw[hv]
  refine ar (λhb=>aa ?_) λhb=>?_
  ·rw[if_pos (by simpa using hb)]
  ·rw[if_neg (by simpa using hb)]
   refine an (Kw R.2.1 r (by omega) (by rw[<-hR];exact WI hok) ⟨h.pt,h.cm⟩) (aa rfl)
noncomputable def Gc(s:PS)(n:List UInt8)(r:qR):Int:=if vP m9 s≠0 then vP m9 s else if(vM s n).isSome=false then 6 else Gk r
noncomputable def NS(s:PS)(n:List UInt8):De:=if vP m9 s≠0 then Uv else(vM s n).getD Uv
theorem Dw(s:PS)(n:List UInt8)(r:qR)(h:SmQ s r):aF tbl mg [.d yS s,.d tS n,.d Uy r] [] eD (NS s n,Gc s n r,()):=by
 refine aw rfl (aC D7 rfl (λO k=>Ei O k s n r) ?_)
 unfold vn
 refine an (rh s h.s) (ar (λhb=>aa ?_) λhb=>?_)
 ·have hb:vP m9 s≠0:=by simpa using hb
  rw[show NS s n=Uv from if_pos hb,show Gc s n r=vP m9 s from if_pos hb]
 have hb:¬vP m9 s≠0:=by simpa using hb
 have hk:=J3 (d_ hb)
 rw[show NS s n=(vM s n).getD Uv from if_neg hb,show Gc s n r=if(vM s n).isSome=false then 6 else Gk r from if_neg hb]
 refine an (yU s n hk) (ar (λhf=>aa ?_) λhf=>an (GN r h.p) (aa ?_))
 ·have hf:(vM s n).isSome=false:=by simpa using hf
  rw[if_pos hf]
  cases e:vM s n with
  |some p=>rw[e]at hf;cases hf
  |none=>rfl
 ·have hf:(!(vM s n).isSome)=false:=hf
  have hf:¬(vM s n).isSome=false:=by cases e:(vM s n).isSome<;>simp_all
  rw[if_neg hf]
theorem Mk{s:PS}{n:List UInt8}{r:qR}(h:Gc s n r=0):∃p,vM s n=some p/\NS s n=p/\PolOk m9 s/\Gk r=0:=by
 unfold Gc at h
 split at h
 ·rename_i h0;exact absurd h h0
 rename_i h0
 split at h
 ·cases h
 rename_i h1
 cases e:vM s n with
 |none=>rw[e]at h1;exact absurd rfl h1
 |some p=>exact⟨p,rfl,by unfold NS;rw[if_neg h0,e];rfl,J3 (d_ h0),h⟩
noncomputable def N5(s:PS)(n:List UInt8)(r:qR):Bool×(qR×Unit):=if Gc s n r≠0 then(false,VZ,())else Ru s (NS s n) r
theorem Kx(s:PS)(n:List UInt8)(r:qR)(h:SmQ s r):aF tbl sr [.d yS s,.d tS n,.d Uy r] [] m5 (N5 s n r,Gc s n r,()):=by
 refine aw rfl (aC MF rfl (λO k=>MP O k s n r) ?_)
 unfold C9
 refine an (Dw s n r h) (ar (λhb=>aa ?_) λhb=>?_)
 ·have hb:Gc s n r≠0:=by simpa using hb
  rw[show N5 s n r=(false,VZ,())from if_pos hb]
 ·have hb:Gc s n r=0:=by simpa using hb
  obtain⟨p,h1,h2,h3,_⟩:=Mk hb
  rw[show N5 s n r=Ru s (NS s n) r from if_neg (not_not_intro hb),h2,hb]
  exact an (B2 s p r h (h3.r4 p (FE h1)) (h.s.ok.2.2.2.1.2 p (FE h1))) (aa rfl)
theorem A0:aF tbl pX [] [] m7 (((167772160,(8,()))),()):=Eu (m:=90) λk=>by kernel_rfl
theorem A1:aF tbl dM [.d (.list (pr [(pr [tW,tI]),tI,tI,tI,tI,(.list (pr [tW,tI,tW,tI,(pr [tW,tI])]))])) ([((167772160,(8,())),(2,(1,(7,(0,([],()))))))]),.d (pr [(.list (pr [tS,(.list (pr [tB,(pr [tW,tI]),tI,tI]))])),(.list (pr [tS,(.list (pr [tB,tS]))])),(.list (pr [tS,(.list (pr [tB,tI,tI]))])),(.list (pr [tS,(.list (pr [tS,(.list (pr [tI,tS,tI,(pr [tW,tI]),tB])),(.list (pr [tI,tI,tI,tW,tW])),tI])),tI]))]) (([],([],([],([],()))))),.d (.list (pr [tI,tI,tS,tI,tB])) ([(2,(5,([],(20,(false,())))))])] [] cJ (([((167772160,(8,())),(20,(false,(0,(0,())))))]),(0),()):=Eu (m:=90) λk=>by kernel_rfl
theorem A2:aF tbl fG [.d (.list (pr [(pr [tW,tI]),tI,tI,tI,tI,(.list (pr [tW,tI,tW,tI,(pr [tW,tI])]))])) ([((167772160,(8,())),(3,(110,(7,(0,([],()))))))]),.d (pr [(.list (pr [tS,(.list (pr [tB,(pr [tW,tI]),tI,tI]))])),(.list (pr [tS,(.list (pr [tB,tS]))])),(.list (pr [tS,(.list (pr [tB,tI,tI]))])),(.list (pr [tS,(.list (pr [tS,(.list (pr [tI,tS,tI,(pr [tW,tI]),tB])),(.list (pr [tI,tI,tI,tW,tW])),tI])),tI]))]) (([],([],([],([],()))))),.d (.list (pr [tI,tI,tS,tI,tB])) ([(3,(6,([],(0,(false,())))))]),.d tW (9)] [] dQ (([((167772160,(8,())),((2,([],(0,(true,(7,(false,(0,(false,(false,(0,(0,([],(false,(0,([],([],())))))))))))))))),((-1),(0,(9,(false,()))))))]),(0),()):=Eu (m:=90) λk=>by kernel_rfl
theorem A3:aF tbl jE [.d (.list (pr [(pr [tW,tI]),tI,tB,tW,tI])) ([((167772160,(8,())),(20,(false,(0,(0,())))))]),.d (.list (pr [(pr [tW,tI]),tI,tB,tW,tI])) ([((167772160,(8,())),(20,(false,(0,(0,())))))])] [] fZ ((true),()):=Eu (m:=90) λk=>by kernel_rfl
theorem OF:aF tbl lH [] [] jy (true,()):=by
 refine aw rfl (aC HF rfl (λO n=>HY O n) ?_)
 unfold yY
 repeat first
  |refine an A0 ?_
  |refine an A1 ?_
  |refine an A2 ?_
  |refine an A3 ?_
  |refine aX rfl ?_
  |refine aB rfl ?_
  |refine aa ?_
  |refine oX (by decide) rfl ?_
  |refine aj ?_
 rfl
abbrev tv:Type:=Int×(Int×(List UInt8×(Int×(Bool×Unit))))
abbrev UO:Type:=Int×(Int×(Int×(Int×(xX×Unit))))
abbrev lO:Type:=xX×(Int×(Int×(Int×(Int×(List UO×Unit)))))
abbrev RJ:Ty:=pr [tI,tI,tS,tI,tB]
abbrev YX:Ty:=pr [tW,tI,tW,tI,yP]
abbrev M0:Ty:=pr [yP,tI,tI,tI,tI,.list YX]
def yg(s:PS)(r:tv):Int:=
 if(r.1<1\/7<r.1)\/(r.2.1≠5/\r.2.1≠6)then 15
 else if(r.2.1=5/\3<=r.1/\r.1<=5)\/(r.2.1=6/\(r.1=6\/r.1=7))then 1
 else if r.2.2.2.1<0\/16777216<r.2.2.2.1 then 5
 else if r.2.2.1≠[]/\(vM s r.2.2.1).isSome=false then 6 else 0
noncomputable def D5(s:PS)(l:List tv):Int:=if vP m9 s≠0 then vP m9 s else if l.length>64 then 4 else dH (yg s) l
theorem Pr(n:List UInt8):(!(n==([]:List UInt8)))=true↔n≠[]:=by
 cases n<;>simp
theorem zy(s:PS)(r:tv)(hk:PolOk m9 s):aF tbl iZ [.d yS s,.d RJ r] [] bl (yg s r,()):=by
 refine aw rfl (aC Ae rfl (λO n=>Al O n s r) ?_)
 unfold rp
 refine aj (dw (b:=decide (r.1>7)) (λ_=>aa rfl) (ar (λh=>aa ?_) λh=>?_))
 ·rw[show yg s r=15 from if_pos (.inl (by simp at h;omega))]
 have hr:¬(r.1<1\/7<r.1):=by simp at h;omega
 have rest:¬(r.2.1≠5/\r.2.1≠6)->¬((r.2.1=5/\3<=r.1/\r.1<=5)\/(r.2.1=6/\(r.1=6\/r.1=7)))->Wp (λn=>
  k_ (bif decide (r.2.2.2.1<(0:Int))then some (true)else some (decide (r.2.2.2.1>(16777216:Int)))) λv5=>
  bif v5 then aD bl ((5:Int),())else
  k_ (au (qw tbl n) jt [.d yS s,.d tS r.2.2.1] [] fE) λv6=>
  k_ (bif (!(r.2.2.1==([]:List UInt8)))then some ((!v6.2.1))else some (false)) λv7=>
  bif v7 then aD bl ((6:Int),())else aD bl ((0:Int),())) (λx=>x=some (gX bl (yg s r,()))):=λh1 h2=>by
  refine aj (dw (b:=decide (r.2.2.2.1>16777216)) (λ_=>aa rfl) (ar (λh=>aa ?_) λh=>?_))
  ·rw[show yg s r=5 from by unfold yg;rw[if_neg (by omega),if_neg h2,if_pos (by simp at h;omega)]]
  have h3:¬(r.2.2.2.1<0\/16777216<r.2.2.2.1):=by simp at h;omega
  have e:yg s r=if r.2.2.1≠[]/\(vM s r.2.2.1).isSome=false then 6 else 0:=by unfold yg;rw[if_neg (by omega),if_neg h2,if_neg h3]
  rw[e]
  refine an (yU s r.2.2.1 hk) (aj (cr (b:= !(vM s r.2.2.1).isSome) (λ_=>aa rfl) (ar (λh=>aa ?_) λh=>aa ?_)))
  ·rw[if_pos]
   rw[l_,Pr]at h
   exact⟨h.1,by simpa using h.2⟩
  ·rw[if_neg]
   rintro⟨h4,h5⟩
   rw[(Pr _).2 h4,h5]at h
   cases h
 by_cases h5:r.2.1=5
 ·refine aj (aX (beq_iff_eq.2 h5) (aj (cr (b:=decide (r.1<=5)) (λ_=>aa rfl) (ar (λh=>aa (aa ?_)) λh=>aa (rest ?_ ?_)))))
  ·rw[show yg s r=1 from by unfold yg;rw[if_neg (by omega),if_pos (by simp at h;omega)]]
  ·omega
  ·simp at h;omega
 by_cases h6:r.2.1=6
 ·refine aj (aB (beq_eq_false_iff_ne.2 h5) (aX (beq_iff_eq.2 h6) (aj (dw (b:=(r.1==7)) (λ_=>aa rfl) (ar (λh=>aa (aa ?_)) λh=>aa (rest ?_ ?_))))))
  ·rw[show yg s r=1 from by unfold yg;rw[if_neg (by omega),if_pos (by simp at h;omega)]]
  ·omega
  ·simp at h;omega
 refine aj (aB (beq_eq_false_iff_ne.2 h5) (aB (beq_eq_false_iff_ne.2 h6) (aa (aa ?_))))
 rw[show yg s r=15 from if_pos (.inr ⟨h5,h6⟩)]
theorem DC(s:PS)(hc:aF tbl fO [.d yS s] [] ca (vP m9 s,()))(l:List tv):aF tbl kd [.d yS s,.d (.list RJ) l] [] dm (D5 s l,()):=by
 refine aw rfl (aC Gu rfl (λO n=>GK O n s l) ?_)
 unfold wm
 refine an hc (ar (λh=>aa ?_) λh=>?_)
 ·rw[show D5 s l=vP m9 s from if_pos (by simpa using h)]
 have h0:vP m9 s=0:=by simpa using h
 have hk:=J3 h0
 have e:D5 s l=if l.length>64 then 4 else dH (yg s) l:=by unfold D5;rw[if_neg (not_not_intro h0)]
 rw[e]
 refine ar (λh=>aa ?_) λh=>?_
 ·rw[if_pos (by have:=of_decide_eq_true h;omega)]
 have hl:¬l.length>64:=by have:=of_decide_eq_false h;omega
 rw[if_neg hl]
 refine aj (u6 (l:=l) (f:=yg s) (enc:=λi=>((i:Int),())) (oB:=λe=>(e,())) (oE:=()) (λi hi=>?_) ?_ ?_)
 ·unfold oK
  refine bD hi (aM hi (an (zy s _ hk) (ar (λh=>aa ?_) λh=>aa ?_)))
  ·rw[if_neg (by simpa using h)]
  ·rw[if_pos (by simpa using h),aA hi (by omega)]
 ·unfold oK
  exact be (aa rfl)
 by_cases e:dH (yg s) l=0
 ·rw[if_pos e]
  refine aa ?_
  rw[e]
 ·rw[if_neg e]
  exact aa rfl
theorem EQ(s:PS)(hs:SmP s)(l:List tv):aF tbl kd [.d yS s,.d (.list RJ) l] [] dm (D5 s l,()):=DC s (rh s hs) l
def D6(r:lO):qR:=(r.1,r.2.1,(match r.2.2.2.2.2.1 with|h::_=>h.1|[]=>0),[],[],100,0,r.2.2.2.1,r.2.2.2.2.1,())
theorem te(r:lO):aF tbl ip [.d M0 r] [] fI (D6 r,()):=by
 obtain⟨p,pr,di,me,ta,ho,⟨⟩⟩:=r
 refine aw rfl (aC CP rfl (λO n=>C3 O n (p,pr,di,me,ta,ho,())) ?_)
 unfold tn
 cases ho with
 |nil=>exact aj (aB rfl (aa (aa rfl)))
 |cons h ho=>exact aj (aX (decide_eq_true (by show(((h::ho).length:Nat):Int)>0;simp)) (oX (x:=h) (by decide) rfl (aa (aa rfl))))
theorem U9(p:xX):m8 yP p p=true:=by
 show((p.1==p.1)&&((p.2.1==p.2.1)&&true))=true
 simp
theorem UG(l:List lO)(s:PS)(r:List tv):∃b:Bool,(b=false->l.length<=40/\r.length<=70/\s.2.2.2.1.length<=10/\s.1.length<=10/\s.2.1.length<=10/\s.2.2.1.length<=10)/\aF tbl o8 [.d (.list M0) l,.d yS s,.d (.list RJ) r] [] lW (b,()):=by
 refine⟨((((decide ((l.length:Int)>40)||decide ((r.length:Int)>70))||decide ((s.2.2.2.1.length:Int)>10))||decide ((s.1.length:Int)>10))||decide ((s.2.1.length:Int)>10))||decide ((s.2.2.1.length:Int)>10),λh=>?_,?_⟩
 ·simp only[E_,decide_eq_false_iff_not]at h
  omega
 refine aw rfl (aC HG rfl (λO n=>HZ O n l s r) ?_)
 unfold yZ
 refine aj (dw (b:=decide ((r.length:Int)>70)) (λ_=>aa rfl) ?_)
 refine aj (dw (b:=decide ((s.2.2.2.1.length:Int)>10)) (λ_=>aa rfl) ?_)
 refine aj (dw (b:=decide ((s.1.length:Int)>10)) (λ_=>aa rfl) ?_)
 refine aj (dw (b:=decide ((s.2.1.length:Int)>10)) (λ_=>aa rfl) ?_)
 exact aj (dw (b:=decide ((s.2.2.1.length:Int)>10)) (λ_=>aa rfl) (aa rfl))
theorem Us{α ρ δ:Type}{xs:List α}{p:α->Bool}{enc:Nat->ρ}{g:α->δ}{e:δ}{body:Nat->ρ->Option (ρ⊕δ)}{Q:δ->Prop}
 (h:∀(i:Nat) (hi:i<xs.length),Wp (λn=>body n (enc i)) λr=>r=if p xs[i]then .inr (g xs[i])else .inl (enc (i+1)))
 (he:Wp (λn=>body n (enc xs.length)) λr=>r= .inr e)
 (hQ:Q (match xs.find? p with|some x=>g x|none=>e)):Wp (λn=>aS n (body n) (enc 0)) Q:=by
 refine bc (N:=xs.length) (I:=λi s=>s=enc i/\xs.find? p=(xs.drop i).find? p) ⟨rfl,by rw[u_]⟩ (λi s hi hs=>?_) λs hs=>?_
 ·obtain⟨rfl,hd⟩:=hs
  refine Go.Ev.wp_mono (h i hi) λr hr=>?_
  rw[v_ hi,List.find?_cons]at hd
  subst hr
  cases hp:p xs[i]
  ·rw[hp]at hd
   exact⟨rfl,hd⟩
  ·rw[hp]at hd
   rw[hd]at hQ
   exact hQ
 ·obtain⟨rfl,hd⟩:=hs
  refine Go.Ev.wp_mono he λr hr=>?_
  subst hr
  rw[hd,A_,List.find?_nil]at hQ
  exact hQ
def IH(a b:UO):Bool:=bif (a.1 != b.1)then decide (a.1<b.1)else bif (a.2.1 != b.2.1)then decide (a.2.1<b.2.1)else decide (a.2.2.1<b.2.2.1)
def zq(a b:lO):Bool:=bif (cU a.1 b.1 != 0)then decide (cU a.1 b.1<0)else bif (a.2.2.1 != b.2.2.1)then decide (a.2.2.1<b.2.2.1)else decide (a.2.1<b.2.1)
theorem Ca(a b:Int):(a<b/\dx a b= -1)\/(a=b/\dx a b=0)\/(b<a/\dx a b=1):=by
 unfold dx
 by_cases h1:a<b
 ·rw[if_pos h1];exact .inl ⟨h1,rfl⟩
 ·by_cases h2:b<a
  ·rw[if_neg h1,if_pos h2];exact .inr (.inr ⟨h2,rfl⟩)
  ·rw[if_neg h1,if_neg h2];exact .inr (.inl ⟨by omega,rfl⟩)
theorem NB(x y z:Int):dy [x,y,z]=if x≠0 then x else if y≠0 then y else z:=by
 simp only[dy]
 repeat' split
 all_goals omega
theorem XO(a b a' b' a'' b'':Int):decide (dy [dx a b,dx a' b',dx a'' b'']>=0)= !(bif (a != b)then decide (a<b)else bif (a' != b')then decide (a'<b')else decide (a''<b'')):=by
 rw[NB]
 rcases Ca a b with⟨h,e⟩|⟨h,e⟩|⟨h,e⟩
 ·rw[e,show(a != b)=true by simp;omega];simp[h]
 ·rw[e,show(a != b)=false by simpa using h]
  rcases Ca a' b' with⟨h,e⟩|⟨h,e⟩|⟨h,e⟩
  ·rw[e,show(a' != b')=true by simp;omega];simp[h]
  ·rw[e,show(a' != b')=false by simpa using h]
   rcases Ca a'' b'' with⟨h,e⟩|⟨h,e⟩|⟨h,e⟩<;>rw[e]<;>simp<;>omega
  ·rw[e,show(a' != b')=true by simp;omega]
   have:¬a'<b':=by omega
   simp[this]
 ·rw[e,show(a != b)=true by simp;omega]
  have:¬a<b:=by omega
  simp[this]
theorem Qn(a b:UO):decide (Nk a b>=0)= !IH a b:=XO _ _ _ _ _ _
theorem zF(p q:xX):cU p q=if p.1≠q.1 then(if p.1<q.1 then -1 else 1)else if p.2.1<q.2.1 then -1 else if p.2.1>q.2.1 then 1 else 0:=by
 have h:cU p q=_:=U3 p.1 q.1 p.2.1 q.2.1
 rw[h]
 have key:∀a b c d:Int,(if a<b then(-1:Int)else if b<a then 1 else if c<d then -1 else if d<c then 1 else 0)=if a≠b then(if a<b then -1 else 1)else if c<d then -1 else if c>d then 1 else 0:=by
  intro a b c d
  repeat' split
  all_goals omega
 exact key _ _ _ _
theorem K7(a b:lO):decide (AL a b>=0)= !zq a b:=by
 have e:AL a b=dy [cU a.1 b.1,dx a.2.2.1 b.2.2.1,dx a.2.1 b.2.1]:=rfl
 rw[e,NB]
 unfold zq
 by_cases h:cU a.1 b.1=0
 ·rw[if_neg (not_not_intro h),show(cU a.1 b.1 != 0)=false by simpa using h]
  have key:=XO 0 0 a.2.2.1 b.2.2.1 a.2.1 b.2.1
  rw[NB]at key
  exact key
 ·rw[if_pos h,show(cU a.1 b.1 != 0)=true by simpa using h]
  simp only[cond_true]
  rw[C_]
  simp
def TE(h:UO):Bool:=(((decide (h.2.1< -1)||decide (h.2.1>=16))||decide (h.2.2.2.1<1))||decide (h.2.2.2.1>255))
def JO(l:List UO)(i:Nat):Int:=match l[i]? with
 |some h=>if TE h then 5 else if !gW h.2.2.2.2.1 then 1 else if 0<i/\(match l[i - 1]? with|some g=> !IH g h|none=>false)=true then 16 else 0
 |none=>0
theorem EB{l:List UO}{i:Nat}(hi:i<l.length):JO l i=if TE l[i]then 5 else if !gW l[i].2.2.2.2.1 then 1 else if 0<i/\(match l[i - 1]? with|some g=> !IH g l[i]|none=>false)=true then 16 else 0:=by
 unfold JO
 rw[c_ hi]
theorem jr(a b c:Int):aF tbl dV [.d tI a,.d tI b,.d tI c] [] cX (decide (a<b)||decide (a>c),()):=by
 refine aw rfl (aC HT rfl (λO n=>Ia O n a b c) ?_)
 unfold zi
 exact aj (dw (b:=decide (a>c)) (λ_=>aa rfl) (aa rfl))
theorem As(a b:UO):aF tbl gB [.d YX a,.d YX b] [] nX (Nk a b,()):=tx BI rfl rfl
theorem G1(a b:lO):aF tbl lN [.d M0 a,.d M0 b] [] s6 (AL a b,()):=tx HS rfl rfl
theorem DD(p q:xX):aF tbl mo [.d yP p,.d yP q] [] cH (cU p q,()):=by
 refine aw rfl (aC Ee rfl (λO n=>zaa O n p q) ?_)
 unfold vz
 rw[zF]
 refine ar (λh=>?_) λh=>?_
 ·rw[if_pos (by simpa using h)]
  refine ar (λh=>aa ?_) λh=>aa ?_
  ·rw[if_pos (of_decide_eq_true h)]
  ·rw[if_neg (of_decide_eq_false h)]
 rw[if_neg (by simpa using h)]
 refine ar (λh=>aa ?_) λh=>ar (λh'=>aa ?_) λh'=>aa ?_
 ·rw[if_pos (of_decide_eq_true h)]
 ·rw[if_neg (of_decide_eq_false h),if_pos (of_decide_eq_true h')]
 ·rw[if_neg (of_decide_eq_false h),if_neg (of_decide_eq_false h')]
structure RteQ(r:lO):Prop where
 p:qg r.1.1
 h:∀x∈r.2.2.2.2.2.1,qg x.1/\qg x.2.2.2.2.1.1
def VB(r:lO):Bool:=((((decide (r.2.2.1<0)||decide (r.2.2.1>255))||decide (r.2.2.2.1<0))||decide (r.2.2.2.1>16777216))||decide (r.2.2.2.2.1<0))||decide (r.2.2.2.2.1>4294967295)
def WL(l:List UO):Int:=if l.length>64 then 4 else mL (JO l) l.length
def yf(r:lO):Int:=if !gW r.1 then 1 else if decide (r.2.1<1)||decide (r.2.1>7)then 15 else if VB r then 5 else WL r.2.2.2.2.2.1
theorem LB{l:List UO}{i:Nat}(hi:i<l.length){O:Bool}(h:O=(decide (0<(i:Int))&&(match l[i - 1]? with|some g=> !IH g l[i]|none=>false))):(O=true↔0<i/\(match l[i - 1]? with|some g=> !IH g l[i]|none=>false)=true):=by
 rw[h,l_,decide_eq_true_eq]
 exact⟨λg=>⟨by have:=g.1;omega,g.2⟩,λg=>⟨by have:=g.1;omega,g.2⟩⟩
theorem xT{i:Nat}(h0:0<i)(hn:i<=9223372036854775807):a_ .i64 ((i:Int) - 1)=((i - 1:Nat):Int):=by
 rw[wrap_i64 (by omega) (by omega)]
 omega
theorem B5(r:lO)(hq:RteQ r):aF tbl kL [.d M0 r] [] bY (yf r,()):=by
 refine aw rfl (aC CU rfl (λO n=>C6 O n r) ?_)
 unfold tt
 refine an (fK r.1 hq.p) (ar (λh=>aa ?_) λh1=>?_)
 ·have h:(!gW r.1)=true:=h
  rw[show yf r=1 from if_pos h]
 have h1:¬(!gW r.1)=true:=by have h1:(!gW r.1)=false:=h1;rw[h1];decide
 refine an (jr _ _ _) (ar (λh=>aa ?_) λh2=>?_)
 ·rw[show yf r=15 from by unfold yf;rw[if_neg h1,if_pos h]]
 have h2:¬(decide (r.2.1<1)||decide (r.2.1>7))=true:=by rw[o_];exact h2
 refine an (jr _ _ _) (aj (dw (b:=decide (r.2.2.2.1<0)||decide (r.2.2.2.1>16777216)) (λ_=>an (jr _ _ _) (aa rfl)) ?_))
 refine aj (dw (b:=decide (r.2.2.2.2.1<0)||decide (r.2.2.2.2.1>4294967295)) (λ_=>an (jr _ _ _) (aa rfl)) ?_)
 have eo:(((decide (r.2.2.1<0)||decide (r.2.2.1>255))||(decide (r.2.2.2.1<0)||decide (r.2.2.2.1>16777216)))||(decide (r.2.2.2.2.1<0)||decide (r.2.2.2.2.1>4294967295)))=VB r:=by
  unfold VB
  simp only[H_]
 refine ar (λh=>aa ?_) λh3=>?_
 ·rw[show yf r=5 from by unfold yf;rw[if_neg h1,if_neg h2,if_pos (eo▸h)]]
 have h3:¬VB r=true:=by rw[o_,<-eo];exact h3
 rw[show yf r=WL r.2.2.2.2.2.1 from by unfold yf;rw[if_neg h1,if_neg h2,if_neg h3]]
 unfold WL
 refine ar (λh=>aa ?_) λh4=>?_
 ·rw[if_pos (by have:=of_decide_eq_true h;omega)]
 have h4:¬r.2.2.2.2.2.1.length>64:=by have:=of_decide_eq_false h4;omega
 rw[if_neg h4]
 refine aj (u5 (N:=r.2.2.2.2.2.1.length) (f:=JO r.2.2.2.2.2.1) (enc:=λi=>((i:Int),())) (oB:=λe=>(e,())) (oE:=()) (λi hi=>?_) ?_ ?_)
 ·unfold mK
  have hv:=(hq.h _ (e_ hi)).2
  refine bD hi (aM hi ?_)
  refine an (jr _ _ _) (aj (dw (b:=decide (r.2.2.2.2.2.1[i].2.2.2.1<1)||decide (r.2.2.2.2.2.1[i].2.2.2.1>255)) (λ_=>an (jr _ _ _) (aa rfl)) ?_))
  have eh:((decide (r.2.2.2.2.2.1[i].2.1< -1)||decide (r.2.2.2.2.2.1[i].2.1>15))||(decide (r.2.2.2.2.2.1[i].2.2.2.1<1)||decide (r.2.2.2.2.2.1[i].2.2.2.1>255)))=TE r.2.2.2.2.2.1[i]:=by
   unfold TE
   rw[show decide (r.2.2.2.2.2.1[i].2.1>15)=decide (r.2.2.2.2.2.1[i].2.1>=16)from decide_eq_decide.2 (by constructor<;>intro h<;>omega)]
   simp only[H_]
  refine ar (λh=>aa ?_) λh5=>?_
  ·rw[show JO _ i=5 from by rw[EB hi,if_pos (eh▸h)],if_neg (by decide)]
  have h5:¬TE r.2.2.2.2.2.1[i]=true:=by rw[o_,<-eh];exact h5
  refine an (fK _ hv) (ar (λh=>aa ?_) λh6=>?_)
  ·rw[show JO _ i=1 from by rw[EB hi,if_neg h5,if_pos (show(!gW _)=true from h)],if_neg (by decide)]
  have h6:¬(!gW r.2.2.2.2.2.1[i].2.2.2.2.1)=true:=by rw[o_];exact h6
  refine aj (cr (b:=match r.2.2.2.2.2.1[i - 1]? with|some g=> !IH g r.2.2.2.2.2.1[i]|none=>false) (λh0=>?_) (ar (λh=>aa ?_) λh=>aa ?_))
  ·have h0:0<i:=by have:=of_decide_eq_true h0;omega
   have hi1:i - 1<r.2.2.2.2.2.1.length:=by omega
   rw[xT (by omega) (by omega)]
   refine aM hi1 (an (As _ _) (aa ?_))
   rw[c_ hi1,Qn]
  ·rw[show JO _ i=16 from by rw[EB hi,if_neg h5,if_neg h6,if_pos ((LB hi rfl).1 h)],if_neg (by decide)]
  ·rw[show JO _ i=0 from by rw[EB hi,if_neg h5,if_neg h6,if_neg (λg=>by have g:=(LB hi rfl).2 g;rw[show _=false from h]at g;cases g)],if_pos rfl,aA hi (by omega)]
 ·unfold mK
  exact be (aa rfl)
 by_cases e:mL (JO r.2.2.2.2.2.1) r.2.2.2.2.2.1.length=0
 ·rw[if_pos e]
  refine aa ?_
  rw[e]
 ·rw[if_neg e]
  exact aa rfl
abbrev Ry:Type:=xX×(Int×Unit)
abbrev yK:Ty:=pr [yP,tI]
def wN(r:lO):Ry:=(r.1,r.2.1,())
theorem OY(p q:xX):m8 yP p q=decide (p=q):=by
 obtain⟨a,b,⟨⟩⟩:=p
 obtain⟨c,d,⟨⟩⟩:=q
 show((a==c)&&((b==d)&&true))=_
 rw[C_]
 simp
theorem A7(p q:Ry):m8 yK p q=decide (p=q):=by
 obtain⟨a,b,⟨⟩⟩:=p
 obtain⟨c,d,⟨⟩⟩:=q
 show(m8 yP a c&&((b==d)&&true))=_
 rw[OY,C_]
 simp
theorem S1(x y:Ry)(v:Bool):∀kv:List (Ry×Bool),iH yK tB (lT yK tB kv y v) x=if x=y then some v else iH yK tB kv x
 |[]=>by
  show(bif m8 yK x y then some v else none)=_
  rw[A7]
  by_cases h:x=y<;>simp[h,iH]
 |(k,w)::l=>by
  have ih:=S1 x y v l
  show iH yK tB (bif m8 yK y k then(y,v)::l else(k,w)::lT yK tB l y v) x=if x=y then some v else(bif m8 yK x k then some w else iH yK tB l x)
  rw[A7 y k,A7 x k]
  by_cases h:y=k
  ·subst h
   rw[decide_eq_true rfl]
   show(bif m8 yK x y then some v else iH yK tB l x)=_
   rw[A7]
   by_cases h2:x=y<;>simp[h2]
  ·rw[decide_eq_false h]
   show(bif m8 yK x k then some w else iH yK tB (lT yK tB l y v) x)=_
   rw[A7,ih]
   by_cases h2:x=k
   ·have h3:x≠y:=λe=>h (e.symm.trans h2)
    simp[h2,Ne.symm h]
   ·simp[h2]
theorem S2(y:Ry)(v:Bool):∀kv:List (Ry×Bool),(lT yK tB kv y v).length<=kv.length+1
 |[]=>t_ _
 |(k,w)::l=>by
  have ih:=S2 y v l
  show(bif m8 yK y k then(y,v)::l else(k,w)::lT yK tB l y v).length<=_
  cases m8 yK y k
  ·simp only[cond_false,r_];omega
  ·simp
def Pj(l:List lO)(kv:List (Ry×Bool)):List (Ry×Bool):=l.foldl (λkv r=>lT yK tB kv (wN r) true) kv
theorem Pm:∀(l:List lO) (kv:List (Ry×Bool)),(Pj l kv).length<=kv.length+l.length
 |[],kv=>t_ _
 |r::l,kv=>by
  have h1:=Pm l (lT yK tB kv (wN r) true)
  have h2:=S2 (wN r) true kv
  have e:Pj (r::l) kv=Pj l (lT yK tB kv (wN r) true):=rfl
  rw[e,r_]
  omega
theorem Pk(x:Ry):∀(l:List lO) (kv:List (Ry×Bool)),(iH yK tB (Pj l kv) x).getD false=((iH yK tB kv x).getD false||l.any λr=>decide (wN r=x))
 |[],kv=>by simp[Pj]
 |r::l,kv=>by
  have h1:=Pk x l (lT yK tB kv (wN r) true)
  have e:Pj (r::l) kv=Pj l (lT yK tB kv (wN r) true):=rfl
  rw[e,h1,S1,List.any_cons]
  by_cases h:x=wN r
  ·simp[h]
  ·have h':¬wN r=x:=λe=>h e.symm
   simp[h,h']
def SQ(l:List lO)(x:Ry):Bool:=l.any λr=>decide (wN r=x)
def J6(l:List lO)(i:Nat):Int:=match l[i]? with
 |some r=>if yf r≠0 then yf r else if SQ (l.take i) (wN r)then 7 else if 0<i/\(match l[i - 1]? with|some g=> !zq g r|none=>false)=true then 16 else 0
 |none=>0
theorem Bt{l:List lO}{i:Nat}(hi:i<l.length):J6 l i=if yf l[i]≠0 then yf l[i]else if SQ (l.take i) (wN l[i])then 7 else if 0<i/\(match l[i - 1]? with|some g=> !zq g l[i]|none=>false)=true then 16 else 0:=by
 unfold J6
 rw[c_ hi]
def N1(l:List lO):Int:=if l.length>2000 then 4 else mL (J6 l) l.length
theorem Mj{l:List lO}{i:Nat}{O:Bool}{r:lO}(h:O=(decide (0<(i:Int))&&(match l[i - 1]? with|some g=> !zq g r|none=>false))):(O=true↔0<i/\(match l[i - 1]? with|some g=> !zq g r|none=>false)=true):=by
 rw[h,l_,decide_eq_true_eq]
 exact⟨λg=>⟨by have:=g.1;omega,g.2⟩,λg=>⟨by have:=g.1;omega,g.2⟩⟩
theorem S0{l:List lO}{i:Nat}(hi:i<l.length):lT yK tB (Pj (l.take i) []) (wN l[i]) true=Pj (l.take (i+1)) []:=by
 rw[b_ hi]
 unfold Pj
 rw[y_]
 rfl
theorem KE(l:List lO)(hq:∀r∈l,RteQ r):aF tbl sx [.d (.list M0) l] [] ko (N1 l,()):=by
 refine aw rfl (aC MJ rfl (λO n=>MV O n l) ?_)
 unfold Dd N1
 refine ar (λh=>aa ?_) λh4=>?_
 ·rw[if_pos (by have:=of_decide_eq_true h;omega)]
 have h4:¬l.length>2000:=by have:=of_decide_eq_false h4;omega
 rw[if_neg h4]
 refine aj (u5 (N:=l.length) (f:=J6 l) (enc:=λi=>((i:Int),Pj (l.take i) [],())) (oB:=λe=>(e,())) (oE:=()) (λi hi=>?_) ?_ ?_)
 ·unfold sU
  refine bD hi (aM hi (an (B5 _ (hq _ (e_ hi))) (ar (λh=>aa ?_) λh1=>?_)))
  ·have h:yf l[i]≠0:=by simpa using h
   rw[show J6 _ i=yf l[i]from by rw[Bt hi,if_pos h],if_neg h]
  have h1:¬yf l[i]≠0:=by simpa using h1
  have hk:(iH yK tB (Pj (l.take i) []) (wN l[i])).getD false=SQ (l.take i) (wN l[i]):=by
   rw[Pk];rfl
  refine ar (λh=>aa ?_) λh2=>?_
  ·rw[show J6 _ i=7 from by rw[Bt hi,if_neg h1,if_pos (hk▸h)],if_neg (by decide)]
  have h2:¬SQ (l.take i) (wN l[i])=true:=by rw[o_,<-hk];exact h2
  have hlen:=Pm (l.take i) []
  rw[j_]at hlen
  have hlen:(Pj (l.take i) []).length<=2000:=by simp at hlen;omega
  refine aG (by unfold maxLen;exact decide_eq_true (by show(Pj (l.take i) []).length<_;omega)) ?_
  refine aj (cr (b:=match l[i - 1]? with|some g=> !zq g l[i]|none=>false) (λh0=>?_) (ar (λh=>aa ?_) λh=>aa ?_))
  ·have h0:0<i:=by have:=of_decide_eq_true h0;omega
   have hi1:i - 1<l.length:=by omega
   rw[xT (by omega) (by omega)]
   refine aM hi1 (an (G1 _ _) (aa ?_))
   rw[c_ hi1,K7]
  ·rw[show J6 _ i=16 from by rw[Bt hi,if_neg h1,if_neg h2,if_pos ((Mj rfl).1 h)],if_neg (by decide)]
  ·rw[show J6 _ i=0 from by rw[Bt hi,if_neg h1,if_neg h2,if_neg (λg=>by have g:=(Mj rfl).2 g;rw[show _=false from h]at g;cases g)],if_pos rfl,aA hi (by omega),<-S0 hi]
   rfl
 ·unfold sU
  exact be (aa rfl)
 by_cases e:mL (J6 l) l.length=0
 ·rw[if_pos e]
  refine aa ?_
  rw[e]
 ·rw[if_neg e]
  exact aa rfl
def adj(l:List lO)(k:Nat):Bool:=match l[k - 1]?,l[k]? with
 |some a,some b=>m8 yP a.1 b.1
 |_,_=>false
theorem Sa{l:List lO}{k:Nat}(hk:k<l.length):adj l k=m8 yP (l[k - 1]'(by omega)).1 l[k].1:=by
 unfold adj
 rw[c_ hk,c_ (show k - 1<l.length by omega)]
def Cb(l:List lO)(n:Nat):Bool:=(List.range n).any λk=>decide (0<k)&&adj l k
theorem Qs(l:List lO)(n:Nat):Cb l (n+1)=(Cb l n||(decide (0<n)&&adj l n)):=by
 unfold Cb
 rw[List.range_succ,N_]
 simp
noncomputable def sZ(l:List lO):List lO:=if N1 l≠0 then []else if Cb l l.length then []else l
theorem LL{l:List lO}{r:lO}(h:r∈sZ l):r∈l:=by
 unfold sZ at h
 split at h
 ·cases h
 split at h
 ·cases h
 ·exact h
theorem LK(l:List lO):(sZ l).length<=l.length:=by
 unfold sZ
 split
 ·exact h_ _
 split
 ·exact h_ _
 ·exact t_ _
theorem GR(l:List lO)(hq:∀r∈l,RteQ r):aF tbl pc [.d (.list M0) l] [] gT (sZ l,()):=by
 refine aw rfl (aC HK rfl (λO n=>H3 O n l) ?_)
 unfold y8
 refine an (KE l hq) (ar (λh=>aa ?_) λh=>?_)
 ·rw[show sZ l=[]from if_pos (by simpa using h)]
 have h0:N1 l=0:=by simpa using h
 have hl:l.length<=2000:=by
  unfold N1 at h0
  split at h0
  ·cases h0
  ·omega
 rw[show sZ l=if Cb l l.length then []else l from if_neg (not_not_intro h0)]
 refine aj (Wp.imp (Q:=λx=>x=if Cb l l.length then .inl ()else .inr ()) (bc (N:=l.length - 1) (I:=λj x=>x=(((j+1:Nat):Int),())/\Cb l (j+1)=false) ⟨rfl,rfl⟩ (λj x hj hx=>?_) λx hx=>?_) λx hx=>?_)
 ·obtain⟨rfl,hd⟩:=hx
  unfold qq
  have hi:j+1<l.length:=by omega
  refine bD hi ?_
  show Wp (λn=>k_ (a8 l (a_ .i64 (((j+1:Nat):Int) - 1))) _) _
  rw[xT (i:=j+1) (by omega) (by omega)]
  refine aM (show j+1 - 1<l.length by omega) (aM hi ?_)
  have ea:=Sa hi
  have hs:=Qs l (j+1)
  rw[hd,R_,decide_eq_true (Nat.succ_pos j),S_]at hs
  refine ar (λh=>aa ?_) λh=>aa ?_
  ·have h:m8 yP (l[j+1 - 1]).1 l[j+1].1=true:=by rw[P_]at h;exact h
   have hdup:Cb l l.length=true:=by
    unfold Cb
    exact z_.2 ⟨j+1,Q_.2 hi,by rw[ea,h];simp⟩
   show _=_
   rw[hdup]
   rfl
  ·have h:m8 yP (l[j+1 - 1]).1 l[j+1].1=false:=by rw[P_]at h;exact h
   refine⟨?_,?_⟩
   ·show(a_ .i64 (((j+1:Nat):Int)+1),())=_
    rw[aA hi (by omega)]
   ·rw[hs,ea];exact h
 ·obtain⟨rfl,hd⟩:=hx
  unfold qq
  refine aB (decide_eq_false (by show ¬(((l.length - 1+1:Nat):Int)<(l.length:Int));omega)) (aa ?_)
  show _=_
  by_cases h:l.length=0
  ·rw[show Cb l l.length=false from by rw[h];rfl];rfl
  ·rw[show l.length - 1+1=l.length by omega]at hd
   rw[hd];rfl
 ·subst hx
  cases Cb l l.length
  ·exact aa rfl
  ·exact aa rfl
abbrev Rz:Type:=tv×(qR×(qR×Unit))
abbrev Yr:Ty:=pr [RJ,Uy,Uy]
noncomputable def qC(s:PS)(x:tv)(r:lO):qR×Bool×Int:=if x.2.2.1=[]then(D6 r,true,0)else((N5 s x.2.2.1 (D6 r)).2.1,(N5 s x.2.2.1 (D6 r)).1,Gc s x.2.2.1 (D6 r))
def Ve(to:Int)(r:lO)(x:tv):Bool:= !((x.2.1 != to)||(x.1 != r.2.1))
noncomputable def LA(s:PS)(to:Int)(r:lO)(x:tv):Bool:=Ve to r x&&(((qC s x r).2.2 != 0)||(qC s x r).2.1)
noncomputable def WJ(s:PS)(to:Int)(rules:List tv)(r:lO):Option tv:=rules.find? (LA s to r)
noncomputable def Lr(s:PS)(to:Int)(rules:List tv)(r:lO):Int:=match WJ s to rules r with|some x=>(qC s x r).2.2|none=>0
noncomputable def D3(s:PS)(to:Int)(rules:List tv)(r:lO):List Rz:=match WJ s to rules r with|some x=>if(qC s x r).2.2≠0 then []else [(x,D6 r,(qC s x r).1,())]|none=>[]
theorem L1(s:PS)(to:Int)(rules:List tv)(r:lO):(D3 s to rules r).length<=1:=by
 unfold D3
 split
 ·split<;>simp
 ·simp
theorem Z8{s:PS}(hs:SmP s){r:lO}(hr:RteQ r):SmQ s (D6 r):=by
 refine⟨hs,hr.p,?_,h_ _,h_ _⟩
 obtain⟨p,pr,di,me,ta,ho,⟨⟩⟩:=r
 cases ho with
 |nil=>exact⟨Int.le_refl 0,show(0:Int)<=4294967295 by decide⟩
 |cons h ho=>exact(hr.h h (by simp)).1
theorem uf(s:PS)(hs:SmP s)(x:tv)(r:lO)(hr:RteQ r):aF tbl cZ [.d RJ x,.d M0 r,.dp yS s] [] cp ((x,D6 r,(qC s x r).1,()),(qC s x r).2.1,(qC s x r).2.2,()):=by
 refine aw rfl (aC uU rfl (λO n=>vf O n x r s) ?_)
 unfold np
 refine an (te r) (an (te r) (ar (λh=>aa ?_) λh=>?_))
 ·rw[show qC s x r=(D6 r,true,0)from if_pos (by simpa using h)]
 ·have e:qC s x r=_:=if_neg (show ¬x.2.2.1=[] by simpa using h)
  rw[e]
  exact an (Kx s _ _ (Z8 hs hr)) (aa rfl)
noncomputable def FR(s:PS)(to:Int)(rules:List tv)(l:List lO):List Rz:=l.flatMap (D3 s to rules)
theorem QM{s:PS}{to:Int}{rules:List tv}{l:List lO}{i:Nat}(hi:i<l.length):FR s to rules (l.take (i+1))=FR s to rules (l.take i)++D3 s to rules l[i]:=by
 unfold FR
 rw[b_ hi,List.flatMap_append]
 simp
theorem zjh(s:PS)(to:Int)(rules:List tv):∀l:List lO,(FR s to rules l).length<=l.length
 |[]=>t_ _
 |r::l=>by
  have h1:=zjh s to rules l
  have h2:=L1 s to rules r
  have e:FR s to rules (r::l)=D3 s to rules r++FR s to rules l:=rfl
  rw[e,p_,r_]
  omega
noncomputable def Xk(s:PS)(to:Int)(rules:List tv)(l:List lO):Int:=dH (Lr s to rules) (sZ l)
noncomputable def IK(s:PS)(to:Int)(rules:List tv)(l:List lO):Int:=if D5 s rules≠0 then D5 s rules else Xk s to rules l
noncomputable def oP(s:PS)(to:Int)(rules:List tv)(l:List lO):List Rz:=if IK s to rules l≠0 then []else FR s to rules (sZ l)
theorem YK(s:PS)(hs:SmP s)(to:Int)(rules:List tv)(hr:rules.length<=64)(r:lO)(hq:RteQ r)(out:List Rz)(ho:out.length<=2000):
 Wp (λn=>aS n (iV (qw tbl n) n s rules to) ((0:Int),out,r.1.1,r.1.2.1,r.2.1,r.2.2.1,r.2.2.2.1,r.2.2.2.2.1,r.2.2.2.2.2.1,())) λx=>x=if Lr s to rules r≠0 then .inl (Lr s to rules r,())else .inr (out++D3 s to rules r,()):=by
 refine Us (δ:=(Int×Unit)⊕(List Rz×Unit)) (xs:=rules) (p:=LA s to r) (enc:=λi=>((i:Int),out,r.1.1,r.1.2.1,r.2.1,r.2.2.1,r.2.2.2.1,r.2.2.2.2.1,r.2.2.2.2.2.1,())) (g:=λx=>if(qC s x r).2.2≠0 then .inl ((qC s x r).2.2,())else .inr (out++[(x,D6 r,(qC s x r).1,())],())) (e:=.inr (out,())) (λi hi=>?_) ?_ ?_
 ·unfold iV
  refine bD hi (aj (aM hi (aj (dw (b:=rules[i].1 != r.2.1) (λ_=>aa rfl) ?_))))
  refine ar (λh=>aa (aa ?_)) λh=>?_
  ·have hf:LA s to r rules[i]=false:=by
    unfold LA Ve
    rw[show(rules[i].2.1 != to||rules[i].1 != r.2.1)=true from h]
    rfl
   rw[hf,if_neg (by decide)]
   show W_ (a_ .i64 ((i:Int)+1),_)=_
   rw[aA hi (by omega)]
  have hf:LA s to r rules[i]=(((qC s rules[i] r).2.2 != 0)||(qC s rules[i] r).2.1):=by
   unfold LA Ve
   rw[show(rules[i].2.1 != to||rules[i].1 != r.2.1)=false from h]
   rfl
  rw[hf]
  have hc:=uf s hs rules[i] r hq
  refine an hc ?_
  refine ar (λh1=>aa (aa ?_)) λh1=>?_
  ·rw[show((qC s rules[i] r).2.2 != 0)=true from h1,Bool.true_or,if_pos rfl,if_pos (by simpa using h1)]
  have h1:¬(qC s rules[i] r).2.2≠0:=by simpa using h1
  have h1':((qC s rules[i] r).2.2 != 0)=false:=by simpa using h1
  rw[h1',R_]
  refine ar (λh2=>?_) λh2=>aa (aa ?_)
  ·refine aG (decide_eq_true ?_) (aa (aa ?_))
   ·show(out.length+1)*272<=140737488355328
    omega
   rw[show(qC s rules[i] r).2.1=true from h2,if_pos rfl,if_neg h1]
  ·rw[show(qC s rules[i] r).2.1=false from h2,if_neg (by decide)]
   show W_ (a_ .i64 ((i:Int)+1),_)=_
   rw[aA hi (by omega)]
 ·unfold iV
  exact be (aa rfl)
 ·unfold Lr D3 WJ
  cases hx:rules.find? (LA s to r)with
  |none=>
   show Y_ (out,())=if(0:Int)≠0 then _ else Y_ (out++[],())
   rw[if_neg (by decide),q_]
  |some x=>
   by_cases h:(qC s x r).2.2≠0
   ·simp only[if_pos h]
   ·simp only[if_neg h]
theorem tf(l:List lO)(hq:∀r∈l,RteQ r)(hl:l.length<=1000)(s:PS)(hs:SmP s)(rules:List tv)(to:Int):aF tbl iq [.d (.list M0) l,.d yS s,.d (.list RJ) rules,.d tI to] [] cT (oP s to rules l,IK s to rules l,()):=by
 refine aw rfl (aC CS rfl (λO n=>C5 O n l s rules to) ?_)
 unfold tq
 refine an (EQ s hs rules) (ar (λh=>aa ?_) λh=>?_)
 ·have h:D5 s rules≠0:=by simpa using h
  have e:IK s to rules l=D5 s rules:=if_pos h
  rw[show oP s to rules l=[]from by unfold oP;rw[e,if_pos h],e]
 have h0:¬D5 s rules≠0:=by simpa using h
 have hr:rules.length<=64:=by
  have h0:D5 s rules=0:=d_ h0
  unfold D5 at h0
  split at h0
  ·rename_i g;exact absurd h0 g
  split at h0
  ·cases h0
  ·omega
 have e:IK s to rules l=Xk s to rules l:=if_neg h0
 refine an (GR l hq) ?_
 have hll:=LK l
 refine aj (u6 (l:=sZ l) (f:=Lr s to rules) (enc:=λi=>((i:Int),FR s to rules ((sZ l).take i),())) (oB:=λe=>(e,())) (oE:=(FR s to rules (sZ l),())) (λi hi=>?_) ?_ ?_)
 ·unfold mJ
  have hm:=zjh s to rules ((sZ l).take i)
  rw[j_]at hm
  refine bD hi (aM hi (aj (Wp.imp (YK s hs to rules hr (sZ l)[i] (hq _ (LL (e_ hi))) _ (by show(FR s to rules ((sZ l).take i)).length<=2000;omega)) λx hx=>?_)))
  subst hx
  by_cases h:Lr s to rules (sZ l)[i]=0
  ·rw[if_neg (not_not_intro h),if_pos h]
   refine aa ?_
   show W_ (a_ .i64 ((i:Int)+1),_)=_
   rw[aA hi (by omega),QM hi]
  ·rw[if_pos h,if_neg h]
   exact aa rfl
 ·unfold mJ
  refine be (aa ?_)
  rw[f_]
 have eA:Xk s to rules l=dH (Lr s to rules) (sZ l):=rfl
 unfold oP
 rw[e,eA]
 by_cases h:dH (Lr s to rules) (sZ l)=0
 ·rw[if_pos h,if_neg (not_not_intro h)]
  refine aa ?_
  rw[h]
 ·rw[if_neg h,if_pos h]
  exact aa rfl
abbrev Z0:Type:=xX×(Int×(Bool×(Int×(Int×Unit))))
def SB(x:tv)(y:qR):Int:=if x.2.2.2.1≠0 then x.2.2.2.1 else min y.2.2.2.2.2.2.2.1 16777216
def NA(m:Rz):Z0:=(m.2.1.1,SB m.1 m.2.2.1,m.1.2.2.2.2.1,(if m.2.2.1.2.2.1=m.2.1.2.2.1 then 0 else m.2.2.1.2.2.1),m.2.2.1.2.2.2.2.2.2.2.2)
theorem om(m:Rz):aF tbl cz [.d Yr m] [] bM (SB m.1 m.2.2.1,()):=by
 refine aw rfl (aC vU rfl (λO n=>vZ O n m) ?_)
 unfold ou SB
 refine ar (λh=>aa ?_) λh=>aa ?_
 ·rw[if_pos (by simpa using h)]
 ·rw[if_neg (by simpa using h)]
theorem ng(m:Rz):aF tbl cY [.d Yr m] [] bV ((if m.2.2.1.2.2.1=m.2.1.2.2.1 then 0 else m.2.2.1.2.2.1),()):=by
 refine aw rfl (aC uT rfl (λO n=>vd O n m) ?_)
 unfold nn
 refine ar (λh=>aa ?_) λh=>aa ?_
 ·rw[if_pos (by simpa using h)]
 ·rw[if_neg (by simpa using h)]
theorem map_take{α β:Type}{f:α->β}{l:List α}{i:Nat}(hi:i<l.length):(l.take (i+1)).map f=(l.take i).map f++[f l[i]]:=by
 rw[b_ hi,O_]
 rfl
theorem Bi(s:PS)(to:Int)(rules:List tv)(l:List lO):(oP s to rules l).length<=l.length:=by
 unfold oP
 split
 ·exact h_ _
 ·exact B_ (zjh s to rules _) (LK l)
theorem zx(l:List lO)(hq:∀r∈l,RteQ r)(hl:l.length<=1000)(s:PS)(hs:SmP s)(rules:List tv):aF tbl dM [.d (.list M0) l,.d yS s,.d (.list RJ) rules] [] cJ ((oP s 5 rules l).map NA,IK s 5 rules l,()):=by
 refine aw rfl (aC Ad rfl (λO n=>Ak O n l s rules) ?_)
 unfold rm
 refine an (tf l hq hl s hs rules 5) ?_
 have hm:=Bi s 5 rules l
 refine aj (Wp.imp (Q:=λx=>x=((oP s 5 rules l).map NA,())) (bc (N:=(oP s 5 rules l).length) (I:=λj x=>x=((j:Int),((oP s 5 rules l).take j).map NA,())) rfl (λj x hj hx=>?_) λx hx=>?_) λx hx=>?_)
 ·subst hx
  unfold j9
  refine bD hj (aM hj (an (om _) (an (ng _) (aG (decide_eq_true ?_) (aa ?_)))))
  ·show((((oP s 5 rules l).take j).map NA).length+1)*40<=140737488355328
   rw[m_,j_]
   omega
  ·show(a_ .i64 ((j:Int)+1),_)=_
   rw[aA hj (by omega),map_take hj]
   rfl
 ·subst hx
  unfold j9
  refine be (aa ?_)
  rw[f_]
 ·subst hx
  exact aa rfl
abbrev Y1:Type:=Int×(List Int×Unit)
abbrev Z2:Type:=Int×(List Int×Unit)
abbrev Ys:Type:=Int×(List Y1×(Int×(Bool×(Int×(Bool×(Int×(Bool×(Bool×(Int×(Int×(List Int×(Bool×(Int×(List Int×(List Z2×Unit)))))))))))))))
abbrev Z1:Type:=xX×(Ys×(Int×(Int×(Int×(Bool×Unit)))))
def Te(x:tv)(y:qR):Int:=if y.2.2.2.2.2.2.1=0 then SB x y else y.2.2.2.2.2.2.1
def Sj(x:tv)(y:qR)(fw:Int):Ys:=(2,(if 0<y.2.2.2.1.length then [(2,y.2.2.2.1,())]else []),fw,true,Te x y,(y.2.2.2.2.2.1 != 100),(if y.2.2.2.2.2.1≠100 then y.2.2.2.2.2.1 else 0),false,false,0,0,y.2.2.2.2.1,false,0,[],[],())
def JK(m:Rz):Int:=if m.2.2.1.2.2.1=m.2.1.2.2.1 then 0 else m.2.2.1.2.2.1
def OB(router:Int)(m:Rz):Z1:=(m.2.1.1,Sj m.1 m.2.2.1 (JK m),-1,0,router,false,())
theorem RR(l:List Int)(h:l.length*4<=140737488355328):aF tbl bW [.d (.list tW) l] [] eI (l,()):=
 tx qB (by show(bif decide (l.length*4<=140737488355328)then _ else _)=_;rw[decide_eq_true h];rfl) rfl
theorem RP(l:List Int)(h:l.length*8<=140737488355328):aF tbl da [.d (.list tI) l] [] jf (l,()):=
 tx uZ (by show(bif decide (l.length*8<=140737488355328)then _ else _)=_;rw[decide_eq_true h];rfl) rfl
theorem ER(m:Rz)(hm:SmR 200000 m.2.2.1):aF tbl nC [.d Yr m] [] dn (Sj m.1 m.2.2.1 (JK m),()):=by
 refine aw rfl (aC Gv rfl (λO n=>GL O n m) ?_)
 unfold wn
 have h1:=hm.pt
 have h2:=hm.cm
 refine an (ng m) (an (RR _ (by omega)) ?_)
 have last:∀(path:List Y1),path=(if 0<m.2.2.1.2.2.2.1.length then [(2,m.2.2.1.2.2.2.1,())]else [])->Wp (λn=>
  k_ (bif (m.2.2.1.2.2.2.2.2.2.1==(0:Int))then
   k_ (au (qw tbl n) cz [.d Yr m] [] bM) λv4=>some (((0:Int),(0:Int),false,(0:Int),false,(0:Int),false,false,(0:Int),(0:Int),false,(0:Int),(2:Int),path,JK m,true,v4.1,false,(0:Int),false,false,(0:Int),(0:Int),m.2.2.1.2.2.2.2.1,false,(0:Int),()))
  else some (((0:Int),(0:Int),false,(0:Int),false,(0:Int),false,false,(0:Int),(0:Int),false,(0:Int),(2:Int),path,JK m,true,m.2.2.1.2.2.2.2.2.2.1,false,(0:Int),false,false,(0:Int),(0:Int),m.2.2.1.2.2.2.2.1,false,(0:Int),()))) fun(v5:(Int×Int×Bool×Int×Bool×Int×Bool×Bool×Int×Int×Bool×Int×Int×(List (Int×((List Int)×Unit)))×Int×Bool×Int×Bool×Int×Bool×Bool×Int×Int×(List Int)×Bool×Int×Unit))=>
  k_ (bif (m.2.2.1.2.2.2.2.2.1 != (100:Int))then some ((v5.1,v5.2.1,v5.2.2.1,v5.2.2.2.1,v5.2.2.2.2.1,v5.2.2.2.2.2.1,v5.2.2.2.2.2.2.1,v5.2.2.2.2.2.2.2.1,v5.2.2.2.2.2.2.2.2.1,v5.2.2.2.2.2.2.2.2.2.1,v5.2.2.2.2.2.2.2.2.2.2.1,v5.2.2.2.2.2.2.2.2.2.2.2.1,v5.2.2.2.2.2.2.2.2.2.2.2.2.1,v5.2.2.2.2.2.2.2.2.2.2.2.2.2.1,v5.2.2.2.2.2.2.2.2.2.2.2.2.2.2.1,v5.2.2.2.2.2.2.2.2.2.2.2.2.2.2.2.1,v5.2.2.2.2.2.2.2.2.2.2.2.2.2.2.2.2.1,true,m.2.2.1.2.2.2.2.2.1,v5.2.2.2.2.2.2.2.2.2.2.2.2.2.2.2.2.2.2.2.1,v5.2.2.2.2.2.2.2.2.2.2.2.2.2.2.2.2.2.2.2.2.1,v5.2.2.2.2.2.2.2.2.2.2.2.2.2.2.2.2.2.2.2.2.2.1,v5.2.2.2.2.2.2.2.2.2.2.2.2.2.2.2.2.2.2.2.2.2.2.1,v5.2.2.2.2.2.2.2.2.2.2.2.2.2.2.2.2.2.2.2.2.2.2.2.1,v5.2.2.2.2.2.2.2.2.2.2.2.2.2.2.2.2.2.2.2.2.2.2.2.2.1,v5.2.2.2.2.2.2.2.2.2.2.2.2.2.2.2.2.2.2.2.2.2.2.2.2.2.1,()))
  else some (v5.1,v5.2.1,v5.2.2.1,v5.2.2.2.1,v5.2.2.2.2.1,v5.2.2.2.2.2.1,v5.2.2.2.2.2.2.1,v5.2.2.2.2.2.2.2.1,v5.2.2.2.2.2.2.2.2.1,v5.2.2.2.2.2.2.2.2.2.1,v5.2.2.2.2.2.2.2.2.2.2.1,v5.2.2.2.2.2.2.2.2.2.2.2.1,v5.2.2.2.2.2.2.2.2.2.2.2.2.1,v5.2.2.2.2.2.2.2.2.2.2.2.2.2.1,v5.2.2.2.2.2.2.2.2.2.2.2.2.2.2.1,v5.2.2.2.2.2.2.2.2.2.2.2.2.2.2.2.1,v5.2.2.2.2.2.2.2.2.2.2.2.2.2.2.2.2.1,v5.2.2.2.2.2.2.2.2.2.2.2.2.2.2.2.2.2.1,v5.2.2.2.2.2.2.2.2.2.2.2.2.2.2.2.2.2.2.1,v5.2.2.2.2.2.2.2.2.2.2.2.2.2.2.2.2.2.2.2.1,v5.2.2.2.2.2.2.2.2.2.2.2.2.2.2.2.2.2.2.2.2.1,v5.2.2.2.2.2.2.2.2.2.2.2.2.2.2.2.2.2.2.2.2.2.1,v5.2.2.2.2.2.2.2.2.2.2.2.2.2.2.2.2.2.2.2.2.2.2.1,v5.2.2.2.2.2.2.2.2.2.2.2.2.2.2.2.2.2.2.2.2.2.2.2.1,v5.2.2.2.2.2.2.2.2.2.2.2.2.2.2.2.2.2.2.2.2.2.2.2.2.1,v5.2.2.2.2.2.2.2.2.2.2.2.2.2.2.2.2.2.2.2.2.2.2.2.2.2.1,())) fun(v6:(Int×Int×Bool×Int×Bool×Int×Bool×Bool×Int×Int×Bool×Int×Int×(List (Int×((List Int)×Unit)))×Int×Bool×Int×Bool×Int×Bool×Bool×Int×Int×(List Int)×Bool×Int×Unit))=>
  aD dn ((v6.2.2.2.2.2.2.2.2.2.2.2.2.1,v6.2.2.2.2.2.2.2.2.2.2.2.2.2.1,v6.2.2.2.2.2.2.2.2.2.2.2.2.2.2.1,v6.2.2.2.2.2.2.2.2.2.2.2.2.2.2.2.1,v6.2.2.2.2.2.2.2.2.2.2.2.2.2.2.2.2.1,v6.2.2.2.2.2.2.2.2.2.2.2.2.2.2.2.2.2.1,v6.2.2.2.2.2.2.2.2.2.2.2.2.2.2.2.2.2.2.1,v6.2.2.2.2.2.2.2.2.2.2.2.2.2.2.2.2.2.2.2.1,v6.2.2.2.2.2.2.2.2.2.2.2.2.2.2.2.2.2.2.2.2.1,v6.2.2.2.2.2.2.2.2.2.2.2.2.2.2.2.2.2.2.2.2.2.1,v6.2.2.2.2.2.2.2.2.2.2.2.2.2.2.2.2.2.2.2.2.2.2.1,v6.2.2.2.2.2.2.2.2.2.2.2.2.2.2.2.2.2.2.2.2.2.2.2.1,v6.2.2.2.2.2.2.2.2.2.2.2.2.2.2.2.2.2.2.2.2.2.2.2.2.1,v6.2.2.2.2.2.2.2.2.2.2.2.2.2.2.2.2.2.2.2.2.2.2.2.2.2.1,([]:List Int),([]:List (Int×((List Int)×Unit))),()),())) (λx=>x=some (gX dn (Sj m.1 m.2.2.1 (JK m),()))):=λpath hpath=>by
  have pk:∀med,med=Te m.1 m.2.2.1->∀b pf,b=(m.2.2.1.2.2.2.2.2.1 != 100)->pf=(if m.2.2.1.2.2.2.2.2.1≠100 then m.2.2.1.2.2.2.2.2.1 else 0)->((2,path,JK m,true,med,b,pf,false,false,0,0,m.2.2.1.2.2.2.2.1,false,0,[],[],()):Ys)=Sj m.1 m.2.2.1 (JK m):=λmed h1 b pf h2 h3=>by
   rw[h1,h2,h3,hpath];rfl
  have fin:∀med,med=Te m.1 m.2.2.1->Wp (fun(n:Nat)=>k_ (bif (m.2.2.1.2.2.2.2.2.1 != (100:Int))then some (true,m.2.2.1.2.2.2.2.2.1)else some (false,(0:Int))) fun(v:Bool×Int)=>aD dn ((2,path,JK m,true,med,v.1,v.2,false,false,(0:Int),(0:Int),m.2.2.1.2.2.2.2.1,false,(0:Int),([]:List Int),([]:List (Int×((List Int)×Unit))),()),())) (λx=>x=some (gX dn (Sj m.1 m.2.2.1 (JK m),()))):=λmed h1=>by
   refine aj (ar (λh=>aa (aa ?_)) λh=>aa (aa ?_))
   ·rw[pk med h1 _ _ h.symm (by rw[if_pos (by simpa using h)])]
   ·rw[pk med h1 _ _ h.symm (by rw[if_neg (by simpa using h)])]
  refine aj (ar (λh=>an (om m) (aa ?_)) λh=>aa ?_)
  ·have:=fin (SB m.1 m.2.2.1) (by unfold Te;rw[if_pos (by simpa using h)])
   cases hb:(m.2.2.1.2.2.2.2.2.1 != (100:Int))<;>rw[hb]at this<;>exact this
  ·have:=fin m.2.2.1.2.2.2.2.2.2.1 (by unfold Te;rw[if_neg (by simpa using h)])
   cases hb:(m.2.2.1.2.2.2.2.2.1 != (100:Int))<;>rw[hb]at this<;>exact this
 refine aj (ar (λh=>an (RP _ (by omega)) (aa ?_)) λh=>aa ?_)
 ·exact last [(2,m.2.2.1.2.2.2.1,())] (by rw[if_pos (by have:=of_decide_eq_true h;omega)])
 ·exact last [] (by rw[if_neg (by have:=of_decide_eq_false h;omega)])
theorem VQ{s:PS}{n:List UInt8}{r:qR}(h:SmR 100000 r):SmR 200000 (N5 s n r).2.1:=by
 unfold N5
 split
 ·exact⟨h_ _,h_ _⟩
 rename_i hb
 have hb:Gc s n r=0:=d_ hb
 obtain⟨p,h1,h2,h3,_⟩:=Mk hb
 rw[h2]
 unfold Ru
 split
 ·exact⟨h_ _,h_ _⟩
 ·have hp:=h3.r4 p (FE h1)
  have htl:=hp.tl
  have:=Co (hold:=Eh s r) (l:=p.2.1) (i:=0) (d:=p.2.2.1) (λt ht=>(hp.tr t ht).al)
  have e:nI (Eh s r) p.2.1 0 p.2.2.1=It s p r:=rfl
  rw[e]at this
  have g:=OJ (l:=(It s p r).2.1) h
  exact⟨g.pt,B_ g.cm (by omega)⟩
theorem Vw{s:PS}{to:Int}{rules:List tv}{l:List lO}:∀m∈oP s to rules l,SmR 200000 m.2.2.1:=by
 intro m hm
 unfold oP at hm
 split at hm
 ·cases hm
 unfold FR at hm
 obtain⟨r,_,hr⟩:=M_.1 hm
 unfold D3 at hr
 split at hr
 ·rename_i x _
  split at hr
  ·cases hr
  ·have e:m=(x,D6 r,(qC s x r).1,()):=by simpa using hr
   rw[e]
   show SmR 200000 (qC s x r).1
   unfold qC
   split
   ·exact⟨h_ _,h_ _⟩
   ·exact VQ ⟨h_ _,h_ _⟩
 ·cases hr
theorem B4(l:List lO)(hq:∀r∈l,RteQ r)(hl:l.length<=1000)(s:PS)(hs:SmP s)(rules:List tv)(router:Int):aF tbl fG [.d (.list M0) l,.d yS s,.d (.list RJ) rules,.d tW router] [] dQ ((oP s 6 rules l).map (OB router),IK s 6 rules l,()):=by
 refine aw rfl (aC CR rfl (λO n=>C4 O n l s rules router) ?_)
 unfold tp
 refine an (tf l hq hl s hs rules 6) ?_
 have hm:=Bi s 6 rules l
 refine aj (Wp.imp (Q:=λx=>x=((oP s 6 rules l).map (OB router),())) (bc (N:=(oP s 6 rules l).length) (I:=λj x=>x=((j:Int),((oP s 6 rules l).take j).map (OB router),())) rfl (λj x hj hx=>?_) λx hx=>?_) λx hx=>?_)
 ·subst hx
  unfold mI
  refine bD hj (aM hj (an (ER _ (Vw _ (e_ hj))) (aG (decide_eq_true ?_) (aa ?_))))
  ·show((((oP s 6 rules l).take j).map (OB router)).length+1)*208<=140737488355328
   rw[m_,j_]
   omega
  ·show(a_ .i64 ((j:Int)+1),_)=_
   rw[aA hj (by omega),map_take hj]
   rfl
 ·subst hx
  unfold mI
  refine be (aa ?_)
  rw[f_]
 ·subst hx
  exact aa rfl
theorem Be{t:Ty}{l:List t.den}(h:∀x∈l,1<=eQ t x):l.length<=(l.map (eQ t)).sum:=by
 induction l with
 |nil=>simp
 |cons x l ih=>
  have h1:=h x (by simp)
  have h2:=ih λy hy=>h y (by simp[hy])
  simp only[r_,I_,T_]
  omega
theorem LP{t:Ty}{l:List t.den}{x:t.den}(hx:x∈l):eQ t x<=(l.map (eQ t)).sum:=by
 induction l with
 |nil=>cases hx
 |cons y l ih=>
  simp only[I_,T_]
  rcases List.mem_cons.1 hx with rfl|h
  ·omega
  ·have:=ih h;omega
theorem N8{s:PS}(hok:okD yS s)(hb:eQ yS s<=1048576):SmP s:=by
 have hb:(K_ (eQ yL) s.1).sum+1+((K_ (eQ yG) s.2.1).sum+1+((K_ (eQ yD) s.2.2.1).sum+1+((K_ (eQ yO) s.2.2.2.1).sum+1+0)))<=1048576:=hb
 have h1:=Be (t:=yL) (l:=s.1) λx _=>by show 1<=s_ x.1+1+_;omega
 have h2:=Be (t:=yG) (l:=s.2.1) λx _=>by show 1<=s_ x.1+1+_;omega
 have h3:=Be (t:=yD) (l:=s.2.2.1) λx _=>by show 1<=s_ x.1+1+_;omega
 have h4:=Be (t:=yO) (l:=s.2.2.2.1) λx _=>by show 1<=s_ x.1+1+_;omega
 refine⟨hok,by omega,by omega,by omega,by omega,λl hl r hr=>?_⟩
 have g1:=LP (t:=yG) hl
 have g2:=LP (t:=yH) hr
 have g3:eQ yG l=l.1.length+1+((K_ (eQ yH) l.2.1).sum+1+0):=rfl
 have g4:eQ yH r=1+(r.2.1.length+1+0):=rfl
 omega
theorem VP{r:lO}(h:okD M0 r):RteQ r:=⟨h.1.1,λx hx=>⟨(h.2.2.2.2.2.1.2 x hx).1,(h.2.2.2.2.2.1.2 x hx).2.2.2.2.1.1⟩⟩
def Tz(to:Int)(r:lO)(p:xX)(x:tv):Bool:=((false ^^ m8 yP r.1 p)&&(x.1==r.2.1))&&(x.2.1==to)
theorem KS{α:Type}{p:α->Bool}{l:List α}{i:Nat}(hi:i<l.length):(l.take (i+1)).any p=((l.take i).any p||p l[i]):=by
 rw[b_ hi,N_]
 simp
theorem YI(rules:List tv)(hr:rules.length<=1000)(to:Int)(r:lO)(p:xX)(f:Bool):
 Wp (λn=>aS n (kH (qw tbl n) n rules to) (f,(0:Int),p.1,p.2.1,r.1.1,r.1.2.1,r.2.1,r.2.2.1,r.2.2.2.1,r.2.2.2.2.1,r.2.2.2.2.2.1,())) λx=>x=(f||rules.any (Tz to r p),p.1,p.2.1,()):=by
 refine bc (N:=rules.length) (I:=λi x=>x=(f||(rules.take i).any (Tz to r p),(i:Int),p.1,p.2.1,r.1.1,r.1.2.1,r.2.1,r.2.2.1,r.2.2.2.1,r.2.2.2.2.1,r.2.2.2.2.2.1,())) (by rw[List.take_zero,List.any_nil,Bool.or_false];rfl) (λi x hi hx=>?_) λx hx=>?_
 ·subst hx
  unfold kH
  refine bD hi (aM hi ?_)
  refine aj (dw (b:=Tz to r p rules[i]) (λ_=>aj (cr (b:=rules[i].1==r.2.1) (λ_=>aa rfl) (aj (cr (b:=rules[i].2.1==to) (λ_=>aa rfl) (aa rfl))))) (aa ?_))
  show((f||(rules.take i).any (Tz to r p))||Tz to r p rules[i],a_ .i64 ((i:Int)+1),_)=_
  rw[aA hi (by omega),KS hi,H_]
 ·subst hx
  unfold kH
  refine be (aa ?_)
  rw[f_]
theorem YJ(l:List lO)(hl:l.length<=1000)(rules:List tv)(hr:rules.length<=1000)(to:Int)(p:xX):
 Wp (λn=>aS n (kI (qw tbl n) n l rules to) (false,(0:Int),p.1,p.2.1,())) λx=>x=(l.any (λr=>rules.any (Tz to r p)),p.1,p.2.1,()):=by
 refine bc (N:=l.length) (I:=λi x=>x=((l.take i).any (λr=>rules.any (Tz to r p)),(i:Int),p.1,p.2.1,())) rfl (λi x hi hx=>?_) λx hx=>?_
 ·subst hx
  unfold kI
  refine bD hi (aM hi (aj (Wp.imp (YI rules hr to l[i] p _) λx hx=>?_)))
  subst hx
  refine aa ?_
  show(_,a_ .i64 ((i:Int)+1),_)=_
  rw[aA hi (by omega),KS hi]
 ·subst hx
  unfold kI
  refine be (aa ?_)
  rw[f_]
theorem KB(l:List lO)(hl:l.length<=1000)(rules:List tv)(hr:rules.length<=1000)(to:Int)(ps:List xX)(hps:ps.length<=1000)(hF:∀p∈ps,l.any (λr=>rules.any (Tz to r p))=true)
 (hA:∀(i:Nat) (h:i<ps.length),0<i->cU (ps[i - 1]'(by omega)) ps[i]<0):aF tbl kb [.d (.list M0) l,.d (.list RJ) rules,.d tI to,.d (.list yP) ps] [] fS (true,()):=by
 refine aw rfl (aC Gp rfl (λO n=>GF O n l rules to ps) ?_)
 unfold wh
 refine aj (Wp.imp (Q:=λx=>x= .inr ()) (bc (N:=ps.length) (I:=λj x=>x=((j:Int),())) rfl (λj x hj hx=>?_) λx hx=>?_) λx hx=>?_)
 ·subst hx
  unfold oF
  refine bD hj (aM hj (aj (Wp.imp (YJ l hl rules hr to ps[j]) λx hx=>?_)))
  subst hx
  rw[hF _ (e_ hj)]
  refine aj (aB rfl (aj (cr (b:=false) (λh0=>?_) (aa ?_))))
  ·have h0:0<j:=by have:=of_decide_eq_true h0;omega
   rw[xT (by omega) (by omega)]
   refine aM (show j - 1<ps.length by omega) (an (DD _ ps[j]) (aa ?_))
   have:=hA j hj h0
   exact decide_eq_false (by show ¬cU _ ps[j]>=0;omega)
  ·refine aB (by rw[Bool.and_false]) (aa ?_)
   show(a_ .i64 ((j:Int)+1),())=_
   rw[aA hj (by omega)]
 ·subst hx
  unfold oF
  exact be (aa rfl)
 ·subst hx
  exact aa rfl
theorem Qo{a b c:xX}(h1:cU a b<0)(h2:cU b c<0):cU a c<0:=by
 rw[zF]at h1 h2⊢
 have key:∀a a' b b' c c':Int,(if a≠b then(if a<b then(-1:Int)else 1)else if a'<b' then -1 else if a'>b' then 1 else 0)<0->(if b≠c then(if b<c then(-1:Int)else 1)else if b'<c' then -1 else if b'>c' then 1 else 0)<0->(if a≠c then(if a<c then(-1:Int)else 1)else if a'<c' then -1 else if a'>c' then 1 else 0)<0:=by
  intro a a' b b' c c' h1 h2
  repeat' split at h1
  all_goals repeat' split at h2
  all_goals repeat' split
  all_goals omega
 exact key _ _ _ _ _ _ h1 h2
theorem Sw{a b:xX}(h:cU a b=0):a=b:=by
 rw[zF]at h
 obtain⟨x,y,⟨⟩⟩:=a
 obtain⟨z,w,⟨⟩⟩:=b
 have key:∀x y z w:Int,(if x≠z then(if x<z then(-1:Int)else 1)else if y<w then -1 else if y>w then 1 else 0)=0->x=z/\y=w:=by
  intro x y z w h
  repeat' split at h
  all_goals first|omega|exact⟨by omega,by omega⟩
 obtain⟨h1,h2⟩:=key _ _ _ _ h
 have h1:x=z:=h1
 have h2:y=w:=h2
 rw[h1,h2]
theorem Vu{l:List lO}:(sZ l).Pairwise λa b=>cU a.1 b.1<0:=by
 unfold sZ
 split
 ·exact .nil
 rename_i h0
 have h0:N1 l=0:=d_ h0
 split
 ·exact .nil
 rename_i hd
 have hd:Cb l l.length=false:=by simpa using hd
 unfold N1 at h0
 split at h0
 ·cases h0
 have step:∀(i:Nat) (h:i<l.length),0<i->cU (l[i - 1]'(by omega)).1 l[i].1<0:=by
  intro i hi h1
  have e:=errN_zero.1 h0 i hi
  rw[Bt hi]at e
  have hr:¬yf l[i]≠0:=λg=>by rw[if_pos g]at e;exact g e
  rw[if_neg hr]at e
  have hk:¬SQ (l.take i) (wN l[i])=true:=λg=>by rw[if_pos g]at e;cases e
  rw[if_neg hk]at e
  have hn:=λg=>(show(16:Int)≠0 by decide) ((if_pos g).symm.trans e)
  have hless:zq (l[i - 1]'(by omega)) l[i]=true:=by
   refine d_ λg=>hn ⟨h1,?_⟩
   rw[c_ (show i - 1<l.length by omega)]
   show(!zq _ _)=true
   rw[o_]at g
   rw[g];rfl
  have hadj:m8 yP (l[i - 1]'(by omega)).1 l[i].1=false:=by
   unfold Cb at hd
   have:=List.any_eq_false.1 hd i (Q_.2 hi)
   rw[Sa hi,decide_eq_true h1]at this
   simpa using this
  rw[OY]at hadj
  have hne:cU (l[i - 1]'(by omega)).1 l[i].1≠0:=λg=>of_decide_eq_false hadj (Sw g)
  unfold zq at hless
  rw[show(cU (l[i - 1]'(by omega)).1 l[i].1 != 0)=true by rw[bne_iff_ne];exact hne]at hless
  exact of_decide_eq_true hless
 rw[x_]
 intro i j hi hj hij
 induction j with
 |zero=>omega
 |succ j ih=>
  have h1:=step (j+1) hj (by omega)
  by_cases h:i=j
  ·subst h;exact h1
  ·exact Qo (ih (by omega) (by omega)) h1
noncomputable def CG(s:PS)(to:Int)(rules:List tv)(l:List lO):List xX:=(oP s to rules l).map λm=>m.2.1.1
theorem IQ{s:PS}{to:Int}{rules:List tv}{r:lO}{m:Rz}(h:m∈D3 s to rules r):m.2.1.1=r.1/\rules.any (Tz to r r.1)=true:=by
 unfold D3 at h
 split at h
 ·rename_i x hx
  split at h
  ·cases h
  ·have e:m=(x,D6 r,(qC s x r).1,()):=by simpa using h
   subst e
   refine⟨rfl,z_.2 ⟨x,List.mem_of_find?_eq_some hx,?_⟩⟩
   have hf:=List.find?_some hx
   unfold LA at hf
   rw[l_]at hf
   have hf:=hf.1
   unfold Ve at hf
   unfold Tz
   rw[U9]
   simp at hf⊢
   exact⟨hf.2,hf.1⟩
 ·cases h
theorem L6{s:PS}{to:Int}{rules:List tv}{l:List lO}:∀p∈CG s to rules l,l.any (λr=>rules.any (Tz to r p))=true:=by
 intro p hp
 obtain⟨m,hm,rfl⟩:=List.mem_map.1 hp
 unfold oP at hm
 split at hm
 ·cases hm
 obtain⟨r,hr,hmr⟩:=M_.1 hm
 obtain⟨h1,h2⟩:=IQ hmr
 exact z_.2 ⟨r,LL hr,by rw[h1];exact h2⟩
theorem MC{s:PS}{to:Int}{rules:List tv}:∀l:List lO,((l.flatMap (D3 s to rules)).map λm=>m.2.1.1).Sublist (l.map (·.1))
 |[]=>.slnil
 |r::l=>by
  have ih:=MC (s:=s) (to:=to) (rules:=rules) l
  rw[List.flatMap_cons,O_,I_]
  have hlen:=L1 s to rules r
  cases h:D3 s to rules r with
  |nil=>exact ih.cons _
  |cons m t=>
   cases t with
   |nil=>
    have:=(IQ (m:=m) (by rw[h];simp)).1
    show(m.2.1.1::_).Sublist _
    rw[this]
    exact ih.cons_cons _
   |cons y t=>rw[h]at hlen;simp at hlen
theorem L5{s:PS}{to:Int}{rules:List tv}{l:List lO}:(CG s to rules l).Pairwise λa b=>cU a b<0:=by
 unfold CG oP
 split
 ·exact .nil
 ·have h:((sZ l).map (·.1)).Pairwise λa b=>cU a b<0:=List.pairwise_map.2 Vu
  exact h.sublist (MC _)
theorem Sg{ps:List xX}(h:ps.Pairwise λa b=>cU a b<0)(i:Nat)(hi:i<ps.length)(h0:0<i):cU (ps[i - 1]'(by omega)) ps[i]<0:=x_.1 h (i - 1) i (by omega) hi (by omega)
theorem QZ(l:List lO)(s:PS)(rules:List tv)(router:Int)(hs:SmP s)(hq:∀r∈l,RteQ r):Conv tbl g8 [.d (.list M0) l,.d yS s,.d (.list RJ) rules,.d tW router] [] (·=some (gX eU (true,()))):=by
 refine aC yi rfl (λO n=>yu O n l s rules router) ?_
 unfold qE
 obtain⟨b,hb1,hb2⟩:=UG l s rules
 refine an hb2 (ar (λ_=>an OF (aa rfl)) λhb=>?_)
 have hl:=(hb1 hb).1
 have hr:=(hb1 hb).2.1
 have hm5:=Bi s 5 rules l
 have hm6:=Bi s 6 rules l
 refine an (zx l hq (by omega) s hs rules) (an (B4 l hq (by omega) s hs rules router) ?_)
 have e5:((oP s 5 rules l).map NA).map (·.1)=CG s 5 rules l:=by rw[V_];rfl
 have e6:((oP s 6 rules l).map (OB router)).map (·.1)=CG s 6 rules l:=by rw[V_];rfl
 have l5:((oP s 5 rules l).map NA).length<=40:=by rw[m_];omega
 have l6:((oP s 6 rules l).map (OB router)).length<=40:=by rw[m_];omega
 have p5:(CG s 5 rules l).length<=40:=by rw[<-e5,m_];exact l5
 have p6:(CG s 6 rules l).length<=40:=by rw[<-e6,m_];exact l6
 generalize(oP s 5 rules l).map NA=E at e5 l5⊢
 generalize(oP s 6 rules l).map (OB router)=V at e6 l6⊢
 refine aj (Wp.imp (Q:=λx=>x=(CG s 5 rules l,())) (bc (N:=E.length) (I:=λj x=>x=((j:Int),(E.take j).map (·.1),())) rfl (λj x hj hx=>?_) λx hx=>?_) λx hx=>?_)
 ·subst hx
  unfold jC
  refine bD hj (aM hj (aG (decide_eq_true ?_) (aa ?_)))
  ·show(((E.take j).map (·.1)).length+1)*16<=140737488355328
   rw[m_,j_]
   omega
  ·show(a_ .i64 ((j:Int)+1),_)=_
   rw[aA hj (by omega),map_take hj]
 ·subst hx
  unfold jC
  refine be (aa ?_)
  rw[f_,e5]
 subst hx
 refine aj (Wp.imp (Q:=λx=>x=(CG s 5 rules l,CG s 6 rules l,())) (bc (N:=V.length) (I:=λj x=>x=((j:Int),CG s 5 rules l,(V.take j).map (·.1),())) rfl (λj x hj hx=>?_) λx hx=>?_) λx hx=>?_)
 ·subst hx
  unfold jD
  refine bD hj (aM hj (aG (decide_eq_true ?_) (aa ?_)))
  ·show(((V.take j).map (·.1)).length+1)*16<=140737488355328
   rw[m_,j_]
   omega
  ·show(a_ .i64 ((j:Int)+1),_)=_
   rw[aA hj (by omega),map_take hj]
 ·subst hx
  unfold jD
  refine be (aa ?_)
  rw[f_,e6]
 subst hx
 refine an OF (aj (aX rfl (an (KB l (by omega) rules (by omega) 5 (CG s 5 rules l) (by omega) L6 (Sg L5)) (aa ?_))))
 exact aj (aX rfl (an (KB l (by omega) rules (by omega) 6 (CG s 6 rules l) (by omega) L6 (Sg L5)) (aa (aa rfl))))
theorem DY:LawOkU g8 [.list M0,yS,.list RJ,tW]:=by
 rintro⟨l,s,rules,router,_⟩ ⟨hl,hs,_⟩ hb
 have hb:eQ (.list M0) l+(eQ yS s+_)<=1048576:=hb
 exact⟨gX eU (true,()),QZ l s rules router (N8 hs (by omega)) λr hr=>VP (hl.2 r hr),rfl⟩
end Go.Proofs.YtmfolppncelceaaGreatDoor
