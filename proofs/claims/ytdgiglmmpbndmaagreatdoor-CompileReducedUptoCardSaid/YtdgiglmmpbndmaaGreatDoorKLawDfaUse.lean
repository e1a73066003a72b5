import Derived.Test.YtdgiglmmpbndmaaGreatDoorKL7
import Derived.Test.YtdgiglmmpbndmaaGreatDoorKGlueB
import Derived.Test.YtdgiglmmpbndmaaGreatDoorKPlPfx
set_option linter.unusedVariables false
set_option linter.unusedSimpArgs false
open Bool renaming or_eq_false_iff->k_,or_eq_true->m_,and_eq_true->v_,not_eq_false'->C_,eq_iff_iff->I_,not_eq_true'->R_,true_and->ah_,and_true->ar_
open Classical renaming byContradiction->h_,choose->ak_,choose_spec->as_,not_not->av_
open Int renaming toNat_natCast->q_,natCast_nonneg->O_,eq_ofNat_of_zero_le->T_,toNat->U_,toNat_of_nonneg->af_,le_refl->an_
open Go.IntKind renaming wrap->n_
open List renaming getElem?_eq_getElem->a_,getElem_mem->b_,getElem?_eq_some_iff->c_,mem_singleton->d_,length_append->e_,mem_append_left->f_,length_map->g_,mem_cons_of_mem->i_,mem_cons_self->l_,take_of_length_le->o_,filter_append->p_,mem_append->s_,length_singleton->t_,filter_cons_of_pos->w_,getElem?_eq_none->y_,length_cons->z_,getElem?_append_left->A_,map_cons->B_,findIdx?_eq_some_iff_getElem->D_,nodup_nil->E_,mem_append_right->F_,getElem_map->G_,getElem?_set_ne->H_,length_set->J_,map_append->K_,nil_append->L_,take_succ_cons->M_,mem_map->N_,findIdx?_eq_none_iff->Q_,nodup_append->S_,drop_eq_nil_of_le->W_,getElem_cons_zero->X_,length_eq_one_iff->Y_,length_nil->ab_,nodup_cons->ac_,mem_iff_getElem->ad_,mem_of_getElem?->ae_,length_pos_iff->ag_,mem_cons->ai_,any_map->aj_,all_eq_true->al_,getD->am_,mem_filter->ao_,drop_zero->ap_
open Nat renaming le_trans->r_,le_refl->u_,le_of_lt->Z_,zero_le->au_
open Option renaming bind->j_,getD_some->V_
open Option.some renaming inj->x_
open Prod renaming ext->P_,mk->aa_
open Sum renaming elim->aq_
namespace Go.Proofs.YtdgiglmmpbndmaaGreatDoor
open Go Go.Av Go.Ev
abbrev DF:Type:=List Int×(List (List Int)×(List Bool×(Int×Unit)))
def kO(xs:List Int):Prop:=0<xs.length/\(∀(h:0<xs.length),xs[0]=0)/\(∀i (h:i+1<xs.length),xs[i]<xs[i+1])/\∀x∈xs,x<=4294967295
def Big(d:DF):Prop:=d.2.2.1.length>4096\/d.2.1.length>4096\/d.1.length>2000
open Classical in
noncomputable def ik(d:DF):Int:=
 if Big d then 4 else if ¬kO d.1 then 16 else if d.2.1.length=0\/d.2.2.1.length≠d.2.1.length then 14
 else if ¬(∀r∈d.2.1,r.length=d.1.length)then 14 else if d.2.2.2.1<0\/d.2.2.2.1>=(d.2.1.length:Int)then 5
 else if ¬(∀r∈d.2.1,∀t∈r,0<=t/\t<(d.2.1.length:Int))then 5 else 0
theorem QS{i:Nat}(a:0<i)(b:i<=9223372036854775807):n_ .i64 ((i:Int) - 1)=((i - 1:Nat):Int):=by rw[wrap_i64 (by omega) (by omega)];omega
theorem starts_dfa{xs:List Int}:kO xs↔(0<xs.length/\∀i,(h:i<xs.length)->(i=0->xs[i]=0)/\(∀_:0<i,xs[i - 1]<xs[i])/\xs[i]<=4294967295):=by
 constructor
 ·rintro⟨a,c,d,f⟩;refine⟨a,λi h=>⟨λe=>?_,λe=>?_,f _ (b_ h)⟩⟩;·subst e;exact c a
  ·obtain⟨j,rfl⟩:∃j,i=j+1:=⟨i - 1,by omega⟩;exact d j h
 ·rintro⟨a,h⟩;refine⟨a,λ_=>(h 0 a).1 rfl,λi b=>(h (i+1) b).2.1 (by omega),λx g=>?_⟩;obtain⟨i,b,rfl⟩:=ad_.1 g;exact(h i b).2.2
theorem oH(d:DF):aK tbl lP [.d (pr [.list tI,.list (.list tI),.list tB,tI]) d] [] cX (ik d,()):=by
 refine aG rfl (aF VV rfl (λO n=>eM (JG O n d)) ?_);unfold JG;refine ae (cN (λ_=>aa rfl) (ae (cN (λ_=>aa rfl) ?_)));refine aA (λh=>aa ?_) λh=>?_
 ·have:Big d:=by simp only[m_,decide_eq_true_eq]at h;unfold Big;omega
  rw[show ik d=4 from by unfold ik;rw[if_pos this]]
 have nb:¬Big d:=by simp only[k_,decide_eq_false_iff_not]at h;unfold Big;omega
 have y:d.1.length<=2000:=by unfold Big at nb;omega
 have z:d.2.1.length<=4096:=by unfold Big at nb;omega
 refine ae (Am (N:=d.1.length) (good:=λi=>∀(h:i<d.1.length),(i=0->d.1[i]=0)/\(∀_:0<i,d.1[i - 1]<d.1[i])/\d.1[i]<=4294967295) (e:=((16:Int),())) (g:=()) (λi a=>?_) ?_ (λhs=>?_) (λv=>?_))
 ·unfold xe;refine bA a (aD a ?_);refine ae (cG (λ_=>aa rfl) (ae (cN (b:=decide (0<i)&&decide (d.1[i]<=d.1[i - 1])) (λ_=>ae (cG (b:=decide (d.1[i]<=d.1[i - 1])) (λu=>?_) (aa ?_))) (ae (cN (λ_=>aa rfl) ?_)))))
  ·have u:0<i:=by simpa using u
   rw[QS u (by omega)];exact aD (by omega) (aa rfl)
  ·congr 1;exact decide_eq_decide.2 (by omega)
  ·refine fK ?_ (by rw[au a (by omega)]);simp only[m_,v_,decide_eq_true_eq,beq_iff_eq,bne_iff_ne];constructor
   ·intro c j;have f:=j a;rcases c with(⟨c,s⟩|⟨c,s⟩)|c;·exact s (f.1 (by omega))
    ·have:=f.2.1 c;omega
    ·have:=f.2.2;omega
   ·intro c;by_cases j:i=0
    ·by_cases f:d.1[i]=0;·exact absurd (λ_=>⟨λ_=>f,λh=>absurd h (by omega),by omega⟩) c
     ·exact .inl (.inl ⟨by omega,f⟩)
    ·by_cases f:d.1[i]<=d.1[i - 1];·exact .inl (.inr ⟨by omega,f⟩)
     ·by_cases s:d.1[i]>4294967295;·exact .inr s
      ·exact absurd (λ_=>⟨λh=>absurd h j,λ_=>by omega,by omega⟩) c
 ·unfold xe;exact be (aa rfl)
 ·refine aA (λh=>aa ?_) λh=>?_
  ·have:¬kO d.1:=λhs=>by have:=hs.1;simp at h;simp[h]at this
   rw[show ik d=16 from by unfold ik;rw[if_neg nb,if_pos this]]
  have l:kO d.1:=starts_dfa.2 ⟨by simp at h;exact ag_.2 h,λi a=>hs i a a⟩;refine ae (cN (λ_=>aa rfl) ?_);refine aA (λh=>aa ?_) λh=>?_
  ·have:d.2.1.length=0\/d.2.2.1.length≠d.2.1.length:=by simp only[m_,beq_iff_eq,bne_iff_ne]at h;omega
   rw[show ik d=14 from by unfold ik;rw[if_neg nb,if_neg (not_not_intro l),if_pos this]]
  have c:¬(d.2.1.length=0\/d.2.2.1.length≠d.2.1.length):=by simp only[k_,beq_eq_false_iff_ne,bne_eq_false_iff_eq]at h;omega
  refine ae (Iu (xs:=d.2.1) (P:=λr=>r.length=d.1.length) (e:=((14:Int),())) (g:=()) (λi a=>?_) ?_ (λhr=>?_) (λhr=>?_));·unfold xf;refine bA a (aD a (fK ?_ (by rw[au a (by omega)])));simp only[bne_iff_ne];omega
  ·unfold xf;exact be (aa rfl)
  ·refine ae (cN (λ_=>aa rfl) ?_);refine aA (λh=>aa ?_) λh=>?_
   ·have:d.2.2.2.1<0\/d.2.2.2.1>=(d.2.1.length:Int):=by simpa using h
    rw[show ik d=5 from by unfold ik;rw[if_neg nb,if_neg (not_not_intro l),if_neg c,if_neg (not_not_intro hr),if_pos this]]
   have j:¬(d.2.2.2.1<0\/d.2.2.2.1>=(d.2.1.length:Int)):=by simpa using h
   refine ae (Iu (xs:=d.2.1) (P:=λr=>∀t∈r,0<=t/\t<(d.2.1.length:Int)) (e:=((5:Int),())) (g:=()) (λi a=>?_) ?_ (λx=>?_) (λx=>?_))
   ·unfold xi;refine bA a (aD a (ae (Iu (xs:=d.2.1[i]) (P:=λt=>0<=t/\t<(d.2.1.length:Int)) (e:=((5:Int),())) (g:=()) (λk w=>?_) ?_ (λh=>?_) (λh=>?_))));·unfold xg;have p:=w;rw[hr _ (b_ a)]at p;refine bA w (aD w (ae (cN (λ_=>aa rfl) (fK ?_ (by rw[au p (by omega)])))));simp only[m_,decide_eq_true_eq];omega
    ·unfold xg;exact be (aa rfl)
    ·exact aa (.inl ⟨h,by rw[au a (by omega)]⟩)
    ·exact aa (.inr ⟨h,rfl⟩)
   ·unfold xi;exact be (aa rfl)
   ·refine aa ?_;rw[show ik d=0 from by unfold ik;rw[if_neg nb,if_neg (not_not_intro l),if_neg c,if_neg (not_not_intro hr),if_neg j,if_neg (not_not_intro x)]]
   ·refine aa ?_;rw[show ik d=5 from by unfold ik;rw[if_neg nb,if_neg (not_not_intro l),if_neg c,if_neg (not_not_intro hr),if_neg j,if_pos x]]
  ·refine aa ?_;rw[show ik d=14 from by unfold ik;rw[if_neg nb,if_neg (not_not_intro l),if_neg c,if_pos hr]]
 ·have:¬kO d.1:=λhs=>by obtain⟨i,a,v⟩:=v;exact v λh=>(starts_dfa.1 hs).2 i h
  refine aa ?_;rw[show ik d=16 from by unfold ik;rw[if_neg nb,if_pos this]]
def zb4(d:DF):Prop:=d.1.length<=9223372036854775807/\d.2.1.length<=9223372036854775807/\(∀r∈d.2.1,r.length<=9223372036854775807)/\d.2.2.1.length<=9223372036854775807
theorem same_iff{α:Type}{a b:List α}(hl:a.length=b.length):(∀i,i<a.length->a[i]? =b[i]?)↔a=b:=by
 constructor
 ·intro h;refine List.ext_getElem? λi=>?_;by_cases c:i<a.length;·exact h i c
  ·rw[y_ (by omega),y_ (by omega)]
 ·rintro rfl _ _;rfl
theorem JC(a b:List Int)(hl:a.length<=9223372036854775807):aK tbl sB [.d (.list tI) a,.d (.list tI) b] [] jP (decide (a=b),()):=by
 refine aG rfl (aF VY rfl (λO n=>eM (JJ O n a b)) ?_);unfold JJ;refine aA (λh=>aa ?_) λh=>?_
 ·have:a≠b:=λe=>by subst e;simp at h
  simp[this]
 have d:a.length=b.length:=by simp only[bne_eq_false_iff_eq]at h;omega
 refine ae (Am (N:=a.length) (good:=λi=>a[i]? =b[i]?) (e:=(false,())) (g:=()) (λi c=>?_) ?_ (λhs=>aa ?_) (λf=>aa ?_));·unfold xj;refine bA c (aD c (aD (by omega) (fK ?_ (by rw[au c (by omega)]))));rw[a_ c,a_ (by omega)];simp
 ·unfold xj;exact be (aa rfl)
 ·simp[(same_iff d).1 hs]
 ·have:a≠b:=λe=>by obtain⟨i,c,hn⟩:=f;subst e;exact hn rfl
  simp[this]
theorem Nq(a b:DF)(d:zb4 a)(hn:a.2.1.length=b.2.1.length)(r:a.2.2.1.length=b.2.2.1.length)(l:a.1=b.1)(p:a.2.2.2.1=b.2.2.2.1):Wp (λn=>j_ (aT n (rZ (tj tbl n) n a b) ((0:Int),())) fun(v:(Bool×Unit)⊕Unit)=>aq_ (λw=>aI eG (w.1,())) (λs=>j_ (aT n (r5 (tj tbl n) n a b) ((0:Int),())) fun(j:(Bool×Unit)⊕Unit)=>aq_ (λk=>aI eG (k.1,())) (λu=>aI eG (true,())) j) v) λo=>o=some (f9 eG (decide (a=b),())):=by
 refine ae (Am (N:=a.2.1.length) (good:=λi=>a.2.1[i]? =b.2.1[i]?) (e:=(false,())) (g:=()) (λi c=>?_) ?_ (λhs=>?_) (λf=>aa ?_));·unfold rZ;refine bA c (aD c (aD (by omega) (ak (JC _ _ (d.2.2.1 _ (b_ c))) (fK ?_ (by rw[au c d.2.1])))));rw[a_ c,a_ (by omega)];simp
 ·unfold rZ;exact be (aa rfl)
 ·have hs:=(same_iff hn).1 hs;refine ae (Am (N:=a.2.2.1.length) (good:=λi=>a.2.2.1[i]? =b.2.2.1[i]?) (e:=(false,())) (g:=()) (λi c=>?_) ?_ (λh=>aa ?_) (λf=>aa ?_));·unfold r5;refine bA c (aD c (aD (by omega) (fK ?_ (by rw[au c d.2.2.2]))));rw[a_ c,a_ (by omega)];simp
  ·unfold r5;exact be (aa rfl)
  ·have h:=(same_iff r).1 h;have:a=b:=P_ l (P_ hs (P_ h (P_ p rfl)));rw[decide_eq_true this]
  ·have:a≠b:=λe=>by obtain⟨i,c,hn⟩:=f;subst e;exact hn rfl
   rw[decide_eq_false this]
 ·have:a≠b:=λe=>by obtain⟨i,c,hn⟩:=f;subst e;exact hn rfl
  rw[decide_eq_false this]
theorem EG(a b:List Int)(hl:a.length<=9223372036854775807):aK tbl ny [.d (.list tI) a,.d (.list tI) b] [] gG (decide (a=b),()):=by
 refine aG rfl (aF Pp rfl (λO n=>eM (EQ O n a b)) ?_);unfold EQ;refine aA (λh=>aa ?_) λh=>?_
 ·have:a≠b:=λe=>by subst e;simp at h
  simp[this]
 have d:a.length=b.length:=by simp only[bne_eq_false_iff_eq]at h;omega
 refine ae (Am (N:=a.length) (good:=λi=>a[i]? =b[i]?) (e:=(false,())) (g:=()) (λi c=>?_) ?_ (λhs=>aa ?_) (λf=>aa ?_));·unfold te;refine bA c (aD c (aD (by omega) (fK ?_ (by rw[au c (by omega)]))));rw[a_ c,a_ (by omega)];simp
 ·unfold te;exact be (aa rfl)
 ·simp[(same_iff d).1 hs]
 ·have:a≠b:=λe=>by obtain⟨i,c,hn⟩:=f;subst e;exact hn rfl
  simp[this]
theorem Jn(a b:DF)(d:zb4 a)(hn:a.2.1.length=b.2.1.length)(r:a.2.2.1.length=b.2.2.1.length)(l:a.1=b.1)(p:a.2.2.2.1=b.2.2.2.1):Wp (λn=>j_ (aT n (nU (tj tbl n) n a b) ((0:Int),())) fun(v:(Bool×Unit)⊕Unit)=>aq_ (λw=>aI de (w.1,())) (λs=>j_ (aT n (nV (tj tbl n) n a b) ((0:Int),())) fun(j:(Bool×Unit)⊕Unit)=>aq_ (λk=>aI de (k.1,())) (λu=>aI de (true,())) j) v) λo=>o=some (f9 de (decide (a=b),())):=by
 refine ae (Am (N:=a.2.1.length) (good:=λi=>a.2.1[i]? =b.2.1[i]?) (e:=(false,())) (g:=()) (λi c=>?_) ?_ (λhs=>?_) (λf=>aa ?_));·unfold nU;refine bA c (aD c (aD (by omega) (ak (EG _ _ (d.2.2.1 _ (b_ c))) (fK ?_ (by rw[au c d.2.1])))));rw[a_ c,a_ (by omega)];simp
 ·unfold nU;exact be (aa rfl)
 ·have hs:=(same_iff hn).1 hs;refine ae (Am (N:=a.2.2.1.length) (good:=λi=>a.2.2.1[i]? =b.2.2.1[i]?) (e:=(false,())) (g:=()) (λi c=>?_) ?_ (λh=>aa ?_) (λf=>aa ?_));·unfold nV;refine bA c (aD c (aD (by omega) (fK ?_ (by rw[au c d.2.2.2]))));rw[a_ c,a_ (by omega)];simp
  ·unfold nV;exact be (aa rfl)
  ·have h:=(same_iff r).1 h;have:a=b:=P_ l (P_ hs (P_ h (P_ p rfl)));rw[decide_eq_true this]
  ·have:a≠b:=λe=>by obtain⟨i,c,hn⟩:=f;subst e;exact hn rfl
   rw[decide_eq_false this]
 ·have:a≠b:=λe=>by obtain⟨i,c,hn⟩:=f;subst e;exact hn rfl
  rw[decide_eq_false this]
theorem S7(a b:DF)(c:zb4 a):aK tbl wy [.d (pr [.list tI,.list (.list tI),.list tB,tI]) a,.d (pr [.list tI,.list (.list tI),.list tB,tI]) b] [] eG (decide (a=b),()):=by
 refine aG rfl (aF VW rfl (λO n=>eM (JH O n a b)) ?_);unfold JH;refine ae (cN (λ_=>ak (JC _ _ c.1) (aa rfl)) (ae (cN (λ_=>aa rfl) (ae (cN (λ_=>aa rfl) ?_)))));refine aA (λh=>aa ?_) λh=>?_
 ·simp only[m_,bne_iff_ne,R_,decide_eq_false_iff_not]at h;have:a≠b:=λe=>by subst e;simp at h
  rw[decide_eq_false this]
 ·simp only[k_,bne_eq_false_iff_eq,C_,decide_eq_true_eq]at h;exact Nq a b c (by omega) (by omega) h.1.1.2 h.1.1.1
theorem N2(a b:DF)(c:zb4 a):aK tbl sa [.d (pr [.list tI,.list (.list tI),.list tB,tI]) a,.d (pr [.list tI,.list (.list tI),.list tB,tI]) b] [] de (decide (a=b),()):=by
 refine aG rfl (aF Po rfl (λO n=>eM (EP O n a b)) ?_);unfold EP;refine ak (EG _ _ c.1) ?_;refine ae (cN (λ_=>aa rfl) (ae (cN (λ_=>aa rfl) (ae (cN (λ_=>aa rfl) ?_)))));refine aA (λh=>aa ?_) λh=>?_
 ·simp only[m_,bne_iff_ne,R_,decide_eq_false_iff_not]at h;have:a≠b:=λe=>by subst e;simp at h
  rw[decide_eq_false this]
 ·simp only[k_,bne_eq_false_iff_eq,C_,decide_eq_true_eq]at h;exact Jn a b c (by omega) (by omega) h.1.1.1 h.2
def px(xs:List Int)(v:Int)(c:Nat):Prop:=∃h:c<xs.length,xs[c]<=v/\∀j (_:j<xs.length),c<j->v<xs[j]
theorem Rt{xs:List Int}{v:Int}{c a:Nat}(h:px xs v c)(h':px xs v a):c=a:=by
 obtain⟨e,k,f⟩:=h;obtain⟨b,j,d⟩:=h';rcases Nat.lt_trichotomy c a with hl|g|hl;·have:=f a b hl;omega
 ·exact g
 ·have:=d c e hl;omega
open Classical in
noncomputable def ou(xs:List Int)(v:Int):Nat:=if h:∃c,px xs v c then ak_ h else 0
theorem L2{xs:List Int}{v:Int}{c:Nat}(h:px xs v c):ou xs v=c:=by have a:∃c,px xs v c:=⟨c,h⟩;unfold ou;rw[dif_pos a];exact Rt (as_ a) h
theorem uO{xs:List Int}(hs:kO xs):∀(j i:Nat) (h:j<xs.length) (a:i<j),xs[i]<xs[j]
 |0,i,h,a=>absurd a (by omega)
 |j+1,i,h,a=>by
  have b:=hs.2.2.1 j h;rcases Nat.lt_succ_iff_lt_or_eq.1 a with hl|rfl;·have:=uO hs j i (by omega) hl;omega
  ·exact b
theorem JB(xs:List Int)(v:Int)(hs:kO xs)(hl:xs.length<=4611686018427387903)(A:0<=v):∃c,px xs v c/\aK tbl lQ [.d (.list tI) xs,.d tI v] [] iL ((c:Int),()):=by
 suffices h:Conv tbl lQ [.d (.list tI) xs,.d tI v] [] λo=>∃c:Nat,o=some (f9 iL ((c:Int),()))/\px xs v c by obtain⟨c,⟨k,d,hc⟩,u⟩:=gT (sh:=iL) (R:=λc=>∃k:Nat,c=((k:Int),())/\px xs v k) (λ_=>rfl) (PW h λo ⟨k,z,d⟩=>⟨((k:Int),()),z,k,rfl,d⟩);subst d;exact⟨k,hc,u⟩
 refine aF VX rfl (λO n=>eM (JI O n xs v)) ?_;unfold JI;refine ae (Go.Ev.wp_loop (σ:=Int×Int×Unit) (λs=>∃lo a:Nat,s=((lo:Int),(a:Int),())/\lo<a/\a<=xs.length/\(∀h:lo<xs.length,xs[lo]<=v)/\∀h:a<xs.length,v<xs[a]) (λs=>(s.2.1 - s.1).toNat) ⟨0,xs.length,rfl,hs.1,u_ _,λh=>by rw[hs.2.1 h];exact A,λh=>absurd h (by omega)⟩ ?_);rintro s ⟨lo,a,rfl,B,p,f,g⟩;unfold EW;have l:n_ .i64 ((a:Int) - (lo:Int))=(a:Int) - lo:=wrap_i64 (by omega) (by omega);refine aA (λb=>?_) λb=>?_
 ·rw[l]at b;have b:(a:Int) - lo>1:=by simpa using b
  refine ar rfl ?_;have y:n_ .i64 (Int.tdiv (n_ .i64 ((lo:Int)+(a:Int))) (2:Int))=(((lo+a)/2:Nat):Int):=by rw[wrap_i64 (n:=(lo:Int)+a) (by omega) (by omega),show(lo:Int)+a=((lo+a:Nat):Int) by omega,show Int.tdiv ((lo+a:Nat):Int) 2=(((lo+a)/2:Nat):Int)from rfl];exact wrap_i64 (by omega) (by omega)
  simp only[y];have e:(lo+a)/2<xs.length:=by omega
  refine aD e (aA (λhc=>aa ?_) λhc=>aa ?_)
  ·have hc:xs[(lo+a)/2]<=v:=by simpa using hc
   refine⟨⟨(lo+a)/2,a,rfl,by omega,p,λ_=>hc,g⟩,?_⟩;show((a:Int) - (((lo+a)/2:Nat):Int)).toNat<((a:Int) - lo).toNat;omega
  ·have hc:v<xs[(lo+a)/2]:=by simpa using hc
   refine⟨⟨lo,(lo+a)/2,rfl,by omega,by omega,f,λ_=>hc⟩,?_⟩;show((((lo+a)/2:Nat):Int) - lo).toNat<((a:Int) - lo).toNat;omega
 ·rw[l]at b;have b:¬(a:Int) - lo>1:=by simpa using b
  refine aa (aa ⟨lo,rfl,by omega,f (by omega),λj w x=>?_⟩);have r:=g (by omega);rcases Nat.lt_or_eq_of_le (show a<=j by omega)with hl|rfl;·have:=uO hs j a w hl;omega
  ·exact r
theorem GB(xs:List Int)(v:Int)(hs:kO xs)(hl:xs.length<=4611686018427387903)(a:0<=v):aK tbl lQ [.d (.list tI) xs,.d tI v] [] iL ((ou xs v:Int),()):=by obtain⟨c,hc,h⟩:=JB xs v hs hl a;rw[L2 hc];exact h
theorem zcx{xs:List Int}{v:Int}(hs:kO xs)(hl:xs.length<=4611686018427387903)(a:0<=v):px xs v (ou xs v):=by obtain⟨c,hc,_⟩:=JB xs v hs hl a;rw[L2 hc];exact hc
structure Good(d:DF):Prop where
 starts:kO d.1
 small:¬Big d
 len:0<d.2.1.length/\d.2.2.1.length=d.2.1.length
 rows:∀r∈d.2.1,r.length=d.1.length
 start:0<=d.2.2.2.1/\d.2.2.2.1<(d.2.1.length:Int)
 to:∀r∈d.2.1,∀t∈r,0<=t/\t<(d.2.1.length:Int)
theorem good_iff{d:DF}:ik d=0↔Good d:=by
 constructor
 ·intro h;unfold ik at h;by_cases c:Big d;·rw[if_pos c]at h;cases h
  rw[if_neg c]at h;by_cases e:kO d.1;case neg=>rw[if_pos e]at h;cases h
  rw[if_neg (not_not_intro e)]at h;by_cases a:d.2.1.length=0\/d.2.2.1.length≠d.2.1.length;·rw[if_pos a]at h;cases h
  rw[if_neg a]at h;by_cases f:∀r∈d.2.1,r.length=d.1.length;case neg=>rw[if_pos f]at h;cases h
  rw[if_neg (not_not_intro f)]at h;by_cases b:d.2.2.2.1<0\/d.2.2.2.1>=(d.2.1.length:Int);·rw[if_pos b]at h;cases h
  rw[if_neg b]at h;by_cases g:∀r∈d.2.1,∀t∈r,0<=t/\t<(d.2.1.length:Int);case neg=>rw[if_pos g]at h;cases h
  exact⟨e,c,by omega,f,by omega,g⟩
 ·intro h;have a:¬(d.2.1.length=0\/d.2.2.1.length≠d.2.1.length):=by have:=h.len;omega
  have b:¬(d.2.2.2.1<0\/d.2.2.2.1>=(d.2.1.length:Int)):=by have:=h.start;omega
  unfold ik;rw[if_neg h.small,if_neg (not_not_intro h.starts),if_neg a,if_neg (not_not_intro h.rows),if_neg b,if_neg (not_not_intro h.to)]
noncomputable def Ij(d:DF)(s:Int)(v:Int):Int:=(d.2.1.getD s.toNat []).getD (ou d.1 v) 0
theorem mf{d:DF}(h:Good d):d.2.1.length<=4096/\d.1.length<=2000/\d.2.2.1.length<=4096:=by have:=h.small;unfold Big at this;omega
theorem Ik{d:DF}(h:Good d){s v:Int}(f:0<=s)(hs:s<(d.2.1.length:Int))(c:0<=v):∃a:s.toNat<d.2.1.length,∃b:ou d.1 v<d.2.1[s.toNat].length,d.2.1[s.toNat][ou d.1 v]=Ij d s v/\0<=Ij d s v/\Ij d s v<(d.2.1.length:Int):=by
 have a:s.toNat<d.2.1.length:=by omega
 have hl:=mf h;obtain⟨hc,_⟩:=zcx h.starts (by omega) c;have b:ou d.1 v<d.2.1[s.toNat].length:=by rw[h.rows _ (b_ a)];exact hc
 have e:d.2.1[s.toNat][ou d.1 v]=Ij d s v:=by unfold Ij;simp only[List.getD_eq_getElem?_getD,a_ a,V_,a_ b]
 refine⟨a,b,e,?_⟩;rw[<-e];exact h.to _ (b_ a) _ (b_ b)
open Go Go.Av Go.Ev Go.Pl
theorem q6(a b:List V7)(hl:a.length<=9223372036854775807):aK tbl dj [.d (.list yR) a,.d (.list yR) b] [] bH (decide (a=b),()):=by
 refine aG rfl (aF rT rfl (λO n=>eM (jb O n a b)) ?_);unfold jb;refine aA (λh=>aa ?_) λh=>?_;·rw[decide_eq_false];rintro rfl;simp at h
 refine ae (An (a:=a) (b:=b) (by simp at h;omega) (λi c d=>?_) ?_ (λe=>aa (by rw[decide_eq_true e])) λe=>aa (by rw[decide_eq_false e]));·unfold ee;exact bA c (aD c (aD d (fK (by rw[show jk yR a[i] b[i]=_ from zgp _ _];simp) (by rw[au c hl]))))
 ·unfold ee;exact be (aa rfl)
theorem o7(a b:List Wa)(hl:a.length<=9223372036854775807):aK tbl cO [.d (.list yC) a,.d (.list yC) b] [] bB (decide (a=b),()):=by
 refine aG rfl (aF pi rfl (λO n=>eM (hH O n a b)) ?_);unfold hH;refine aA (λh=>aa ?_) λh=>?_;·rw[decide_eq_false];rintro rfl;simp at h
 refine ae (An (a:=a) (b:=b) (by simp at h;omega) (λi c d=>?_) ?_ (λe=>aa (by rw[decide_eq_true e])) λe=>aa (by rw[decide_eq_false e]));·unfold dC;exact bA c (aD c (aD d (fK (by rw[show jk yC a[i] b[i]=_ from zgn _ _];simp) (by rw[au c hl]))))
 ·unfold dC;exact be (aa rfl)
theorem uP(a b:List Bw)(hl:a.length<=9223372036854775807):aK tbl ei [.d (.list yA) a,.d (.list yA) b] [] bZ (decide (a=b),()):=by
 refine aG rfl (aF wb rfl (λO n=>eM (lH O n a b)) ?_);unfold lH;refine aA (λh=>aa ?_) λh=>?_;·rw[decide_eq_false];rintro rfl;simp at h
 refine ae (An (a:=a) (b:=b) (by simp at h;omega) (λi c d=>?_) ?_ (λe=>aa (by rw[decide_eq_true e])) λe=>aa (by rw[decide_eq_false e]));·unfold fL;exact bA c (aD c (aD d (fK (by rw[show jk yA a[i] b[i]=_ from zgm _ _];simp) (by rw[au c hl]))))
 ·unfold fL;exact be (aa rfl)
theorem BE(a b:List V7)(hl:a.length<=9223372036854775807):aK tbl iC [.d (.list yR) a,.d (.list yR) b] [] c9 (decide (a=b),()):=by
 refine aG rfl (aF Dd rfl (λO n=>eM (sx O n a b)) ?_);unfold sx;refine aA (λh=>aa ?_) λh=>?_;·rw[decide_eq_false];rintro rfl;simp at h
 refine ae (An (a:=a) (b:=b) (by simp at h;omega) (λi c d=>?_) ?_ (λe=>aa (by rw[decide_eq_true e])) λe=>aa (by rw[decide_eq_false e]));·unfold jZ;exact bA c (aD c (aD d (fK (by rw[show jk yR a[i] b[i]=_ from zgp _ _];simp) (by rw[au c hl]))))
 ·unfold jZ;exact be (aa rfl)
theorem xO(a b:List Wa)(hl:a.length<=9223372036854775807):aK tbl fF [.d (.list yC) a,.d (.list yC) b] [] cC (decide (a=b),()):=by
 refine aG rfl (aF yw rfl (λO n=>eM (oM O n a b)) ?_);unfold oM;refine aA (λh=>aa ?_) λh=>?_;·rw[decide_eq_false];rintro rfl;simp at h
 refine ae (An (a:=a) (b:=b) (by simp at h;omega) (λi c d=>?_) ?_ (λe=>aa (by rw[decide_eq_true e])) λe=>aa (by rw[decide_eq_false e]));·unfold ii;exact bA c (aD c (aD d (fK (by rw[show jk yC a[i] b[i]=_ from zgn _ _];simp) (by rw[au c hl]))))
 ·unfold ii;exact be (aa rfl)
theorem zhW{d:DFT}(h:okD yF d):zb4 d:=⟨h.1.1,h.2.1.1,λr hr=>(h.2.1.2 r hr).1,h.2.2.1.1⟩
theorem uR(a b:yZ)(c:okD NV a):aK tbl gO [.d NV a,.d NV b] [] dR (decide (a=b),()):=by refine aG rfl (aF Gu rfl (λO n=>eM (uW O n a b)) ?_);unfold uW;refine ae (cG (λ_=>aa rfl) (ae (cG (λ_=>aa rfl) (ae (cG (λ_=>ak (q6 a.2.2.2.1 b.2.2.2.1 c.2.2.2.1.1) (aa rfl)) ?_)))));refine ae (cG (λ_=>ak (S7 a.2.2.2.2.1 b.2.2.2.2.1 (zhW c.2.2.2.2.1)) (aa rfl)) (ae (cG (λ_=>ak (o7 a.2.2.2.2.2.1 b.2.2.2.2.2.1 c.2.2.2.2.2.1.1) (aa rfl)) (aa ?_))));rw[show jk (pr [tW,tI]) a.2.2.1 b.2.2.1=_ from zgo _ _];refine congrArg (λx:Bool=>some (f9 dR (x,()))) (I_.2 ?_);obtain⟨d,e,f,g,h,j,⟨⟩⟩:=a;obtain⟨k,l,p,r,s,u,⟨⟩⟩:=b;simp[and_assoc]
theorem IB(a b:yZ)(j:okD NV a):aK tbl mE [.d NV a,.d NV b] [] gI (decide (a=b),()):=by
 refine aG rfl (aF Ju rfl (λO n=>eM (xS O n a b)) ?_);unfold xS;refine ae (cG (λ_=>aa rfl) (ae (cG (λ_=>aa rfl) (ae (cG (λ_=>ak (BE a.2.2.2.1 b.2.2.2.1 j.2.2.2.1.1) (aa rfl)) ?_)))));refine ae (cG (λ_=>ak (xO a.2.2.2.2.2.1 b.2.2.2.2.2.1 j.2.2.2.2.2.1.1) (aa rfl)) (ae (cG (λ_=>ak (N2 a.2.2.2.2.1 b.2.2.2.2.1 (zhW j.2.2.2.2.1)) (aa rfl)) (aa ?_))));rw[show jk (pr [tW,tI]) a.2.2.1 b.2.2.1=_ from zgo _ _];refine congrArg (λx:Bool=>some (f9 gI (x,()))) (I_.2 ?_);obtain⟨k,l,p,r,s,u,⟨⟩⟩:=a;obtain⟨v,w,y,z,A,B,⟨⟩⟩:=b;simp only[Bool.false_xor,v_,beq_iff_eq,decide_eq_true_eq,aa_.injEq,and_true];constructor;·rintro⟨⟨⟨⟨⟨c,d⟩,e⟩,f⟩,g⟩,h⟩;exact⟨c,d,e,f,h,g⟩
 ·rintro⟨c,d,e,f,h,g⟩;exact⟨⟨⟨⟨⟨c,d⟩,e⟩,f⟩,g⟩,h⟩
theorem FN(a b:lF)(c:okD K1 a):aK tbl j3 [.d K1 a,.d K1 b] [] fb (decide (a=b),()):=by refine aG rfl (aF Gt rfl (λO n=>eM (uV O n a b)) ?_);unfold uV;refine ae (cG (λ_=>ak (uP a.2.1 b.2.1 c.2.1.1) (aa rfl)) (aa ?_));refine congrArg (λx:Bool=>some (f9 fb (x,()))) (I_.2 ?_);obtain⟨d,e,⟨⟩⟩:=a;obtain⟨f,g,⟨⟩⟩:=b;simp
theorem IA(a b:lF)(j:okD K1 a):aK tbl mD [.d K1 a,.d K1 b] [] fc (decide (a=b),()):=by
 refine aG rfl (aF Jt rfl (λO n=>eM (xR O n a b)) ?_);unfold xR;obtain⟨l,d,⟨⟩⟩:=a;obtain⟨p,f,⟨⟩⟩:=b;refine ae (cN (λ_=>aa rfl) (aA (λh=>aa ?_) λh=>?_));·rw[decide_eq_false];intro e;cases e;simp at h
 simp only[Bool.true_xor,k_,C_,beq_iff_eq,bne_eq_false_iff_eq]at h;obtain⟨rfl,g⟩:=h;refine ae (An (a:=d) (b:=f) (by omega) (λi c k=>?_) ?_ (λe=>aa (by rw[e,decide_eq_true rfl])) λe=>aa (by rw[decide_eq_false];intro h;cases h;exact e rfl));·unfold ot;exact bA c (aD c (aD k (fK (by rw[show jk yA d[i] f[i]=_ from zgm _ _];simp) (by rw[au c j.2.1.1]))))
 ·unfold ot;exact be (aa rfl)
theorem QZ(a b:eC)(u:okD yAU a):aK tbl uq [.d yAU a,.d yAU b] [] gz (decide (a=b),()):=by
 refine aG rfl (aF SP rfl (λO n=>eM (GH O n a b)) ?_);unfold GH;obtain⟨f,g,j,w,⟨⟩⟩:=a;obtain⟨k,l,p,x,⟨⟩⟩:=b;obtain⟨r,v,s,_⟩:=u;refine ae (cN (λ_=>aa rfl) (ae (cN (λ_=>aa rfl) (ae (cN (λ_=>aa rfl) (aA (λh=>aa ?_) λh=>?_))))));·rw[decide_eq_false];intro e;cases e;simp at h
 simp only[k_,bne_eq_false_iff_eq]at h;obtain⟨⟨⟨rfl,y⟩,z⟩,A⟩:=h;refine ae (An (a:=f) (b:=k) (by omega) (λi c d=>?_) ?_ (λe=>?_) λe=>aa (by rw[decide_eq_false];intro h;cases h;exact e rfl));·unfold u9;exact bA c (aD c (aD d (ak (IB f[i] k[i] (r.2 _ (b_ c))) (fK (by simp) (by rw[au c r.1])))))
 ·unfold u9;exact be (aa rfl)
 subst e;refine ae (An (a:=g) (b:=l) (by omega) (λi c d=>?_) ?_ (λe=>?_) λe=>aa (by rw[decide_eq_false];intro h;cases h;exact e rfl));·unfold vc;exact bA c (aD c (aD d (fK (by rw[show jk Di g[i] l[i]=_ from Ux _ _];simp) (by rw[au c v.1]))))
 ·unfold vc;exact be (aa rfl)
 subst e;refine ae (An (a:=j) (b:=p) (by omega) (λi c d=>?_) ?_ (λe=>aa (by rw[e,decide_eq_true rfl])) λe=>aa (by rw[decide_eq_false];intro h;cases h;exact e rfl));·unfold vf;exact bA c (aD c (aD d (ak (IA j[i] p[i] (s.2 _ (b_ c))) (fK (by simp) (by rw[au c s.1])))))
 ·unfold vf;exact be (aa rfl)
abbrev Vd(x:Int):Prop:=0<=x/\x<=4294967295
theorem QV(n m:Int):aK tbl um [.d tI n,.d tI m] [] qq (min (max n 0) m,()):=aG rfl (aF SJ rfl (λO k=>eM (Q3 O k n m)) (aa rfl))
theorem zdP(k:Nat):(2:Int)^k=((2^k:Nat):Int):=by induction k with|zero=>rfl|succ k a=>rw[Int.pow_succ,a,Nat.pow_succ];rfl
theorem S5(n:Nat)(hn:n<=32):aK tbl wx [.d tI (n:Int)] [] sS (((4294967295*2^(32 - n)%4294967296:Nat):Int),()):=by
 refine aG rfl (aF VT rfl (λO k=>eM (JE O k (n:Int))) ?_);unfold JE;refine ak (QV (n:Int) 32) ?_;have e:n_ .i64 (32 - min (max (n:Int) 0) 32)=((32 - n:Nat):Int):=by rw[wrap_i64 (by omega) (by omega)];omega
 refine ar (by grind) (aa ?_);simp only[e];rw[show min (U_ ((32 - n:Nat):Int)) (IntKind.bits .u32)=32 - n from by show min _ 32=_;simp,wrap_u32,zdP];rfl
theorem S4(x n:Int)(c:Vd x)(b:0<=n)(d:n<=32):aK tbl ww [.d tW x,.d tI n] [] sR (zc6 x n,()):=by obtain⟨a,rfl⟩:=T_ c.1;obtain⟨k,rfl⟩:=T_ b;refine aG rfl (aF VS rfl (λO m=>eM (JD O m (a:Int) (k:Int))) ?_);unfold JD;refine ak (S5 k (by omega)) (aa ?_);rw[zcq (by omega) (Nat.mod_lt _ (by simp)),zaY (by omega) (by omega)];rfl
theorem BD(p:PFX)(hp:Vd p.1):aK tbl lS [.d yP p] [] jA (Gx p,()):=by refine aG rfl (aF NJ rfl (λO n=>eM (BO O n p)) ?_);unfold BO;refine ae (cG (b:=decide (p.2.1<=32)) (λ_=>aa rfl) ?_);refine ae (cG (b:=(zc6 p.1 p.2.1==p.1)) (λh=>?_) (aa rfl));simp only[v_,decide_eq_true_eq]at h;exact ak (S4 p.1 p.2.1 hp h.1 h.2) (aa rfl)
theorem N0(r:V7)(hr:Vd r.2.1.1):aK tbl r8 [.d yR r] [] iT (rP r,()):=by
 refine aG rfl (aF Pm rfl (λO n=>eM (EN O n r)) ?_);unfold EN;refine ak (BD r.2.1 hr) (aA (λh=>aa ?_) λh=>?_);·unfold rP;rw[if_pos (by simpa using h)]
 ·have a:¬Gx r.2.1=false:=by simpa using h
  refine ae (cN (b:=decide (r.2.2.2.1<r.2.2.1)) (λ_=>aa rfl) (ae (cN (b:=decide (r.2.2.2.1>32)) (λ_=>aa rfl) ?_)));refine aA (λh=>aa ?_) λh=>aa ?_;·unfold rP;rw[if_neg a,if_pos (by simpa[or_assoc]using h)]
  ·unfold rP;rw[if_neg a,if_neg];intro h';simp only[k_,decide_eq_false_iff_not]at h;omega
end Go.Proofs.YtdgiglmmpbndmaaGreatDoor
namespace Go.Pl
open Go.Ev
def F9(g:G)(n:Int)(p:Nat):Bool:=match g.sp[p]? with
 |some q=>decide (q.1<=n)&&decide (n<=q.2)
 |none=>false
theorem zif:∀(r:Rx),hU r=true->∀o,∀q∈(kA r o).sp,0<=q.1/\q.2<=4294967295:=by
 refine qF λk lo s ks u p o=>?_;obtain⟨hn,n⟩:=well_iff.1 p;have d:∀(l:List Rx) (a:G),(∀r∈l,r∈ks)->(∀q∈a.sp,0<=q.1/\q.2<=4294967295)->∀q∈(kX l o a).sp,0<=q.1/\q.2<=4294967295:=by intro l;induction l with|nil=>intro a _ h;exact h|cons r l f=>intro a hl h;refine f _ (λr hr=>hl r (i_ _ hr)) λq b=>?_;rcases s_.1 b with b|b;all_goals grind
 have j:∀(l:List Rx) (a:G),(∀r∈l,r∈ks)->(∀q∈a.sp,0<=q.1/\q.2<=4294967295)->∀q∈(mH l o a).sp,0<=q.1/\q.2<=4294967295:=by intro l;induction l with|nil=>intro a _ h;exact h|cons r l f=>intro a hl h;refine f _ (λr hr=>hl r (i_ _ hr)) λq b=>?_;rcases s_.1 b with b|b;all_goals grind
 have c:∀(e:Bool),∀q∈(g0 e).sp,0<=q.1/\q.2<=4294967295:=λe q b=>by simp[g0]at b
 unfold kA;split;·rename_i g;have:=hn.rng g;intro q b;simp only[V9,d_]at b;grind
 split;·intro q b;simp only[V9,d_]at b;grind
 split;·exact j _ _ (λ_ h=>h) (c _)
 split;·exact d _ _ (λ_ h=>h) (c _)
 split;·exact d _ _ (λ_ h=>h) (c _)
 split;·exact d _ _ (λ_ h=>h) (c _)
 split;·exact d _ _ (λ_ h=>h) (c _)
 grind
open Go Go.Ev Go.Lib
def hd(t:List UInt8):Nat:=(t.headD 0).toNat
def pk(s:List UInt8)(i:Nat):Nat:=(s.getD i 0).toNat
theorem qX(s:List UInt8)(i:Nat):pk s i=hd (s.drop i):=by unfold pk hd;rw[List.headD_eq_head?_getD,List.head?_drop];rfl
theorem kB{s:List UInt8}{i:Nat}(h:pk s i≠0):i<s.length:=by apply h_;intro hn;apply h;unfold pk;rw[am_,y_ (by omega)];rfl
theorem zhb{s:List UInt8}{i:Nat}(h:i<s.length):pk s i=s[i].toNat:=by unfold pk;rw[am_,a_ h];rfl
theorem zha{s:List UInt8}{i:Nat}(h:¬i<s.length):pk s i=0:=by unfold pk;rw[am_,y_ (by omega)];rfl
theorem lX{s a t:List UInt8}{i:Nat}(h:s.drop i=a++t):s.drop (i+a.length)=t:=by rw[<-List.drop_drop,h,List.drop_left]
theorem B4{s t:List UInt8}{b:UInt8}{i:Nat}(h:s.drop i=b::t):s.drop (i+1)=t:=lX (a:=[b]) h
theorem Sa{a t:List UInt8}(h:a≠[]):hd (a++t)=hd a:=by cases a with|nil=>exact absurd rfl h|cons b a=>rfl
def dg(c:Nat):Prop:=48<=c/\c<=57
section
variable (num:Nat->Option (Int×Nat)) (s:List UInt8)
def mj(alt:Nat->Option (Rx×Nat))(i:Nat):Option (Rx×Nat):=
 if pk s i=46 then some (.mk 2 0 0 [],i+1)
 else if pk s i=33 then some (.mk 4 0 0 [],i+1)
 else if pk s i=91 then
  match num (i+1)with
  |none=>none
  |some (lo,j)=>if pk s j=45 then(match num (j+1)with
   |none=>none
   |some (up,k)=>if pk s k=93 then some (.mk 1 lo up [],k+1)else none)else none
 else if pk s i=40 then
  if pk s (i+1)=41 then some (.mk 0 0 0 [],i+2)else
  match alt (i+1)with
  |none=>none
  |some (r,j)=>if pk s j=41 then some (r,j+1)else none
 else match num i with
  |none=>none
  |some (n,j)=>some (.mk 1 n n [],j)
def HW(alt:Nat->Option (Rx×Nat))(i:Nat):Option (Rx×Nat):=
 match mj num s alt i with
 |none=>none
 |some (r,j)=>if pk s j=42 then some (.mk 5 0 0 [r],j+1)else if pk s j=43 then some (.mk 6 0 0 [r],j+1)else if pk s j=63 then some (.mk 7 0 0 [r],j+1)else some (r,j)
def oX(sep:Nat)(one:Nat->Option (Rx×Nat)):Nat->List Rx->Nat->Option (List Rx×Nat)
 |0,_,_=>none
 |f+1,a,i=>match one i with
  |none=>none
  |some (r,j)=>if pk s j=sep then oX sep one f (a++[r]) (j+1)else some (a++[r],j)
def zaS(k:Int)(l:List Rx):Rx:=match l with
 |[x]=>x
 |l=>.mk k 0 0 l
def O5(sep:Nat)(k:Int)(one:Nat->Option (Rx×Nat))(i:Nat):Option (Rx×Nat):=match oX s sep one (s.length+1 - i) [] i with
 |none=>none
 |some (l,j)=>some (zaS k l,j)
def zbg(alt:Nat->Option (Rx×Nat))(i:Nat):Option (Rx×Nat):=O5 s 32 3 (HW num s alt) i
def HV:Nat->Nat->Option (Rx×Nat)
 |0,_=>none
 |b+1,i=>O5 s 124 4 (zbg num s (HV b)) i
end
structure NumOk(s:List UInt8)(num:Nat->Option (Int×Nat)):Prop where
 bnd:∀i n j,i<=s.length->num i=some (n,j)->i<j/\j<=s.length
 txt:∀i (m:Nat) t,s.drop i=decDigits m++t->m<=4294967295->¬dg (hd t)->num i=some ((m:Int),i+(decDigits m).length)
def Bnd(s:List UInt8)(one:Nat->Option (Rx×Nat)):Prop:=∀i r j,i<=s.length->one i=some (r,j)->i<j/\j<=s.length/\sz r<=j - i
section
variable {num:Nat->Option (Int×Nat)} {s:List UInt8}
theorem zcr(hn:NumOk s num){alt:Nat->Option (Rx×Nat)}(g:Bnd s alt):Bnd s (mj num s alt):=by
 intro i r j k h;unfold mj at h;have one:sz (.mk 0 0 0 [])=1:=rfl;split at h;·rename_i p;have:=kB (s:=s) (i:=i) (by omega);cases h;refine⟨by simp,by omega,?_⟩;show 1<=_;simp
 split at h;·have:=kB (s:=s) (i:=i) (by omega);cases h;refine⟨by simp,by omega,?_⟩;show 1<=_;simp
 split at h
 ·have:=kB (s:=s) (i:=i) (by omega);split at h;·grind
  rename_i lo a e;have c:=hn.bnd _ _ _ (by omega) e;split at h
  ·have:=kB (s:=s) (i:=a) (by omega);split at h;·grind
   rename_i up b f;have d:=hn.bnd _ _ _ (by omega) f;split at h;·have:=kB (s:=s) (i:=b) (by omega);cases h;refine⟨by omega,by omega,?_⟩;show 1<=_;omega
   grind
  grind
 split at h
 ·have:=kB (s:=s) (i:=i) (by omega);split at h;·have:=kB (s:=s) (i:=i+1) (by omega);grind
  split at h;·grind
  rename_i r2 a e;obtain⟨c,d,l⟩:=g _ _ _ (by omega) e;split at h;·have:=kB (s:=s) (i:=a) (by omega);grind
  grind
 split at h;·grind
 rename_i n a e;have c:=hn.bnd _ _ _ k e;cases h;refine⟨by omega,by omega,?_⟩;show 1<=_;omega
theorem LU(hn:NumOk s num){alt:Nat->Option (Rx×Nat)}(b:Bnd s alt):Bnd s (HW num s alt):=by
 intro i r j c h;unfold HW at h;split at h;·grind
 rename_i r2 a e;obtain⟨d,f,g⟩:=zcr hn b _ _ _ c e;have hs:∀k:Int,sz (.mk k 0 0 [r2])=sz r2+1:=λk=>by simp only[sz,C4];omega
 split at h;·have:=kB (s:=s) (i:=a) (by omega);grind
 split at h;·have:=kB (s:=s) (i:=a) (by omega);grind
 split at h;·have:=kB (s:=s) (i:=a) (by omega);grind
 grind
theorem TI{one:Nat->Option (Rx×Nat)}(c:Bnd s one){sep:Nat}(d:sep≠0):∀(f:Nat) (b:List Rx) (i:Nat) (l:List Rx) (j:Nat),i<=s.length->oX s sep one f b i=some (l,j)->
 i<j/\j<=s.length/\C4 l+l.length<=C4 b+b.length+(j - i)+1/\b.length<l.length
 |0,_,_,_,_,_,h=>by simp[oX]at h
 |f+1,b,i,l,j,g,h=>by
  rw[oX]at h;split at h;·grind
  rename_i r a e;obtain⟨k,n,p⟩:=c _ _ _ g e;have y:C4 (b++[r])=C4 b+sz r:=by rw[SI];simp[C4]
  split at h;·have:=kB (s:=s) (i:=a) (by omega);obtain⟨u,v,w,x⟩:=TI c d f _ _ _ _ (by omega) h;grind
  grind
theorem Rl{one:Nat->Option (Rx×Nat)}(u:Bnd s one){sep:Nat}(n:sep≠0)(k:Int):Bnd s (O5 s sep k one):=by
 intro i r j p h;unfold O5 at h;split at h;·grind
 rename_i l a e;obtain⟨f,g,c,d⟩:=TI u n _ _ _ _ _ p e;cases h;refine⟨f,g,?_⟩;unfold zaS;split;·simp[C4]at c;omega
 ·rename_i b;have:2<=l.length:=by match l,b,d with|[],_,d=>omega|[x],b,_=>grind|x::y::l,_,_=>simp
  simp only[sz];simp[C4]at c;omega
theorem Rk(hn:NumOk s num):∀b:Nat,Bnd s (HV num s b)
 |0=>λi r j _ h=>by simp[HV]at h
 |b+1=>λi r j a h=>by rw[HV]at h;exact Rl (one:=zbg num s (HV num s b)) (λi r j a h=>Rl (one:=HW num s (HV num s b)) (LU hn (Rk hn b)) (by simp) 3 i r j a h) (by simp) 4 i r j a h
end
mutual
def S3:Rx->Nat
 | .mk _ _ _ ks=>1+WC ks
def WC:List Rx->Nat
 |[]=>0
 |r::a=>max (S3 r) (WC a)
end
theorem K5:∀{ks:List Rx} {r:Rx},r∈ks->S3 r<=WC ks
 |x::ks,r,h=>by
  simp only[WC];rcases ai_.1 h with rfl|h;·omega
  ·have:=K5 h;omega
theorem zcI(w:Bool)(l t:List UInt8):zH w l++t=bif w then 40::(l++41::t)else l++t:=by cases w<;>simp[zH]
def fst(c:Nat):Prop:=dg c\/c=46\/c=33\/c=91\/c=40
theorem Ry(n:Nat):decDigits n≠[]/\dg (hd (decDigits n)):=by have h:=TT n;have a:=G9 n;cases e:decDigits n with|nil=>grind|cons b l=>rw[e]at a;exact⟨by simp,a b (by simp)⟩
theorem Li:∀(r:Rx),hU r=true->nn r≠[]/\fst (hd (nn r)):=by
 refine qF λk lo up ks w v=>?_;obtain⟨hn,j⟩:=well_iff.1 v;have d:∀p:Int,∀x∈ks,inn p x≠[]/\fst (hd (inn p x)):=λp x s=>by
  obtain⟨a,b⟩:=w x s (j x s);unfold inn zH;cases xc p x;·exact⟨a,b⟩
  ·exact⟨by simp,.inr (.inr (.inr (.inr rfl)))⟩
 have n:∀p:Int,∀t:List UInt8,ks≠[]->(ks.map (inn p)).headD []++t≠[]/\fst (hd ((ks.map (inn p)).headD []++t)):=λp t h=>by cases ks with|nil=>exact absurd rfl h|cons x l=>obtain⟨a,b⟩:=d p x (l_ ..);simp only[B_,List.headD_cons];rw[Sa a];exact⟨by simp[a],b⟩
 have u:∀p:Int,∀c:UInt8,ks≠[]->jn c (ks.map (inn p))≠[]/\fst (hd (jn c (ks.map (inn p)))):=λp c h=>by cases ks with|nil=>exact absurd rfl h|cons x l=>obtain⟨a,b⟩:=d p x (l_ ..);cases l with|nil=>exact⟨a,b⟩|cons y l=>simp only[B_,jn];rw[Sa a];exact⟨by simp[a],b⟩
 have f:(k=5\/k=6\/k=7)->ks≠[]:=λh e=>by have:=hn.one h;rw[e]at this;simp at this
 have g:k=3->ks≠[]:=λh e=>by have:=hn.seq h;rw[e]at this;simp at this
 simp only[nn,jx];split;·exact⟨by simp,.inr (.inr (.inr (.inr rfl)))⟩
 split;·exact⟨by simp,.inr (.inl rfl)⟩
 split
 ·split;·exact⟨(Ry _).1,.inl (Ry _).2⟩
  ·exact⟨by simp,.inr (.inr (.inr (.inl rfl)))⟩
 split;·grind
 split;·exact n 6 _ (f (by omega))
 split;·exact n 7 _ (f (by omega))
 split
 ·split;·exact⟨by simp,.inr (.inr (.inl rfl))⟩
  grind
 ·rcases hn.known with h|h|h|h|h|h|h|h<;>try exact absurd h (by assumption)
  exact u 3 32 (g h)
def comp:Rx->Bool
 | .mk k _ _ ks=>bif k==4 then !ks.isEmpty else(k==3||k==5||k==6||k==7)
def L4:Rx->Bool
 | .mk k _ _ ks=>bif k==4 then !ks.isEmpty else k==3
def L5:Rx->Bool
 | .mk k _ _ ks=>bif k==4 then !ks.isEmpty else false
section
variable {num:Nat->Option (Int×Nat)} {s:List UInt8}
theorem XW(hn:NumOk s num){alt:Nat->Option (Rx×Nat)}{r:Rx}(l:hU r=true) (u:comp r=true->∀i t,s.drop i=nn r++t->(hd t=0\/hd t=41)->alt i=some (r,i+(nn r).length)) {i:Nat} {t:List UInt8} (h:s.drop i=zH (comp r) (nn r)++t) (v:¬dg (hd t)):mj num s alt i=some (r,i+(zH (comp r) (nn r)).length):=by
 cases hc:comp r with
 |true=>
  rw[hc,zcI]at h;have h:s.drop i=40::(nn r++41::t):=h;have a:pk s i=40:=by rw[qX,h];rfl
  have b:=B4 h;obtain⟨p,f2⟩:=Li r l;have f:pk s (i+1)≠41:=by rw[qX,b,Sa p];intro e;rw[e]at f2;revert f2;unfold fst dg;simp
  have c:=u hc (i+1) (41::t) b (.inr rfl);have g:pk s (i+1+(nn r).length)=41:=by rw[qX,lX b];rfl
  unfold mj;rw[if_neg (by omega),if_neg (by omega),if_neg (by omega),if_pos a,if_neg f,c];simp only;rw[if_pos g];simp[zH];omega
 |false=>
  rw[hc]at h;have h:s.drop i=nn r++t:=h;show _=some (r,i+(nn r).length);obtain⟨k,lo,up,ks⟩:=r;obtain⟨nd,w⟩:=well_iff.1 l;rcases nd.known with rfl|rfl|rfl|rfl|rfl|rfl|rfl|rfl
  ·have e:=len_nil (nd.leaf (by simp));subst e;obtain⟨rfl,rfl⟩:=nd.zero (by simp);have h:s.drop i=40::41::t:=h;have a:pk s i=40:=by rw[qX,h];rfl
   have f:pk s (i+1)=41:=by rw[qX,B4 h];rfl
   unfold mj;rw[if_neg (by omega),if_neg (by omega),if_neg (by omega),if_pos a,if_pos f];rfl
  ·have e:=len_nil (nd.leaf (by simp));subst e;obtain⟨r1,r2,r3⟩:=nd.rng rfl;by_cases hl:lo=up
   ·subst hl;have d:nn (.mk 1 lo lo [])=decDigits lo.toNat:=by simp[nn]
    rw[d]at h⊢;obtain⟨n,A⟩:=Ry lo.toNat;have a:dg (pk s i):=by rw[qX,h,Sa n];omega
    unfold dg at a;have B:=hn.txt i lo.toNat t h (by omega) v;unfold mj;grind
   ·have d:nn (.mk 1 lo up [])=91::(decDigits lo.toNat++45::(decDigits up.toNat++[93])):=by simp[nn,hl]
    rw[d]at h⊢;have h:s.drop i=91::(decDigits lo.toNat++45::(decDigits up.toNat++93::t)):=by grind
    have a:pk s i=91:=by rw[qX,h];rfl
    have b:=B4 h;have x:=hn.txt _ lo.toNat _ b (by omega) (by show ¬dg 45;unfold dg;simp);have c:=lX b;have g:pk s (i+1+(decDigits lo.toNat).length)=45:=by rw[qX,c];rfl
    have j:=B4 c;have y:=hn.txt _ up.toNat _ j (by omega) (by show ¬dg 93;unfold dg;simp);have z:pk s (i+1+(decDigits lo.toNat).length+1+(decDigits up.toNat).length)=93:=by rw[qX,lX j];rfl
    unfold mj;rw[if_neg (by omega),if_neg (by omega),if_pos a,x];simp only;rw[if_pos g,y];simp only;rw[if_pos z,af_ r1,af_ (by omega)];simp;omega
  ·have e:=len_nil (nd.leaf (by simp));subst e;obtain⟨rfl,rfl⟩:=nd.zero (by simp);have h:s.drop i=46::t:=h;have a:pk s i=46:=by rw[qX,h];rfl
   unfold mj;rw[if_pos a];rfl
  ·exact absurd hc (by simp[comp])
  ·obtain⟨rfl,rfl⟩:=nd.zero (by simp);have e:ks=[]:=by simpa[comp]using hc
   subst e;have h:s.drop i=33::t:=by rw[h];simp[nn]
   have a:pk s i=33:=by rw[qX,h];rfl
   unfold mj;rw[if_neg (by omega),if_pos a];simp[nn]
  ·exact absurd hc (by simp[comp])
  ·exact absurd hc (by simp[comp])
  ·exact absurd hc (by simp[comp])
def f2(c:Nat):Prop:=c=0\/c=41\/c=124\/c=32
def zbP(s:List UInt8)(alt:Nat->Option (Rx×Nat))(b:Nat):Prop:=∀r,hU r=true->S3 r<=b->∀i t,s.drop i=nn r++t->(hd t=0\/hd t=41)->alt i=some (r,i+(nn r).length)
theorem YP(hn:NumOk s num){alt:Nat->Option (Rx×Nat)}{b:Nat}(z:zbP s alt b){r:Rx}(w:hU r=true)(C:S3 r<=b+1)(j:L4 r=true->S3 r<=b){i:Nat}{t:List UInt8} (h:s.drop i=inn 3 r++t) (A:f2 (hd t)):HW num s alt i=some (r,i+(inn 3 r).length):=by
 obtain⟨k,lo,up,ks⟩:=r;obtain⟨nd,g⟩:=well_iff.1 w;have u:¬dg (hd t):=by unfold f2 at A;unfold dg;omega
 by_cases B:k=5\/k=6\/k=7
 ·obtain⟨x,rfl⟩:=wO (nd.one B);obtain⟨rfl,rfl⟩:=nd.zero (by omega);have y:x∈[x]:=l_ ..;have D:=K5 y;have n:S3 x<=b:=by simp only[S3]at C;omega
  have d:∀p:Int,(p=5\/p=6\/p=7)->inn p x=zH (comp x) (nn x):=λp hp=>by
   obtain⟨a,_,_,l⟩:=x;unfold inn;have:((p==5||p==6)||p==7)=true:=by grind
   simp only[xc,comp,this,ar_];have H:(p != 4)=true:=by grind
   grind
  have v:∃c:UInt8,inn 3 (.mk k 0 0 [x])=zH (comp x) (nn x)++[c]/\(c.toNat=42/\k=5\/c.toNat=43/\k=6\/c.toNat=63/\k=7):=by
   rcases B with rfl|rfl|rfl;·refine⟨42,?_,by simp⟩;show nn (.mk 5 0 0 [x])=_;simp[nn,jx,d]
   ·refine⟨43,?_,by simp⟩;show nn (.mk 6 0 0 [x])=_;simp[nn,jx,d]
   ·refine⟨63,?_,by simp⟩;show nn (.mk 7 0 0 [x])=_;simp[nn,jx,d]
  obtain⟨c,e,hc⟩:=v;rw[e]at h⊢;have h:s.drop i=zH (comp x) (nn x)++c::t:=by grind
  have f:=XW hn (g x y) (λ_=>z x (g x y) n) h (by show ¬dg c.toNat;unfold dg;omega);have E:pk s (i+(zH (comp x) (nn x)).length)=c.toNat:=by rw[qX,lX h];rfl
  unfold HW;grind
 ·have e:inn 3 (.mk k lo up ks)=zH (comp (.mk k lo up ks)) (nn (.mk k lo up ks)):=by unfold inn;simp only[xc,comp];grind
  have F:comp (.mk k lo up ks)=L4 (.mk k lo up ks):=by simp only[comp,L4];grind
  rw[e]at h⊢;have f:=XW hn w (λhc=>z _ w (j (by grind))) h u;have E:pk s (i+(zH (comp (.mk k lo up ks)) (nn (.mk k lo up ks))).length)=hd t:=by rw[qX,lX h]
  unfold HW;rw[f];unfold f2 at A;grind
theorem Si{one:Nat->Option (Rx×Nat)}{f:Rx->List UInt8}{sep:UInt8}{E:Nat->Prop}:∀(ks:List Rx),ks≠[]->
 (∀x∈ks,∀i t,s.drop i=f x++t->(E (hd t)\/hd t=sep.toNat)->one i=some (x,i+(f x).length))->
 (∀x∈ks,f x≠[])->∀(b:Nat) (a:List Rx) (i:Nat) (t:List UInt8),s.drop i=jn sep (ks.map f)++t->E (hd t)->hd t≠sep.toNat->s.length+1<=b+i->i<=s.length->
 oX s sep.toNat one b a i=some (a++ks,i+(jn sep (ks.map f)).length)
 |[],h,_,_,_,_,_,_,_,_,_,_,_=>absurd rfl h
 |[x],_,d,c,b,a,i,t,h,j,hs,n,r=>by
  have h:s.drop i=f x++t:=h;have e:=d x (by simp) i t h (.inl j);obtain⟨m,rfl⟩:∃m,b=m+1:=⟨b - 1,by omega⟩;have l:pk s (i+(f x).length)=hd t:=by rw[qX,lX h]
  rw[oX,e];simp only;rw[if_neg (by omega)];rfl
 |x::y::ks,_,d,c,b,a,i,t,h,j,hs,n,r=>by
  have h:s.drop i=f x++sep::(jn sep ((y::ks).map f)++t):=by rw[h];simp[jn]
  have e:=d x (by simp) i _ h (.inr rfl);obtain⟨m,rfl⟩:∃m,b=m+1:=⟨b - 1,by omega⟩;have g:=lX h;have l:pk s (i+(f x).length)=sep.toNat:=by rw[qX,g];rfl
  have u:i+(f x).length<s.length:=by apply h_;intro p;rw[W_ (by omega)]at g;grind
  have:=Si (y::ks) (by simp) (λz k=>d z (i_ _ k)) (λz k=>c z (i_ _ k)) m (a++[x]) (i+(f x).length+1) t (B4 g) j hs (by omega) (by omega);rw[oX,e];simp only;rw[if_pos l,this];simp[jn];omega
theorem HF{k:Int}{l:List Rx}(h:l.length≠1):zaS k l= .mk k 0 0 l:=by
 unfold zaS;split;·simp at h
 ·rfl
theorem seq_ok(hn:NumOk s num){alt:Nat->Option (Rx×Nat)}{b:Nat}(n:zbP s alt b){r:Rx}(u:hU r=true)(p:S3 r<=b+1)(w:L5 r=true->S3 r<=b){i:Nat}{t:List UInt8} (h:s.drop i=inn 4 r++t) (y:hd t=0\/hd t=41\/hd t=124) (z:i<=s.length):zbg num s alt i=some (r,i+(inn 4 r).length):=by
 obtain⟨k,lo,up,ks⟩:=r;obtain⟨nd,d⟩:=well_iff.1 u;unfold zbg O5;by_cases A:k=3
 ·subst A;obtain⟨rfl,rfl⟩:=nd.zero (by simp);have D:2<=(ks.length:Int):=nd.seq rfl;have e:inn 4 (.mk 3 0 0 ks)=jn 32 (ks.map (inn 3)):=by show nn (.mk 3 0 0 ks)=_;simp[nn,jx]
  rw[e]at h⊢;have j:∀x∈ks,S3 x<=b:=λx a=>by have:=K5 a;simp only[S3]at p;omega
  have l:ks≠[]:=by grind
  have:=Si (one:=HW num s alt) (f:=inn 3) (sep:=32) (E:=λc=>c=0\/c=41\/c=124) ks l (λx a i t g hc=>YP hn n (d x a) (by grind) (λ_=>j x a) g (by
   unfold f2;grind)) (λx a=>by
   unfold inn zH;cases xc 3 x;·exact(Li x (d x a)).1
   simp) (s.length+1 - i) [] i t h y (by
   grind) (by omega) z
  have this:oX s 32 (HW num s alt) (s.length+1 - i) [] i=_:=this;rw[this];simp only[L_];rw[HF (by omega)]
 ·have e:inn 4 (.mk k lo up ks)=inn 3 (.mk k lo up ks):=by unfold inn;simp only[xc];grind
  have C:L4 (.mk k lo up ks)=L5 (.mk k lo up ks):=by simp only[L4,L5];grind
  rw[e]at h⊢;have v:=YP hn n u p (by grind) h (by unfold f2;omega);have F:pk s (i+(inn 3 (.mk k lo up ks)).length)=hd t:=by rw[qX,lX h]
  obtain⟨m,B⟩:∃m,s.length+1 - i=m+1:=⟨s.length - i,by omega⟩;rw[B,oX,v];simp only;rw[if_neg (by omega)];simp[zaS]
theorem Rz{a t:List UInt8}{i:Nat}(h:s.drop i=a++t)(c:a≠[]):i<s.length:=by apply h_;intro b;rw[W_ (by omega)]at h;have:=List.append_eq_nil_iff.1 h.symm;grind
theorem zc4(p:Int){x:Rx}(a:hU x=true):inn p x≠[]:=by
 unfold inn zH;cases xc p x;·exact(Li x a).1
 ·simp
theorem zci(hn:NumOk s num):∀b:Nat,zbP s (HV num s b) b
 |0=>λr _ l=>by cases r;simp[S3]at l
 |b+1=>λr p l i t h z=>by
  have w:=Rz h (Li r p).1;have v:=zci hn b;rw[HV];unfold O5;cases hc:L5 r with
  |true=>
   obtain⟨k,lo,up,ks⟩:=r;obtain⟨nd,a⟩:=well_iff.1 p;have A:k=4:=by simp only[L5]at hc;grind
   subst A;obtain⟨rfl,rfl⟩:=nd.zero (by simp);have j:ks≠[]:=by simpa[L5]using hc
   have u:(ks.length:Int)≠1:=nd.alt rfl;have e:nn (.mk 4 0 0 ks)=jn 124 (ks.map (inn 4)):=by simp[nn,jx,j]
   rw[e]at h⊢;have n:∀x∈ks,S3 x<=b:=λx d=>by have:=K5 d;simp only[S3]at l;omega
   have:=Si (one:=zbg num s (HV num s b)) (f:=inn 4) (sep:=124) (E:=λc=>c=0\/c=41) ks j (λx d i t g hc=>seq_ok hn v (a x d) (by grind) (λ_=>n x d) g (by
    grind) (Z_ (Rz g (zc4 4 (a x d))))) (λx d=>zc4 4 (a x d)) (s.length+1 - i) [] i t h z (by
    grind) (by omega) (Z_ w)
   have this:oX s 124 (zbg num s (HV num s b)) (s.length+1 - i) [] i=_:=this;rw[this];simp only[L_];rw[HF (by omega)]
  |false=>
   have e:nn r=inn 4 r:=by
    obtain⟨k,lo,up,ks⟩:=r;unfold inn;simp only[xc];simp only[L5]at hc;cases y:(k==4)
    ·cases C:(k==3);·simp[zH]
     ·simp[zH]
    ·rw[y]at hc;simp only[cond_true]at hc;simp only[cond_true,hc];rfl
   rw[e]at h⊢;have u:=seq_ok hn v p l (λh=>by grind) h (by omega) (Z_ w);have D:pk s (i+(inn 4 r).length)=hd t:=by rw[qX,lX h]
   obtain⟨m,B⟩:∃m,s.length+1 - i=m+1:=⟨s.length - i,by omega⟩;rw[B,oX,u];simp only;rw[if_neg (by omega)];simp[zaS]
end
theorem zfj:∀(r:Rx) (lv c:Int),(IK r lv c).2=0->lv+(S3 r:Int)<=17:=by
 refine qF λk lo up ks f lv c h=>?_;rw[IK]at h;split at h;·omega
 split at h;·omega
 split at h;·omega
 have a:∀(l:List Rx),(∀r∈l,r∈ks)->∀(c:Int),(nF l (lv+1) c).2=0->lv+1+(WC l:Int)<=17:=by
  intro l;induction l with
  |nil=>intro _ c _;simp only[WC];omega|cons r l g=>
   intro b c h;rw[nF]at h;split at h;·omega
   ·rename_i d;have j:=f r (b r (l_ ..)) (lv+1) c (av_.1 d);have n:=g (λx e=>b x (i_ _ e)) _ h;simp only[WC];omega
 have:=a ks (λ_ h=>h) _ h;simp only[S3];omega
theorem zbi{num:Nat->Option (Int×Nat)}{r:Rx}(hn:NumOk (nn r) num)(c:hU r=true){b:Nat}(a:S3 r<=b):HV num (nn r) b 0=some (r,(nn r).length):=by have:=zci hn b r c a 0 [] (by simp) (.inl rfl);grind
end Go.Pl
namespace Go.Proofs.YtdgiglmmpbndmaaGreatDoor
open Go Go.Av Go.Ev Go.Pl
theorem Q0(k n:Int):aK tbl ut [.d tI k,.d tI n] [] gB (CJ k,ql k n,()):=by
 refine aG rfl (aF SQ rfl (λO m=>eM (GJ O m k n)) ?_);unfold GJ;by_cases j:k=0;·subst j;exact nS (λ_=>rfl) rfl
 by_cases l:k=1;·subst l;exact nS (λ_=>rfl) rfl
 by_cases p:k=2;·subst p;exact nS (λ_=>rfl) rfl
 by_cases r:k=3;·subst r;exact nS (λ_=>rfl) rfl
 by_cases s:k=4;·subst s;exact nS (λ_=>rfl) rfl
 by_cases u:k=5;·subst u;exact nS (λ_=>rfl) rfl
 by_cases v:k=6;·subst v;exact nS (λ_=>rfl) rfl
 by_cases w:k=7;·subst w;exact nS (λ_=>rfl) rfl
 have a:(k==(0:Int))=false:=by grind
 have b:(k==(1:Int))=false:=by grind
 have c:(k==(2:Int))=false:=by grind
 have d:(k==(3:Int))=false:=by grind
 have e:(k==(4:Int))=false:=by grind
 have f:(k==(5:Int))=false:=by grind
 have g:(k==(6:Int))=false:=by grind
 have h:(k==(7:Int))=false:=by grind
 simp only[a,b,c,d,e,f,g,h];refine nS (λ_=>rfl) ?_;simp only[CJ,ql,a,b,c,d,e,f,g,h];rfl
theorem Q1(r:Rx):aK tbl uu [.d .rx r] [] iM (yh r.out.1 r.out.2.1 r.out.2.2.1 (r.out.2.2.2.1.length:Int),()):=by
 refine aG rfl (aF SS rfl (λO m=>eM (GK O m r)) ?_);unfold GK;generalize r.out.1=k;generalize r.out.2.1=lo;generalize r.out.2.2.1=b;generalize(r.out.2.2.2.1.length:Int)=n;refine ak (Q0 k n) ?_;unfold yh;cases CJ k;·exact nS (λ_=>rfl) rfl
 cases c:(k==(1:Int))
 ·have a:(k != (1:Int))=true:=by grind
  rw[a];cases(lo != (0:Int))<;>cases(b != (0:Int))<;>cases ql k n<;>exact nS (λ_=>rfl) rfl
 ·have a:(k != (1:Int))=false:=by grind
  rw[a];cases decide (lo<(0:Int))<;>cases decide (lo>b)<;>cases decide (b>(4294967295:Int))<;>cases ql k n<;>exact nS (λ_=>rfl) rfl
theorem zen{k lo up:Int}{ks:List Rx}{M:Nat}(h:sz (.mk k lo up ks)<=M):ks.length<M/\∀r∈ks,sz r<M:=by simp only[sz]at h;have a:=Lm ks;exact⟨by omega,λr hr=>by have:=DL hr;omega⟩
theorem PQ{ks:List Rx}{lv c:Int}:∀{i:Nat},(h:i<ks.length)->(nF (ks.take i) lv c).2=0->nF (ks.take (i+1)) lv c=(let p:=IK ks[i] lv (nF (ks.take i) lv c).1;(p.1,p.2)):=by intro i;induction ks generalizing c i with|nil=>simp|cons r ks b=>intro h a;cases i with|zero=>simp only[List.take_zero,M_,nF,X_];grind|succ i=>simp only[M_,nF,List.getElem_cons_succ]at a⊢;grind
theorem TM{lv:Int}:∀{ks:List Rx} {c:Int} {i:Nat},(nF (ks.take i) lv c).2≠0->nF ks lv c=nF (ks.take i) lv c:=by intro ks;induction ks with|nil=>simp|cons r ks a=>intro c i h;cases i with|zero=>simp[nF]at h|succ i=>simp only[M_,nF]at h⊢;grind
theorem PP:∀(r:Rx) (lv c:Int),0<=c->c<=64->c<=(IK r lv c).1/\(IK r lv c).1<=64:=by
 refine qF λk lo up ks d lv c b a=>?_;have hs:∀(l:List Rx) (lv c:Int),(∀r∈l,r∈ks)->0<=c->c<=64->c<=(nF l lv c).1/\(nF l lv c).1<=64:=by intro l;induction l with|nil=>intro lv c _ b a;exact⟨an_ _,a⟩|cons r l e=>intro lv c hl b a;have hr:=d r (hl r (l_ ..)) lv c b a;simp only[nF];grind
 simp only[IK];grind
theorem N4:∀(r:Rx),sz r<=1048576->∀(lv c:Int),0<=lv->lv<=17->0<=c->c<=64->∃s:Int,((IK r lv c).2=0->s=(IK r lv c).1)/\aK tbl fG [.d .rx r,.d tI lv,.ptr 0 0] [.box aO [.d tI c]] bW ((IK r lv c).2,s,()):=by
 refine qF λk lo up ks E hs lv c B C z A=>?_;obtain⟨u,p⟩:=zen hs;suffices h:∃x:Int×Int×Unit,(x.1=(IK (.mk k lo up ks) lv c).2/\((IK (.mk k lo up ks) lv c).2=0->x.2.1=(IK (.mk k lo up ks) lv c).1))/\aK tbl fG [.d .rx (.mk k lo up ks),.d tI lv,.ptr 0 0] [.box aO [.d tI c]] bW x by grind
 refine gT (sh:=bW) (λ_=>rfl) (aF Ir rfl (λO m=>eM (wt O m (.mk k lo up ks) lv c)) ?_);unfold wt;refine aA (λh=>aa ⟨_,rfl,?_⟩) λh=>?_
 ·have h:lv>16:=by grind
  simp only[IK,if_pos h];simp
 have f:¬lv>16:=by grind
 refine aA (λh=>aa ⟨_,rfl,?_⟩) λh=>?_
 ·have h:c>=64:=by grind
  simp only[IK,if_neg f,if_pos h];simp
 have n:¬c>=64:=by grind
 refine ak (Q1 _) ?_;show Wp _ _;refine aA (λh=>aa ⟨_,rfl,?_⟩) λh=>?_
 ·have h:yh k lo up ks.length≠0:=by have h:(yh k lo up ks.length != 0)=true:=h;grind
  simp only[IK,if_neg f,if_neg n,if_pos h];exact⟨rfl,λh'=>absurd h' h⟩
 have y:¬yh k lo up ks.length≠0:=by have h:(yh k lo up ks.length != 0)=false:=h;grind
 have v:IK (.mk k lo up ks) lv c=nF ks (lv+1) (c+1):=by simp only[IK,if_neg f,if_neg n,if_neg y]
 rw[v,wrap_i64 (by omega) (by omega)];have a:∀i,(nF (ks.take i) (lv+1) (c+1)).2=0->0<=(nF (ks.take i) (lv+1) (c+1)).1/\(nF (ks.take i) (lv+1) (c+1)).1<=64:=by
  intro i;induction i with
  |zero=>intro _;simp[nF];omega|succ i l=>
   intro w;by_cases b:i<ks.length
   ·have d:(nF (ks.take i) (lv+1) (c+1)).2=0:=h_ λhn=>by have:=TM (ks:=ks.take (i+1)) (lv:=lv+1) (c:=c+1) (i:=i) (by grind);grind
    rw[PQ b d];have hr:=l d;have:=PP ks[i] (lv+1) _ hr.1 hr.2;grind
   ·rw[show ks.take (i+1)=ks.take i by rw[o_ (by omega),o_ (by omega)]]at w⊢;omega
 refine ae (bi (N:=ks.length) (I:=λi s=>s=((i:Int),(nF (ks.take i) (lv+1) (c+1)).1,())/\(nF (ks.take i) (lv+1) (c+1)).2=0) (by simp[nF]) (λi s b hs=>?_) λs hs=>?_)
 ·obtain⟨rfl,d⟩:=hs;unfold mZ;refine bA b (aD b ?_);rw[vX,wrap_i64 (by omega) (by omega)];have hr:=b_ b;have e:=a i d;obtain⟨s,g,j⟩:=E ks[i] hr (by grind) (lv+1) _ (by omega) (by omega) e.1 e.2;refine ak j ?_;have D:=PQ b d;refine aA (λh=>aa ?_) λh=>aa ?_
  ·have hn:(IK ks[i] (lv+1) (nF (ks.take i) (lv+1) (c+1)).1).2≠0:=by grind
   have F:=TM (ks:=ks) (lv:=lv+1) (c:=c+1) (i:=i+1) (by grind);refine aa ⟨_,rfl,?_⟩;grind
  ·have hn:(IK ks[i] (lv+1) (nF (ks.take i) (lv+1) (c+1)).1).2=0:=by grind
   refine⟨?_,by grind⟩;rw[au b (by omega),D,g hn]
 ·obtain⟨rfl,d⟩:=hs;unfold mZ;refine be (aa (aa ⟨_,rfl,?_⟩));grind
def pV(r:Rx):Int:=(IK r 1 0).2
theorem EH(r:Rx)(hs:sz r<=1048576):aK tbl nz [.d .rx r] [] kL (pV r,()):=by refine aG rfl (aF Pq rfl (λO m=>eM (ER O m r)) ?_);unfold ER;obtain⟨s,_,h⟩:=N4 r hs 1 0 (by simp) (by simp) (by simp) (by simp);exact ak h (aa rfl)
theorem zcw:∀(r:Rx) (lv c:Int),(IK r lv c).2=0->hU r=true/\(IK r lv c).1=c+(sz r:Int):=by
 refine qF λk lo up ks p lv c h=>?_;have hs:∀(l:List Rx) (lv c:Int),(∀r∈l,r∈ks)->(nF l lv c).2=0->(∀r∈l,hU r=true)/\(nF l lv c).1=c+(C4 l:Int):=by
  intro l;induction l with
  |nil=>intro lv c _ _;exact⟨by simp,by simp[nF,C4]⟩|cons r l f=>
   intro lv c hl h;simp only[nF]at h⊢;split at h;·omega
   ·rename_i d;rw[if_neg d];have d:(IK r lv c).2=0:=by omega
    obtain⟨g,e⟩:=p r (hl r (l_ ..)) lv c d;obtain⟨s,n⟩:=f lv _ (λx j=>hl x (i_ _ j)) h;refine⟨λx j=>?_,by rw[n,e];simp only[C4];omega⟩;grind
 simp only[IK]at h⊢;split at h;·omega
 split at h;·omega
 split at h;·omega
 ·rename_i a b d;rw[if_neg a,if_neg b,if_neg d];obtain⟨g,e⟩:=hs ks (lv+1) (c+1) (λ_ h=>h) h;have d:yh k lo up ks.length=0:=by omega
  exact⟨well_iff.2 ⟨nodeE_zero.1 d,g⟩,by rw[e];simp only[sz];omega⟩
theorem Do{r:Rx}(h:pV r=0):hU r=true/\sz r<=64:=by obtain⟨a,b⟩:=zcw r 1 0 h;have:=PP r 1 0 (by simp) (by simp);grind
open Go Go.Av Go.Ev Go.Pl Go.Lib
theorem zgG{n:Int}(c:0<=n)(d:n<=4294967295):aK tbl lU [.d tI n] [] vS (decDigits n.toNat,()):=by
 refine zaI NM ?_ rfl;have a:zfy n=true:=by simp only[zfy,v_,decide_eq_true_eq];omega
 have b:Lib.itoa n=decDigits n.toNat:=by unfold Lib.itoa;grind
 simp only[Dz,a,cond_true,b];rfl
theorem Iy{n:Int}(a:0<=n)(b:n<=4294967295):aK tbl io [.d tI n] [] fN (decDigits n.toNat,()):=by refine aG rfl (aF KW rfl (λO k=>eM (AF O k n)) ?_);unfold AF;exact ak (zgG a b) (aa rfl)
theorem zeC(ks:List Rx)(i:Nat):C4 (ks.take i)<=C4 ks:=by have:=SI (ks.take i) (ks.drop i);rw[List.take_append_drop]at this;omega
theorem zc3(p:Int){x:Rx}(a:hU x=true):(inn p x).length+1<=26*sz x:=by have:=YN p x;have:=Sq x a;omega
theorem zgE(p:Int):∀l:List Rx,(∀x∈l,hU x=true)->((l.map (inn p)).map λx=>x.length+1).sum<=26*C4 l
 |[],_=>by simp
 |r::l,h=>by have b:=zc3 p (h r (l_ ..));have c:=zgE p l λx a=>h x (i_ _ a);simp only[B_,List.sum_cons,C4]at*;omega
theorem ziq(c:UInt8)(p:Int)(l:List Rx)(h:∀x∈l,hU x=true):(jn c (l.map (inn p))).length<=26*C4 l:=r_ (WV c _) (zgE p l h)
theorem Pv{α β:Type}(f:α->β){l:List α}{i:Nat}(h:i<l.length):(l.take (i+1)).map f=(l.take i).map f++[f l[i]]:=by rw[List.take_add_one,a_ h,K_];rfl
theorem Au(k:Int):aK tbl kt [.d tI k] [] iu (k==5||k==6||k==7,()):=by refine aG rfl (aF KZ rfl (λO m=>eM (AI O m k)) ?_);unfold AI;cases(k==(5:Int))<;>cases(k==(6:Int))<;>exact nS (λ_=>rfl) rfl
theorem UF(ks:List Rx):decide ((ks.length:Int)>0)= !ks.isEmpty:=by cases ks with|nil=>rfl|cons x l=>simp
theorem zeK(p k lo up:Int)(ks:List Rx):xc p (.mk k lo up ks)=bif k==4 then !ks.isEmpty else bif k==3 then p != 4 else(k==5||k==6||k==7)&&(p==5||p==6||p==7):=rfl
theorem Kb(p:Int)(x:Rx):aK tbl nZ [.d tI p,.d .rx x] [] fP (xc p x,()):=by
 obtain⟨k,lo,up,ks⟩:=x;refine aG rfl (aF K0 rfl (λO m=>eM (AJ O m p (.mk k lo up ks))) ?_);unfold AJ;rw[zeK];refine aA (λh=>aa ?_) λh=>?_;·have h:(k==4)=true:=h;rw[h,cond_true,<-UF];rfl
 have h:(k==4)=false:=h;rw[h,cond_false];refine aA (λh=>aa ?_) λh=>?_;·have h:(k==3)=true:=h;grind
 have h:(k==3)=false:=h;rw[h,cond_false];refine ak (Au k) (ae (cG (b:=(p==5||p==6||p==7)) (λ_=>ak (Au p) (aa rfl)) (aa rfl)))
theorem UH(p:Int)(x:Rx)(hl:(nn x).length<=1000000)(h:aK tbl iD [.d .rx x] [] fo (nn x,())):aK tbl gD [.d tI p,.d .rx x] [] d9 (inn p x,()):=by
 refine aG rfl (aF Pt rfl (λO m=>eM (EU O m p x)) ?_);unfold EU;refine ak h (ak (Kb p x) (aA (λa=>ar (decide_eq_true ?_) (ar (decide_eq_true ?_) (aa ?_))) λa=>aa ?_));·grind
 ·grind
 ·have a:xc p x=true:=a;unfold inn;rw[a];rfl
 ·have a:xc p x=false:=a;unfold inn;rw[a];rfl
theorem QI(k lo up:Int)(ks:List Rx)(c:UInt8)(f:∀x∈ks,hU x=true)(w:C4 ks<=1000)(h:∀x∈ks,aK tbl iD [.d .rx x] [] fo (nn x,())): Wp (λn=>aT n (pJ (tj tbl n) n (.mk k lo up ks) ([c],())) (([]:List UInt8),(0:Int),())) λt=>t=(jn c (ks.map (inn k)),()):=by
 have g:=Lm ks;refine bi (N:=ks.length) (I:=λi s=>s=(jn c ((ks.take i).map (inn k)),(i:Int),())) rfl ?_ ?_
 ·rintro i s b rfl;have d:=b_ b;have u:=ziq c k (ks.take i) λx r=>f x (List.mem_of_mem_take r);have p:=zeC ks i;have j:=zc3 k (f _ d);have l:=DL d;have hp:=Sq _ (f _ d);unfold pJ;refine bA b (aD b ?_);have hc:=UH k ks[i] (by omega) (h _ d);rw[Pv _ b,YQ];refine ae (Ev.wp_mono (Q:=λv=>v=((if(ks.take i).map (inn k)=[]then []else jn c ((ks.take i).map (inn k))++[c]),ks[i].out.1,ks[i].out.2.1,ks[i].out.2.2.1,ks[i].out.2.2.2.1,())) (aA (λa=>ar (decide_eq_true ?_) (aa ?_)) λa=>aa ?_) ?_);·grind
  ·have a:(i:Int)>0:=of_decide_eq_true a;rw[if_neg (by intro e;have:=congrArg List.length e;grind)];rfl
  ·have a:¬(i:Int)>0:=of_decide_eq_false a;have:i=0:=by omega
   subst this;rfl
  rintro v rfl;rw[vX];refine ak hc (ar (decide_eq_true ?_) (aa ?_));·grind
  ·show(_,n_ .i64 ((i:Int)+1),())=_;rw[au b (by omega)];grind
 ·rintro s rfl;unfold pJ;rw[List.take_length];exact be (aa rfl)
theorem Q2:∀(r:Rx),hU r=true->sz r<=1000->aK tbl iD [.d .rx r] [] fo (nn r,()):=by
 refine qF λk lo up ks l j hs=>?_;obtain⟨nd,a⟩:=well_iff.1 j;have hsz:C4 ks<=1000:=by simp only[sz]at hs;omega
 have c:∀x∈ks,aK tbl iD [.d .rx x] [] fo (nn x,()):=λx b=>l x b (a x b) (by have:=DL b;omega);refine aG rfl (aF SU rfl (λO m=>eM (GL O m (.mk k lo up ks))) ?_);unfold GL;have one:∀x,ks=[x]->∀p:Int,aK tbl gD [.d tI p,.d .rx x] [] d9 (inn p x,())/\(inn p x).length<=26000:=λx e p=>by
  have b:x∈ks:=by grind
  have s:=Sq x (a x b);have u:=DL b;have v:=zc3 p (a x b);exact⟨UH p x (by omega) (c x b),by omega⟩
 rcases nd.known with rfl|rfl|rfl|rfl|rfl|rfl|rfl|rfl;·refine ae (bc rfl (aa (aa ?_)));simp[nn]
 ·obtain⟨r1,r2,r3⟩:=nd.rng rfl;refine ae (aH rfl (aH rfl (bc rfl (aA (λh=>?_) λh=>?_))))
  ·have h:(lo==up)=true:=h;have h:lo=up:=by grind
   subst h;refine ak (Iy (n:=lo) r1 r3) (aa (aa ?_));simp[nn]
  ·have h:(lo==up)=false:=h;have h:lo≠up:=by grind
   have l1:=zh (n:=lo.toNat) (by omega);have l2:=zh (n:=up.toNat) (by omega);refine ak (Iy (n:=lo) r1 (by omega)) (ar (decide_eq_true ?_) (ar (decide_eq_true ?_) (ak (Iy (n:=up) (by omega) r3) (ar (decide_eq_true ?_) (ar (decide_eq_true ?_) (aa (aa ?_)))))));·grind
   ·grind
   ·grind
   ·grind
   ·simp[nn,h]
 ·refine ae (aH rfl (bc rfl (aa (aa ?_))));simp[nn]
 ·obtain⟨rfl,rfl⟩:=nd.zero (by simp);refine ae (aH rfl (aH rfl (aH rfl (aH rfl (aH rfl (aH rfl (aH rfl (aa ?_))))))));refine ae (Ev.wp_mono (QI 3 0 0 ks 32 a hsz c) ?_);rintro t rfl;refine aa ?_;simp[nn,jx]
 ·obtain⟨rfl,rfl⟩:=nd.zero (by simp);refine ae (aH rfl (aH rfl (aH rfl (aH rfl (aH rfl (aH rfl (bc rfl (aA (λh=>aa (aa ?_)) λh=>aa ?_))))))));·have h:((ks.length:Int)==0)=true:=h;have h:=len_nil (by simpa using h);subst h;simp[nn]
  ·have h:((ks.length:Int)==0)=false:=h;have f:ks≠[]:=by grind
   refine ae (Ev.wp_mono (QI 4 0 0 ks 124 a hsz c) ?_);rintro t rfl;refine aa ?_;simp[nn,jx,f]
 ·obtain⟨rfl,rfl⟩:=nd.zero (by simp);obtain⟨x,rfl⟩:=wO (nd.one (by simp));obtain⟨d,g⟩:=one x rfl 5;refine ae (aH rfl (aH rfl (aH rfl (bc rfl (dt (by simp) rfl (ak d (ar (decide_eq_true ?_) (aa (aa ?_)))))))));·grind
  ·simp[nn,jx]
 ·obtain⟨rfl,rfl⟩:=nd.zero (by simp);obtain⟨x,rfl⟩:=wO (nd.one (by simp));obtain⟨d,g⟩:=one x rfl 6;refine ae (aH rfl (aH rfl (aH rfl (aH rfl (bc rfl (dt (by simp) rfl (ak d (ar (decide_eq_true ?_) (aa (aa ?_))))))))));·grind
  ·simp[nn,jx]
 ·obtain⟨rfl,rfl⟩:=nd.zero (by simp);obtain⟨x,rfl⟩:=wO (nd.one (by simp));obtain⟨d,g⟩:=one x rfl 7;refine ae (aH rfl (aH rfl (aH rfl (aH rfl (aH rfl (bc rfl (dt (by simp) rfl (ak d (ar (decide_eq_true ?_) (aa (aa ?_)))))))))));·grind
  ·simp[nn,jx]
theorem N3(r:Rx)(hs:sz r<=1048576):aK tbl kH [.d .rx r] [] iU (if pV r=0 then nn r else [],pV r,()):=by
 refine aG rfl (aF Ps rfl (λO m=>eM (ET O m r)) ?_);unfold ET;refine ak (EH r hs) (aA (λh=>aa ?_) λh=>?_);·grind
 ·have h:pV r=0:=by grind
  obtain⟨a,b⟩:=Do h;refine ak (Q2 r a (by omega)) (aa ?_);grind
end Go.Proofs.YtdgiglmmpbndmaaGreatDoor
namespace Go.Ev
open Go Go.RowKit Go.Av
section
variable {tbl:Nat->Option Fun'}
def eK(tbl:Nat->Option Fun')(f:Nat)(ars:List V)(os:List Ob)(sh:Sh)(o:Option (HL sh.sl)):Prop:=∃a,∀n,a<=n->lx (tj tbl n) f ars os sh=some o
theorem PM{f:Nat}{ars:List V}{os:List Ob}{sh:Sh}{R:Option (HL sh.sl)->Prop}(hp:∀c,qW sh (f9 sh c)=some c)(h:Conv tbl f ars os λo=>∃c:Option (HL sh.sl),o=c.map (f9 sh)/\R c):∃o,R o/\eK tbl f ars os sh o:=by obtain⟨o,⟨c,rfl,hr⟩,b,hn⟩:=h;refine⟨c,hr,b,λn a=>?_⟩;have e:=hn n a;unfold lx;have e:tj tbl n f ars os=_:=e;cases c with|none=>grind|some c=>rw[e];have:=hp c;unfold qW at this;grind
theorem uJ{f:Nat}{ars:List V}{os:List Ob}{sh:Sh}{o:Option (HL sh.sl)}(hp:∀c,qW sh (f9 sh c)=some c)(h:Conv tbl f ars os (·=o.map (f9 sh))):eK tbl f ars os sh o:=by obtain⟨o',rfl,b⟩:=PM (R:=λc=>c=o) hp (PW h λx a=>⟨o,a,rfl⟩);omega
theorem jD{f:Nat}{ars:List V}{os:List Ob}{sh:Sh}{β:Type}{k:Nat->Option (HL sh.sl)->Option β}{Q:β->Prop}{o:Option (HL sh.sl)}(h:eK tbl f ars os sh o)(a:Wp (λn=>k n o) Q):Wp (λn=>j_ (lx (tj tbl n) f ars os sh) (k n)) Q:=by obtain⟨b,hn⟩:=h;exact ae ⟨o,a,b,hn⟩
end
end Go.Ev
namespace Go.Proofs.YtdgiglmmpbndmaaGreatDoor
open Go Go.Av Go.Ev Go.Pl Go.Lib
theorem S6(s:List UInt8)(hs:s.length<=1048576):∃c:Bool×Unit,((∀n,s=decDigits n->c=(true,()))/\(c.1=true->s≠[]))/\aK tbl lg [.d tS s] [] dw c:=by
 refine gT (sh:=dw) (λ_=>rfl) (aF Im rfl (λO k=>eM (wn O k s)) ?_);unfold wn;refine ae (cN (b:=decide ((s.length:Int)>(1:Int))&&(((s.getD 0 0).toNat:Int)==(48:Int))) (λg=>ae (cG (b:=(((s.getD 0 0).toNat:Int)==(48:Int))) (λj=>?_) (aa rfl))) ?_)
 ·have hl:1<s.length:=by grind
  refine dt (x:=s.getD 0 0) (an_ _) ?_ (aa rfl);grind
 ·refine aA (λh=>aa ⟨(false,()),rfl,λn hn=>?_,λh=>by grind⟩) (λh=>?_);·exfalso;have hp:=TT n;have p:=zaL n;grind
  ·have d:s≠[]:=by grind
   refine ae (Wp.imp (Q:=λr=>match r with| .inl v=>v.1=false/\∀n,s≠decDigits n| .inr _=>True) (bi (N:=s.length) (I:=λi st=>st=((i:Int),())) rfl (λi st e a=>?_) λst a=>?_) λr hr=>?_)
   ·subst a;unfold mV;have f:=a_ e;refine aA (λ_=>?_) (λh=>absurd h (by grind));refine dt (O_ _) f ?_;refine ae (cN (b:=decide ((s[i].toNat:Int)>(57:Int))) (λ_=>dt (O_ _) f (aa rfl)) ?_);refine aA (λl=>aa ⟨rfl,λn hn=>?_⟩) (λ_=>aa ?_);·have:=G9 n s[i] (by grind);unfold MK at this;grind
    ·simp only;rw[au e (by omega)]
   ·subst a;unfold mV;exact aA (λh=>absurd h (by simp)) λ_=>aa trivial
   ·cases r with|inl v=>exact aa ⟨_,rfl,λn hn=>absurd hn (hr.2 n),λ_=>d⟩|inr v=>exact aa ⟨_,rfl,λ_ _=>rfl,λ_=>d⟩
theorem zbQ(s:List UInt8)(hs:s.length<=1048576):∃c:Int×Int×Unit,((∀m:Nat,m<=4294967295->s=decDigits m->c=((m:Int),(0:Int),()))/\(c.2.1=0->s≠[]))/\aK tbl lR [.d tS s,.d tI (4294967295:Int)] [] dF c:=by
 obtain⟨L,⟨H,z⟩,b⟩:=S6 s hs;refine gT (sh:=dF) (λ_=>rfl) (aF NF rfl (λO k=>eM (BK O k s 4294967295)) ?_);unfold BK;refine ak b (aA (λh=>aa ⟨_,rfl,λm a hn=>?_,λM=>by grind⟩) (λhc=>?_));·grind
 have d:s≠[]:=z (by grind);refine ae (Wp.imp (Q:=λr=>match r with| .inl v=>∀m:Nat,m<=4294967295->s≠decDigits m| .inr v=>∀m:Nat,m<=4294967295->s=decDigits m->v.1=m) (bi (N:=s.length) (I:=λi st=>st.2.1=(i:Int)/\∀m:Nat,m<=4294967295->s=decDigits m->st.1=(Df (s.take i):Int)) ⟨rfl,λ_ _ _=>rfl⟩ (λi st A f=>?_) λst f=>?_) λr hr=>?_)
 ·obtain⟨n,j,_⟩:=st;obtain⟨g,p⟩:=f;simp only at g p;subst g;unfold ry;have J:=a_ A;have D:∀m:Nat,m<=4294967295->s=decDigits m->n=(Df (s.take i):Int)/\Df (s.take i)<=4294967295/\MK s[i]/\Df (s.take (i+1))<=4294967295/\Df (s.take (i+1))=10*Df (s.take i)+(s[i].toNat - 48):=λm a hn=>by
   have P:Df s=m:=by rw[hn,TU]
   have hd:MK s[i]:=G9 m s[i] (by grind);have e:s.getD i 0=s[i]:=by grind
   exact⟨p m a hn,by have:=QP (l:=s) (k:=i) (by omega);omega,hd,by have:=QP (l:=s) (k:=i+1) (by omega);omega,by rw[takeD A,Jy,e]⟩
  have w:MK s[i]->n_ .i64 (n_ .u8 ((s[i].toNat:Int) - 48))=((s[i].toNat - 48:Nat):Int):=λh=>by unfold MK at h;rw[wrap_u8,wrap_i64 (by omega) (by omega)];omega
  refine aA (λ_=>?_) (λh=>absurd h (by grind));refine dt (O_ _) J ?_;refine ar rfl (aA (λC=>aa λm a hn=>?_) (λ_=>aa ⟨?_,λm a hn=>?_⟩));·obtain⟨y,E,x,F,B⟩:=D m a hn;have u:=of_decide_eq_true C;rw[w x,y]at u;unfold MK at x;rw[wrap_i64 (n:=9223372036854775807 - ((s[i].toNat - 48:Nat):Int)) (by omega) (by omega),Int.tdiv_eq_ediv_of_nonneg (by omega),wrap_i64 (by omega) (by omega)]at u;omega
  ·simp only;rw[au A (by omega)]
  ·obtain⟨y,E,x,F,B⟩:=D m a hn;simp only;rw[w x,y,wrap_i64 (n:=10*((Df (s.take i):Nat):Int)) (by omega) (by omega),wrap_i64 (by omega) (by omega),B];simp
 ·obtain⟨n,j,_⟩:=st;obtain⟨g,p⟩:=f;simp only at g p;subst g;unfold ry;refine aA (λh=>absurd h (by simp)) λ_=>aa λm a hn=>?_;simp only;rw[p m a hn,o_ (u_ _),hn,TU]
 ·cases r with|inl v=>exact aa ⟨_,rfl,λm a hn=>absurd hn (hr m a),λ_=>d⟩|inr v=>refine aA (λC=>aa ⟨_,rfl,λm a hn=>?_,λ_=>d⟩) (λ_=>aa ⟨_,rfl,λm a hn=>?_,λ_=>d⟩);all_goals grind
theorem BA(s:List UInt8)(i:Nat):aK tbl bC [.ptr 0 0] [.box aJ [.d tS s,.d tI (i:Int)]] bk ((pk s i:Int),s,(i:Int),()):=by
 refine aG rfl (aF Bv rfl (λO m=>eM (qR O m s (i:Int))) ?_);unfold qR;refine aA (λh=>?_) λh=>aa ?_
 ·have h:i<s.length:=by grind
  refine aD h (aa ?_);rw[zhb h]
 ·have h:¬i<s.length:=by grind
  rw[zha h];rfl
structure Run(s:List UInt8)(i j:Nat):Prop where
 le:i<=j
 top:j<=s.length
 all:∀k,i<=k->k<j->dg (pk s k)
theorem zal{s:List UInt8}{i j m:Nat}{t:List UInt8}(h:Run s i j)(p:¬dg (pk s j))(a:s.drop i=decDigits m++t)(u:¬dg (hd t)):j=i+(decDigits m).length/\(s.take j).drop i=decDigits m:=by
 have n:∀k,i<=k->k<i+(decDigits m).length->dg (pk s k):=λk f g=>by
  have hl:k - i<(decDigits m).length:=by omega
  have e:s[k]? =some (decDigits m)[k - i]:=by
   have c:(s.drop i)[k - i]? =s[k]? :=by rw[List.getElem?_drop];congr 1;omega
   grind
  have d:=G9 m _ (b_ hl);unfold pk;rw[am_,e];exact d
 have c:¬dg (pk s (i+(decDigits m).length)):=by rw[qX,lX a];omega
 have r:j=i+(decDigits m).length:=by
  apply h_;intro hn;have:=h.le;rcases Nat.lt_or_gt_of_ne hn with l|b;·grind
  ·exact c (h.all _ (by simp) b)
 grind
theorem zbX(s:List UInt8)(hs:s.length<=1048576)(i:Nat)(u:i<=s.length):∃o:Option (Int×Nat),(∀n j,o=some (n,j)->i<j/\j<=s.length)/\(∀(m:Nat) t,s.drop i=decDigits m++t->m<=4294967295->¬dg (hd t)->o=some ((m:Int),i+(decDigits m).length))/\eK tbl bp [.ptr 0 0] [.box aJ [.d tS s,.d tI (i:Int)]] q_regex_parser_number_r (o.map λx=>(x.1,s,(x.2:Int),())):=by
 suffices h:∃v:Option (HL q_regex_parser_number_r.sl),(∃o:Option (Int×Nat),v=o.map (λx=>(x.1,s,(x.2:Int),()))/\(∀n j,o=some (n,j)->i<j/\j<=s.length)/\(∀(m:Nat) t,s.drop i=decDigits m++t->m<=4294967295->¬dg (hd t)->o=some ((m:Int),i+(decDigits m).length)))/\eK tbl bp [.ptr 0 0] [.box aJ [.d tS s,.d tI (i:Int)]] q_regex_parser_number_r v by
  obtain⟨v,⟨o,rfl,b,d⟩,r⟩:=h
  exact⟨o,b,d,r⟩
 refine PM (λ_=>rfl) (aF yx rfl (λO m=>eM (oN O m s (i:Int))) ?_);unfold oN;refine ae (Ev.wp_mono (Ev.wp_loop (Q:=λt=>∃j:Nat,t=(s,(j:Int),())/\Run s i j/\¬dg (pk s j)) (λt=>∃j:Nat,t=(s,(j:Int),())/\Run s i j) (λt=>s.length - t.2.1.toNat) ⟨i,rfl,⟨u_ _,u,λk b d=>absurd d (by omega)⟩⟩ ?_) ?_)
 ·rintro t ⟨j,rfl,hr⟩;unfold mO;refine ak (BA s j) (aA (λh=>?_) λh=>aa ⟨j,rfl,hr,?_⟩)
  ·have h:(pk s j:Int)>=48:=of_decide_eq_true h;have f:=kB (s:=s) (i:=j) (by omega);refine ak (BA s j) (aA (λh'=>aa ?_) λh'=>aa ⟨j,rfl,hr,?_⟩)
   ·have h':(pk s j:Int)<=57:=of_decide_eq_true h';refine⟨⟨j+1,?_,⟨by have:=hr.le;omega,by omega,λk b d=>?_⟩⟩,?_⟩;·show(s,n_ .i64 ((j:Int)+1),())=_;rw[au f (by omega)]
    ·by_cases e:k=j;·subst e;exact⟨by omega,by omega⟩
     ·exact hr.all k b (by omega)
    ·show s.length - (n_ .i64 ((j:Int)+1)).toNat<s.length - (j:Int).toNat;rw[au f (by omega)];omega
   ·have h':¬(pk s j:Int)<=57:=of_decide_eq_false h';unfold Pl.dg;omega
  ·have h:¬(pk s j:Int)>=48:=of_decide_eq_false h;unfold Pl.dg;omega
 ·rintro t ⟨j,rfl,hr,l⟩;have b:=hr.le;have d:=hr.top;refine ar (decide_eq_true (by simp)) (ar (decide_eq_true (by simp)) (ar ?_ ?_));·grind
  show Wp (λn=>j_ (aC (tj tbl n) lR [.d tS ((s.take (U_ (j:Int))).drop (U_ (i:Int))),.d tI (4294967295:Int)] [] dF) _) _;rw[q_,q_];obtain⟨c,⟨y,z⟩,hc⟩:=zbQ ((s.take j).drop i) (by grind);refine ak (c:=c) hc (ae (aA (λh=>aa ?_) λh=>aa ?_))
  ·have h:c.2.1≠0:=by grind
   refine aa ⟨none,rfl,none,rfl,(λ_ _ h=>by grind),λm t a w g=>?_⟩;obtain⟨_,p⟩:=zal hr l a g;grind
  ·have h:c.2.1=0:=by grind
   refine aa ⟨some (c.1,s,(j:Int),()),rfl,some (c.1,j),rfl,?_,λm t a w g=>?_⟩;·grind
   ·obtain⟨A,p⟩:=zal hr l a g;grind
theorem zhE(s:List UInt8)(hs:s.length<=1048576):∃num:Nat->Option (Int×Nat),NumOk s num/\∀i,i<=s.length->eK tbl bp [.ptr 0 0] [.box aJ [.d tS s,.d tI (i:Int)]] q_regex_parser_number_r ((num i).map λx=>(x.1,s,(x.2:Int),())):=by
 have h:∀i:Nat,∃o:Option (Int×Nat),i<=s.length->(∀n j,o=some (n,j)->i<j/\j<=s.length)/\(∀(m:Nat) t,s.drop i=decDigits m++t->m<=4294967295->¬dg (hd t)->o=some ((m:Int),i+(decDigits m).length))/\eK tbl bp [.ptr 0 0] [.box aJ [.d tS s,.d tI (i:Int)]] q_regex_parser_number_r (o.map λx=>(x.1,s,(x.2:Int),())):=λi=>by
  by_cases a:i<=s.length
  ·obtain⟨o,d⟩:=zbX s hs i a;grind
  ·exact⟨none,λh=>absurd h a⟩
 refine⟨λi=>ak_ (h i),⟨λi n j a e=>?_,λi m t b c f=>?_⟩,λi a=>?_⟩;·grind
 ·have a:i<=s.length:=Z_ (Rz b (Ry m).1);grind
 grind
abbrev Oq(s:List UInt8)(i:Nat):List Ob:=[.box aJ [.d tS s,.d tI (i:Int)]]
def up3(s:List UInt8)(o:Option (Rx×Nat)):Option (Rx×List UInt8×Int×Unit):=o.map λx=>(x.1,s,(x.2:Int),())
theorem eqT{a b:Nat}(h:((a:Int)==(b:Int))=true):a=b:=by simp at h;omega
theorem eqF{a b:Nat}(h:((a:Int)==(b:Int))=false):a≠b:=by simp at h;omega
theorem neF{a b:Nat}(h:((a:Int) != (b:Int))=false):a=b:=by simp at h;omega
theorem Lr(s:List UInt8)(hs:s.length<=1048576)(i c:Nat)(hc:c≠0):eK tbl bN [.ptr 0 0,.d tY (c:Int)] (Oq s i) bq (if pk s i=c then some (s,((i+1:Nat):Int),())else none):=by
 refine uJ (λ_=>rfl) (aF xN rfl (λO m=>eM (nw O m (c:Int) s (i:Int))) ?_);unfold nw;refine ae (ak (BA s i) (aA (λh=>aa (aa ?_)) λh=>aa (aa ?_)));·grind
 ·have h:=neF h;have a:=kB (s:=s) (i:=i) (by omega);rw[if_pos h];show some (f9 bq (s,n_ .i64 ((i:Int)+1),()))=_;rw[au a (by omega)];rfl
section
variable {s:List UInt8}
theorem zgH(hs:s.length<=1048576){num:Nat->Option (Int×Nat)}(hn:NumOk s num)(hc:∀i,i<=s.length->eK tbl bp [.ptr 0 0] (Oq s i) q_regex_parser_number_r ((num i).map λx=>(x.1,s,(x.2:Int),()))) {alt:Nat->Option (Rx×Nat)} (E:Bnd s alt) (d:Nat) (A:d<=100) (z:∀i,i<=s.length->eK tbl bm [.ptr 0 0,.d tI ((d+1:Nat):Int)] (Oq s i) a8 (up3 s (alt i))) (i:Nat) (B:i<=s.length): eK tbl ej [.ptr 0 0,.d tI (d:Int)] (Oq s i) bE (up3 s (mj num s alt i)):=by
 refine uJ (λ_=>rfl) (aF Ak rfl (λO m=>eM (pu O m (d:Int) s (i:Int))) ?_);unfold pu;refine ak (BA s i) ?_;dsimp only;refine aA (λh=>?_) λu=>?_;·have h:=eqT (b:=46) h;have a:=kB (s:=s) (i:=i) (by omega);rw[au a (by omega),show mj num s alt i=some (.mk 2 0 0 [],i+1) by unfold mj;grind];exact aa rfl
 have u:=eqF (b:=46) u;refine aA (λh=>?_) λg=>?_;·have h:=eqT (b:=33) h;have a:=kB (s:=s) (i:=i) (by omega);rw[au a (by omega),show mj num s alt i=some (.mk 4 0 0 [],i+1) by unfold mj;grind];exact aa rfl
 have g:=eqF (b:=33) g;refine aA (λe=>?_) λe=>?_
 ·have e:=eqT (b:=91) e;have a:=kB (s:=s) (i:=i) (by omega);have hp:mj num s alt i=match num (i+1)with
   |none=>none
   |some (lo,j)=>if pk s j=45 then(match num (j+1)with
    |none=>none
    |some (up,k)=>if pk s k=93 then some (.mk 1 lo up [],k+1)else none)else none:=by
   unfold mj
   grind
  rw[au a (by omega),hp];refine jD (hc (i+1) (by omega)) ?_;cases w:num (i+1)with
  |none=>exact aa rfl|some x=>
   obtain⟨lo,j⟩:=x;have C:=hn.bnd _ _ _ (by omega) w;show Wp (λn=>j_ (lx (tj tbl n) bN [.ptr 0 0,.d tY (45:Int)] (Oq s j) bq) _) _;refine jD (Lr s hs j 45 (by simp)) ?_;by_cases p:pk s j=45
   ·have f:=kB (s:=s) (i:=j) (by omega);simp only[if_pos p];show Wp (λn=>j_ (lx (tj tbl n) bp [.ptr 0 0] (Oq s (j+1)) q_regex_parser_number_r) _) _;refine jD (hc (j+1) (by omega)) ?_;cases D:num (j+1)with
    |none=>exact aa rfl|some y=>
     obtain⟨up,k⟩:=y;show Wp (λn=>j_ (lx (tj tbl n) bN [.ptr 0 0,.d tY (93:Int)] (Oq s k) bq) _) _;refine jD (Lr s hs k 93 (by simp)) ?_;by_cases v:pk s k=93;·simp only[if_pos v];exact aa rfl
     ·simp only[if_neg v];exact aa rfl
   ·simp only[if_neg p];exact aa rfl
 have e:=eqF (b:=91) e;refine aA (λc=>?_) λc=>?_
 ·have c:=eqT (b:=40) c;have a:=kB (s:=s) (i:=i) (by omega);rw[au a (by omega)];refine ak (BA s (i+1)) ?_;dsimp only;refine aA (λh=>?_) λh=>?_;·have h:=eqT (b:=41) h;have f:=kB (s:=s) (i:=i+1) (by omega);rw[au f (by omega),show mj num s alt i=some (.mk 0 0 0 [],i+2) by unfold mj;grind];exact aa rfl
  ·have h:=eqF (b:=41) h;have hp:mj num s alt i=match alt (i+1)with
    |none=>none
    |some (r,j)=>if pk s j=41 then some (r,j+1)else none:=by
    unfold mj
    grind
   rw[hp,show n_ .i64 ((d:Int)+1)=((d+1:Nat):Int) by rw[wrap_i64 (by omega) (by omega)];rfl];refine jD (z (i+1) (by omega)) ?_;cases w:alt (i+1)with
   |none=>exact aa rfl|some x=>
    obtain⟨r,j⟩:=x;show Wp (λn=>j_ (lx (tj tbl n) bN [.ptr 0 0,.d tY (41:Int)] (Oq s j) bq) _) _;refine jD (Lr s hs j 41 (by simp)) ?_;by_cases l:pk s j=41;·simp only[if_pos l];refine aa ?_;rw[vX];rfl
    ·simp only[if_neg l];exact aa rfl
 ·have c:=eqF (b:=40) c;have hp:mj num s alt i=match num i with
   |none=>none
   |some (n,j)=>some (.mk 1 n n [],j):=by
   unfold mj
   grind
  rw[hp];refine jD (hc i B) ?_;cases w:num i with|none=>exact aa rfl|some x=>exact aa rfl
def zgu(s:List UInt8)(one:Nat->Option (Rx×Nat))(i:Nat):Option (Rx×Nat):=match one i with
 |none=>none
 |some (r,j)=>if pk s j=42 then some (.mk 5 0 0 [r],j+1)else if pk s j=43 then some (.mk 6 0 0 [r],j+1)else if pk s j=63 then some (.mk 7 0 0 [r],j+1)else some (r,j)
theorem zgJ(hs:s.length<=1048576){one:Nat->Option (Rx×Nat)}(d:Nat)(f:∀i,i<=s.length->eK tbl ej [.ptr 0 0,.d tI (d:Int)] (Oq s i) bE (up3 s (one i)))(i:Nat)(g:i<=s.length): eK tbl cH [.ptr 0 0,.d tI (d:Int)] (Oq s i) bz (up3 s (zgu s one i)):=by
 refine uJ (λ_=>rfl) (aF Al rfl (λO m=>eM (pw O m (d:Int) s (i:Int))) ?_);unfold pw zgu;refine jD (f i g) ?_;cases p:one i with
 |none=>exact aa rfl|some x=>
  obtain⟨r,j⟩:=x;simp only;have key:∀(k:Int),j<s.length->some (f9 bz (Rx.mk k 0 0 [Rx.mk r.out.1 r.out.2.1 r.out.2.2.1 r.out.2.2.2.1],s,n_ .i64 ((j:Int)+1),()))=(up3 s (some (.mk k 0 0 [r],j+1))).map (f9 bz):=λk l=>by rw[vX,au l (by omega)];rfl
  show Wp (λn=>j_ (j_ (aC (tj tbl n) bC [.ptr 0 0] (Oq s j) bk) _) _) _;refine ae (ak (BA s j) ?_);dsimp only;refine aA (λh=>aa (aa ?_)) λa=>?_;·have h:=eqT (b:=42) h;rw[if_pos h];exact key 5 (kB (by omega))
  have a:=eqF (b:=42) a;refine aA (λh=>aa (aa ?_)) λc=>?_;·have h:=eqT (b:=43) h;rw[if_neg a,if_pos h];exact key 6 (kB (by omega))
  have c:=eqF (b:=43) c;refine aA (λh=>aa (aa ?_)) λe=>aa (aa ?_);·have h:=eqT (b:=63) h;rw[if_neg a,if_neg c,if_pos h];exact key 7 (kB (by omega))
  ·have e:=eqF (b:=63) e;rw[if_neg a,if_neg c,if_neg e];show some (f9 bz (Rx.mk r.out.1 r.out.2.1 r.out.2.2.1 r.out.2.2.2.1,s,(j:Int),()))=_;rw[vX];rfl
theorem O3(hs:s.length<=1048576){one:Nat->Option (Rx×Nat)}(z:Bnd s one)(d:Nat)(y:∀i,i<=s.length->eK tbl cH [.ptr 0 0,.d tI (d:Int)] (Oq s i) bz (up3 s (one i)))(T:Option (List Rx×Nat))(r:Rx)(i f:Nat)(A:i<=s.length)(w:1<=i)(u:s.length<=f+i)(c:(if pk s i=32 then oX s 32 one f [r] (i+1)else some ([r],i))=T): Wp (λn=>aT n (dJ (tj tbl n) n (d:Int)) (s,(i:Int),(0:Int),(0:Int),(0:Int),([r]:List Rx),())) λt=>match t with | .inl _=>T=none | .inr t=>∃(a:List Rx) (j:Nat),t=(s,(j:Int),(0:Int),(0:Int),(0:Int),a,())/\T=some (a,j):=by
 refine Ev.wp_loop (λt=>∃(a:List Rx) (j f:Nat),t=(s,(j:Int),(0:Int),(0:Int),(0:Int),a,())/\j<=s.length/\a.length<=j/\s.length<=f+j/\(if pk s j=32 then oX s 32 one f a (j+1)else some (a,j))=T) (λt=>s.length - t.2.1.toNat) ⟨[r],i,f,rfl,A,w,u,c⟩ ?_;rintro t ⟨a,j,f,rfl,C,p,u,c⟩;unfold dJ;refine ak (BA s j) ?_;dsimp only;refine aA (λh=>?_) λh=>aa ⟨a,j,rfl,?_⟩;·have h:=eqT (b:=32) h;have l:=kB (s:=s) (i:=j) (by omega);rw[if_pos h]at c;rw[au l (by omega)];refine jD (y (j+1) (by omega)) ?_;obtain⟨f2,rfl⟩:∃g,f=g+1:=⟨f - 1,by omega⟩;rw[oX]at c;cases e:one (j+1)with|none=>rw[e]at c;exact aa c.symm|some x=>obtain⟨r2,k⟩:=x;obtain⟨B,v,_⟩:=z _ _ _ (by omega) e;rw[e]at c;simp only at c;refine ar (decide_eq_true ?_) (aa ⟨⟨a++[r2],k,f2,rfl,v,?_,by omega,c⟩,?_⟩);all_goals grind
 grind
theorem HS(hs:s.length<=1048576){one:Nat->Option (Rx×Nat)}(z:Bnd s one)(d:Nat)(y:∀i,i<=s.length->eK tbl bP [.ptr 0 0,.d tI (d:Int)] (Oq s i) bw (up3 s (one i)))(T:Option (List Rx×Nat))(r:Rx)(i f:Nat)(A:i<=s.length)(w:1<=i)(u:s.length<=f+i)(c:(if pk s i=124 then oX s 124 one f [r] (i+1)else some ([r],i))=T): Wp (λn=>aT n (cQ (tj tbl n) n (d:Int)) (s,(i:Int),(0:Int),(0:Int),(0:Int),([r]:List Rx),())) λt=>match t with | .inl _=>T=none | .inr t=>∃(a:List Rx) (j:Nat),t=(s,(j:Int),(0:Int),(0:Int),(0:Int),a,())/\T=some (a,j):=by
 refine Ev.wp_loop (λt=>∃(a:List Rx) (j f:Nat),t=(s,(j:Int),(0:Int),(0:Int),(0:Int),a,())/\j<=s.length/\a.length<=j/\s.length<=f+j/\(if pk s j=124 then oX s 124 one f a (j+1)else some (a,j))=T) (λt=>s.length - t.2.1.toNat) ⟨[r],i,f,rfl,A,w,u,c⟩ ?_;rintro t ⟨a,j,f,rfl,C,p,u,c⟩;unfold cQ;refine ak (BA s j) ?_;dsimp only;refine aA (λh=>?_) λh=>aa ⟨a,j,rfl,?_⟩;·have h:=eqT (b:=124) h;have l:=kB (s:=s) (i:=j) (by omega);rw[if_pos h]at c;rw[au l (by omega)];refine jD (y (j+1) (by omega)) ?_;obtain⟨f2,rfl⟩:∃g,f=g+1:=⟨f - 1,by omega⟩;rw[oX]at c;cases e:one (j+1)with|none=>rw[e]at c;exact aa c.symm|some x=>obtain⟨r2,k⟩:=x;obtain⟨B,v,_⟩:=z _ _ _ (by omega) e;rw[e]at c;simp only at c;refine ar (decide_eq_true ?_) (aa ⟨⟨a++[r2],k,f2,rfl,v,?_,by omega,c⟩,?_⟩);all_goals grind
 grind
theorem We(hs:s.length<=1048576){one:Nat->Option (Rx×Nat)}(c:Bnd s one)(d:Nat)(a:∀i,i<=s.length->eK tbl cH [.ptr 0 0,.d tI (d:Int)] (Oq s i) bz (up3 s (one i)))(i:Nat)(e:i<=s.length): eK tbl bP [.ptr 0 0,.d tI (d:Int)] (Oq s i) bw (up3 s (O5 s 32 3 one i)):=by
 refine uJ (λ_=>rfl) (aF wc rfl (λO m=>eM (lJ O m (d:Int) s (i:Int))) ?_);unfold lJ O5;refine jD (a i e) ?_;obtain⟨f,w⟩:∃f,s.length+1 - i=f+1:=⟨s.length - i,by omega⟩;rw[w,oX];cases u:one i with
 |none=>exact aa rfl|some x=>
  obtain⟨r,j⟩:=x;obtain⟨y,p,_⟩:=c _ _ _ e u;simp only[L_];show Wp (λn=>j_ (aT n (dJ (tj tbl n) n (d:Int)) (s,(j:Int),(0:Int),(0:Int),(0:Int),([r]:List Rx),())) _) _;refine ae (Ev.wp_mono (O3 hs c d a _ r j f p (by omega) (by omega) rfl) ?_);rintro(t|t) g;·rw[show _=none from g];exact aa rfl
  ·obtain⟨l,k,rfl,v⟩:=g;rw[v];refine aA (λh=>?_) λh=>aa ?_;·have h:=eqT (b:=1) h;obtain⟨x,rfl⟩:=Y_.1 h;refine dt (by simp) rfl (cD rfl (aa ?_));rw[vX];rfl
   ·have h:=eqF (b:=1) h;simp only;rw[HF h];rfl
theorem Lo(hs:s.length<=1048576){one:Nat->Option (Rx×Nat)}(c:Bnd s one)(d:Nat)(w:d<=32)(a:∀i,i<=s.length->eK tbl bP [.ptr 0 0,.d tI (d:Int)] (Oq s i) bw (up3 s (one i)))(i:Nat)(e:i<=s.length): eK tbl bm [.ptr 0 0,.d tI (d:Int)] (Oq s i) a8 (up3 s (O5 s 124 4 one i)):=by
 refine uJ (λ_=>rfl) (aF jC rfl (λO m=>eM (dh O m (d:Int) s (i:Int))) ?_);unfold dh O5;refine ae (aH (decide_eq_false (by omega)) (aa ?_));show Wp (λn=>j_ (lx (tj tbl n) bP [.ptr 0 0,.d tI (d:Int)] (Oq s i) bw) _) _;refine jD (a i e) ?_;obtain⟨f,y⟩:∃f,s.length+1 - i=f+1:=⟨s.length - i,by omega⟩;rw[y,oX];cases u:one i with
 |none=>exact aa rfl|some x=>
  obtain⟨r,j⟩:=x;obtain⟨z,p,_⟩:=c _ _ _ e u;simp only[L_];show Wp (λn=>j_ (aT n (cQ (tj tbl n) n (d:Int)) (s,(j:Int),(0:Int),(0:Int),(0:Int),([r]:List Rx),())) _) _;refine ae (Ev.wp_mono (HS hs c d a _ r j f p (by omega) (by omega) rfl) ?_);rintro(t|t) g;·rw[show _=none from g];exact aa rfl
  ·obtain⟨l,k,rfl,v⟩:=g;rw[v];refine aA (λh=>?_) λh=>aa ?_;·have h:=eqT (b:=1) h;obtain⟨x,rfl⟩:=Y_.1 h;refine dt (by simp) rfl (cD rfl (aa ?_));rw[vX];rfl
   ·have h:=eqF (b:=1) h;simp only;rw[HF h];rfl
theorem zeM(i:Nat):eK tbl bm [.ptr 0 0,.d tI (33:Int)] (Oq s i) a8 none:=by refine uJ (λ_=>rfl) (aF jC rfl (λO m=>eM (dh O m (33:Int) s (i:Int))) ?_);unfold dh;exact ae (bc rfl (aa (aa rfl)))
theorem zbR(hs:s.length<=1048576){num:Nat->Option (Int×Nat)}(hn:NumOk s num)(hc:∀i,i<=s.length->eK tbl bp [.ptr 0 0] (Oq s i) q_regex_parser_number_r ((num i).map λx=>(x.1,s,(x.2:Int),()))):
 ∀(b d:Nat),d+b=33->∀i,i<=s.length->eK tbl bm [.ptr 0 0,.d tI (d:Int)] (Oq s i) a8 (up3 s (HV num s b i))
 |0,d,h,i,_=>by
  have:d=33:=by omega
  subst this;exact zeM i
 |b+1,d,h,i,g=>by have a:=Rk hn b;have c:=zgH hs hn hc a d (by omega) (zbR hs hn hc b (d+1) (by omega));have e:=zgJ hs d c;have f:=We hs (LU hn a) d e;exact Lo hs (Rl (LU hn a) (by simp) 3) d (by omega) f i g
end
def Rd(s:List UInt8)(one:Nat->Option (Rx×Nat))(C:Nat->Rx->Bool->Nat->Prop):Prop:=∀i,i<=s.length->∃(r:Rx) (ok:Bool) (j:Nat),(i<=j/\j<=s.length)/\one i=(if ok then some (r,j)else none)/\C i r ok j
section
variable {s:List UInt8}
theorem Rd.imp{one z:Nat->Option (Rx×Nat)}{C:Nat->Rx->Bool->Nat->Prop}(h:Rd s one C)(M:∀i,i<=s.length->one i=z i):Rd s z C:=λi E=>by obtain⟨r,ok,j,H,I,J⟩:=h i E;grind
end
def ParsedX(s:List UInt8)(c:Rx×Int×Unit):Prop:=(∃r,pV r=0/\nn r=s/\c=(r,0,()))\/((∀r,pV r=0->nn r≠s)/\c=(.mk 0 0 0 [],2,()))
theorem QQ{r:Rx}(h:pV r=0):hU r=true/\sz r<=64/\S3 r<=16:=by obtain⟨a,b⟩:=Do h;have:=zfj r 1 0 h;exact⟨a,b,by omega⟩
theorem Vj{num:Nat->Option (Int×Nat)}{s:List UInt8}(hn:NumOk s num){b:Nat}(d:16<=b){r:Rx}(h:pV r=0)(hp:nn r=s):HV num s b 0=some (r,s.length):=by obtain⟨a,_,c⟩:=QQ h;subst hp;exact zbi hn a (by omega)
theorem zdH:∀(r:Rx),hU r=true->sz r<=1000->zdG r:=by
 refine qF λk lo up ks c b hs=>?_;obtain⟨nd,a⟩:=well_iff.1 b;have hl:=Lm ks;simp only[sz]at hs;have d:lo=0/\up=0\/0<=lo/\lo<=up/\up<=4294967295:=by
  by_cases e:k=1;·exact .inr (nd.rng e)
  ·exact .inl (nd.zero e)
 have f:=nd.known;have g:IntKind.i64.min= -9223372036854775808:=rfl;have h:IntKind.i64.max=9223372036854775807:=rfl;refine⟨⟨by omega,by omega⟩,⟨by omega,by omega⟩,⟨by omega,by omega⟩,r_ (show ks.length<=1000 by omega) (by decide),(Jg ks).2 λr hr=>c r hr (a r hr) (by have:=DL hr;omega)⟩
theorem ParsedX.ok{s:List UInt8}{c:Rx×Int×Unit}(h:ParsedX s c):zdG c.1:=by
 rcases h with⟨r,z,_,rfl⟩|⟨_,rfl⟩;·obtain⟨C,E,_⟩:=QQ z;exact zdH r C (by omega)
 ·exact⟨by decide,by decide,by decide,by simp,trivial⟩
theorem EI(s:List UInt8)(hs:s.length<=1048576):∃c:Rx×Int×Unit,ParsedX s c/\aK tbl nA [.d tS s] [] fm c:=by
 obtain⟨num,hn,hc⟩:=zhE s hs;refine gT (sh:=fm) (λ_=>rfl) (zcE Pr rfl (λO n=>eM (ES O n s)) ?_);unfold ES;refine jD (zbR hs hn hc 33 0 rfl 0 (au_ _)) ?_;cases e:HV num s 33 0 with
 |none=>refine aa ⟨_,rfl,.inr ⟨λr hr hp=>?_,rfl⟩⟩;rw[Vj hn (by simp) hr hp]at e;grind|some x=>
  obtain⟨r,j⟩:=x;obtain⟨k,l,p⟩:=Rk hn 33 0 r j (au_ _) e;have g:∀a,pV a=0->nn a=s->a=r:=λa d f=>by rw[Vj hn (by simp) d f]at e;grind
  show Wp (λn=>j_ (j_ (aC (tj tbl n) kH [.d .rx (Rx.mk r.out.1 r.out.2.1 r.out.2.2.1 r.out.2.2.2.1)] [] iU) _) _) _;rw[vX];refine ae (ak (N3 r (by omega)) (ae (cN (b:= !(nn r==s)) (λh=>aa ?_) ?_)));·grind
  ·refine aA (λh=>aa (aa ⟨_,rfl,.inr ⟨λa d f=>?_,rfl⟩⟩)) λh=>aa (aa ⟨_,rfl,.inl ⟨r,?_,?_,?_⟩⟩);·grind
   ·grind
   ·grind
   ·show(Rx.mk r.out.1 r.out.2.1 r.out.2.2.1 r.out.2.2.2.1,(0:Int),())=_;rw[vX]
open Go Go.Av Go.Ev Go.Pl
theorem NT{α β:Type}{m:Option α}{a:α}{f:Nat->α->Option β}{Q:β->Prop}(h:m=some a)(k:Wp (λn=>f n a) Q):Wp (λn=>j_ m (f n)) Q:=by grind
open Classical in
noncomputable def qK(s:List UInt8):Int:=if ∃r,pV r=0/\nn r=s then 0 else 2
theorem zfQ{s:List UInt8}{c:Rx×Int×Unit}(h:ParsedX s c):c.2.1=qK s:=by
 unfold qK;rcases h with⟨r,a,b,rfl⟩|⟨a,rfl⟩;·rw[if_pos ⟨r,a,b⟩]
 grind
theorem As(s:List UInt8)(hs:s.length<=9223372036854775807):aK tbl kq [.d tS s] [] fO (sO s,()):=by
 refine aG rfl (aF KX rfl (λO n=>eM (AG O n s)) ?_);unfold AG;refine ae (Iu (xs:=s) (P:=λc=>M1 c=true) (e:=(false,())) (g:=()) (λi a=>?_) ?_ (λh=>?_) λh=>?_);·unfold pH;refine bA a (aD a ?_);refine ae (cG (b:=decide ((s[i].toNat:Int)<=122)) (λ_=>aa rfl) ?_);refine ae (cN (b:=decide ((s[i].toNat:Int)>=65)&&decide ((s[i].toNat:Int)<=90)) (λ_=>ae (cG (b:=decide ((s[i].toNat:Int)<=90)) (λ_=>aa rfl) (aa rfl))) ?_);refine ae (cN (b:=decide ((s[i].toNat:Int)>=48)&&decide ((s[i].toNat:Int)<=57)) (λ_=>ae (cG (b:=decide ((s[i].toNat:Int)<=57)) (λ_=>aa rfl) (aa rfl))) ?_);refine ae (cN (b:=((s[i].toNat:Int)==45)) (λ_=>aa rfl) (fK ?_ (by rw[au a hs])));show(!M1 s[i])=true↔_;cases M1 s[i]<;>simp
 ·unfold pH;exact be (aa rfl)
 ·refine ae (cG (b:=decide ((s.length:Int)<=32)) (λ_=>aa rfl) (aa ?_));have e:sO s=(decide ((s.length:Int)>=1)&&decide ((s.length:Int)<=32)):=by unfold sO;rw[al_.2 h,ah_];congr 1<;>exact decide_eq_decide.2 (by omega)
  rw[e]
 ·refine aa ?_;have e:sO s=false:=by
   unfold sO;cases e:s.all M1;·rfl
   ·exact absurd (al_.1 e) h
  rw[e]
theorem pn(l:List (List UInt8))(i:Nat)(f:i<l.length)(hl:l.length<=9223372036854775807)(hs:l[i].length<=9223372036854775807): aK tbl gP [.d (.list tS) ((l.take (U_ (i:Int))).drop 0),.d tS l[i]] [] dH (vN l i,()):=by
 refine aG rfl (aF NH rfl (λO n=>NU O n _ _) ?_);unfold BM;rw[ap_,q_];have d:vN l i=if sO l[i]=false then 1 else if 0<i/\W4 l[i] (l.getD (i - 1) [])=true then 16 else 0:=by unfold vN;grind
 have a:(l.take i).length=i:=by grind
 refine ak (As l[i] hs) (aA (λh=>aa ?_) λh=>?_);·grind
 have hn:¬sO l[i]=false:=by grind
 refine ae (cG (b:=W4 l[i] (l.getD (i - 1) [])) (λc=>?_) (aA (λh=>aa ?_) λh=>aa ?_))
 ·have c:=of_decide_eq_true c;rw[a]at c⊢;have e:n_ .i64 ((i:Int) - 1)=((i - 1:Nat):Int):=by rw[wrap_i64 (by omega) (by omega)];omega
  rw[e];refine Ao (x:=l.getD (i - 1) []) ?_ (aa rfl);grind
 all_goals grind
abbrev yN:Ty:=pr [.list tS,.list tS,.list tS,.list tS]
def cI(s:PS):yN.den:=(s.1.map (·.1),s.2.1.map (·.1),s.2.2.1.map (·.1),s.2.2.2.1.map (·.1),())
theorem DN{α β:Type}{f:α->β}{l:List α}{i:Nat}(a:i<l.length):(l.take i).map f++[f l[i]]=(l.take (i+1)).map f:=by rw[<-List.take_append_getElem a,K_];rfl
theorem Lt(s:PS)(c:s.1.length<=1048576)(d:s.2.1.length<=1048576)(e:s.2.2.1.length<=1048576)(g:s.2.2.2.1.length<=1048576):aK tbl pP [.d yS s] [] mr (cI s,()):=by
 refine aG rfl (aF NI rfl (λO n=>eM (BN O n s)) ?_);unfold BN;have hg:∀{α:Type} {l:List α} {f:α->List UInt8} {i:Nat},i<l.length->l.length<=1048576->decide ((((l.take i).map f).length+1)*16<=140737488355328)=true:=fun{α l f i} a hl=>by grind
 refine ae (bi (N:=s.1.length) (I:=λi t=>t=((i:Int),(s.1.take i).map (·.1),())) rfl (λi t a b=>?_) λt b=>?_);·subst b;unfold rz;refine bA a (aD a (ar rfl (ar (hg a c) (ar rfl (aa ?_)))));simp only;rw[au a (by omega),DN (f:=λx:PLS=>x.1) a]
 subst b;unfold rz;refine be (aa ?_);rw[o_ (u_ _)];refine ae (bi (N:=s.2.1.length) (I:=λi t=>t=((i:Int),s.1.map (·.1),(s.2.1.take i).map (·.1),())) rfl (λi t a b=>?_) λt b=>?_);·subst b;unfold rA;refine bA a (aD a (ar rfl (ar (hg a d) (ar rfl (aa ?_)))));simp only;rw[au a (by omega),DN (f:=λx:HLS=>x.1) a]
 subst b;unfold rA;refine be (aa ?_);rw[o_ (u_ _)];refine ae (bi (N:=s.2.2.1.length) (I:=λi t=>t=((i:Int),s.1.map (·.1),s.2.1.map (·.1),(s.2.2.1.take i).map (·.1),())) rfl (λi t a b=>?_) λt b=>?_);·subst b;unfold rB;refine bA a (aD a (ar rfl (ar (hg a e) (ar rfl (aa ?_)))));simp only;rw[au a (by omega),DN (f:=λx:CLS=>x.1) a]
 subst b;unfold rB;refine be (aa ?_);rw[o_ (u_ _)];refine ae (bi (N:=s.2.2.2.1.length) (I:=λi t=>t=((i:Int),s.1.map (·.1),s.2.1.map (·.1),s.2.2.1.map (·.1),(s.2.2.2.1.take i).map (·.1),())) rfl (λi t a b=>?_) λt b=>?_);·subst b;unfold rC;refine bA a (aD a (ar rfl (ar (hg a g) (ar rfl (aa ?_)))));simp only;rw[au a (by omega),DN (f:=λx:Rc=>x.1) a]
 subst b;unfold rC;refine be (aa (aa ?_));rw[o_ (u_ _)];rfl
theorem da(n a b:Int):aK tbl cx [.d tI n,.d tI a,.d tI b] [] ce (decide (a<=n)&&decide (n<=b),()):=by refine aG rfl (aF KY rfl (λO k=>eM (AH O k n a b)) ?_);unfold AH;exact ae (cG (b:=decide (n<=b)) (λ_=>aa rfl) (aa rfl))
theorem pm(l:List (List UInt8))(n:List UInt8)(hl:l.length<=9223372036854775807):aK tbl lh [.d (.list tS) l,.d tS n] [] fI (l.any (·==n),()):=by
 refine aG rfl (aF Io rfl (λO k=>eM (wo O k l n)) ?_);unfold wo;refine ae (zaq (xs:=l) (p:=(·==n)) (g:=λ_=>(true,())) (e:=()) (λi r c=>?_) ?_ ?_)
 ·unfold mW;have a:=(c_.1 c).1;refine bA a (Ao c (aA (λh=>aa ?_) λh=>aa ?_));·grind
  ·rw[if_neg (by grind),au a hl]
 ·unfold mW;exact be (aa rfl)
 ·cases e:l.find? (·==n)with
  |some r=>have b:l.any (·==n)=true:=List.any_eq_true.2 ⟨r,List.mem_of_find?_eq_some e,List.find?_some (p:=(·==n)) e⟩;rw[b];exact aa rfl|none=>
   have b:l.any (·==n)=false:=by grind
   rw[b];exact aa rfl
theorem yg(k N d pl:Int)(nm:List UInt8)(nt:Bool):(true ^^ jk yM (k,nm,N,(d,pl,()),nt,()) (k,nm,0,(0,0,()),nt,()))=true↔(N≠0\/d≠0\/pl≠0):=by by_cases a:N=0<;>by_cases b:d=0<;>by_cases c:pl=0<;>simp[jk,a,b,c]
theorem zds(k N d pl:Int)(nm:List UInt8)(nt:Bool):(true ^^ jk yM (k,nm,N,(d,pl,()),nt,()) (k,[],N,(0,0,()),nt,()))=true↔(nm≠[]\/d≠0\/pl≠0):=by by_cases a:nm=[]<;>by_cases b:d=0<;>by_cases c:pl=0<;>simp[jk,a,b,c]
theorem zdr(k N c pl:Int)(nm:List UInt8)(nt:Bool):(true ^^ jk yM (k,nm,N,(c,pl,()),nt,()) (k,[],0,(c,pl,()),nt,()))=true↔(nm≠[]\/N≠0):=by by_cases a:nm=[]<;>by_cases b:N=0<;>simp[jk,a,b]
theorem sP{b:Bool}{P:Prop}(h:b=false)(e:b=true↔P):¬P:=λp=>by rw[e.2 p]at h;cases h
theorem DT(s:PS)(m:Tb)(hs:okD yS s)(F:Vd m.2.2.2.1.1):aK tbl ja [.d yN (cI s),.d yM m] [] bL (uA s m,()):=by
 obtain⟨k,nm,N,⟨d,pl,⟨⟩⟩,nt,⟨⟩⟩:=m;refine aG rfl (aF ED rfl (λO n=>eM (ua O n (cI s) (k,nm,N,(d,pl,()),nt,()))) ?_);unfold ua;refine ae (ae ?_);have g:(s.1.map (·.1)).length<=9223372036854775807:=by rw[g_];exact hs.1.1
 have j:(s.2.1.map (·.1)).length<=9223372036854775807:=by rw[g_];exact hs.2.1.1
 have l:(s.2.2.1.map (·.1)).length<=9223372036854775807:=by rw[g_];exact hs.2.2.1.1
 by_cases r:k=1
 ·subst r;rw[rO (.inl rfl)];have c:(s.1.map (·.1)).any (·==nm)=WT s 1 nm:=by rw[aj_];rfl
  refine bc rfl (aa (bc rfl (aA (λh=>aa (aa ?_)) λh=>?_)));·rw[if_pos ((yg _ _ _ _ _ _).1 h)]
  ·rw[if_neg (sP h (yg _ _ _ _ _ _))];refine NT (a:=s.1.map (·.1)) rfl (ak (pm _ nm g) ?_);rw[c];refine aA (λh=>aa (aa ?_)) λh=>aa (aa ?_);all_goals grind
 by_cases u:k=2
 ·subst u;rw[rO (.inr (.inl rfl))];have c:(s.2.1.map (·.1)).any (·==nm)=WT s 2 nm:=by rw[aj_];rfl
  refine aH rfl (bc rfl (aa (bc rfl (aA (λh=>aa (aa ?_)) λh=>?_))));·rw[if_pos ((yg _ _ _ _ _ _).1 h)]
  ·rw[if_neg (sP h (yg _ _ _ _ _ _))];refine NT (a:=s.2.1.map (·.1)) rfl (ak (pm _ nm j) ?_);rw[c];refine aA (λh=>aa (aa ?_)) λh=>aa (aa ?_);all_goals grind
 by_cases v:k=3
 ·subst v;rw[rO (.inr (.inr rfl))];have c:(s.2.2.1.map (·.1)).any (·==nm)=WT s 3 nm:=by rw[aj_];rfl
  refine aH rfl (aH rfl (aa (bc rfl (aA (λh=>aa (aa ?_)) λh=>?_))));·rw[if_pos ((yg _ _ _ _ _ _).1 h)]
  ·rw[if_neg (sP h (yg _ _ _ _ _ _))];refine NT (a:=s.2.2.1.map (·.1)) rfl (ak (pm _ nm l) ?_);rw[c];refine aA (λh=>aa (aa ?_)) λh=>aa (aa ?_);all_goals grind
 refine aH (beq_eq_false_iff_ne.2 r) (aH (beq_eq_false_iff_ne.2 u) (aa (aH (beq_eq_false_iff_ne.2 v) ?_)));by_cases A:k=7
 ·subst A;rw[UY];refine bc rfl (ae (cN (b:= !Gx (d,pl,())) (λ_=>ak (BD (d,pl,()) F) (aa rfl)) ?_));refine aA (λh=>aa (aa ?_)) λh=>aa (aa ?_)
  ·by_cases e:nm≠[]\/N≠0;·grind
   ·rw[if_neg e,if_neg];intro h';rcases Bool.or_eq_true_iff.1 h with h|h;·exact e ((zdr _ _ _ _ _ _).1 h)
    grind
  ·simp only[k_]at h;rw[if_neg (sP h.1 (zdr _ _ _ _ _ _)),if_pos (by grind)]
 refine aH (beq_eq_false_iff_ne.2 A) ?_;have num:∀lo f:Int,(k=4\/k=5\/k=6\/k=8)->zfH k=lo->YL k=f->Wp (λn=>
  bif (true ^^ jk yM (k,nm,N,(d,pl,()),nt,()) (k,([]:List UInt8),N,((0:Int),(0:Int),()),nt,()))then aI bL ((1:Int),())else
  j_ (aC (tj tbl n) cx [.d tI N,.d tI lo,.d tI f] [] ce) λp=>
  bif (!p.1)then aI bL ((5:Int),())else aI bL ((0:Int),()))
  (λx=>x=some (f9 bL (uA s (k,nm,N,(d,pl,()),nt,()),()))):=λlo f E C D=>by
  rw[UZ E,C,D]
  refine aA (λh=>aa ?_) λh=>?_
  ·rw[if_pos ((zds _ _ _ _ _ _).1 h)]
  ·rw[if_neg (sP h (zds _ _ _ _ _ _))];refine ak (da N lo f) (aA (λh=>aa ?_) λh=>aa ?_);all_goals grind
 by_cases w:k=4;·subst w;exact bc rfl (aa (num 1 7 (by simp) rfl rfl))
 by_cases z:k=6;·subst z;exact aH rfl (bc rfl (aa (num 0 16777216 (by simp) rfl rfl)))
 by_cases B:k=8;·subst B;exact aH rfl (aH rfl (bc rfl (aa (num 0 2000 (by simp) rfl rfl))))
 by_cases y:k=5;·subst y;exact aH rfl (aH rfl (aH rfl (bc rfl (aa (num 0 4294967295 (by simp) rfl rfl)))))
 refine aH (beq_eq_false_iff_ne.2 w) (aH (beq_eq_false_iff_ne.2 z) (aH (beq_eq_false_iff_ne.2 B) (aH (beq_eq_false_iff_ne.2 y) (aa (aa ?_)))));rw[zdo (show k<1\/8<k by omega)]
theorem ne_eqD{a b:Bw}:(true ^^ jk yA a b)=true↔¬a=b:=by rw[<-X6];cases jk yA a b<;>simp
theorem BB(a:Bw):aK tbl iv [.d yA a] [] bG (o9 a,()):=by
 refine aG rfl (aF C6 rfl (λO n=>eM (sj O n a)) ?_);unfold sj;refine ae (ae ?_);by_cases y:a.1<1\/8<a.1;·have j:∀k:Int,1<=k->k<=8->(a.1==k)=false:=λk l p=>beq_eq_false_iff_ne.2 (by omega);refine aH (j 1 (by simp) (by simp)) (aH (j 2 (by simp) (by simp)) (aa (aH (j 4 (by simp) (by simp)) (aH (j 3 (by simp) (by simp)) (aH (j 5 (by simp) (by simp)) ?_)))));refine ae (aH (j 6 (by simp) (by simp)) (aa (aH (j 7 (by simp) (by simp)) (aH (j 8 (by simp) (by simp)) (aa (aa ?_))))));rw[show o9 a=15 from if_pos y]
 have d:∀(only:Bw) (f:Bool),Fu a=only->Fq a=f->Wp (λ_=>bif (true ^^ jk yA a only)then aI bG ((1:Int),())else bif (!f)then aI bG ((5:Int),())else aI bG ((0:Int),())) (λx=>x=some (f9 bG (o9 a,()))):=λonly f l p=>by
  have e:o9 a=if ¬a=only then 1 else if f=false then 5 else 0:=by unfold o9;grind
  rw[e]
  refine aA (λh=>aa ?_) λh=>aA (λh'=>aa ?_) λh'=>aa ?_
  ·rw[if_pos (ne_eqD.1 h)]
  ·rw[if_neg (λx=>by rw[ne_eqD.2 x]at h;grind),if_pos (by grind)]
  ·rw[if_neg (λx=>by rw[ne_eqD.2 x]at h;grind),if_neg (by grind)]
 have g:∀{k:Int},a.1≠k->(a.1==k)=false:=λh=>beq_eq_false_iff_ne.2 h;have c:∀{k:Int},a.1=k->(a.1==k)=true:=λh=>beq_iff_eq.2 h;by_cases l:a.1=1
 ·refine bc (c l) (aa (bc (c l) (ak (da a.2.1 0 4294967295) (aa (d _ _ ?_ ?_)))));·unfold Fu;grind
  ·unfold Fq;grind
 refine aH (g l) ?_;by_cases p:a.1=2
 ·refine bc (c p) (aa (bc (c p) (ak (da a.2.1 0 4294967295) (aa (d _ _ ?_ ?_)))));·unfold Fu;grind
  ·unfold Fq;grind
 refine aH (g p) (aa ?_);by_cases u:a.1=4
 ·refine bc (c u) (ak (da a.2.1 0 4294967295) (aa (d _ _ ?_ ?_)));·unfold Fu;grind
  ·unfold Fq;grind
 refine aH (g u) ?_;by_cases s:a.1=3
 ·refine bc (c s) (ak (da a.2.1 0 16777216) (aa (d _ _ ?_ ?_)));·unfold Fu;grind
  ·unfold Fq;grind
 refine aH (g s) ?_;by_cases v:a.1=5
 ·refine bc (c v) (aa (d _ _ ?_ ?_));·unfold Fu;grind
  ·unfold Fq;grind
 refine aH (g v) (ae ?_);by_cases r:a.1=6
 ·refine bc (c r) (aa (bc (c r) (aa (d _ _ ?_ ?_))));·unfold Fu;grind
  ·unfold Fq;grind
 refine aH (g r) (aa ?_);by_cases w:a.1=7
 ·refine bc (c w) (aa (d _ _ ?_ ?_));·unfold Fu;grind
  ·unfold Fq;grind
 refine aH (g w) (bc (c (by omega)) (ak (da a.2.2.1 1 4294967295) ?_));refine ae (cG (b:=decide (1<=a.2.1)&&decide (a.2.1<=16)) (λ_=>ak (da a.2.1 1 16) (aa rfl)) (aa (d _ _ ?_ ?_)));·unfold Fu;grind
 ·unfold Fq;grind
theorem yz(r:Wa):aK tbl gu [.d yC r] [] dm (sC r,()):=by
 refine aG rfl (aF Aj rfl (λO n=>eM (pq O n r)) ?_);unfold pq;refine ak (da r.2.1 (-1) 65535) (ae (cN (b:= !(decide (-1<=r.2.2.1)&&decide (r.2.2.1<=65535))) (λ_=>ak (da r.2.2.1 (-1) 65535) (aa rfl)) ?_));refine aA (λh=>aa ?_) λh=>aa ?_;·rw[show sC r=5 from if_pos (by grind)]
 ·rw[show sC r=0 from if_neg (by grind)]
theorem zcl{α:Type}{p:α->Bool}{l:List α}:l.any p=(l.find? p).isSome:=by grind
theorem FQ(s:PS)(hs:okD yS s)(a:List V8)(t:V8)(w:a.length<=9223372036854775807)(v:okD yT t):aK tbl j6 [.d yN (cI s),.d (.list yT) a,.d yT t] [] bS (qM s a t,()):=by
 refine aG rfl (aF Gv rfl (λO n=>eM (uX O n (cI s) a t)) ?_);unfold uX;have j:∀m∈t.2.1,Vd m.2.2.2.1.1:=λm j=>((v.2.1.2 m j).2.2.2.1).1;refine ak (As t.1 v.1) (aA (λh=>aa ?_) λh=>?_);·rw[show qM s a t=1 from if_pos (by grind)]
 have hn:¬sO t.1=false:=by grind
 refine ae (zaq (xs:=a) (p:=(·.1==t.1)) (g:=λ_=>((7:Int),())) (e:=()) (λi r c=>?_) ?_ ?_)
 ·unfold lM;have d:=(c_.1 c).1;refine bA d (Ao c (aA (λh=>aa ?_) λh=>aa ?_));·grind
  ·rw[if_neg (by grind),au d w]
 ·unfold lM;exact be (aa rfl)
 have b:a.any (·.1==t.1)=(a.find? (·.1==t.1)).isSome:=zcl;cases e:a.find? (·.1==t.1)with
 |some r=>rw[e]at b;refine aa ?_;have b:a.any (·.1==t.1)=true:=b;rw[show qM s a t=7 from by unfold qM;grind]|none=>
  rw[e]at b;have z:¬a.any (·.1==t.1)=true:=by grind
  refine aA (λh=>aa ?_) λh=>?_;·rw[show qM s a t=4 from by unfold qM;grind]
  have x:¬t.2.1.length>64:=by grind
  refine ae (uG (l:=t.2.1) (f:=uA s) (enc:=λi=>((i:Int),())) (oB:=λe=>(e,())) (oE:=()) (λi c=>?_) ?_ ?_)
  ·unfold lN;refine bA c (aD c (ak (DT s _ hs (j _ (b_ c))) (aA (λh=>aa ?_) λh=>aa ?_)));·grind
   ·rw[if_pos (by grind),au c (by omega)]
  ·unfold lN;exact be (aa rfl)
  by_cases k:cE (uA s) t.2.1=0
  ·rw[if_pos k];refine aA (λh=>aa ?_) λh=>?_;·rw[show qM s a t=4 from by unfold qM;grind]
   have y:¬t.2.2.1.length>64:=by grind
   refine ae (uG (l:=t.2.2.1) (f:=o9) (enc:=λi=>((i:Int),())) (oB:=λe=>(e,())) (oE:=()) (λi c=>?_) ?_ ?_)
   ·unfold lO;refine bA c (aD c (ak (BB _) (aA (λh=>aa ?_) λh=>aa ?_)));·grind
    ·rw[if_pos (by grind),au c (by omega)]
   ·unfold lO;exact be (aa rfl)
   by_cases u:cE o9 t.2.2.1=0
   ·rw[if_pos u];refine ak (da t.2.2.2.1 1 3) (aA (λh=>aa ?_) λh=>aa ?_);·rw[show qM s a t=15 from by unfold qM;grind]
    ·rw[show qM s a t=0 from by unfold qM;grind]
   ·rw[if_neg u];refine aa ?_;rw[show qM s a t=cE o9 t.2.2.1 from by unfold qM;grind]
  ·rw[if_neg k];refine aa ?_;rw[show qM s a t=cE (uA s) t.2.1 from by unfold qM;grind]
def zbK(s:PS)(l:List V8)(i:Nat):Int:=match l[i]? with|some t=>qM s (l.take i) t|none=>0
theorem zfT(s:PS)(p:Rc):wj s p=if qI (zbK s p.2.1) p.2.1.length≠0 then qI (zbK s p.2.1) p.2.1.length else if p.2.2.1≠1/\p.2.2.1≠2 then 15 else 0:=rfl
theorem zeE{s:PS}{l:List V8}{i:Nat}(a:i<l.length):zbK s l i=qM s (l.take i) l[i]:=by unfold zbK;rw[a_ a]
theorem BC(s:PS)(hs:okD yS s)(p:Rc)(hp:okD yO p):aK tbl iw [.d yN (cI s),.d yO p] [] cY (wj s p,()):=by
 refine aG rfl (aF C7 rfl (λO n=>eM (sn O n (cI s) p)) ?_);unfold sn;have hl:p.2.1.length<=9223372036854775807:=hp.2.1.1;refine ae (JA (N:=p.2.1.length) (f:=zbK s p.2.1) (enc:=λi=>((i:Int),())) (oB:=λe=>(e,())) (oE:=()) (λi a=>?_) ?_ ?_)
 ·unfold jT;refine bA a (aD a (ar (decide_eq_true (by simp)) (ar (by grind) ?_)));rw[ap_,q_];refine ak (FQ s hs _ _ (by grind) (hp.2.1.2 _ (b_ a))) ?_;rw[<-zeE a];refine aA (λh=>aa ?_) λh=>aa ?_;·grind
  ·rw[if_pos (by grind),au a hl]
 ·unfold jT;exact be (aa rfl)
 rw[zfT];by_cases e:qI (zbK s p.2.1) p.2.1.length=0;·rw[if_pos e,if_neg (not_not_intro e)];refine ae (cG (b:=(p.2.2.1 != 2)) (λ_=>aa rfl) (aA (λh=>aa ?_) λh=>aa ?_));all_goals grind
 ·rw[if_neg e,if_pos e];exact aa rfl
theorem zeR(v:List V7)(b:∀r∈v,Vd r.2.1.1)(i:Nat)(a:i<v.length):aK tbl eN [.d tI (i:Int),.ptr 0 0] [.box cU [.d (.list yR) v]] eR (rP v[i],v,()):=by refine aG rfl (aF Bs rfl (λO n=>eM (qO O n (i:Int) v)) ?_);unfold qO;exact aD a (ak (N0 _ (b _ (b_ a))) (aa rfl))
theorem zeS(v:List HRU)(e:∀r∈v,r.2.1.length<=1048576)(i:Nat)(a:i<v.length):aK tbl eO [.d tI (i:Int),.ptr 0 0] [.box dz [.d (.list yH) v]] eS (qK v[i].2.1,v,()):=by refine aG rfl (aF Bt rfl (λO n=>eM (qP O n (i:Int) v)) ?_);unfold qP;obtain⟨c,b,d⟩:=EI v[i].2.1 (e _ (b_ a));rw[<-zfQ b];exact aD a (ak d (aa rfl))
theorem zeT(v:List Wa)(b:∀r∈v,True)(i:Nat)(a:i<v.length):aK tbl eP [.d tI (i:Int),.ptr 0 0] [.box cA [.d (.list yC) v]] eT (sC v[i],v,()):=by refine aG rfl (aF Bu rfl (λO n=>eM (qQ O n (i:Int) v)) ?_);unfold qQ;exact aD a (ak (yz _) (aa rfl))
theorem zbT(v:List V7)(hl:v.length<=9223372036854775807)(b:∀r∈v,Vd r.2.1.1):aK tbl lu [.d tI (v.length:Int),.clo oh [0]] [.box cU [.d (.list yR) v]] fJ (cE rP v,v,()):=by
 refine aG rfl (aF Iq rfl (λO n=>eM (ws O n (v.length:Int) v)) ?_);unfold ws;refine ae (uG (l:=v) (f:=rP) (enc:=λi=>((i:Int),v,())) (oB:=λe=>(e,v,())) (oE:=(v,())) (λi a=>?_) ?_ ?_)
 ·unfold mY;refine bA a (ak (zeR v b i a) (aA (λh=>aa ?_) λh=>aa ?_));·rw[if_neg (by simpa using h)]
  ·rw[if_pos (by simpa using h),au a hl]
 ·unfold mY;exact be (aa rfl)
 by_cases e:cE rP v=0;·rw[if_pos e];refine aa ?_;rw[e]
 ·rw[if_neg e];exact aa rfl
theorem zbU(v:List HRU)(hl:v.length<=9223372036854775807)(b:∀r∈v,r.2.1.length<=1048576):aK tbl iA [.d tI (v.length:Int),.clo oj [0]] [.box dz [.d (.list yH) v]] dX (cE (λr=>qK r.2.1) v,v,()):=by
 refine aG rfl (aF Db rfl (λO n=>eM (sv O n (v.length:Int) v)) ?_);unfold sv;refine ae (uG (l:=v) (f:=(λr=>qK r.2.1)) (enc:=λi=>((i:Int),v,())) (oB:=λe=>(e,v,())) (oE:=(v,())) (λi a=>?_) ?_ ?_)
 ·unfold jX;refine bA a (ak (zeS v b i a) (aA (λh=>aa ?_) λh=>aa ?_));·rw[if_neg (by simpa using h)]
  ·rw[if_pos (by simpa using h),au a hl]
 ·unfold jX;exact be (aa rfl)
 by_cases e:cE (λr=>qK r.2.1) v=0;·rw[if_pos e];refine aa ?_;rw[e]
 ·rw[if_neg e];exact aa rfl
theorem zbV(v:List Wa)(hl:v.length<=9223372036854775807)(b:∀r∈v,True):aK tbl iB [.d tI (v.length:Int),.clo om [0]] [.box cA [.d (.list yC) v]] dY (cE sC v,v,()):=by
 refine aG rfl (aF Dc rfl (λO n=>eM (sw O n (v.length:Int) v)) ?_);unfold sw;refine ae (uG (l:=v) (f:=sC) (enc:=λi=>((i:Int),v,())) (oB:=λe=>(e,v,())) (oE:=(v,())) (λi a=>?_) ?_ ?_)
 ·unfold jY;refine bA a (ak (zeT v b i a) (aA (λh=>aa ?_) λh=>aa ?_));·rw[if_neg (by simpa using h)]
  ·rw[if_pos (by simpa using h),au a hl]
 ·unfold jY;exact be (aa rfl)
 by_cases e:cE sC v=0;·rw[if_pos e];refine aa ?_;rw[e]
 ·rw[if_neg e];exact aa rfl
theorem K6{α:Type}{nm:α->List UInt8}{sz:α->Nat}{a:α->Int}{l:List α}{i:Nat}(b:i<l.length):R1 nm sz a l i=if vN (l.map nm) i≠0 then vN (l.map nm) i else if sz l[i]>64 then 4 else a l[i]:=by unfold R1;grind
theorem zib{s:PS}(h:SmP s){i:Nat}(a:i<s.1.length):s.1[i].2.1.length<=9223372036854775807/\∀r∈s.1[i].2.1,Vd r.2.1.1:=⟨(h.ok.1.2 _ (b_ a)).2.1.1,λr hr=>((h.ok.1.2 _ (b_ a)).2.1.2 r hr).2.1.1⟩
theorem zic{s:PS}(h:SmP s){i:Nat}(a:i<s.2.1.length):s.2.1[i].2.1.length<=9223372036854775807/\∀r∈s.2.1[i].2.1,r.2.1.length<=1048576:=⟨(h.ok.2.1.2 _ (b_ a)).2.1.1,λr hr=>h.pt _ (b_ a) r hr⟩
theorem zid{s:PS}(h:SmP s){i:Nat}(a:i<s.2.2.1.length):s.2.2.1[i].2.1.length<=9223372036854775807/\∀r∈s.2.2.1[i].2.1,True:=⟨(h.ok.2.2.1.2 _ (b_ a)).2.1.1,λ_ _=>trivial⟩
theorem ziz{s:PS}(h:SmP s){i:Nat}(a:i<s.1.length):s.1[i].1.length<=9223372036854775807:=(h.ok.1.2 _ (b_ a)).1
theorem ziA{s:PS}(h:SmP s){i:Nat}(a:i<s.2.1.length):s.2.1[i].1.length<=9223372036854775807:=(h.ok.2.1.2 _ (b_ a)).1
theorem ziB{s:PS}(h:SmP s){i:Nat}(a:i<s.2.2.1.length):s.2.2.1[i].1.length<=9223372036854775807:=(h.ok.2.2.1.2 _ (b_ a)).1
theorem ziC{s:PS}(h:SmP s){i:Nat}(a:i<s.2.2.2.1.length):s.2.2.2.1[i].1.length<=9223372036854775807:=(h.ok.2.2.2.1.2 _ (b_ a)).1
abbrev bxS(s:PS):Ob:=.box aQ [.d (.list yL) s.1,.d (.list yG) s.2.1,.d (.list yD) s.2.2.1,.d (.list yO) s.2.2.2.1]
theorem zeU(s:PS)(i:Nat)(a:i<s.1.length):aK tbl fQ [.d tI (i:Int),.ptr 0 0] [bxS s] gg ((s.1[i].2.1.length:Int),s.1,s.2.1,s.2.2.1,s.2.2.2.1,()):=by refine aG rfl (aF Ew rfl (λO n=>eM (tP O n (i:Int) s.1 s.2.1 s.2.2.1 s.2.2.2.1)) ?_);unfold tP;exact aD a (aa rfl)
theorem zbY(s:PS)(hs:SmP s)(i:Nat)(a:i<s.1.length):aK tbl fR [.d tI (i:Int),.ptr 0 0] [bxS s] gh (cE rP s.1[i].2.1,s.1,s.2.1,s.2.2.1,s.2.2.2.1,()):=by refine aG rfl (aF Ex rfl (λO n=>eM (tR O n (i:Int) s.1 s.2.1 s.2.2.1 s.2.2.2.1)) ?_);unfold tR;refine aD a (ak (zbT _ (zib hs a).1 (zib hs a).2) (aa rfl))
theorem zeN(s:PS)(hs:SmP s):aK tbl lm [.d (.list tS) (s.1.map (·.1)),.clo q7 [0],.clo q8 [0]] [bxS s] ez (im (·.1) (λl=>l.2.1.length) (λl=>cE rP l.2.1) s.1,s.1,s.2.1,s.2.2.1,s.2.2.2.1,()):=by
 refine aG rfl (aF Ip rfl (λO n=>eM (wq O n (s.1.map (·.1)) s.1 s.2.1 s.2.2.1 s.2.2.2.1)) ?_);unfold wq;refine aA (λh=>aa ?_) λh=>?_;·rw[show im (·.1) (λl=>l.2.1.length) (λl=>cE rP l.2.1) s.1=4 from if_pos (by have:=of_decide_eq_true h;rw[g_]at this;omega)]
 have d:¬s.1.length>64:=by have:=of_decide_eq_false h;rw[g_]at this;omega
 rw[show im (·.1) (λl=>l.2.1.length) (λl=>cE rP l.2.1) s.1=qI (R1 (·.1) (λl=>l.2.1.length) (λl=>cE rP l.2.1) s.1) (s.1.map (·.1)).length from by unfold im;rw[if_neg d,g_]];generalize g:R1 (·.1) (λl=>l.2.1.length) (λl=>cE rP l.2.1) s.1=E;refine ae (JA (N:=(s.1.map (·.1)).length) (f:=E) (enc:=λi=>((i:Int),s.1,s.2.1,s.2.2.1,s.2.2.2.1,())) (oB:=λe=>(e,s.1,s.2.1,s.2.2.1,s.2.2.2.1,())) (oE:=(s.1,s.2.1,s.2.2.1,s.2.2.2.1,())) (λi c=>?_) ?_ ?_)
 ·unfold mX;have a:i<s.1.length:=by rw[g_]at c;exact c
  have b:E i=if vN (s.1.map (·.1)) i≠0 then vN (s.1.map (·.1)) i else if s.1[i].2.1.length>64 then 4 else cE rP s.1[i].2.1:=by rw[<-g];exact K6 a
  refine bA c (aD c (ar (decide_eq_true (by omega)) (ar (by simp;omega) ?_)));refine ak (pn _ i c (by rw[g_];omega) (by rw[G_];exact ziz hs a)) ?_;refine aA (λh=>aa ?_) λh=>?_
  ·have h:vN (s.1.map (·.1)) i≠0:=by simpa using h
   rw[if_pos h]at b;rw[b,if_neg h]
  rw[if_neg (by simpa using h)]at b;refine ak (zeU s i a) (aA (λh=>aa ?_) λh=>?_);·have h:decide ((s.1[i].2.1.length:Int)>64)=true:=h;rw[if_pos (by have:=of_decide_eq_true h;omega)]at b;rw[b,if_neg (by decide)]
  have h:decide ((s.1[i].2.1.length:Int)>64)=false:=h;rw[if_neg (by have:=of_decide_eq_false h;omega)]at b;refine ak (zbY s hs i a) (aA (λh=>aa ?_) λh=>aa ?_);·rw[b,if_neg (by simpa using h)]
  ·rw[b,if_pos (by simpa using h),au a (by omega)]
 ·unfold mX;exact be (aa rfl)
 by_cases e:qI E (s.1.map (·.1)).length=0;·rw[if_pos e];refine aa ?_;rw[e]
 ·rw[if_neg e];exact aa rfl
theorem zeV(s:PS)(i:Nat)(a:i<s.2.1.length):aK tbl fS [.d tI (i:Int),.ptr 0 0] [bxS s] gj ((s.2.1[i].2.1.length:Int),s.1,s.2.1,s.2.2.1,s.2.2.2.1,()):=by refine aG rfl (aF Ey rfl (λO n=>eM (tU O n (i:Int) s.1 s.2.1 s.2.2.1 s.2.2.2.1)) ?_);unfold tU;exact aD a (aa rfl)
theorem zbZ(s:PS)(hs:SmP s)(i:Nat)(a:i<s.2.1.length):aK tbl fT [.d tI (i:Int),.ptr 0 0] [bxS s] gm (cE (λr=>qK r.2.1) s.2.1[i].2.1,s.1,s.2.1,s.2.2.1,s.2.2.2.1,()):=by refine aG rfl (aF Ez rfl (λO n=>eM (tV O n (i:Int) s.1 s.2.1 s.2.2.1 s.2.2.2.1)) ?_);unfold tV;refine aD a (ak (zbU _ (zic hs a).1 (zic hs a).2) (aa rfl))
theorem zeO(s:PS)(hs:SmP s):aK tbl ix [.d (.list tS) (s.2.1.map (·.1)),.clo q9 [0],.clo ra [0]] [bxS s] cZ (im (·.1) (λl=>l.2.1.length) (λl=>cE (λr=>qK r.2.1) l.2.1) s.2.1,s.1,s.2.1,s.2.2.1,s.2.2.2.1,()):=by
 refine aG rfl (aF C8 rfl (λO n=>eM (sq O n (s.2.1.map (·.1)) s.1 s.2.1 s.2.2.1 s.2.2.2.1)) ?_);unfold sq;refine aA (λh=>aa ?_) λh=>?_;·rw[show im (·.1) (λl=>l.2.1.length) (λl=>cE (λr=>qK r.2.1) l.2.1) s.2.1=4 from if_pos (by have:=of_decide_eq_true h;rw[g_]at this;omega)]
 have d:¬s.2.1.length>64:=by have:=of_decide_eq_false h;rw[g_]at this;omega
 rw[show im (·.1) (λl=>l.2.1.length) (λl=>cE (λr=>qK r.2.1) l.2.1) s.2.1=qI (R1 (·.1) (λl=>l.2.1.length) (λl=>cE (λr=>qK r.2.1) l.2.1) s.2.1) (s.2.1.map (·.1)).length from by unfold im;rw[if_neg d,g_]];generalize g:R1 (·.1) (λl=>l.2.1.length) (λl=>cE (λr=>qK r.2.1) l.2.1) s.2.1=E;refine ae (JA (N:=(s.2.1.map (·.1)).length) (f:=E) (enc:=λi=>((i:Int),s.1,s.2.1,s.2.2.1,s.2.2.2.1,())) (oB:=λe=>(e,s.1,s.2.1,s.2.2.1,s.2.2.2.1,())) (oE:=(s.1,s.2.1,s.2.2.1,s.2.2.2.1,())) (λi c=>?_) ?_ ?_)
 ·unfold jU;have a:i<s.2.1.length:=by rw[g_]at c;exact c
  have b:E i=if vN (s.2.1.map (·.1)) i≠0 then vN (s.2.1.map (·.1)) i else if s.2.1[i].2.1.length>64 then 4 else cE (λr=>qK r.2.1) s.2.1[i].2.1:=by rw[<-g];exact K6 a
  refine bA c (aD c (ar (decide_eq_true (by omega)) (ar (by simp;omega) ?_)));refine ak (pn _ i c (by rw[g_];omega) (by rw[G_];exact ziA hs a)) ?_;refine aA (λh=>aa ?_) λh=>?_
  ·have h:vN (s.2.1.map (·.1)) i≠0:=by simpa using h
   rw[if_pos h]at b;rw[b,if_neg h]
  rw[if_neg (by simpa using h)]at b;refine ak (zeV s i a) (aA (λh=>aa ?_) λh=>?_);·have h:decide ((s.2.1[i].2.1.length:Int)>64)=true:=h;rw[if_pos (by have:=of_decide_eq_true h;omega)]at b;rw[b,if_neg (by decide)]
  have h:decide ((s.2.1[i].2.1.length:Int)>64)=false:=h;rw[if_neg (by have:=of_decide_eq_false h;omega)]at b;refine ak (zbZ s hs i a) (aA (λh=>aa ?_) λh=>aa ?_);·rw[b,if_neg (by simpa using h)]
  ·rw[b,if_pos (by simpa using h),au a (by omega)]
 ·unfold jU;exact be (aa rfl)
 by_cases e:qI E (s.2.1.map (·.1)).length=0;·rw[if_pos e];refine aa ?_;rw[e]
 ·rw[if_neg e];exact aa rfl
theorem zeW(s:PS)(i:Nat)(a:i<s.2.2.1.length):aK tbl fU [.d tI (i:Int),.ptr 0 0] [bxS s] gp ((s.2.2.1[i].2.1.length:Int),s.1,s.2.1,s.2.2.1,s.2.2.2.1,()):=by refine aG rfl (aF EA rfl (λO n=>eM (tX O n (i:Int) s.1 s.2.1 s.2.2.1 s.2.2.2.1)) ?_);unfold tX;exact aD a (aa rfl)
theorem zb0(s:PS)(hs:SmP s)(i:Nat)(a:i<s.2.2.1.length):aK tbl fV [.d tI (i:Int),.ptr 0 0] [bxS s] gq (cE sC s.2.2.1[i].2.1,s.1,s.2.1,s.2.2.1,s.2.2.2.1,()):=by refine aG rfl (aF EB rfl (λO n=>eM (tZ O n (i:Int) s.1 s.2.1 s.2.2.1 s.2.2.2.1)) ?_);unfold tZ;refine aD a (ak (zbV _ (zid hs a).1 (zid hs a).2) (aa rfl))
theorem zeP(s:PS)(hs:SmP s):aK tbl iy [.d (.list tS) (s.2.2.1.map (·.1)),.clo rb [0],.clo re [0]] [bxS s] c8 (im (·.1) (λl=>l.2.1.length) (λl=>cE sC l.2.1) s.2.2.1,s.1,s.2.1,s.2.2.1,s.2.2.2.1,()):=by
 refine aG rfl (aF C9 rfl (λO n=>eM (sr O n (s.2.2.1.map (·.1)) s.1 s.2.1 s.2.2.1 s.2.2.2.1)) ?_);unfold sr;refine aA (λh=>aa ?_) λh=>?_;·rw[show im (·.1) (λl=>l.2.1.length) (λl=>cE sC l.2.1) s.2.2.1=4 from if_pos (by have:=of_decide_eq_true h;rw[g_]at this;omega)]
 have d:¬s.2.2.1.length>64:=by have:=of_decide_eq_false h;rw[g_]at this;omega
 rw[show im (·.1) (λl=>l.2.1.length) (λl=>cE sC l.2.1) s.2.2.1=qI (R1 (·.1) (λl=>l.2.1.length) (λl=>cE sC l.2.1) s.2.2.1) (s.2.2.1.map (·.1)).length from by unfold im;rw[if_neg d,g_]];generalize g:R1 (·.1) (λl=>l.2.1.length) (λl=>cE sC l.2.1) s.2.2.1=E;refine ae (JA (N:=(s.2.2.1.map (·.1)).length) (f:=E) (enc:=λi=>((i:Int),s.1,s.2.1,s.2.2.1,s.2.2.2.1,())) (oB:=λe=>(e,s.1,s.2.1,s.2.2.1,s.2.2.2.1,())) (oE:=(s.1,s.2.1,s.2.2.1,s.2.2.2.1,())) (λi c=>?_) ?_ ?_)
 ·unfold jV;have a:i<s.2.2.1.length:=by rw[g_]at c;exact c
  have b:E i=if vN (s.2.2.1.map (·.1)) i≠0 then vN (s.2.2.1.map (·.1)) i else if s.2.2.1[i].2.1.length>64 then 4 else cE sC s.2.2.1[i].2.1:=by rw[<-g];exact K6 a
  refine bA c (aD c (ar (decide_eq_true (by omega)) (ar (by simp;omega) ?_)));refine ak (pn _ i c (by rw[g_];omega) (by rw[G_];exact ziB hs a)) ?_;refine aA (λh=>aa ?_) λh=>?_
  ·have h:vN (s.2.2.1.map (·.1)) i≠0:=by simpa using h
   rw[if_pos h]at b;rw[b,if_neg h]
  rw[if_neg (by simpa using h)]at b;refine ak (zeW s i a) (aA (λh=>aa ?_) λh=>?_);·have h:decide ((s.2.2.1[i].2.1.length:Int)>64)=true:=h;rw[if_pos (by have:=of_decide_eq_true h;omega)]at b;rw[b,if_neg (by decide)]
  have h:decide ((s.2.2.1[i].2.1.length:Int)>64)=false:=h;rw[if_neg (by have:=of_decide_eq_false h;omega)]at b;refine ak (zb0 s hs i a) (aA (λh=>aa ?_) λh=>aa ?_);·rw[b,if_neg (by simpa using h)]
  ·rw[b,if_pos (by simpa using h),au a (by omega)]
 ·unfold jV;exact be (aa rfl)
 by_cases e:qI E (s.2.2.1.map (·.1)).length=0;·rw[if_pos e];refine aa ?_;rw[e]
 ·rw[if_neg e];exact aa rfl
abbrev bxN(s:PS):Ob:=.box ku [.d (.list tS) (cI s).1,.d (.list tS) (cI s).2.1,.d (.list tS) (cI s).2.2.1,.d (.list tS) (cI s).2.2.2.1]
theorem pk8(x:HL q_policy_Check_8_drr.sl):qW q_policy_Check_8_drr (f9 q_policy_Check_8_drr x)=some x:=by kernel_rfl
theorem ziw(x:HL q_policy_each_dcc_v3.sl):qW q_policy_each_dcc_v3 (f9 q_policy_each_dcc_v3 x)=some x:=by kernel_rfl
theorem zeX(s:PS)(i:Nat)(a:i<s.2.2.2.1.length):aK tbl fW [.d tI (i:Int),.ptr 0 0] [bxS s] gr ((s.2.2.2.1[i].2.1.length:Int),s.1,s.2.1,s.2.2.1,s.2.2.2.1,()):=by refine aG rfl (aF EC rfl (λO n=>eM (t7 O n (i:Int) s.1 s.2.1 s.2.2.1 s.2.2.2.1)) ?_);unfold t7;exact aD a (aa rfl)
theorem zb1(s:PS)(hs:SmP s)(i:Nat)(a:i<s.2.2.2.1.length):aK tbl ft [.d tI (i:Int),.ptr 0 0,.ptr 1 0] [bxN s,bxS s] q_policy_Check_8_drr (wj s s.2.2.2.1[i],(cI s).1,(cI s).2.1,(cI s).2.2.1,(cI s).2.2.2.1,s.1,s.2.1,s.2.2.1,s.2.2.2.1,()):=by refine aG (pk8 _) (aF C5 rfl (λO n=>eM (si O n (i:Int) (cI s).1 (cI s).2.1 (cI s).2.2.1 (cI s).2.2.2.1 s.1 s.2.1 s.2.2.1 s.2.2.2.1)) ?_);unfold si;exact aD a (ak (BC s hs.ok _ (hs.ok.2.2.2.1.2 _ (b_ a))) (aa rfl))
theorem zeQ(s:PS)(hs:SmP s):aK tbl iz [.d (.list tS) (s.2.2.2.1.map (·.1)),.clo rf [0],.clo rh [1,0]] [bxS s,bxN s] q_policy_each_dcc_v3 (im (·.1) (λp=>p.2.1.length) (wj s) s.2.2.2.1,s.1,s.2.1,s.2.2.1,s.2.2.2.1,(cI s).1,(cI s).2.1,(cI s).2.2.1,(cI s).2.2.2.1,()):=by
 refine aG (ziw _) (aF Da rfl (λO n=>eM (su O n (s.2.2.2.1.map (·.1)) s.1 s.2.1 s.2.2.1 s.2.2.2.1 (cI s).1 (cI s).2.1 (cI s).2.2.1 (cI s).2.2.2.1)) ?_);unfold su;refine aA (λh=>aa ?_) λh=>?_;·rw[show im (·.1) (λp=>p.2.1.length) (wj s) s.2.2.2.1=4 from if_pos (by grind)]
 have d:¬s.2.2.2.1.length>64:=by grind
 rw[show im (·.1) (λp=>p.2.1.length) (wj s) s.2.2.2.1=qI (R1 (·.1) (λp=>p.2.1.length) (wj s) s.2.2.2.1) (s.2.2.2.1.map (·.1)).length from by unfold im;grind];generalize g:R1 (·.1) (λp=>p.2.1.length) (wj s) s.2.2.2.1=E;refine ae (JA (N:=(s.2.2.2.1.map (·.1)).length) (f:=E) (enc:=λi=>((i:Int),s.1,s.2.1,s.2.2.1,s.2.2.2.1,(cI s).1,(cI s).2.1,(cI s).2.2.1,(cI s).2.2.2.1,())) (oB:=λe=>(e,s.1,s.2.1,s.2.2.1,s.2.2.2.1,(cI s).1,(cI s).2.1,(cI s).2.2.1,(cI s).2.2.2.1,())) (oE:=(s.1,s.2.1,s.2.2.1,s.2.2.2.1,(cI s).1,(cI s).2.1,(cI s).2.2.1,(cI s).2.2.2.1,())) (λi c=>?_) ?_ ?_)
 ·unfold jW;have a:i<s.2.2.2.1.length:=by grind
  have b:E i=if vN (s.2.2.2.1.map (·.1)) i≠0 then vN (s.2.2.2.1.map (·.1)) i else if s.2.2.2.1[i].2.1.length>64 then 4 else wj s s.2.2.2.1[i]:=by rw[<-g];exact K6 a
  refine bA c (aD c (ar (decide_eq_true (by simp)) (ar (by grind) ?_)));refine ak (pn _ i c (by grind) (by rw[G_];exact ziC hs a)) ?_;refine aA (λh=>aa ?_) λh=>?_;·grind
  rw[if_neg (by grind)]at b;refine ak (zeX s i a) (aA (λh=>aa ?_) λh=>?_);·grind
  have h:decide ((s.2.2.2.1[i].2.1.length:Int)>64)=false:=h;rw[if_neg (by grind)]at b;refine ak (zb1 s hs i a) (aA (λh=>aa ?_) λh=>aa ?_);·grind
  ·rw[b,if_pos (by grind),au a (by omega)]
 ·unfold jW;exact be (aa rfl)
 by_cases e:qI E (s.2.2.2.1.map (·.1)).length=0;·rw[if_pos e];refine aa ?_;rw[e]
 ·rw[if_neg e];exact aa rfl
theorem uS(s:PS)(hs:SmP s):aK tbl jd [.d yS s] [] dG (KL qK s,()):=by
 refine aG rfl (aF NG rfl (λO n=>eM (BL O n s)) ?_);unfold BL;refine ak (Lt s hs.l1 hs.l2 hs.l3 hs.l4) (ar rfl (ak (zeN s hs) ?_));generalize k:im (·.1) (λl=>l.2.1.length) (λl=>cE rP l.2.1) s.1=b;generalize g:im (·.1) (λl=>l.2.1.length) (λl=>cE (λr=>qK r.2.1) l.2.1) s.2.1=c;generalize j:im (·.1) (λl=>l.2.1.length) (λl=>cE sC l.2.1) s.2.2.1=d;have hp:KL qK s=if b≠0 then b else if c≠0 then c else if d≠0 then d else im (·.1) (λp=>p.2.1.length) (wj s) s.2.2.2.1:=by unfold KL;omega
 have e:=zeO s hs;have f:=zeP s hs;rw[g]at e;rw[j]at f;rw[hp];refine aA (λh=>aa ?_) λh=>ar rfl (ak e (aA (λh'=>aa ?_) λh'=>ar rfl (ak f (aA (λa=>aa ?_) λa=>ar rfl (ak (zeQ s hs) (aa ?_))))));·grind
 all_goals grind
def zDF:DFT:=([],[],[],0,())
def sQ(t:yZ):yZ:=if t.1=1 then(t.1,0,(0,0,()),t.2.2.2.1,zDF,[],())else if t.1=2 then(t.1,0,(0,0,()),[],t.2.2.2.2.1,[],())
 else if t.1=3 then(t.1,0,(0,0,()),[],zDF,t.2.2.2.2.2.1,())else if t.1=7 then(t.1,0,t.2.2.1,[],zDF,[],())else(t.1,t.2.1,(0,0,()),[],zDF,[],())
noncomputable def wk(t:yZ):Int:=
 if t.1<1\/8<t.1 then 15 else if ¬t=sQ t then 1 else if 64<t.2.2.2.1.length\/64<t.2.2.2.2.2.1.length then 4
 else if t.1=1 then cE rP t.2.2.2.1 else if t.1=2 then ik t.2.2.2.2.1 else if t.1=3 then cE sC t.2.2.2.2.2.1
 else if t.1=7 then(if Gx t.2.2.1 then 0 else 1)else if t.2.1<zfH t.1\/YL t.1<t.2.1 then 5 else 0
def O6(t:yZ)(nm:List UInt8):List Rc:=[([112],[([116],[(t.1,nm,t.2.1,t.2.2.1,false,())],[],1,())],1,())]
def vQ(t:yZ):PS:=if t.1=1 then([([108],t.2.2.2.1,())],[],[],O6 t [108],())else if t.1=2 then([],[([108],[],())],[],O6 t [108],())
 else if t.1=3 then([],[],[([108],t.2.2.2.2.2.1,())],O6 t [108],())else([],[],[],O6 t [],())
theorem J9(t:yZ):aK tbl nW [.d NV t] [] kC (vQ t,()):=by
 refine aG rfl (aF KT rfl (λO n=>eM (Az O n t)) ?_);unfold Az;obtain⟨e,f,⟨c,d,⟨⟩⟩,g,j,k,⟨⟩⟩:=t;unfold vQ;refine ae (aA (λh=>aa (aa ?_)) λh=>aA (λa=>aa (aa ?_)) λa=>aA (λb=>aa (aa ?_)) λb=>aa (aa ?_));·rw[if_pos (by simpa using h)];rfl
 ·rw[if_neg (by simpa using h),if_pos (by simpa using a)];rfl
 ·rw[if_neg (by simpa using h),if_neg (by simpa using a),if_pos (by simpa using b)];rfl
 ·rw[if_neg (by simpa using h),if_neg (by simpa using a),if_neg (by simpa using b)];rfl
theorem zg2{α:Type}(nm:α->List UInt8)(sz:α->Nat)(a:α->Int)(x:α)(h:sO (nm x)=true):im nm sz a [x]=if sz x>64 then 4 else a x:=by
 have e:qI (R1 nm sz a [x]) 1=R1 nm sz a [x] 0:=by unfold qI Ht;grind [Ht]
 unfold im;rw[if_neg (by simp),t_,e];unfold R1 vN;simp[h]
theorem WZ{α:Type}(nm:α->List UInt8)(sz:α->Nat)(a:α->Int):im nm sz a []=0:=rfl
theorem zhc(s:PS)(t:yZ)(nm:List UInt8):im (·.1) (λp=>p.2.1.length) (wj s) (O6 t nm)=uA s (t.1,nm,t.2.1,t.2.2.1,false,()):=by
 unfold O6;rw[zg2 _ _ _ _ (by show sO [112]=true;decide)];have e (m:Tb):cE (uA s) [m]=uA s m:=by unfold cE qI Ht;grind [Ht]
 have f (g:Nat->Int):qI g 1=g 0:=by unfold qI Ht;grind [Ht]
 have a:sO [116]=true:=by decide
 simp only[wj,t_,f,List.getElem?_cons_zero,qM,a,e];simp[cE,qI,Ht];grind
theorem Ji(a:List PLS)(b:List HLS)(c:List CLS)(p:List Rc):KL qK (a,b,c,p,())= if im (·.1) (λl=>l.2.1.length) (λl=>cE rP l.2.1) a≠0 then im (·.1) (λl=>l.2.1.length) (λl=>cE rP l.2.1) a else if im (·.1) (λl=>l.2.1.length) (λl=>cE (λr=>qK r.2.1) l.2.1) b≠0 then im (·.1) (λl=>l.2.1.length) (λl=>cE (λr=>qK r.2.1) l.2.1) b else if im (·.1) (λl=>l.2.1.length) (λl=>cE sC l.2.1) c≠0 then im (·.1) (λl=>l.2.1.length) (λl=>cE sC l.2.1) c else im (·.1) (λp=>p.2.1.length) (wj (a,b,c,p,())) p:=rfl
theorem W9{t:yZ}(p:¬(t.1<1\/8<t.1))(a:t=sQ t)(r:¬(64<t.2.2.2.1.length\/64<t.2.2.2.2.2.1.length))(g:¬t.1=2):KL qK (vQ t)=wk t:=by
 have s:sO [108]=true:=by decide
 unfold wk;rw[if_neg p,if_neg (not_not_intro a),if_neg r];obtain⟨k,n,⟨u,v,⟨⟩⟩,pr,d,cm,⟨⟩⟩:=t;unfold sQ at a;simp only at p r g a;by_cases e:k=1
 ·subst e;rw[if_pos rfl]at a⊢;simp only[aa_.injEq,true_and,and_true]at a;obtain⟨rfl,⟨rfl,rfl⟩,rfl,rfl⟩:=a;have h:im (·.1) (λl:PLS=>l.2.1.length) (λl=>cE rP l.2.1) [([108],pr,())]=if pr.length>64 then 4 else cE rP pr:=zg2 _ _ _ _ s;rw[show vQ (1,0,(0,0,()),pr,zDF,[],())=([([108],pr,())],[],[],O6 (1,0,(0,0,()),pr,zDF,[],()) [108],())from if_pos rfl,Ji,zhc,h,WZ,WZ,if_neg (c:=pr.length>64) (by omega),rO (.inl rfl)];by_cases b:cE rP pr=0;·rw[b];simp[WT]
  ·rw[if_pos b]
 by_cases f:k=3
 ·subst f;rw[if_neg (show ¬(3:Int)=1 by decide),if_neg (show ¬(3:Int)=2 by decide),if_pos rfl]at a⊢;simp only[aa_.injEq,true_and,and_true]at a;obtain⟨rfl,⟨rfl,rfl⟩,rfl,rfl⟩:=a;have h:im (·.1) (λl:CLS=>l.2.1.length) (λl=>cE sC l.2.1) [([108],cm,())]=if cm.length>64 then 4 else cE sC cm:=zg2 _ _ _ _ s;rw[show vQ (3,0,(0,0,()),[],zDF,cm,())=([],[],[([108],cm,())],O6 (3,0,(0,0,()),[],zDF,cm,()) [108],())from by unfold vQ;rw[if_neg (show ¬(3:Int)=1 by decide),if_neg (show ¬(3:Int)=2 by decide),if_pos rfl],Ji,zhc,h,WZ,WZ,if_neg (c:=cm.length>64) (by omega),rO (.inr (.inr rfl))];by_cases b:cE sC cm=0;·rw[b];simp[WT]
  ·simp[b]
 have w:vQ (k,n,(u,v,()),pr,d,cm,())=([],[],[],O6 (k,n,(u,v,()),pr,d,cm,()) [],()):=by unfold vQ;rw[if_neg e,if_neg g,if_neg f]
 rw[w,Ji,zhc,WZ,WZ,WZ,if_neg (by decide),if_neg (by decide),if_neg (by decide),if_neg e,if_neg g,if_neg f];rw[if_neg e,if_neg g,if_neg f]at a;by_cases j:k=7;·subst j;rw[if_pos rfl]at a⊢;simp only[aa_.injEq,true_and,and_true]at a;rw[UY,if_neg (by simp[a.1])]
 ·rw[if_neg j]at a⊢;simp only[aa_.injEq,true_and,and_true]at a;rw[UZ (by omega),if_neg (by simp[a.1])]
theorem zfP:okD tI 1:=by show IntKind.min .i64<=(1:Int)/\(1:Int)<=IntKind.max .i64;decide
theorem Y6{t:yZ}(a:okD NV t){nm:List UInt8}(hn:nm.length<=9223372036854775807):okD (.list yO) (O6 t nm):=⟨(by show 1<=_;decide),λp hp=>by rw[d_.1 hp];refine⟨(by show 1<=_;decide),⟨(by show 1<=_;decide),λx b=>?_⟩,zfP,trivial⟩;rw[d_.1 b];refine⟨(by show 1<=_;decide),⟨(by show 1<=_;decide),λm c=>?_⟩,⟨(by show 0<=_;decide),λx b=>by cases b⟩,zfP,trivial⟩;rw[d_.1 c];exact⟨a.1,hn,a.2.1,a.2.2.1,trivial,trivial⟩⟩
theorem jv{y:Ty}:okD (.list y) []:=⟨(by show 0<=_;decide),λx a=>by cases a⟩
theorem Qm{y:Ty}{x:y.den}(h:okD y x):okD (.list y) [x]:=⟨(by show 1<=_;decide),λz a=>by rw[d_.1 a];exact h⟩
theorem zf9{t:yZ}(a:okD NV t):SmP (vQ t):=by
 have b:([108]:List UInt8).length<=9223372036854775807:=by decide
 have c:([]:List UInt8).length<=9223372036854775807:=by decide
 unfold vQ;split;·exact⟨⟨Qm ⟨b,a.2.2.2.1,trivial⟩,jv,jv,Y6 a b,trivial⟩,(by show 1<=_;decide),(by show 0<=_;decide),(by show 0<=_;decide),(by show 1<=_;decide),λl hl=>by cases hl⟩
 split;·exact⟨⟨jv,Qm ⟨b,jv,trivial⟩,jv,Y6 a b,trivial⟩,(by show 0<=_;decide),(by show 1<=_;decide),(by show 0<=_;decide),(by show 1<=_;decide),λl hl r hr=>by rw[d_.1 hl]at hr;cases hr⟩
 split;·exact⟨⟨jv,jv,Qm ⟨b,a.2.2.2.2.2.1,trivial⟩,Y6 a b,trivial⟩,(by show 0<=_;decide),(by show 0<=_;decide),(by show 1<=_;decide),(by show 1<=_;decide),λl hl=>by cases hl⟩
 ·exact⟨⟨jv,jv,jv,Y6 a c,trivial⟩,(by show 0<=_;decide),(by show 0<=_;decide),(by show 0<=_;decide),(by show 1<=_;decide),λl hl=>by cases hl⟩
theorem DR(t:yZ)(f:okD NV t):aK tbl i6 [.d NV t] [] cu (wk t,()):=by
 refine aG rfl (aF Es rfl (λO n=>eM (tM O n t)) ?_);unfold tM;refine ae (cN (λ_=>aa rfl) (aA (λh=>aa ?_) λh=>?_));·rw[show wk t=15 from if_pos (by simpa using h)]
 have e:¬(t.1<1\/8<t.1):=by simp at h;omega
 have d:=show wk t=_ from if_neg e;refine ae (Wp.imp (Q:=λr=>r=((sQ t).1,(sQ t).2.1,(sQ t).2.2.1.1,(sQ t).2.2.1.2.1,(sQ t).2.2.2.1,(sQ t).2.2.2.2.1.1,(sQ t).2.2.2.2.1.2.1,(sQ t).2.2.2.2.1.2.2.1,(sQ t).2.2.2.2.1.2.2.2.1,(sQ t).2.2.2.2.2.1,())) ?_ λr hr=>?_)
 ·unfold sQ zDF;refine aA (λh=>aa ?_) λh=>aA (λa=>aa ?_) λa=>aA (λb=>aa ?_) λb=>aA (λc=>aa ?_) λc=>aa ?_;·rw[if_pos (by simpa using h)]
  ·rw[if_neg (by simpa using h),if_pos (by simpa using a)]
  ·rw[if_neg (by simpa using h),if_neg (by simpa using a),if_pos (by simpa using b)]
  ·rw[if_neg (by simpa using h),if_neg (by simpa using a),if_neg (by simpa using b),if_pos (by simpa using c)]
  ·rw[if_neg (by simpa using h),if_neg (by simpa using a),if_neg (by simpa using b),if_neg (by simpa using c)]
 subst hr;refine ak (uR t (sQ t) f) (aA (λa=>aa ?_) λa=>?_);·rw[d,if_pos (by simpa using a)]
 have a:t=sQ t:=by simpa using a
 refine ae (cN (λ_=>aa rfl) (aA (λb=>aa ?_) λb=>?_));·rw[d,if_neg (not_not_intro a),if_pos (by simp at b;omega)]
 have b:¬(64<t.2.2.2.1.length\/64<t.2.2.2.2.2.1.length):=by simp at b;omega
 by_cases c:t.1=2;·refine bc (beq_iff_eq.2 c) (ak (oH _) (aa ?_));rw[d,if_neg (not_not_intro a),if_neg b,if_neg (by omega),if_pos c]
 ·refine aH (beq_eq_false_iff_ne.2 c) (ak (J9 t) (ak (uS (vQ t) (zf9 f)) (aa ?_)));rw[W9 e a b c]
def ct(a:eC)(n:Int):Bool:=decide (n<(a.2.1.length:Int))&&decide (-(a.2.2.1.length:Int)<=n)
def bF(a:eC)(n:Int):d6:=(a.2.1[n.toNat]?).getD (0,0,0,())
def IG(a:eC)(n k:Int):Bool:=decide (n<0)||decide (k<(bF a n).1)
def Kl(a:eC)(b:d6):Int:=if b.1<0\/(a.1.length:Int)<=b.1\/ct a b.2.1=false\/ct a b.2.2.1=false then 5 else if IG a b.2.1 b.1=false\/IG a b.2.2.1 b.1=false then 16 else 0
def acE(x:Bw):Int:=if o9 x=0 then 0 else 1
def En(l:lF):Int:=if l.1=false/\l.2.1≠[]then 1 else cE acE l.2.1
noncomputable def LN(a:eC):Int:=if 2000<a.1.length\/4096<a.2.1.length\/4096<a.2.2.1.length then 4 else if cE wk a.1≠0 then cE wk a.1
 else if ct a a.2.2.2.1=false then 5 else if cE (Kl a) a.2.1≠0 then cE (Kl a) a.2.1 else cE En a.2.2.1
theorem uQ(a:eC)(n:Int)(hn:okD tI n)(hl:a.2.2.1.length<=9223372036854775807):aK tbl jc [.d yAU a,.d tI n] [] fC (ct a n,()):=by
 refine aG rfl (aF NB rfl (λO k=>eM (BG O k a n)) ?_);unfold BG;have b: -9223372036854775808<=n/\n<=9223372036854775807:=hn;refine aA (λh=>aa ?_) λh=>aa ?_;·have h:=of_decide_eq_true h;unfold ct;rw[show decide (-(a.2.2.1.length:Int)<=n)=true from decide_eq_true (by omega),ar_]
 ·have h:=of_decide_eq_false h;rw[wrap_i64 (by omega) (by omega)];unfold ct;rw[show decide (n<(a.2.1.length:Int))=true from decide_eq_true (by omega),ah_];rw[show decide (-1 - n<(a.2.2.1.length:Int))=decide (-(a.2.2.1.length:Int)<=n)from decide_eq_decide.2 (by omega)]
theorem qp{a:eC}{n:Int}(h:ct a n=true)(b:0<=n):∃k:Nat,n=k/\k<a.2.1.length:=by unfold ct at h;simp only[v_,decide_eq_true_eq]at h;exact⟨n.toNat,by omega,by omega⟩
theorem nE{a:eC}{k:Nat}(h:k<a.2.1.length):bF a k=a.2.1[k]:=by unfold bF;rw[q_,a_ h];rfl
theorem Aq(a:eC)(n k:Int)(hn:ct a n=true):aK tbl kj [.d yAU a,.d tI n,.d tI k] [] iq (IG a n k,()):=by refine aG rfl (aF KS rfl (λO j=>eM (Ay O j a n k)) ?_);unfold Ay;refine ae (cN (b:=decide (k<(bF a n).1)) (λh=>?_) (aa rfl));obtain⟨i,rfl,c⟩:=qp hn (by simpa using h);rw[nE c];exact aD c (aa rfl)
def zhH(x:Bw):PS:=([],[],[],[([112],[([116],[],[x],1,())],1,())],())
theorem zdO(x:Bw):KL qK (zhH x)=o9 x:=zhx qK x
theorem zia{x:Bw}(b:okD yA x):SmP (zhH x):=by
 have a:∀c:UInt8,([c]:List UInt8).length<=9223372036854775807:=λc=>by show 1<=_;decide
 exact⟨⟨jv,jv,jv,Qm ⟨a _,Qm ⟨a _,jv,Qm b,zfP,trivial⟩,zfP,trivial⟩,trivial⟩,(by show 0<=_;decide),(by show 0<=_;decide),(by show 0<=_;decide),(by show 1<=_;decide),λl hl=>by cases hl⟩
theorem nb{b:Bool}:(!b)=true↔b=false:=by cases b<;>decide
theorem or4{e f g h:Bool}{a b c d:Prop}(j:e=true↔a)(k:f=true↔b)(l:g=true↔c)(n:h=true↔d):(((e||f)||g)||h)=true↔a\/b\/c\/d:=by rw[m_,m_,m_,j,k,l,n,or_assoc,or_assoc]
theorem or_not2{x y:Bool}:(!x|| !y)=true↔(x=false\/y=false):=by cases x<;>cases y<;>decide
theorem zgR{a:eC}{b:d6}(h:(((decide (b.1<0)||decide (b.1>=(a.1.length:Int)))|| !ct a b.2.1)|| !ct a b.2.2.1)=true):Kl a b=5:=by unfold Kl;rw[if_pos];exact(or4 decide_eq_true_iff decide_eq_true_iff nb nb).1 h
theorem zgS{a:eC}{b:d6}(h:(((decide (b.1<0)||decide (b.1>=(a.1.length:Int)))|| !ct a b.2.1)|| !ct a b.2.2.1)=false): ct a b.2.1=true/\ct a b.2.2.1=true/\Kl a b=if IG a b.2.1 b.1=false\/IG a b.2.2.1 b.1=false then 16 else 0:=by
 simp only[k_,C_,decide_eq_false_iff_not]at h;obtain⟨⟨⟨e,f⟩,c⟩,d⟩:=h;refine⟨c,d,?_⟩;unfold Kl;rw[if_neg];rintro(h|h|h|h);·exact e h
 ·exact f h
 ·rw[c]at h;cases h
 ·rw[d]at h;cases h
theorem Ap(a:eC)(r:okD yAU a):aK tbl dK [.d yAU a] [] bR (LN a,()):=by
 refine aG rfl (aF KR rfl (λO k=>eM (Ax O k a)) ?_);unfold Ax;refine ae (cN (λ_=>aa rfl) (ae (cN (λ_=>aa rfl) (aA (λh=>aa ?_) λh=>?_))));·rw[show LN a=4 from if_pos (by simp at h;omega)]
 have u:¬(2000<a.1.length\/4096<a.2.1.length\/4096<a.2.2.1.length):=by simp at h;omega
 have d:=show LN a=_ from if_neg u;have hl:a.2.2.1.length<=9223372036854775807:=by omega
 refine ae (uG (l:=a.1) (f:=wk) (enc:=λi=>((i:Int),())) (oB:=λe=>(e,())) (oE:=()) (λi b=>?_) ?_ ?_)
 ·unfold py;refine bA b (aD b (ak (DR _ (r.1.2 _ (b_ b))) (aA (λh=>aa ?_) λh=>aa ?_)));·rw[if_neg (by simpa using h)]
  ·rw[if_pos (by simpa using h),au b (by omega)]
 ·unfold py;exact be (aa rfl)
 by_cases p:cE wk a.1=0
 rotate_left
 ·rw[if_neg p];refine aa ?_;rw[d,if_pos p]
 rw[if_pos p];rw[if_neg (not_not_intro p)]at d;refine ak (uQ a _ r.2.2.2.1 hl) (aA (λh=>aa ?_) λh=>?_);·rw[d,if_pos (by simpa using h)]
 rw[if_neg (by simpa using h)]at d;refine ae (uG (l:=a.2.1) (f:=Kl a) (enc:=λi=>((i:Int),())) (oB:=λe=>(e,())) (oE:=()) (λi b=>?_) ?_ ?_)
 ·unfold pA;have n:=r.2.1.2 _ (b_ b);refine bA b (aD b ?_);refine ae (cN (λ_=>aa rfl) (ae (cN (λ_=>ak (uQ a _ n.2.1 hl) (aa rfl)) (ae (cN (λ_=>ak (uQ a _ n.2.2.1 hl) (aa rfl)) (aA (λh=>aa ?_) λh=>?_))))));·rw[zgR h];rfl
  obtain⟨v,w,c⟩:=zgS h;refine ak (Aq a _ _ v) (ae (cN (λ_=>ak (Aq a _ _ w) (aa rfl)) (aA (λh=>aa ?_) λh=>aa ?_)));·rw[if_pos (or_not2.1 h)]at c;rw[c];rfl
  ·rw[if_neg λx=>by rw[or_not2.2 x]at h;cases h]at c;rw[c,if_pos rfl,au b (by omega)]
 ·unfold pA;exact be (aa rfl)
 by_cases c:cE (Kl a) a.2.1=0
 rotate_left
 ·rw[if_neg c];refine aa ?_;rw[d,if_pos c]
 rw[if_pos c];rw[if_neg (not_not_intro c)]at d;refine ae (uG (l:=a.2.2.1) (f:=En) (enc:=λi=>((i:Int),())) (oB:=λe=>(e,())) (oE:=()) (λi b=>?_) ?_ ?_)
 ·unfold pC;have n:=r.2.2.1.2 _ (b_ b);refine bA b (aD b (ae (cG (λ_=>aa rfl) (aA (λh=>aa ?_) λh=>?_))))
  ·have h:a.2.2.1[i].1=false/\a.2.2.1[i].2.1≠[]:=by simp only[v_,R_,decide_eq_true_eq]at h;exact⟨h.1,λe=>by rw[e]at h;exact absurd h.2 (by decide)⟩
   rw[show En a.2.2.1[i]=1 from if_pos h];rfl
  have h:¬(a.2.2.1[i].1=false/\a.2.2.1[i].2.1≠[]):=fun⟨x,y⟩=>by have:=ag_.2 y;rw[x,Bool.not_false,ah_]at h;simp at h;exact y h
  rw[show En a.2.2.1[i]=cE acE a.2.2.1[i].2.1 from if_neg h];refine ae (uG (l:=a.2.2.1[i].2.1) (f:=acE) (enc:=λi=>((i:Int),())) (oB:=λe=>(e,())) (oE:=()) (λj s=>?_) ?_ ?_)
  ·unfold pB;have hc:=uS _ (zia (n.2.1.2 _ (b_ s)));rw[zdO]at hc;refine bA s (aD s (ak hc (aA (λh=>aa ?_) λh=>aa ?_)));·rw[show acE a.2.2.1[i].2.1[j]=1 from if_neg (by simpa using h)];rfl
   ·rw[show acE a.2.2.1[i].2.1[j]=0 from if_pos (by simpa using h),if_pos rfl,au s n.2.1.1]
  ·unfold pB;exact be (aa rfl)
  by_cases g:cE acE a.2.2.1[i].2.1=0;·rw[if_pos g,if_pos g];refine aa ?_;rw[au b (by omega)]
  ·rw[if_neg g,if_neg g];exact aa rfl
 ·unfold pC;exact be (aa rfl)
 by_cases g:cE En a.2.2.1=0;·rw[if_pos g];refine aa ?_;rw[d,g]
 ·rw[if_neg g];refine aa ?_;rw[d]
structure AutOk(a:eC):Prop where
 l1:a.1.length<=2000
 l2:a.2.1.length<=4096
 l3:a.2.2.1.length<=4096
 ts:∀t∈a.1,wk t=0
 rt:ct a a.2.2.2.1=true
 br:∀b∈a.2.1,Kl a b=0
 lf:∀l∈a.2.2.1,En l=0
theorem ze9{a:eC}(h:LN a=0):AutOk a:=by
 unfold LN at h;split at h;·cases h
 rename_i e;split at h;·rename_i b;exact absurd h b
 rename_i b;split at h;·cases h
 rename_i d;split at h;·rename_i c;exact absurd h c
 rename_i c;exact⟨by omega,by omega,by omega,errL_zero.1 (h_ b),by simpa using d,errL_zero.1 (h_ c),errL_zero.1 h⟩
theorem ze8{a:eC}(h:AutOk a):LN a=0:=by have b:=h.l1;have c:=h.l2;have d:=h.l3;unfold LN;rw[if_neg (by omega),if_neg (not_not_intro (errL_zero.2 h.ts)),if_neg (by rw[h.rt];decide),if_neg (not_not_intro (errL_zero.2 h.br)),errL_zero.2 h.lf]
theorem Rm{a:eC}{b:d6}(h:Kl a b=0):(0<=b.1/\b.1<(a.1.length:Int))/\(ct a b.2.1=true/\ct a b.2.2.1=true)/\IG a b.2.1 b.1=true/\IG a b.2.2.1 b.1=true:=by
 unfold Kl at h;split at h;·cases h
 rename_i c;split at h;·cases h
 rename_i d;rw[not_or,not_or,not_or]at c;rw[not_or]at d;exact⟨⟨by omega,by omega⟩,⟨by simpa using c.2.2.1,by simpa using c.2.2.2⟩,by simpa using d.1,by simpa using d.2⟩
inductive Fol(a:eC)(res:Int->Bool):Int->Int->Nat->Prop
 |leaf {n:Int}:n<0->Fol a res n n 0
 |step {n m:Int} {k:Nat}:0<=n->Fol a res (if res (bF a n).1=true then(bF a n).2.1 else(bF a n).2.2.1) m k->Fol a res n m (k+1)
def mu(a:eC)(n:Int):Nat:=if n<0 then 0 else a.1.length - (bF a n).1.toNat
theorem yf{a:eC}(h:AutOk a){n:Int}(hn:ct a n=true)(p:0<=n):∀n',(n'=(bF a n).2.1\/n'=(bF a n).2.2.1)->ct a n'=true/\mu a n'<mu a n:=by
 obtain⟨k,rfl,b⟩:=qp hn p;obtain⟨⟨u,v⟩,⟨d,f⟩,j,l⟩:=Rm (h.br _ (b_ b));have e:mu a k=a.1.length - (a.2.1[k].1).toNat:=by unfold mu;rw[if_neg (by omega),nE b]
 have g:∀n',ct a n'=true->IG a n' a.2.1[k].1=true->ct a n'=true/\mu a n'<mu a k:=λn' r c=>by
  refine⟨r,?_⟩;rw[e];unfold mu;split;·omega
  ·rename_i s;unfold IG at c;simp only[m_,decide_eq_true_eq]at c;omega
 rw[nE b];rintro n' (rfl|rfl);·exact g _ d j
 ·exact g _ f l
structure FolOk(a:eC)(res:Int->Bool)(m:Int)(K:Nat):Prop where
 ok:AutOk a
 K8:Fol a res a.2.2.2.1 m K
 neg:m<0
 nd:ct a m=true
 le:K<=2000
def eQ(a:eC)(m:Int):lF:=(a.2.2.1[(-1 - m).toNat]?).getD (false,[],())
theorem fH{a:eC}{m:Int}(b:m<0)(h:ct a m=true):a.2.2.1[(-1 - m).toNat]? =some (eQ a m):=by unfold ct at h;simp only[v_,decide_eq_true_eq]at h;unfold eQ;rw[a_ (by omega)];rfl
section
variable {a:eC} {l:List Bool} {m:Int} {K:Nat}
end
abbrev Iw:Type:=List (Int×Int)
abbrev Bh:Type:=List d6×(List lF×Iw)
def lk(D:Iw)(n:Int):Option Int:=bY tI tI D n
theorem HR(k v:Int)(l:Iw)(n:Int):lk ((k,v)::l) n=if n=k then some v else lk l n:=by
 show(bif jk tI n k then some v else lk l n)=_;have:jk tI n k=decide (n=k):=by rw[I_];simp[jk]
 rw[this,Bool.cond_decide]
theorem xH:∀{D:Iw} {n k:Int},lk D n=some k->(n,k)∈D
 |[],_,_,h=>by cases h
 |(a,b)::l,n,k,h=>by
  rw[HR]at h;split at h;·rename_i e;cases h;subst e;exact l_ ..
  ·exact i_ _ (xH h)
theorem z7:∀{D:Iw} {n:Int},lk D n=none->∀k,(n,k)∉D
 |[],_,_,_=>by simp
 |(a,b)::l,n,h,k=>by
  rw[HR]at h;split at h;·cases h
  ·rename_i e;have:=z7 h k;simp only[ai_,aa_.injEq,not_or];exact⟨λx=>e x.1,this⟩
theorem Ft:∀{D:Iw} {n k:Int},(D.map (·.1)).Nodup->(n,k)∈D->lk D n=some k
 |[],_,_,_,h=>by cases h
 |(a,b)::l,n,k,hd,h=>by
  rw[HR];rw[B_,ac_]at hd;rcases ai_.1 h with c|c;·cases c;rw[if_pos rfl]
  ·rw[if_neg,Ft hd.2 c];intro e;subst e;exact hd.1 (N_.2 ⟨_,c,rfl⟩)
theorem ML{D:Iw}{n k a:Int}(hd:(D.map (·.1)).Nodup)(h:(n,k)∈D)(h':(n,a)∈D):k=a:=by have:=Ft hd h;rw[Ft hd h']at this;exact(x_ this).symm
theorem mg{D:Iw}{n k:Int}(hd:(D.map (·.1)).Nodup)(h:∀k,(n,k)∉D):((D++[(n,k)]).map (·.1)).Nodup:=by rw[K_,S_];refine⟨hd,by simp,?_⟩;rintro x b y a rfl;simp only[B_,List.map_nil,d_]at a;subst a;obtain⟨⟨p,q⟩,hp,rfl⟩:=N_.1 b;exact h q hp
def dO(L:List lF)(l:lF):Int×List lF:=match L.findIdx? (λx=>decide (x=l))with
 |some i=>(-1 - (i:Int),L)
 |none=>(-((L.length:Int)+1),L++[l])
def eE(B:List d6)(b:d6):Int×List d6:=if b.2.1=b.2.2.1 then(b.2.1,B)else match B.findIdx? (λx=>decide (x=b))with
 |some i=>((i:Int),B)
 |none=>((B.length:Int),B++[b])
theorem vK(L:List lF)(l:lF):(dO L l).1<0/\(dO L l).2[(-1 - (dO L l).1).toNat]? =some l/\(∃E,(dO L l).2=L++E)/\(L.Nodup->(dO L l).2.Nodup)/\(∀x∈(dO L l).2,x∈L\/x=l)/\(dO L l).2.length<=L.length+1:=by
 unfold dO;cases e:L.findIdx? (λx=>decide (x=l))with
 |some i=>obtain⟨b,c,_⟩:=D_.1 e;refine⟨by simp only;omega,?_,⟨[],by simp⟩,id,λx a=>.inl a,by simp⟩;simp only;rw[show(-1 - (-1 - (i:Int))).toNat=i by omega,a_ b];rw[of_decide_eq_true c]
 |none=>
  have h:=Q_.1 e;refine⟨by simp only;omega,?_,⟨[l],rfl⟩,λhn=>?_,λx a=>?_,by simp⟩;·simp only;rw[show(-1 - -((L.length:Int)+1)).toNat=L.length by omega];simp
  ·rw[S_];refine⟨hn,by simp,?_⟩;rintro x a y d rfl;rw[d_.1 d]at a;simpa using h l a
  ·rcases s_.1 a with h|h;·exact .inl h
   ·exact .inr (d_.1 h)
theorem FU(B:List d6)(b:d6):(b.2.1=b.2.2.1/\eE B b=(b.2.1,B))\/(b.2.1≠b.2.2.1/\0<=(eE B b).1/\(eE B b).2[(eE B b).1.toNat]? =some b/\((eE B b).2=B\/((eE B b).2=B++[b]/\b∉B))):=by
 unfold eE;by_cases a:b.2.1=b.2.2.1;·rw[if_pos a];exact .inl ⟨a,rfl⟩
 rw[if_neg a];right;cases e:B.findIdx? (λx=>decide (x=b))with
 |some i=>obtain⟨c,d,_⟩:=D_.1 e;refine⟨a,by simp only;omega,?_,.inl rfl⟩;simp only;rw[q_,a_ c,of_decide_eq_true d]
 |none=>have h:=Q_.1 e;refine⟨a,by simp only;omega,?_,.inr ⟨rfl,λf=>by simpa using h b f⟩⟩;simp only;rw[q_];simp
def D3(a:eC):Nat->Int->Bh->Int×Bh
 |0,_,s=>(0,s)
 |f+1,n,s=>match lk s.2.2 n with
  |some k=>(k,s)
  |none=>if n<0 then((dO s.2.1 (eQ a n)).1,s.1,(dO s.2.1 (eQ a n)).2,s.2.2++[(n,(dO s.2.1 (eQ a n)).1)])
   else
    let y:=D3 a f (bF a n).2.1 s
    let o:=D3 a f (bF a n).2.2.1 y.2
    let p:=eE o.2.1 ((bF a n).1,y.1,o.1,())
    (p.1,p.2,o.2.2.1,o.2.2.2++[(n,p.1)])
structure BI(a:eC)(B:List d6)(L:List lF)(D:Iw):Prop where
 kn:(D.map (·.1)).Nodup
 kd:∀n k,(n,k)∈D->ct a n=true
 lf:∀n k,(n,k)∈D->n<0->k<0/\L[(-1 - k).toNat]? =some (eQ a n)
 br:∀n k,(n,k)∈D->0<=n->∃ky ko,((bF a n).2.1,ky)∈D/\((bF a n).2.2.1,ko)∈D/\((ky=ko/\k=ky)\/(ky≠ko/\0<=k/\B[k.toNat]? =some ((bF a n).1,ky,ko,())))
 bn:B.Nodup
 ln:L.Nodup
 bb:∀(i:Nat) b,B[i]? =some b->b.2.1≠b.2.2.1/\(0<=b.1/\b.1<(a.1.length:Int))/\∀c,(c=b.2.1\/c=b.2.2.1)->c<(i:Int)/\-(L.length:Int)<=c/\(0<=c->∃b',B[c.toNat]? =some b'/\b.1<b'.1)
 lo:∀n k,(n,k)∈D->-(L.length:Int)<=k/\(0<=k->0<=n/\∃b,B[k.toNat]? =some b/\(bF a n).1<=b.1)
 ll:∀l∈L,l∈a.2.2.1
 cb:B.length<=(D.filter λp=>decide (0<=p.1)).length
 cl:L.length<=(D.filter λp=>decide (p.1<0)).length
theorem sf{α:Type}{l E:List α}{i:Nat}{x:α}(h:l[i]? =some x):(l++E)[i]? =some x:=by have:=(c_.1 h).1;rw[A_ this,h]
theorem BI.leaf{a:eC}{B:List d6}{L:List lF}{D:Iw}(h:BI a B L D){n:Int}(N:n<0)(hn:ct a n=true)(hk:∀k,(n,k)∉D):BI a B (dO L (eQ a n)).2 (D++[(n,(dO L (eQ a n)).1)]):=by
 obtain⟨p1,Y,⟨E,pE⟩,p4,p5,p6⟩:=vK L (eQ a n);have J:∀{x k},(x,k)∈D++[(n,(dO L (eQ a n)).1)]->(x,k)∈D\/(x=n/\k=(dO L (eQ a n)).1):=λz=>by simpa using z
 have U:L.length<=(dO L (eQ a n)).2.length:=by rw[pE];simp
 have el:=(c_.1 Y).1;refine⟨mg h.kn hk,λx k z=>?_,λx k z C=>?_,λx k z C=>?_,h.bn,p4 h.ln,λi b hb=>?_,λx k z=>?_,λl hl=>?_,?_,?_⟩
 ·rcases J z with z|⟨rfl,rfl⟩;·exact h.kd x k z
  ·exact hn
 ·rcases J z with z|⟨rfl,rfl⟩;·obtain⟨I,H⟩:=h.lf x k z C;refine⟨I,?_⟩;rw[pE];exact sf H
  ·exact⟨p1,Y⟩
 ·rcases J z with z|⟨rfl,rfl⟩;·obtain⟨ky,ko,I,H,M⟩:=h.br x k z C;exact⟨ky,ko,f_ _ I,f_ _ H,M⟩
  ·omega
 ·obtain⟨I,H,M⟩:=h.bb i b hb;refine⟨I,H,λc hc=>?_⟩;obtain⟨r1,r2,r3⟩:=M c hc;exact⟨r1,by omega,r3⟩
 ·rcases J z with z|⟨rfl,rfl⟩;·obtain⟨I,H⟩:=h.lo x k z;exact⟨by omega,H⟩
  ·exact⟨by omega,by omega⟩
 ·rcases p5 l hl with hl|rfl;·exact h.ll l hl
  ·exact ae_ (fH N hn)
 ·have:=h.cb;rw[p_,e_];omega
 ·have:=h.cl;rw[p_,e_,w_ (by simpa using N)];simp only[z_];omega
theorem BI.bran{a:eC}(ho:AutOk a){B:List d6}{L:List lF}{D:Iw}(h:BI a B L D){n ky ko:Int}(h0:0<=n)(hn:ct a n=true)(hk:∀k,(n,k)∉D) (hy:((bF a n).2.1,ky)∈D) (hz:((bF a n).2.2.1,ko)∈D):BI a (eE B ((bF a n).1,ky,ko,())).2 L (D++[(n,(eE B ((bF a n).1,ky,ko,())).1)]):=by
 generalize hp:eE B ((bF a n).1,ky,ko,())=p;have hs:=FU B ((bF a n).1,ky,ko,());rw[hp]at hs;have hm:∀{x k},(x,k)∈D++[(n,p.1)]->(x,k)∈D\/(x=n/\k=p.1):=λC=>by simpa using C
 obtain⟨i,rfl,hi⟩:=qp hn h0;obtain⟨⟨b1,b2⟩,_,b5,b6⟩:=Rm (ho.br _ (b_ hi));rw[<-nE hi]at b1 b2 b5 b6;have hB:∃E,p.2=B++E:=by
  rcases hs with⟨_,z⟩|⟨_,_,_,z|⟨z,_⟩⟩;·exact⟨[],by rw[z];simp⟩
  ·exact⟨[],by rw[z];simp⟩
  ·exact⟨_,z⟩
 obtain⟨E,hE⟩:=hB;have hc:∀{c U:Int},(c,U)∈D->IG a c (bF a i).1=true->(-(L.length:Int)<=U/\(0<=U->∃H,B[U.toNat]? =some H/\(bF a i).1<H.1)):=λhd ha=>by obtain⟨q1,q2⟩:=h.lo _ _ hd;refine⟨q1,λI=>?_⟩;obtain⟨Y,H,q4,q5⟩:=q2 I;refine⟨H,q4,?_⟩;unfold IG at ha;simp only[m_,decide_eq_true_eq]at ha;omega
 have cy:=hc hy b5;have cz:=hc hz b6;have M:∀{U:Int} {x:Int},(0<=U->∃H,B[U.toNat]? =some H/\x<H.1)->U<(B.length:Int):=fun{U x} hh=>by
  by_cases I:0<=U;·obtain⟨H,q,_⟩:=hh I;have:=(c_.1 q).1;omega
  ·omega
 refine⟨mg h.kn hk,λx k C=>?_,λx k C el=>?_,λx k C el=>?_,?_,h.ln,λj b N=>?_,λx k C=>?_,h.ll,?_,?_⟩
 ·rcases hm C with C|⟨rfl,rfl⟩;·exact h.kd x k C
  ·exact hn
 ·rcases hm C with C|⟨rfl,rfl⟩;·exact h.lf x k C el
  ·omega
 ·rcases hm C with C|⟨rfl,rfl⟩
  ·obtain⟨y,o,q1,q2,Y⟩:=h.br x k C el;refine⟨y,o,f_ _ q1,f_ _ q2,?_⟩;rcases Y with Y|⟨Y,q4,q5⟩;·exact .inl Y
   ·exact .inr ⟨Y,q4,by rw[hE];exact sf q5⟩
  ·refine⟨ky,ko,f_ _ hy,f_ _ hz,?_⟩;rcases hs with⟨h1,z⟩|⟨h1,z,h3,_⟩;·exact .inl ⟨h1,by rw[z]⟩
   ·exact .inr ⟨h1,z,h3⟩
 ·rcases hs with⟨_,z⟩|⟨_,_,_,z|⟨z,h3⟩⟩;·rw[z];exact h.bn
  ·rw[z];exact h.bn
  ·rw[z,S_];refine⟨h.bn,by simp,?_⟩;rintro x C y hy rfl;rw[d_.1 hy]at C;exact h3 C
 ·have old:B[j]? =some b->b.2.1≠b.2.2.1/\(0<=b.1/\b.1<(a.1.length:Int))/\∀c,(c=b.2.1\/c=b.2.2.1)->c<(j:Int)/\-(L.length:Int)<=c/\(0<=c->∃H,p.2[c.toNat]? =some H/\b.1<H.1):=λN=>by obtain⟨q1,q2,Y⟩:=h.bb j b N;refine⟨q1,q2,λc hc=>?_⟩;obtain⟨r1,r2,r3⟩:=Y c hc;refine⟨r1,r2,λJ=>?_⟩;obtain⟨H,s1,s2⟩:=r3 J;exact⟨H,by rw[hE];exact sf s1,s2⟩
  rcases hs with⟨_,z⟩|⟨h1,_,_,z|⟨z,_⟩⟩;·rw[z]at N;exact old N
  ·rw[z]at N;exact old N
  ·by_cases hj:j<B.length;·rw[z,A_ hj]at N;exact old N
   ·rw[z,List.getElem?_append_right (by omega)]at N;obtain⟨qr,gc⟩:=c_.1 N;have ph:j - B.length=0:=by simpa using qr
    simp only[ph,X_]at gc;subst gc;refine⟨h1,⟨b1,b2⟩,λc hc=>?_⟩;have l1:=M cy.2;have l2:=M cz.2;rcases hc with rfl|rfl;·refine⟨by omega,cy.1,λJ=>?_⟩;obtain⟨H,s1,s2⟩:=cy.2 J;exact⟨H,by rw[z];exact sf s1,s2⟩
    ·refine⟨by omega,cz.1,λJ=>?_⟩;obtain⟨H,s1,s2⟩:=cz.2 J;exact⟨H,by rw[z];exact sf s1,s2⟩
 ·rcases hm C with C|⟨rfl,rfl⟩;·obtain⟨q1,q2⟩:=h.lo x k C;refine⟨q1,λI=>?_⟩;obtain⟨Y,b,q4,q5⟩:=q2 I;exact⟨Y,b,by rw[hE];exact sf q4,q5⟩
  ·rcases hs with⟨h1,z⟩|⟨h1,z,h3,_⟩;·rw[z];refine⟨cy.1,λI=>⟨h0,?_⟩⟩;obtain⟨H,s1,s2⟩:=cy.2 I;exact⟨H,s1,by omega⟩
   ·exact⟨by omega,λ_=>⟨h0,_,h3,an_ _⟩⟩
 ·have:=h.cb;rw[p_,e_,w_ (by simp)];simp only[z_];rcases hs with⟨_,z⟩|⟨_,_,_,z|⟨z,_⟩⟩;·rw[z];simp only;omega
  ·rw[z];omega
  ·rw[z];simp only[e_,z_,ab_];omega
 ·have:=h.cl;rw[p_,e_];omega
abbrev BIs(a:eC)(s:Bh):Prop:=BI a s.1 s.2.1 s.2.2
structure BldR(a:eC)(n:Int)(s:Bh)(r:Int×Bh):Prop where
 inv:BIs a r.2
 mem:(n,r.1)∈r.2.2.2
 ext:∀p∈s.2.2,p∈r.2.2.2
 new:∀p∈r.2.2.2,p∈s.2.2\/mu a p.1<=mu a n
theorem Wr{a:eC}(g:AutOk a):∀(f:Nat) (n:Int) (s:Bh),ct a n=true->mu a n<f->BIs a s->BldR a n s (D3 a f n s):=by
 intro f;induction f with
 |zero=>intro n s _ l;omega|succ f j=>
  intro n s hn l hs;unfold D3;cases e:lk s.2.2 n with
  |some k=>exact⟨hs,xH e,λp hp=>hp,λp hp=>.inl hp⟩|none=>
   have h:=z7 e;by_cases c:n<0
   ·simp only[if_pos c];refine⟨hs.leaf c hn h,by simp,λp hp=>f_ _ hp,λp hp=>?_⟩;rcases s_.1 hp with hp|hp;·exact .inl hp
    ·rw[d_.1 hp];exact .inr (u_ _)
   ·simp only[if_neg c];have c:0<=n:=by omega
    have r:=yf g hn c _ (.inl rfl);have u:=yf g hn c _ (.inr rfl);have y:=j _ s r.1 (by omega) hs;generalize D3 a f (bF a n).2.1 s=Y at y;have o:=j _ Y.2 u.1 (by omega) y.inv;generalize D3 a f (bF a n).2.2.1 Y.2=O at o;have d:∀k,(n,k)∉O.2.2.2:=λk b=>by
     rcases o.new _ b with b|b
     ·rcases y.new _ b with b|b;·exact h k b
      ·simp only at b;omega
     ·simp only at b;omega
    refine⟨o.inv.bran g c hn d (o.ext _ y.mem) o.mem,by simp,λp hp=>f_ _ (o.ext _ (y.ext _ hp)),λp hp=>?_⟩;rcases s_.1 hp with hp|hp
    ·rcases o.new _ hp with b|b
     ·rcases y.new _ b with b|b;·exact .inl b
      ·exact .inr (by omega)
     ·exact .inr (by omega)
    ·rw[d_.1 hp];exact .inr (u_ _)
theorem BI.nil(a:eC):BIs a ([],[],[]):=⟨E_,by simp,by simp,by simp,E_,E_,by simp,by simp,by simp,by simp,by simp⟩
def sY(g:eC):Nat->Int->Bh->Int×Bh
 |0,_,s=>(0,s)
 |f+1,n,s=>match lk s.2.2 n with
  |some k=>(k,s)
  |none=>if n<0 then(-((s.2.1.length:Int)+1),s.1,s.2.1++[eQ g n],s.2.2++[(n,-((s.2.1.length:Int)+1))])
   else
    let y:=sY g f (bF g n).2.1 (s.1++[((bF g n).1,0,0,())],s.2.1,s.2.2++[(n,(s.1.length:Int))])
    let o:=sY g f (bF g n).2.2.1 y.2
    ((s.1.length:Int),o.2.1.set s.1.length ((bF g n).1,y.1,o.1,()),o.2.2.1,o.2.2.2)
def Low(g:eC):Prop:=∀(i:Nat) b,g.2.1[i]? =some b->∀c,(c=b.2.1\/c=b.2.2.1)->c<(i:Int)/\-(g.2.2.1.length:Int)<=c
theorem nodeB_of{g:eC}{n:Int}:ct g n=true↔n<(g.2.1.length:Int)/\-(g.2.2.1.length:Int)<=n:=by unfold ct;simp
theorem Low.kids{g:eC}(h:Low g){n:Int}(hn:ct g n=true)(C:0<=n):∀c,(c=(bF g n).2.1\/c=(bF g n).2.2.1)->ct g c=true/\c<n:=by obtain⟨i,rfl,z⟩:=qp hn C;intro c hc;rw[nE z]at hc;obtain⟨E,H⟩:=h i _ (a_ z) c hc;exact⟨nodeB_of.2 ⟨by omega,H⟩,E⟩
structure VI(g:eC)(B:List d6)(L:List lF)(D:Iw):Prop where
 kn:(D.map (·.1)).Nodup
 kd:∀n k,(n,k)∈D->ct g n=true
 lf:∀n k,(n,k)∈D->n<0->k<0/\L[(-1 - k).toNat]? =some (eQ g n)
 br:∀n k,(n,k)∈D->0<=n->0<=k/\k<(B.length:Int)
 ij:∀n n' k,(n,k)∈D->(n',k)∈D->n=n'
 sb:∀i:Nat,i<B.length->∃n,(n,(i:Int))∈D
 sl:∀i:Nat,i<L.length->∃n,(n,-1 - (i:Int))∈D
 cb:B.length<=(D.filter λp=>decide (0<=p.1)).length
 cl:L.length<=(D.filter λp=>decide (p.1<0)).length
theorem VI.nil(g:eC):VI g [] [] []:=⟨E_,by simp,by simp,by simp,by simp,by simp,by simp,by simp,by simp⟩
theorem VI.leaf{g:eC}{B:List d6}{L:List lF}{D:Iw}(h:VI g B L D){n:Int}(h0:n<0)(hn:ct g n=true)(hk:∀k,(n,k)∉D):VI g B (L++[eQ g n]) (D++[(n,-((L.length:Int)+1))]):=by
 have H:∀{x k},(x,k)∈D++[(n,-((L.length:Int)+1))]->(x,k)∈D\/(x=n/\k= -((L.length:Int)+1)):=λz=>by simpa using z
 have C:∀x,(x,-((L.length:Int)+1))∉D:=λx z=>by
  by_cases E:x<0;·have:=(c_.1 (h.lf _ _ z E).2).1;omega
  ·have:=h.br _ _ z (by omega);omega
 refine⟨mg h.kn hk,λx k z=>?_,λx k z E=>?_,λx k z E=>?_,λx y k z hy=>?_,λi M=>?_,λi M=>?_,?_,?_⟩
 ·rcases H z with z|⟨rfl,rfl⟩;·exact h.kd x k z
  ·exact hn
 ·rcases H z with z|⟨rfl,rfl⟩;·obtain⟨q1,q2⟩:=h.lf x k z E;exact⟨q1,sf q2⟩
  ·refine⟨by omega,?_⟩;rw[show(-1 - -((L.length:Int)+1)).toNat=L.length by omega];simp
 ·rcases H z with z|⟨rfl,rfl⟩;·exact h.br x k z E
  ·omega
 ·rcases H z with I|⟨N,U⟩<;>rcases H hy with J|⟨Y,e4⟩;·exact h.ij x y k I J
  ·rw[e4]at I;exact absurd I (C x)
  ·rw[U]at J;exact absurd J (C y)
  ·rw[N,Y]
 ·obtain⟨m,H⟩:=h.sb i M;exact⟨m,f_ _ H⟩
 ·by_cases hj:i<L.length;·obtain⟨m,H⟩:=h.sl i hj;exact⟨m,f_ _ H⟩
  ·simp only[e_,t_]at M;refine⟨n,F_ _ ?_⟩;rw[show -1 - (i:Int)= -((L.length:Int)+1) by omega];exact d_.2 rfl
 ·have:=h.cb;rw[p_,e_];omega
 ·have:=h.cl;rw[p_,e_,w_ (by simpa using h0)];simp only[e_,z_,ab_];omega
theorem VI.push{g:eC}{B:List d6}{L:List lF}{D:Iw}(h:VI g B L D){n:Int}(h0:0<=n)(hn:ct g n=true)(hk:∀k,(n,k)∉D)(b:d6):VI g (B++[b]) L (D++[(n,(B.length:Int))]):=by
 have H:∀{x k},(x,k)∈D++[(n,(B.length:Int))]->(x,k)∈D\/(x=n/\k=(B.length:Int)):=λz=>by simpa using z
 have C:∀x,(x,(B.length:Int))∉D:=λx z=>by
  by_cases E:x<0;·have:=(h.lf _ _ z E).1;omega
  ·have:=h.br _ _ z (by omega);omega
 refine⟨mg h.kn hk,λx k z=>?_,λx k z E=>?_,λx k z E=>?_,λx y k z hy=>?_,λi M=>?_,λi M=>?_,?_,?_⟩
 ·rcases H z with z|⟨rfl,rfl⟩;·exact h.kd x k z
  ·exact hn
 ·rcases H z with z|⟨rfl,rfl⟩;·exact h.lf x k z E
  ·omega
 ·simp only[e_,t_];rcases H z with z|⟨rfl,rfl⟩;·have:=h.br x k z E;omega
  ·omega
 ·rcases H z with I|⟨N,U⟩<;>rcases H hy with J|⟨Y,e4⟩;·exact h.ij x y k I J
  ·rw[e4]at I;exact absurd I (C x)
  ·rw[U]at J;exact absurd J (C y)
  ·rw[N,Y]
 ·by_cases hj:i<B.length;·obtain⟨m,H⟩:=h.sb i hj;exact⟨m,f_ _ H⟩
  ·simp only[e_,t_]at M;refine⟨n,F_ _ ?_⟩;rw[show i=B.length by omega];exact d_.2 rfl
 ·obtain⟨m,H⟩:=h.sl i M;exact⟨m,f_ _ H⟩
 ·have:=h.cb;rw[p_,e_,w_ (by simpa using h0)];simp only[e_,z_,ab_];omega
 ·have:=h.cl;rw[p_,e_];omega
theorem VI.set{g:eC}{B:List d6}{L:List lF}{D:Iw}(h:VI g B L D)(i:Nat)(b:d6):VI g (B.set i b) L D:=⟨h.kn,h.kd,h.lf,by rw[J_];exact h.br,h.ij,by rw[J_];exact h.sb,h.sl,by rw[J_];exact h.cb,h.cl⟩
def Fin(g:eC)(B:List d6)(D:Iw)(m:Int):Prop:=∃k ky a,(m,k)∈D/\((bF g m).2.1,ky)∈D/\((bF g m).2.2.1,a)∈D/\B[k.toNat]? =some ((bF g m).1,ky,a,())
structure VisR(g:eC)(n:Int)(s:Bh)(r:Int×Bh):Prop where
 inv:VI g r.2.1 r.2.2.1 r.2.2.2
 mem:(n,r.1)∈r.2.2.2
 ext:∀p∈s.2.2,p∈r.2.2.2
 len:s.1.length<=r.2.1.length
 old:∀i:Nat,i<s.1.length->r.2.1[i]? =s.1[i]?
 lvs:∃E,r.2.2.1=s.2.1++E
 lfs:∀l∈r.2.2.1,l∈s.2.1\/l∈g.2.2.1
 new:∀m k,(m,k)∈r.2.2.2->(m,k)∈s.2.2\/m<0\/Fin g r.2.1 r.2.2.2 m
theorem SZ{g:eC}(hg:Low g):∀(f:Nat) (n:Int) (s:Bh),ct g n=true->(n+1).toNat<f->VI g s.1 s.2.1 s.2.2->VisR g n s (sY g f n s):=by
 intro f;induction f with
 |zero=>intro n s _ I;omega|succ f D=>
  intro n s hn I hs;unfold sY;cases e:lk s.2.2 n with
  |some k=>exact⟨hs,xH e,λp hp=>hp,u_ _,λ_ _=>rfl,⟨[],by simp⟩,λl hl=>.inl hl,λm k h=>.inl h⟩|none=>
   have C:=z7 e;by_cases b:n<0
   ·simp only[if_pos b];refine⟨hs.leaf b hn C,by simp,λp hp=>f_ _ hp,u_ _,λ_ _=>rfl,⟨_,rfl⟩,λl hl=>?_,λm k h=>?_⟩
    ·rcases s_.1 hl with hl|hl;·exact .inl hl
     ·rw[d_.1 hl];exact .inr (ae_ (fH b hn))
    ·rcases s_.1 h with h|h;·exact .inl h
     ·cases d_.1 h;exact .inr (.inl b)
   ·simp only[if_neg b];have b:0<=n:=by omega
    have M:=hg.kids hn b _ (.inl rfl);have N:=hg.kids hn b _ (.inr rfl);have y:=D (bF g n).2.1 (s.1++[((bF g n).1,0,0,())],s.2.1,s.2.2++[(n,(s.1.length:Int))]) M.1 (by omega) (hs.push b hn C _);generalize sY g f (bF g n).2.1 (s.1++[((bF g n).1,0,0,())],s.2.1,s.2.2++[(n,(s.1.length:Int))])=Y at y;have o:=D _ Y.2 N.1 (by omega) y.inv;generalize sY g f (bF g n).2.2.1 Y.2=O at o;have L:s.1.length<Y.2.1.length:=by have:=y.len;simp only[e_,t_]at this;omega
    have A:s.1.length<O.2.1.length:=by have:=o.len;omega
    have a:(n,(s.1.length:Int))∈O.2.2.2:=o.ext _ (y.ext _ (F_ _ (d_.2 rfl)));refine⟨o.inv.set _ _,a,λp hp=>o.ext _ (y.ext _ (f_ _ hp)),by rw[J_];omega,λi J=>?_,?_,λl hl=>?_,λm k h=>?_⟩;·rw[H_ (by omega),o.old i (by omega),y.old i (by simp only[e_];omega),A_ J]
    ·obtain⟨E,H⟩:=y.lvs;obtain⟨E',z⟩:=o.lvs;exact⟨E++E',by rw[z,H,List.append_assoc]⟩
    ·rcases o.lfs l hl with hl|hl;·exact y.lfs l hl
     ·exact .inr hl
    ·by_cases j:m<0;·exact .inr (.inl j)
     by_cases r:m=n;·subst r;refine .inr (.inr ⟨(s.1.length:Int),Y.1,O.1,a,o.ext _ y.mem,o.mem,?_⟩);rw[q_,List.getElem?_set_self A]
     have keep:∀{c:Int},(m,c)∈O.2.2.2->c.toNat≠s.1.length:=fun{c} d P=>by
      have:=o.inv.br _ _ d (by omega);have F:c=(s.1.length:Int):=by omega
      rw[F]at d;exact r (o.inv.ij m n _ d a)
     rcases o.new m k h with h|h|⟨c,ky,B,u,f2,w,v⟩
     ·rcases y.new m k h with h|h|⟨c,ky,B,u,f2,w,v⟩
      ·rcases s_.1 h with h|h;·exact .inl h
       ·exact absurd (congrArg Prod.fst (d_.1 h)) r
      ·exact absurd h j
      ·refine .inr (.inr ⟨c,ky,B,o.ext _ u,o.ext _ f2,o.ext _ w,?_⟩);rw[H_ (λx=>keep (o.ext _ u) x.symm),o.old _ (c_.1 v).1,v]
     ·exact absurd h j
     ·exact .inr (.inr ⟨c,ky,B,u,f2,w,by rw[H_ (λx=>keep u x.symm),v]⟩)
def ren(t:Int->Int)(D:Iw):Iw:=D.map λp=>(t p.1,p.2)
theorem zdf{t:Int->Int}{S:Int->Prop}(c:∀m n,S m->S n->t m=t n->m=n){n:Int}(hn:S n):∀{D:Iw},(∀m k,(m,k)∈D->S m)->lk (ren t D) (t n)=lk D n
 |[],_=>rfl
 |(a,b)::l,h=>by
  show lk ((t a,b)::ren t l) (t n)=_;rw[HR,HR,zdf c hn λm k d=>h m k (i_ _ d)];by_cases e:n=a;·rw[if_pos e,if_pos (by rw[e])]
  ·rw[if_neg e,if_neg λx=>e (c n a hn (h a b (l_ ..)) x)]
theorem zgd{g g':eC}{t:Int->Int}{S:Int->Prop}(w:∀m n,S m->S n->t m=t n->m=n)(hl:∀n,S n->n<0->t n<0/\eQ g' (t n)=eQ g n) (v:∀n,S n->0<=n->0<=t n/\S (bF g n).2.1/\S (bF g n).2.2.1/\bF g' (t n)=((bF g n).1,t (bF g n).2.1,t (bF g n).2.2.1,())): ∀(f:Nat) (n:Int) (s:Bh),S n->(∀m k,(m,k)∈s.2.2->S m)->sY g' f (t n) (s.1,s.2.1,ren t s.2.2)=((sY g f n s).1,(sY g f n s).2.1,(sY g f n s).2.2.1,ren t (sY g f n s).2.2.2)/\∀m k,(m,k)∈(sY g f n s).2.2.2->S m:=by
 intro f;induction f with
 |zero=>intro n s _ hs;exact⟨rfl,hs⟩|succ f l=>
  intro n s hn hs;unfold sY;simp only;rw[zdf w hn hs];cases e:lk s.2.2 n with
  |some k=>exact⟨rfl,hs⟩|none=>
   have a:∀k m d,(m,d)∈s.2.2++[(n,k)]->S m:=λk m d h=>by
    rcases s_.1 h with h|h;·exact hs m d h
    ·cases d_.1 h;exact hn
   have hr:∀k,ren t s.2.2++[(t n,k)]=ren t (s.2.2++[(n,k)]):=λk=>by unfold ren;rw[K_];rfl
   by_cases b:n<0;·obtain⟨j,c⟩:=hl n hn b;simp only[if_pos b,if_pos j,c,hr];exact⟨trivial,a _⟩
   ·obtain⟨j,c,r,u⟩:=v n hn (by omega);simp only[if_neg b,if_neg (show ¬t n<0 by omega),u,hr];obtain⟨p,z⟩:=l (bF g n).2.1 (s.1++[((bF g n).1,0,0,())],s.2.1,s.2.2++[(n,(s.1.length:Int))]) c (a _);simp only at p;rw[p];obtain⟨x,y⟩:=l (bF g n).2.2.1 (sY g f (bF g n).2.1 (s.1++[((bF g n).1,0,0,())],s.2.1,s.2.2++[(n,(s.1.length:Int))])).2 r z;rw[x];exact⟨rfl,y⟩
theorem DC{α β:Type}{f:α->β}:∀{l:List α},l.Nodup->(∀x∈l,∀y∈l,f x=f y->x=y)->(l.map f).Nodup
 |[],_,_=>E_
 |a::l,h,b=>by rw[ac_]at h;rw[B_,ac_];refine⟨λe=>?_,DC h.2 λx c y d=>b x (i_ _ c) y (i_ _ d)⟩;grind
theorem YJ{α:Type}{l:List α}(h:l.Nodup){i j:Nat}{x:α}(a:l[i]? =some x)(b:l[j]? =some x):i=j:=(List.getElem?_inj (c_.1 a).1 h).1 (a.trans b.symm)
theorem W6:∀(n:Nat) (H:List Int),H.Nodup->(∀x∈H,0<=x/\x<(n:Int))->H.length<=n:=by
 intro n H hd b;have h:H.map U_⊆List.range n:=λx a=>by grind
 have hn:(H.map U_).Nodup:=by refine DC hd λx a y c e=>?_;grind
 have:=hn.length_le_of_subset h;grind
theorem UO{D:Iw}(h:(D.map (·.1)).Nodup)(p:Int×Int->Bool):((D.filter p).map (·.1)).Nodup:=h.sublist ((List.filter_sublist (l:=D) (p:=p)).map _)
theorem Dp{D:Iw}{g:eC}(h:(D.map (·.1)).Nodup)(b:∀n k,(n,k)∈D->ct g n=true):(D.filter λp=>decide (0<=p.1)).length<=g.2.1.length:=by
 have:=W6 g.2.1.length _ (UO h λp=>decide (0<=p.1)) λx c=>by obtain⟨⟨y,k⟩,d,rfl⟩:=N_.1 c;obtain⟨a,e⟩:=ao_.1 d;have:=nodeB_of.1 (b _ _ a);grind
 grind
theorem G6{D:Iw}{g:eC}(h:(D.map (·.1)).Nodup)(b:∀n k,(n,k)∈D->ct g n=true):(D.filter λp=>decide (p.1<0)).length<=g.2.2.1.length:=by
 have hd:=UO h λp=>decide (p.1<0);have:=W6 g.2.2.1.length (((D.filter λp=>decide (p.1<0)).map (·.1)).map λx=> -1 - x) (DC hd λx _ y _ e=>by omega) λx c=>by obtain⟨z,f,rfl⟩:=N_.1 c;obtain⟨⟨y,k⟩,d,rfl⟩:=N_.1 f;obtain⟨a,j⟩:=ao_.1 d;have:=nodeB_of.1 (b _ _ a);grind
 grind
def OY(F:Nat)(a:eC):Int×Bh:=D3 a F a.2.2.2.1 ([],[],[])
def gA(F:Nat)(a:eC):eC:=(a.1,(OY F a).2.1,(OY F a).2.2.1,0,())
def wrk(F:Nat)(a:eC):Int×Bh:=sY (gA F a) F (OY F a).1 ([],[],[])
def O7(F:Nat)(a:eC):eC:=(a.1,(wrk F a).2.1,(wrk F a).2.2.1,(wrk F a).1,())
theorem ze{g:eC}{k:Int}{b:d6}(h:g.2.1[k.toNat]? =some b):bF g k=b:=by unfold bF;rw[h];rfl
theorem UQ{g:eC}{k:Int}{l:lF}(h:g.2.2.1[(-1 - k).toNat]? =some l):eQ g k=l:=by unfold eQ;rw[h];rfl
structure Tab(nt:Nat)(B:List d6)(L:List lF):Prop where
 bn:B.Nodup
 ln:L.Nodup
 bb:∀(i:Nat) b,B[i]? =some b->b.2.1≠b.2.2.1/\(0<=b.1/\b.1<(nt:Int))/\∀c,(c=b.2.1\/c=b.2.2.1)->c<(i:Int)/\-(L.length:Int)<=c/\(0<=c->∃b',B[c.toNat]? =some b'/\b.1<b'.1)
theorem Tab.low{g:eC}{nt:Nat}(h:Tab nt g.2.1 g.2.2.1):Low g:=λi b z c hc=>by obtain⟨_,_,q⟩:=h.bb i b z;exact⟨(q c hc).1,(q c hc).2.1⟩
def vw(F:Nat)(g:eC)(r:Int):Int×Bh:=sY g F r ([],[],[])
def fE(F:Nat)(g:eC)(r:Int):eC:=(g.1,(vw F g r).2.1,(vw F g r).2.2.1,(vw F g r).1,())
structure Num(F:Nat)(g:eC)(r:Int):Prop where
 tab:Tab g.1.length g.2.1 g.2.2.1
 v:VisR g r ([],[],[]) (vw F g r)
theorem zdv{F:Nat}{g:eC}{r:Int}(a:Tab g.1.length g.2.1 g.2.2.1)(hr:ct g r=true)(b:g.2.1.length<F):Num F g r:=⟨a,SZ a.low F r ([],[],[]) hr (by have:=(nodeB_of.1 hr).1;omega) (VI.nil _)⟩
theorem Num.fin{F:Nat}{g:eC}{r:Int}(h:Num F g r){m k:Int}(C:(m,k)∈(vw F g r).2.2.2)(M:0<=m):∃ky z,((bF g m).2.1,ky)∈(vw F g r).2.2.2/\((bF g m).2.2.1,z)∈(vw F g r).2.2.2/\(fE F g r).2.1[k.toNat]? =some ((bF g m).1,ky,z,()):=by
 rcases h.v.new m k C with J|J|⟨N,ky,z,E,f2,H,I⟩;·grind
 ·omega
 ·rw[ML h.v.inv.kn C E];exact⟨ky,z,f2,H,I⟩
theorem Num.gbr{F:Nat}{g:eC}{r:Int}(h:Num F g r){m:Int}(E:ct g m=true)(z:0<=m):g.2.1[m.toNat]? =some (bF g m):=by obtain⟨i,rfl,C⟩:=qp E z;rw[nE C];simp
theorem Num.sgn{F:Nat}{g:eC}{r:Int}(h:Num F g r){m k:Int}(z:(m,k)∈(vw F g r).2.2.2):(m<0↔k<0)/\ct (fE F g r) k=true:=by
 by_cases C:m<0;·obtain⟨H,E⟩:=h.v.inv.lf _ _ z C;have:=(c_.1 E).1;refine⟨by omega,nodeB_of.2 ⟨by omega,?_⟩⟩;show -((vw F g r).2.2.1.length:Int)<=k;omega
 ·have:=h.v.inv.br _ _ z (by omega);refine⟨by omega,nodeB_of.2 ⟨this.2,by omega⟩⟩
theorem Num.at{F:Nat}{g:eC}{r:Int}(h:Num F g r){i:Nat}{b:d6}(H:(fE F g r).2.1[i]? =some b):∃m,(m,(i:Int))∈(vw F g r).2.2.2/\0<=m/\∃ky z,((bF g m).2.1,ky)∈(vw F g r).2.2.2/\((bF g m).2.2.1,z)∈(vw F g r).2.2.2/\b=((bF g m).1,ky,z,()):=by
 obtain⟨m,C⟩:=h.v.inv.sb i (c_.1 H).1;have E:0<=m:=by have:=(h.sgn C).1;omega
 obtain⟨ky,z,I,f2,J⟩:=h.fin C E;grind
theorem Num.aut{F:Nat}{g:eC}{r:Int}(h:Num F g r)(l1:g.1.length<=2000)(l2:(fE F g r).2.1.length<=4096)(l3:(fE F g r).2.2.1.length<=4096)(ts:∀t∈g.1,wk t=0)(lf:∀l∈(fE F g r).2.2.1,En l=0):AutOk (fE F g r):=by
 refine⟨l1,l2,l3,ts,(h.sgn h.v.mem).2,λb N=>?_,lf⟩;obtain⟨i,U,rfl⟩:=ad_.1 N;obtain⟨m,Y,M,ky,ko,E,f2,H⟩:=h.at (a_ U);rw[H];obtain⟨_,q2,q3⟩:=h.tab.bb _ _ (h.gbr (h.v.inv.kd _ _ Y) M);have gk:∀c C,(c=(bF g m).2.1\/c=(bF g m).2.2.1)->(c,C)∈(vw F g r).2.2.2->ct (fE F g r) C=true/\IG (fE F g r) C (bF g m).1=true:=λc C hc hd=>by
  refine⟨(h.sgn hd).2,?_⟩;unfold IG;by_cases hk:C<0;·grind
  ·have z:0<=c:=by have:=(h.sgn hd).1;omega
   obtain⟨_,_,_,_,f⟩:=h.fin hd z;rw[ze f];obtain⟨b',s1,s2⟩:=(q3 c hc).2.2 z;rw[ze (g:=g) s1,decide_eq_true s2,Bool.or_true]
 obtain⟨I,g2⟩:=gk _ _ (.inl rfl) E;obtain⟨J,g4⟩:=gk _ _ (.inr rfl) f2;unfold Kl;rw[if_neg,if_neg];·grind
 ·simp only[I,J];have:(g.1.length:Int)=((fE F g r).1.length:Int):=rfl;grind
theorem Num.dl{F:Nat}{g:eC}{r:Int}(h:Num F g r){i j:Nat}{l:lF}(C:(fE F g r).2.2.1[i]? =some l)(E:(fE F g r).2.2.1[j]? =some l):i=j:=by
 obtain⟨m,z⟩:=h.v.inv.sl i (c_.1 C).1;obtain⟨n,hn⟩:=h.v.inv.sl j (c_.1 E).1;have N:m<0:=by have:=(h.sgn z).1;omega
 have U:n<0:=by have:=(h.sgn hn).1;omega
 have H:=(h.v.inv.lf _ _ z N).2;have I:=(h.v.inv.lf _ _ hn U).2;rw[show(-1 - (-1 - (i:Int))).toNat=i by omega]at H;rw[show(-1 - (-1 - (j:Int))).toNat=j by omega]at I;have J:(fE F g r).2.2.1=(vw F g r).2.2.1:=rfl;rw[J,H]at C;rw[J,I]at E;have M:=fH N (h.v.inv.kd _ _ z);have Y:=fH U (h.v.inv.kd _ _ hn);rw[x_ C,<-x_ E]at M;have e:=YJ h.tab.ln M Y;obtain rfl:m=n:=by omega
 have:=ML h.v.inv.kn z hn;omega
theorem Num.db{F:Nat}{g:eC}{r:Int}(h:Num F g r){i j:Nat}{b:d6}(U:(fE F g r).2.1[i]? =some b)(Y:(fE F g r).2.1[j]? =some b):i=j:=by
 obtain⟨m,J,m0,ky,ko,M,f2,E⟩:=h.at U;obtain⟨n,hn,n0,gc,el,z,C,H⟩:=h.at Y;rw[H]at E;simp only[aa_.injEq,and_true]at E;obtain⟨e1,rfl,rfl⟩:=E;have e2:=h.v.inv.ij _ _ _ M z;have e3:=h.v.inv.ij _ _ _ f2 C;have I:=h.gbr (h.v.inv.kd _ _ J) m0;have N:=h.gbr (h.v.inv.kd _ _ hn) n0;have e:bF g m=bF g n:=by grind
 rw[e]at I;have e:=YJ h.tab.bn I N;obtain rfl:m=n:=by omega
 have:=ML h.v.inv.kn J hn;omega
theorem Num.ne{F:Nat}{g:eC}{r:Int}(h:Num F g r){i:Nat}{b:d6}(C:(fE F g r).2.1[i]? =some b):b.2.1≠b.2.2.1:=by obtain⟨m,E,I,ky,H,z,f2,rfl⟩:=h.at C;intro e;have e:ky=H:=e;subst e;exact(h.tab.bb _ _ (h.gbr (h.v.inv.kd _ _ E) I)).1 (h.v.inv.ij _ _ _ z f2)
structure Red(F:Nat)(a:eC):Prop where
 ok:AutOk a
 b:BldR a a.2.2.2.1 ([],[],[]) (OY F a)
 low:Low (gA F a)
 nd:ct (gA F a) (OY F a).1=true
 v:VisR (gA F a) (OY F a).1 ([],[],[]) (wrk F a)
theorem zeb{F:Nat}(p:4100<=F){a:eC}(f:AutOk a):Red F a:=by
 have r:mu a a.2.2.2.1<=a.1.length:=by unfold mu;grind
 have:=f.l1;have d:=Wr f F a.2.2.2.1 ([],[],[]) f.rt (by omega) (BI.nil a);have d:BldR a a.2.2.2.1 ([],[],[]) (OY F a):=d;have e:Low (gA F a):=λi b h c hc=>by obtain⟨_,_,q⟩:=d.inv.bb i b h;exact⟨(q c hc).1,(q c hc).2.1⟩
 have hn:ct (gA F a) (OY F a).1=true:=by
  obtain⟨k,l⟩:=d.inv.lo _ _ d.mem;refine nodeB_of.2 ⟨?_,k⟩;by_cases g:0<=(OY F a).1;·obtain⟨_,b,n,_⟩:=l g;have:=(c_.1 n).1;show _<(((OY F a).2.1).length:Int);omega
  omega
 have hl:(OY F a).2.1.length<=4096:=r_ (r_ d.inv.cb (Dp d.inv.kn d.inv.kd)) f.l2;have:=(nodeB_of.1 hn).1;have j:=SZ e F (OY F a).1 ([],[],[]) hn (by have:(gA F a).2.1.length<=4096:=hl;omega) (VI.nil _);exact⟨f,d,e,hn,j⟩
theorem Red.num{F:Nat}{a:eC}(h:Red F a):Num F (gA F a) (OY F a).1:=⟨⟨h.b.inv.bn,h.b.inv.ln,h.b.inv.bb⟩,h.v⟩
theorem Red.fin{F:Nat}{a:eC}(h:Red F a){m k:Int}(E:(m,k)∈(wrk F a).2.2.2)(C:0<=m):∃ky z,((bF (gA F a) m).2.1,ky)∈(wrk F a).2.2.2/\((bF (gA F a) m).2.2.1,z)∈(wrk F a).2.2.2/\(O7 F a).2.1[k.toNat]? =some ((bF (gA F a) m).1,ky,z,()):=h.num.fin E C
theorem Red.sgn{F:Nat}{a:eC}(h:Red F a){m k:Int}(z:(m,k)∈(wrk F a).2.2.2):(m<0↔k<0)/\ct (O7 F a) k=true:=h.num.sgn z
theorem Red.lenB{F:Nat}{a:eC}(h:Red F a):(O7 F a).2.1.length<=a.2.1.length:=r_ (r_ h.v.inv.cb (Dp h.v.inv.kn h.v.inv.kd)) (r_ h.b.inv.cb (Dp h.b.inv.kn h.b.inv.kd))
theorem Red.lenL{F:Nat}{a:eC}(h:Red F a):(O7 F a).2.2.1.length<=a.2.2.1.length:=r_ (r_ h.v.inv.cl (G6 h.v.inv.kn h.v.inv.kd)) (r_ h.b.inv.cl (G6 h.b.inv.kn h.b.inv.kd))
theorem Red.lvs{F:Nat}{a:eC}(h:Red F a){l:lF}(hl:l∈(O7 F a).2.2.1):l∈a.2.2.1:=by
 rcases h.v.lfs l hl with hl|hl;·grind
 ·exact h.b.inv.ll l hl
theorem Red.aut{F:Nat}{a:eC}(h:Red F a):AutOk (O7 F a):=h.num.aut h.ok.l1 (r_ h.lenB h.ok.l2) (r_ h.lenL h.ok.l3) h.ok.ts λl hl=>h.ok.lf l (h.lvs hl)
theorem zfd{x:eC}(p:AutOk x)(hl:∀{i j:Nat} {l:lF},x.2.2.1[i]? =some l->x.2.2.1[j]? =some l->i=j)(P:∀{i j:Nat} {b:d6},x.2.1[i]? =some b->x.2.1[j]? =some b->i=j)(C:∀{i:Nat} {b:d6},x.2.1[i]? =some b->b.2.1≠b.2.2.1) {B:List d6} {L:List lF} {D:Iw} (h:BI x B L D):∀(N:Nat) (n n' k:Int),mu x n<=N->mu x n'<=N->(n,k)∈D->(n',k)∈D->n=n':=by
 have get:∀{n:Int},ct x n=true->0<=n->x.2.1[n.toNat]? =some (bF x n):=λhn g=>by obtain⟨i,rfl,Q⟩:=qp hn g;rw[nE Q];simp
 intro N;induction N with
 |zero=>
  intro n n' k u v c d;have z:∀{n k:Int},mu x n<=0->(n,k)∈D->n<0:=λR hd=>h_ λg=>by have:=(yf p (h.kd _ _ hd) (by omega) _ (.inl rfl)).2;omega
  have y:=(h.lf _ _ c (z u c)).2;have r:=(h.lf _ _ d (z v d)).2;have s:=fH (z u c) (h.kd _ _ c);have f:=fH (z v d) (h.kd _ _ d);rw[y]at r;rw[<-x_ r]at f;have:=hl s f;have:=z u c;have:=z v d;omega
 |succ N E=>
  intro n n' k u v c d;have br:∀{n k:Int},mu x n<=N+1->(n,k)∈D->0<=n->0<=k/\∃ky A,((bF x n).2.1,ky)∈D/\((bF x n).2.2.1,A)∈D/\B[k.toNat]? =some ((bF x n).1,ky,A,()):=λR hd g=>by
   obtain⟨ky,A,H,J,O⟩:=h.br _ _ hd g;rcases O with⟨rfl,_⟩|⟨_,q4,q5⟩;·have l1:=(yf p (h.kd _ _ hd) g _ (.inl rfl)).2;have l2:=(yf p (h.kd _ _ hd) g _ (.inr rfl)).2;exact absurd (E _ _ _ (by omega) (by omega) H J) (C (get (h.kd _ _ hd) g))
   grind
  by_cases F:n<0
  ·have U:=(h.lf _ _ c F).1;have a:n'<0:=h_ λT=>by grind
   have y:=(h.lf _ _ c F).2;have r:=(h.lf _ _ d a).2;have s:=fH F (h.kd _ _ c);have f:=fH a (h.kd _ _ d);rw[y]at r;rw[<-x_ r]at f;have:=hl s f;omega
  ·obtain⟨U,ky,A,H,J,O⟩:=br u c (by omega);have a:0<=n':=h_ λT=>by have:=(h.lf _ _ d (by omega)).1;omega
   obtain⟨_,el,Y,I,M,w⟩:=br v d a;rw[O]at w;have e:=x_ w;simp only[aa_.injEq,and_true]at e;obtain⟨y,rfl,rfl⟩:=e;have l1:=(yf p (h.kd _ _ c) (by omega) _ (.inl rfl)).2;have l2:=(yf p (h.kd _ _ c) (by omega) _ (.inr rfl)).2;have gc:=(yf p (h.kd _ _ d) a _ (.inl rfl)).2;have ph:=(yf p (h.kd _ _ d) a _ (.inr rfl)).2;have r:=E _ _ _ (by omega) (by omega) H I;have e3:=E _ _ _ (by omega) (by omega) J M;have s:=get (h.kd _ _ c) (by omega);have f:=get (h.kd _ _ d) a;have e:bF x n=bF x n':=by grind
   rw[e]at s;have:=P s f;omega
theorem zfM{F:Nat}(H:4100<=F){g:eC}{r:Int}(h:Num F g r)(B:AutOk (fE F g r)):O7 F (fE F g r)=fE F g r:=by
 have f:=zeb H B;have inj:∀n n' k,(n,k)∈(OY F (fE F g r)).2.2.2->(n',k)∈(OY F (fE F g r)).2.2.2->n=n':=λn n' k a b=>zfd B h.dl h.db h.ne f.b.inv (max (mu (fE F g r) n) (mu (fE F g r) n')) n n' k (by omega) (by omega) a b;let t:Int->Int:=λn=>(lk (OY F (fE F g r)).2.2.2 ((lk (vw F g r).2.2.2 n).getD 0)).getD 0;let S:Int->Prop:=λn=>∃k j,(n,k)∈(vw F g r).2.2.2/\(k,j)∈(OY F (fE F g r)).2.2.2;have d:∀{n k j},(n,k)∈(vw F g r).2.2.2->(k,j)∈(OY F (fE F g r)).2.2.2->t n=j:=λa b=>by show(lk _ ((lk _ _).getD 0)).getD 0=_;rw[Ft h.v.inv.kn a,V_,Ft f.b.inv.kn b,V_]
 have c:=zgd (g:=g) (g':=gA F (fE F g r)) (t:=t) (S:=S) (λm n ⟨k,j,a,b⟩ ⟨N,M,s,u⟩ e=>by
  rw[d a b,d s u]at e;subst e;have:=inj _ _ _ b u;subst this;exact h.v.inv.ij _ _ _ a s) (λn ⟨k,j,a,b⟩ x=>by
  rw[d a b];obtain⟨l,p⟩:=h.v.inv.lf _ _ a x;obtain⟨v,y⟩:=f.b.inv.lf _ _ b l;exact⟨v,(UQ (g:=gA F (fE F g r)) y).trans (UQ (g:=fE F g r) p)⟩) (λn ⟨k,j,a,b⟩ x=>by
  rw[d a b];have I:0<=k:=by have:=(h.sgn a).1;omega
  obtain⟨ky,J,z,f2,A⟩:=h.fin a x;obtain⟨D,C,l,p,v⟩:=f.b.inv.br _ _ b I;rw[ze A]at l p v;have E:t (bF (g) n).2.1=D:=d z l;have w:t (bF (g) n).2.2.1=C:=d f2 p;rcases v with⟨rfl,_⟩|⟨_,y,L⟩;·exact absurd (inj _ _ _ l p) (h.ne A)
  ·refine⟨y,⟨ky,D,z,l⟩,⟨J,C,f2,p⟩,?_⟩;rw[E,w];exact ze (g:=gA F (fE F g r)) L) F r ([],[],[]) ⟨_,_,h.v.mem,f.b.mem⟩ (λ_ _ h=>by grind)
 have e:t r=(OY F (fE F g r)).1:=d h.v.mem f.b.mem;have c:=c.1;rw[e]at c;have w:wrk F (fE F g r)=((vw F g r).1,(vw F g r).2.1,(vw F g r).2.2.1,ren t (vw F g r).2.2.2):=c;show((fE F g r).1,(wrk F (fE F g r)).2.1,(wrk F (fE F g r)).2.2.1,(wrk F (fE F g r)).1,())=_;rw[w];rfl
end Go.Proofs.YtdgiglmmpbndmaaGreatDoor
