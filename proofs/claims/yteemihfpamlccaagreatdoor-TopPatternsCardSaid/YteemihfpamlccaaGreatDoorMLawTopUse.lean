import Derived.Test.YteemihfpamlccaaGreatDoorML7
import Derived.Test.YteemihfpamlccaaGreatDoorMGlueB
import Derived.Test.YteemihfpamlccaaGreatDoorMPlAsc
set_option linter.unusedVariables false
set_option linter.unusedSimpArgs false
open Bool renaming and_eq_true->l_,or_eq_false_iff->z_,or_eq_true->L_,true_and->aq_,and_eq_false_iff->aJ_,eq_iff_iff->bf_,and_assoc->bi_,false_or->bp_,or_assoc->bq_
open Classical renaming byContradiction->H_,choose_spec->J_,choose->av_
open Iff renaming rfl->bK_
open Int renaming toNat_natCast->c_,toNat->D_,le_refl->am_,natCast_nonneg->aC_,toNat_of_nonneg->aM_,fdiv_eq_ediv_of_nonneg->aT_,fdiv->bJ_
open Go.IntKind renaming wrap->u_,bits->aQ_
open List renaming getElem?_eq_getElem->a_,getElem_mem->b_,mem_append->d_,range->e_,getD_eq_getElem?_getD->f_,take_length->g_,take_add_one->h_,replicate->i_,mem_range->j_,mem_iff_getElem->k_,length_append->m_,mem_singleton->o_,map_append->p_,length_map->q_,append_assoc->r_,mem_cons_of_mem->s_,take_of_length_le->v_,mem_cons_self->w_,ext_getElem->x_,mem_map->y_,getElem?_map->A_,mem_of_mem_take->B_,nodup_iff_pairwise_ne->F_,length_nil->G_,getElem?_eq_some_iff->I_,length_singleton->K_,any_eq_true->M_,length_take->N_,map_cons->O_,getElem?_append_right->P_,nil_append->Q_,range_succ->R_,getElem?_append_left->T_,getElem?_eq_none->U_,map_nil->W_,getElem?_replicate->X_,getElem_map->aa_,getElem_set->ab_,length_cons->ac_,getElem_range->ad_,set_append_right->af_,take_append_drop->ag_,append_nil->ah_,flatMap_cons->ai_,mem_cons->ak_,map_congr_left->al_,getElem_idxOf->an_,mem_filter->ao_,length_filter_le->ar_,mem_append_left->as_,cons_append->aw_,pairwise_iff_getElem->ax_,flatMap_append->ay_,any_append->aA_,foldl_cons->aB_,pairwise_cons->aD_,ext_getElem?->aH_,length_pos_of_mem->aI_,length_replicate->aK_,filter_sublist->aN_,take_replicate->aO_,take_succ_cons->aP_,prefix_append->aU_,set_cons_zero->aV_,take_take->aW_,drop_eq_getElem_cons->aX_,nodup_append->aY_,mem_singleton_self->ba_,getElem?_set_self->bb_,length_eq_one_iff->bc_,mem_append_right->bh_,getElem?_set_ne->bj_,mem_of_getElem?->bk_,getElem?_range->bn_,replicate_succ->bo_,filter_append->br_,any_eq_false->bs_,getElem?_set->bt_,map_map->bu_,pairwise_map->bv_,flatMap_nil->bz_,nodup_range->bA_,not_mem_nil->bB_,prefix_refl->bC_,length_set->bD_,map_const'->bE_,range_zero->bF_,take_zero->bG_,getD->bH_
open Nat renaming le_trans->E_,eq_zero_or_pos->V_,min_eq_left->Y_,le_refl->Z_,lt_or_eq_of_le->ae_,pow_le_pow_right->au_,lt_succ_iff_lt_or_eq->az_,lt_of_le_of_lt->aE_,lt_of_lt_of_le->aF_,zero_le->aG_,mod_eq_of_lt->aL_,beq_refl->aR_,zero_add->aS_,add_assoc->aZ_,sub_self->bd_,testBit_lt_two_pow->be_,and_le_left->bg_,eq_of_testBit_eq->bl_,pow_lt_pow_right->bm_,le_of_lt->bw_,lt_trichotomy->bx_,succ_le_of_lt->by_
open Option renaming bind->n_,getD_some->t_,toList_some->C_,map_some->S_
open Option.some renaming inj->ap_
open Prod renaming ext->aj_,mk->bI_
namespace Go.Proofs.YteemihfpamlccaaGreatDoor
open Go Go.Av Go.Ev
abbrev DF:Type:=List Int×(List (List Int)×(List Bool×(Int×Unit)))
def de(xs:List Int):Prop:=0<xs.length/\(∀(h:0<xs.length),xs[0]=0)/\(∀i (h:i+1<xs.length),xs[i]<xs[i+1])/\∀x∈xs,x<=4294967295
def Big(d:DF):Prop:=d.2.2.1.length>4096\/d.2.1.length>4096\/d.1.length>2000
open Classical in
noncomputable def fK(d:DF):Int:=
 if Big d then 4 else if ¬de d.1 then 16 else if d.2.1.length=0\/d.2.2.1.length≠d.2.1.length then 14
 else if ¬(∀r∈d.2.1,r.length=d.1.length)then 14 else if d.2.2.2.1<0\/d.2.2.2.1>=(d.2.1.length:Int)then 5
 else if ¬(∀r∈d.2.1,∀t∈r,0<=t/\t<(d.2.1.length:Int))then 5 else 0
theorem Ct{i:Nat}(h0:0<i)(hi:i<=9223372036854775807):u_ .i64 ((i:Int) - 1)=((i - 1:Nat):Int):=by
 rw[wrap_i64 (by omega) (by omega)];omega
theorem starts_dfa{xs:List Int}:de xs↔(0<xs.length/\∀i,(h:i<xs.length)->(i=0->xs[i]=0)/\(∀_:0<i,xs[i - 1]<xs[i])/\xs[i]<=4294967295):=by
 constructor
 ·rintro⟨h0,h1,h2,h3⟩
  refine⟨h0,λi h=>⟨λe=>?_,λe=>?_,h3 _ (b_ h)⟩⟩
  ·subst e;exact h1 h0
  ·obtain⟨j,rfl⟩:∃j,i=j+1:=⟨i - 1,by omega⟩
   exact h2 j h
 ·rintro⟨h0,h⟩
  refine⟨h0,λ_=>(h 0 h0).1 rfl,λi hi=>(h (i+1) hi).2.1 (by omega),λx hx=>?_⟩
  obtain⟨i,hi,rfl⟩:=k_.1 hx
  exact(h i hi).2.2
theorem vr(d:DF):aU tbl kt [.d (pr [.list tI,.list (.list tI),.list tB,tI]) d] [] cB (fK d,()):=by
 refine aZ rfl (aV M2 rfl (λO n=>Ng O n d) ?_)
 unfold CE
 refine ae (dw (λ_=>aa rfl) (ae (dw (λ_=>aa rfl) ?_)))
 refine aJ (λh=>aa ?_) λh=>?_
 ·have:Big d:=by
   simp only[L_,decide_eq_true_eq]at h
   unfold Big;omega
  rw[show fK d=4 from by unfold fK;rw[if_pos this]]
 have nb:¬Big d:=by
  simp only[z_,decide_eq_false_iff_not]at h
  unfold Big;omega
 have hl1:d.1.length<=2000:=by unfold Big at nb;omega
 have hl2:d.2.1.length<=4096:=by unfold Big at nb;omega
 refine ae (GB (N:=d.1.length) (good:=λi=>∀(h:i<d.1.length),(i=0->d.1[i]=0)/\(∀_:0<i,d.1[i - 1]<d.1[i])/\d.1[i]<=4294967295) (e:=((16:Int),())) (g:=()) (λi hi=>?_) ?_ (λhs=>?_) (λhb=>?_))
 ·unfold sd
  refine bT hi (aB hi ?_)
  refine ae (gf (λ_=>aa rfl) (ae (dw (b:=decide (0<i)&&decide (d.1[i]<=d.1[i - 1])) (λ_=>ae (gf (b:=decide (d.1[i]<=d.1[i - 1])) (λh0=>?_) (aa ?_))) (ae (dw (λ_=>aa rfl) ?_)))))
  ·have h0:0<i:=by simpa using h0
   rw[Ct h0 (by omega)]
   exact aB (by omega) (aa rfl)
  ·congr 1
   exact decide_eq_decide.2 (by omega)
  ·refine r9 ?_ (by rw[an hi (by omega)])
   simp only[L_,l_,decide_eq_true_eq,beq_iff_eq,bne_iff_ne]
   constructor
   ·intro h1 h2
    have h3:=h2 hi
    rcases h1 with(⟨h1,h4⟩|⟨h1,h4⟩)|h1
    ·exact h4 (h3.1 (by omega))
    ·have:=h3.2.1 h1;omega
    ·have:=h3.2.2;omega
   ·intro h1
    by_cases h2:i=0
    ·by_cases h3:d.1[i]=0
     ·exact absurd (λ_=>⟨λ_=>h3,λh=>absurd h (by omega),by omega⟩) h1
     ·exact .inl (.inl ⟨by omega,h3⟩)
    ·by_cases h3:d.1[i]<=d.1[i - 1]
     ·exact .inl (.inr ⟨by omega,h3⟩)
     ·by_cases h4:d.1[i]>4294967295
      ·exact .inr h4
      ·exact absurd (λ_=>⟨λh=>absurd h h2,λ_=>by omega,by omega⟩) h1
 ·unfold sd
  exact br (aa rfl)
 ·refine aJ (λh=>aa ?_) λh=>?_
  ·have:¬de d.1:=λhs=>by have:=hs.1;simp at h;simp[h]at this
   rw[show fK d=16 from by unfold fK;rw[if_neg nb,if_pos this]]
  have hS:de d.1:=starts_dfa.2 ⟨by simp at h;exact List.length_pos_iff.2 h,λi hi=>hs i hi hi⟩
  refine ae (dw (λ_=>aa rfl) ?_)
  refine aJ (λh=>aa ?_) λh=>?_
  ·have:d.2.1.length=0\/d.2.2.1.length≠d.2.1.length:=by
    simp only[L_,beq_iff_eq,bne_iff_ne]at h
    omega
   rw[show fK d=14 from by unfold fK;rw[if_neg nb,if_neg (not_not_intro hS),if_pos this]]
  have h1:¬(d.2.1.length=0\/d.2.2.1.length≠d.2.1.length):=by
   simp only[z_,beq_eq_false_iff_ne,bne_eq_false_iff_eq]at h
   omega
  refine ae (Bi (xs:=d.2.1) (P:=λr=>r.length=d.1.length) (e:=((14:Int),())) (g:=()) (λi hi=>?_) ?_ (λhr=>?_) (λhr=>?_))
  ·unfold se
   refine bT hi (aB hi (r9 ?_ (by rw[an hi (by omega)])))
   simp only[bne_iff_ne]
   omega
  ·unfold se
   exact br (aa rfl)
  ·refine ae (dw (λ_=>aa rfl) ?_)
   refine aJ (λh=>aa ?_) λh=>?_
   ·have:d.2.2.2.1<0\/d.2.2.2.1>=(d.2.1.length:Int):=by simpa using h
    rw[show fK d=5 from by unfold fK;rw[if_neg nb,if_neg (not_not_intro hS),if_neg h1,if_neg (not_not_intro hr),if_pos this]]
   have h2:¬(d.2.2.2.1<0\/d.2.2.2.1>=(d.2.1.length:Int)):=by simpa using h
   refine ae (Bi (xs:=d.2.1) (P:=λr=>∀t∈r,0<=t/\t<(d.2.1.length:Int)) (e:=((5:Int),())) (g:=()) (λi hi=>?_) ?_ (λht=>?_) (λht=>?_))
   ·unfold sg
    refine bT hi (aB hi (ae (Bi (xs:=d.2.1[i]) (P:=λt=>0<=t/\t<(d.2.1.length:Int)) (e:=((5:Int),())) (g:=()) (λk hk=>?_) ?_ (λh=>?_) (λh=>?_))))
    ·unfold sf
     have hk2:=hk
     rw[hr _ (b_ hi)]at hk2
     refine bT hk (aB hk (ae (dw (λ_=>aa rfl) (r9 ?_ (by rw[an hk2 (by omega)])))))
     simp only[L_,decide_eq_true_eq]
     omega
    ·unfold sf
     exact br (aa rfl)
    ·exact aa (.inl ⟨h,by rw[an hi (by omega)]⟩)
    ·exact aa (.inr ⟨h,rfl⟩)
   ·unfold sg
    exact br (aa rfl)
   ·refine aa ?_
    rw[show fK d=0 from by unfold fK;rw[if_neg nb,if_neg (not_not_intro hS),if_neg h1,if_neg (not_not_intro hr),if_neg h2,if_neg (not_not_intro ht)]]
   ·refine aa ?_
    rw[show fK d=5 from by unfold fK;rw[if_neg nb,if_neg (not_not_intro hS),if_neg h1,if_neg (not_not_intro hr),if_neg h2,if_pos ht]]
  ·refine aa ?_
   rw[show fK d=14 from by unfold fK;rw[if_neg nb,if_neg (not_not_intro hS),if_neg h1,if_pos hr]]
 ·have:¬de d.1:=λhs=>by
   obtain⟨i,hi,hb⟩:=hb
   exact hb λh=>(starts_dfa.1 hs).2 i h
  refine aa ?_
  rw[show fK d=16 from by unfold fK;rw[if_neg nb,if_pos this]]
def Wi(d:DF):Prop:=d.1.length<=9223372036854775807/\d.2.1.length<=9223372036854775807/\(∀r∈d.2.1,r.length<=9223372036854775807)/\d.2.2.1.length<=9223372036854775807
theorem same_iff{α:Type}{a b:List α}(hl:a.length=b.length):(∀i,i<a.length->a[i]? =b[i]?)↔a=b:=by
 constructor
 ·intro h
  refine aH_ λi=>?_
  by_cases hi:i<a.length
  ·exact h i hi
  ·rw[U_ (by omega),U_ (by omega)]
 ·rintro rfl _ _;rfl
theorem Cx(a b:List Int)(hl:a.length<=9223372036854775807):aU tbl nq [.d (.list tI) a,.d (.list tI) b] [] gx (decide (a=b),()):=by
 refine aZ rfl (aV M6 rfl (λO n=>Nk O n a b) ?_)
 unfold CJ
 refine aJ (λh=>aa ?_) λh=>?_
 ·have:a≠b:=λe=>by subst e;simp at h
  simp[this]
 have hab:a.length=b.length:=by simp only[bne_eq_false_iff_eq]at h;omega
 refine ae (GB (N:=a.length) (good:=λi=>a[i]? =b[i]?) (e:=(false,())) (g:=()) (λi hi=>?_) ?_ (λhs=>aa ?_) (λhb=>aa ?_))
 ·unfold sj
  refine bT hi (aB hi (aB (by omega) (r9 ?_ (by rw[an hi (by omega)]))))
  rw[a_ hi,a_ (by omega)]
  simp
 ·unfold sj
  exact br (aa rfl)
 ·simp[(same_iff hab).1 hs]
 ·have:a≠b:=λe=>by obtain⟨i,hi,hn⟩:=hb;subst e;exact hn rfl
  simp[this]
theorem Gg(a b:DF)(ha:Wi a)(hn:a.2.1.length=b.2.1.length)(hm:a.2.2.1.length=b.2.2.1.length)(h1:a.1=b.1)(h2:a.2.2.2.1=b.2.2.2.1):Wp (λn=>
 n_ (aK n (mQ (kS tbl n) n a b) ((0:Int),())) fun(v8:(Bool×Unit)⊕Unit)=>
 Sum.elim (λv9=>
 aW dy (v9.1,())) (λv10=>
 n_ (aK n (mR (kS tbl n) n a b) ((0:Int),())) fun(v14:(Bool×Unit)⊕Unit)=>
 Sum.elim (λv15=>
 aW dy (v15.1,())) (λv16=>
 aW dy (true,())) v14) v8) λo=>o=some (ii dy (decide (a=b),())):=by
 refine ae (GB (N:=a.2.1.length) (good:=λi=>a.2.1[i]? =b.2.1[i]?) (e:=(false,())) (g:=()) (λi hi=>?_) ?_ (λhs=>?_) (λhb=>aa ?_))
 ·unfold mQ
  refine bT hi (aB hi (aB (by omega) (au (Cx _ _ (ha.2.2.1 _ (b_ hi))) (r9 ?_ (by rw[an hi ha.2.1])))))
  rw[a_ hi,a_ (by omega)]
  simp
 ·unfold mQ
  exact br (aa rfl)
 ·have hs:=(same_iff hn).1 hs
  refine ae (GB (N:=a.2.2.1.length) (good:=λi=>a.2.2.1[i]? =b.2.2.1[i]?) (e:=(false,())) (g:=()) (λi hi=>?_) ?_ (λht=>aa ?_) (λhb=>aa ?_))
  ·unfold mR
   refine bT hi (aB hi (aB (by omega) (r9 ?_ (by rw[an hi ha.2.2.2]))))
   rw[a_ hi,a_ (by omega)]
   simp
  ·unfold mR
   exact br (aa rfl)
  ·have ht:=(same_iff hm).1 ht
   have:a=b:=aj_ h1 (aj_ hs (aj_ ht (aj_ h2 rfl)))
   rw[decide_eq_true this]
  ·have:a≠b:=λe=>by obtain⟨i,hi,hn⟩:=hb;subst e;exact hn rfl
   rw[decide_eq_false this]
 ·have:a≠b:=λe=>by obtain⟨i,hi,hn⟩:=hb;subst e;exact hn rfl
  rw[decide_eq_false this]
theorem KT(a b:DF)(ha:Wi a):aU tbl re [.d (pr [.list tI,.list (.list tI),.list tB,tI]) a,.d (pr [.list tI,.list (.list tI),.list tB,tI]) b] [] dy (decide (a=b),()):=by
 refine aZ rfl (aV M3 rfl (λO n=>Nh O n a b) ?_)
 unfold CF
 refine ae (dw (λ_=>au (Cx _ _ ha.1) (aa rfl)) (ae (dw (λ_=>aa rfl) (ae (dw (λ_=>aa rfl) ?_)))))
 refine aJ (λh=>aa ?_) λh=>?_
 ·simp only[L_,bne_iff_ne,Bool.not_eq_true',decide_eq_false_iff_not]at h
  have:a≠b:=λe=>by subst e;simp at h
  rw[decide_eq_false this]
 ·simp only[z_,bne_eq_false_iff_eq,Bool.not_eq_false',decide_eq_true_eq]at h
  exact Gg a b ha (by omega) (by omega) h.1.1.2 h.1.1.1
def kX(xs:List Int)(v:Int)(c:Nat):Prop:=∃h:c<xs.length,xs[c]<=v/\∀j (_:j<xs.length),c<j->v<xs[j]
theorem JB{xs:List Int}{v:Int}{c c':Nat}(h:kX xs v c)(h':kX xs v c'):c=c':=by
 obtain⟨h1,h2,h3⟩:=h
 obtain⟨g1,g2,g3⟩:=h'
 rcases bx_ c c' with hl|he|hl
 ·have:=h3 c' g1 hl;omega
 ·exact he
 ·have:=g3 c h1 hl;omega
open Classical in
noncomputable def fT(xs:List Int)(v:Int):Nat:=if h:∃c,kX xs v c then av_ h else 0
theorem p9{xs:List Int}{v:Int}{c:Nat}(h:kX xs v c):fT xs v=c:=by
 have hx:∃c,kX xs v c:=⟨c,h⟩
 unfold fT
 rw[dif_pos hx]
 exact JB (J_ hx) h
theorem kN{xs:List Int}(hs:de xs):∀(j i:Nat) (h:j<xs.length) (hij:i<j),xs[i]<xs[j]
 |0,i,h,hij=>absurd hij (by omega)
 |j+1,i,h,hij=>by
  have h1:=hs.2.2.1 j h
  rcases az_.1 hij with hl|rfl
  ·have:=kN hs j i (by omega) hl;omega
  ·exact h1
theorem Cw(xs:List Int)(v:Int)(hs:de xs)(hl:xs.length<=4611686018427387903)(hv:0<=v):∃c,kX xs v c/\aU tbl ku [.d (.list tI) xs,.d tI v] [] gw ((c:Int),()):=by
 suffices h:Conv tbl ku [.d (.list tI) xs,.d tI v] [] λo=>∃c:Nat,o=some (ii gw ((c:Int),()))/\kX xs v c by
  obtain⟨c,⟨k,hk,hc⟩,hh⟩:=lz (sh:=gw) (R:=λc=>∃k:Nat,c=((k:Int),())/\kX xs v k) (λ_=>rfl) (Io h λo ⟨k,ho,hk⟩=>⟨((k:Int),()),ho,k,rfl,hk⟩)
  subst hk
  exact⟨k,hc,hh⟩
 refine aV M5 rfl (λO n=>Nj O n xs v) ?_
 unfold CI
 refine ae (Go.Ev.wp_loop (σ:=Int×Int×Unit) (λs=>∃lo hi:Nat,s=((lo:Int),(hi:Int),())/\lo<hi/\hi<=xs.length/\(∀h:lo<xs.length,xs[lo]<=v)/\∀h:hi<xs.length,v<xs[hi]) (λs=>(s.2.1 - s.1).toNat) ⟨0,xs.length,rfl,hs.1,Z_ _,λh=>by rw[hs.2.1 h];exact hv,λh=>absurd h (by omega)⟩ ?_)
 rintro s ⟨lo,hi,rfl,h1,h2,h3,h4⟩
 unfold yh
 have hw:u_ .i64 ((hi:Int) - (lo:Int))=(hi:Int) - lo:=wrap_i64 (by omega) (by omega)
 refine aJ (λhb=>?_) λhb=>?_
 ·rw[hw]at hb
  have hb:(hi:Int) - lo>1:=by simpa using hb
  refine ao rfl ?_
  have hm:u_ .i64 (Int.tdiv (u_ .i64 ((lo:Int)+(hi:Int))) (2:Int))=(((lo+hi)/2:Nat):Int):=by
   rw[wrap_i64 (n:=(lo:Int)+hi) (by omega) (by omega),show(lo:Int)+hi=((lo+hi:Nat):Int) by omega,show Int.tdiv ((lo+hi:Nat):Int) 2=(((lo+hi)/2:Nat):Int)from rfl]
   exact wrap_i64 (by omega) (by omega)
  simp only[hm]
  have hlt:(lo+hi)/2<xs.length:=by omega
  refine aB hlt (aJ (λhc=>aa ?_) λhc=>aa ?_)
  ·have hc:xs[(lo+hi)/2]<=v:=by simpa using hc
   refine⟨⟨(lo+hi)/2,hi,rfl,by omega,h2,λ_=>hc,h4⟩,?_⟩
   show((hi:Int) - (((lo+hi)/2:Nat):Int)).toNat<((hi:Int) - lo).toNat
   omega
  ·have hc:v<xs[(lo+hi)/2]:=by simpa using hc
   refine⟨⟨lo,(lo+hi)/2,rfl,by omega,by omega,h3,λ_=>hc⟩,?_⟩
   show((((lo+hi)/2:Nat):Int) - lo).toNat<((hi:Int) - lo).toNat
   omega
 ·rw[hw]at hb
  have hb:¬(hi:Int) - lo>1:=by simpa using hb
  refine aa (aa ⟨lo,rfl,by omega,h3 (by omega),λj hj hlj=>?_⟩)
  have h5:=h4 (by omega)
  rcases ae_ (show hi<=j by omega)with hl|rfl
  ·have:=kN hs j hi hj hl;omega
  ·exact h5
theorem Jm(xs:List Int)(v:Int)(hs:de xs)(hl:xs.length<=4611686018427387903)(hv:0<=v):aU tbl ku [.d (.list tI) xs,.d tI v] [] gw ((fT xs v:Int),()):=by
 obtain⟨c,hc,h⟩:=Cw xs v hs hl hv
 rw[p9 hc];exact h
theorem SR{xs:List Int}{v:Int}(hs:de xs)(hl:xs.length<=4611686018427387903)(hv:0<=v):kX xs v (fT xs v):=by
 obtain⟨c,hc,_⟩:=Cw xs v hs hl hv
 rw[p9 hc];exact hc
structure Good(d:DF):Prop where
 starts:de d.1
 small:¬Big d
 len:0<d.2.1.length/\d.2.2.1.length=d.2.1.length
 rows:∀r∈d.2.1,r.length=d.1.length
 start:0<=d.2.2.2.1/\d.2.2.2.1<(d.2.1.length:Int)
 to:∀r∈d.2.1,∀t∈r,0<=t/\t<(d.2.1.length:Int)
theorem good_iff{d:DF}:fK d=0↔Good d:=by
 constructor
 ·intro h
  unfold fK at h
  by_cases h1:Big d
  ·rw[if_pos h1]at h;cases h
  rw[if_neg h1]at h
  by_cases h2:de d.1
  case neg=>rw[if_pos h2]at h;cases h
  rw[if_neg (not_not_intro h2)]at h
  by_cases h3:d.2.1.length=0\/d.2.2.1.length≠d.2.1.length
  ·rw[if_pos h3]at h;cases h
  rw[if_neg h3]at h
  by_cases h4:∀r∈d.2.1,r.length=d.1.length
  case neg=>rw[if_pos h4]at h;cases h
  rw[if_neg (not_not_intro h4)]at h
  by_cases h5:d.2.2.2.1<0\/d.2.2.2.1>=(d.2.1.length:Int)
  ·rw[if_pos h5]at h;cases h
  rw[if_neg h5]at h
  by_cases h6:∀r∈d.2.1,∀t∈r,0<=t/\t<(d.2.1.length:Int)
  case neg=>rw[if_pos h6]at h;cases h
  exact⟨h2,h1,by omega,h4,by omega,h6⟩
 ·intro h
  have h3:¬(d.2.1.length=0\/d.2.2.1.length≠d.2.1.length):=by have:=h.len;omega
  have h5:¬(d.2.2.2.1<0\/d.2.2.2.1>=(d.2.1.length:Int)):=by have:=h.start;omega
  unfold fK
  rw[if_neg h.small,if_neg (not_not_intro h.starts),if_neg h3,if_neg (not_not_intro h.rows),if_neg h5,if_neg (not_not_intro h.to)]
noncomputable def bL(d:DF)(s:Int)(v:Int):Int:=(d.2.1.getD s.toNat []).getD (fT d.1 v) 0
noncomputable def jM(d:DF)(s:Int)(v:Int):Int⊕Bool:=bif decide (v<0)||decide (v>4294967295)then .inr false else .inl (bL d s v)
open Classical in
noncomputable def kb(d:DF)(path:List Int):Bool:=if Good d then(match iO (jM d) d.2.2.2.1 path with| .inl s=>d.2.2.1.getD s.toNat false| .inr b=>b)else false
theorem ww{d:DF}(h:Good d):d.2.1.length<=4096/\d.1.length<=2000/\d.2.2.1.length<=4096:=by
 have:=h.small
 unfold Big at this
 omega
theorem Gq{d:DF}(h:Good d){s v:Int}(h0:0<=s)(hs:s<(d.2.1.length:Int))(hv:0<=v):∃h1:s.toNat<d.2.1.length,∃h2:fT d.1 v<d.2.1[s.toNat].length,d.2.1[s.toNat][fT d.1 v]=bL d s v/\0<=bL d s v/\bL d s v<(d.2.1.length:Int):=by
 have h1:s.toNat<d.2.1.length:=by omega
 have hl:=ww h
 obtain⟨hc,_⟩:=SR h.starts (by omega) hv
 have h2:fT d.1 v<d.2.1[s.toNat].length:=by rw[h.rows _ (b_ h1)];exact hc
 have e:d.2.1[s.toNat][fT d.1 v]=bL d s v:=by
  unfold bL
  simp only[f_,a_ h1,t_,a_ h2]
 refine⟨h1,h2,e,?_⟩
 rw[<-e]
 exact h.to _ (b_ h1) _ (b_ h2)
theorem Cv(d:DF)(path:List Int)(hp:path.length<=9223372036854775807):aU tbl np [.d (pr [.list tI,.list (.list tI),.list tB,tI]) d,.d (.list tI) path] [] gv (kb d path,()):=by
 refine aZ rfl (aV M4 rfl (λO n=>Ni O n d path) ?_)
 unfold CG
 refine au (vr d) (aJ (λh=>aa ?_) λh=>?_)
 ·have:¬Good d:=λhg=>by rw[good_iff.2 hg]at h;simp at h
  rw[show kb d path=false from by unfold kb;rw[if_neg this]]
 have hg:Good d:=good_iff.1 (by simpa using h)
 have hl:=ww hg
 refine ae (UI (xs:=path) (f:=jM d) (s0:=d.2.2.2.1) (Inv:=λs=>0<=s/\s<(d.2.1.length:Int)) (enc:=λi s=>(s,(i:Int),())) (oE:=λs=>.inr (s,())) (oB:=λb=>.inl (b,())) hg.start (λi hi s hs=>?_) (λs hs=>?_) ?_)
 ·unfold si
  refine bT hi (aB hi (ae (dw (λ_=>aa rfl) (aJ (λhb=>aa ?_) λhb=>?_))))
  ·unfold jM
   rw[hb];rfl
  ·have hv:0<=path[i]:=by
    simp only[z_,decide_eq_false_iff_not]at hb
    omega
   obtain⟨h1,h2,h3,h4⟩:=Gq hg hs.1 hs.2 hv
   refine cr hs.1 h1 (au (Jm d.1 path[i] hg.starts (by omega) hv) (aB h2 (aa ?_)))
   unfold jM
   rw[hb]
   exact⟨h4,by rw[h3,an hi hp]⟩
 ·unfold si
  exact br (aa rfl)
 ·have hQ:∀r,iO (jM d) d.2.2.2.1 path=r->(∀s,r= .inl s->0<=s/\s<(d.2.1.length:Int)):=by
   have:∀(l:List Int) (s0:Int),0<=s0/\s0<(d.2.1.length:Int)->∀s,iO (jM d) s0 l= .inl s->0<=s/\s<(d.2.1.length:Int):=by
    intro l
    induction l with
    |nil=>intro s0 h0 s e;cases e;exact h0
    |cons x l ih=>
     intro s0 h0 s e
     simp only[iO]at e
     split at e
     ·rename_i s' e'
      refine ih s' ?_ s e
      unfold jM at e'
      cases hb:decide (x<0)||decide (x>4294967295)
      ·rw[hb]at e'
       cases e'
       simp only[z_,decide_eq_false_iff_not]at hb
       obtain⟨_,_,_,h4⟩:=Gq hg h0.1 h0.2 (show 0<=x by omega)
       exact h4
      ·rw[hb]at e';cases e'
     ·cases e
   exact λr e s h=>this path _ hg.start s (e.trans h)
  cases hr:iO (jM d) d.2.2.2.1 path with
  |inl s=>
   obtain⟨g1,g2⟩:=hQ _ rfl s hr
   have h3:s.toNat<d.2.2.1.length:=by have:=hg.len;omega
   refine cr g1 h3 (aa ?_)
   rw[show kb d path=d.2.2.1[s.toNat]from by unfold kb;rw[if_pos hg,hr];simp only[f_,a_ h3,t_]]
  |inr b=>
   refine aa ?_
   rw[show kb d path=b from by unfold kb;rw[if_pos hg,hr]]
open Go Go.Av Go.Ev Go.Pl
theorem Gp{xs:List Int}(h:de xs):Asc xs:=ax_.2 λi j _ hj hij=>kN h j i hj hij
theorem FI(x:Int)(l:List Int):(((x::l).length:Int)==(0:Int))=false:=by
 simp only[ac_,beq_eq_false_iff_ne];omega
theorem Jc(x:Int)(l:List Int):((x::l).take ((x::l).length)).drop (D_ (1:Int))=l:=by simp
theorem Cy(a b:List Int)(ha:Asc a)(hb:Asc b)(hla:a.length<=1000000000)(hlb:b.length<=1000000000):aU tbl nr [.d (.list tI) a,.d (.list tI) b] [] kL (xF (a++b),()):=by
 refine aZ rfl (aV M7 rfl (λO n=>Nl O n a b) ?_)
 unfold CK
 refine ae (Go.Ev.wp_loop (σ:=List Int×List Int×List Int×Unit) (λs=>Asc s.1/\Asc s.2.1/\Asc s.2.2.1/\(∀x∈s.2.2.1,(∀y∈s.1,x<y)/\∀y∈s.2.1,x<y)/\(∀x,(x∈s.2.2.1\/x∈s.1\/x∈s.2.1)↔x∈a++b)/\s.2.2.1.length+s.1.length+s.2.1.length<=2000000000)
  (λs=>s.1.length+s.2.1.length) ⟨ha,hb,by simp[Asc],by simp,by simp,by simp;omega⟩ ?_)
 rintro⟨xs,ys,out,_⟩ ⟨h1,h2,h3,h4,h5,h6⟩
 simp only at h1 h2 h3 h4 h5 h6
 have snoc:∀v:Int,(∀x∈out,x<v)->Asc (out++[v]):=λv hv=>p6 h3 (by simp[Asc]) λx hx y hy=>by simp at hy;subst hy;exact hv x hx
 unfold yi
 simp only
 refine ae (dw (λ_=>aa rfl) (aJ (λhne=>?_) λhe=>?_))
 ·match xs,ys with
  |[],[]=>simp at hne
  |[],y::ys=>
   have hy:(∀z∈ys,y<z)/\Asc ys:=aD_.1 h2
   refine ae (dw (b:=false) (λ_=>ae (gf (b:=false) (λh=>absurd h (by simp)) (aa rfl))) (aJ (λh=>(by rw[FI]at h;cases h)) λ_=>?_))
   refine ae (dw (b:=true) (λh=>absurd h (by simp)) (aJ (λ_=>?_) λh=>absurd h (by simp)))
   refine dZ (x:=y) (by simp) rfl (ao (decide_eq_true (by simp at h6⊢;omega)) (ao rfl (ao (by simp) (aa ?_))))
   refine⟨⟨h1,(by simpa only[Jc]using hy.2),snoc y λx hx=>(h4 x hx).2 y (by simp),λx hx=>⟨by simp,λz hz=>?_⟩,λx=>?_,by simp at h6⊢;omega⟩,by simp⟩
   ·simp at hz
    rcases d_.1 hx with hx|hx
    ·exact(h4 x hx).2 z (by simp[hz])
    ·simp at hx;subst hx;exact hy.1 z hz
   ·rw[<-h5 x];simp;grind
  |x::xs,[]=>
   have hx:(∀z∈xs,x<z)/\Asc xs:=aD_.1 h1
   refine ae (dw (b:=true) (λh=>absurd h (by simp)) (aJ (λ_=>?_) λh=>absurd h (by simp)))
   refine dZ (x:=x) (by simp) rfl (ao (decide_eq_true (by simp at h6⊢;omega)) (ao rfl (ao (by simp) (aa ?_))))
   refine⟨⟨(by simpa only[Jc]using hx.2),h2,snoc x λz hz=>(h4 z hz).1 x (by simp),λw hw=>⟨λz hz=>?_,by simp⟩,λw=>?_,by simp at h6⊢;omega⟩,by simp⟩
   ·simp at hz
    rcases d_.1 hw with hw|hw
    ·exact(h4 w hw).1 z (by simp[hz])
    ·simp at hw;subst hw;exact hx.1 z hz
   ·rw[<-h5 w];simp;grind
  |x::xs,y::ys=>
   have hx:(∀z∈xs,x<z)/\Asc xs:=aD_.1 h1
   have hy:(∀z∈ys,y<z)/\Asc ys:=aD_.1 h2
   refine ae (dw (b:=decide (x<y)) (λ_=>ae (gf (b:=decide (x<y)) (λ_=>dZ (x:=x) (by simp) rfl (dZ (x:=y) (by simp) rfl (aa rfl))) (aa (by simp)))) (aJ (λh=>?_) λh=>?_))
   ·have hlt:x<y:=by rw[FI]at h;simpa using h
    refine dZ (x:=x) (by simp) rfl (ao (decide_eq_true (by simp at h6⊢;omega)) (ao rfl (ao (by simp) (aa ?_))))
    refine⟨⟨(by simpa only[Jc]using hx.2),h2,snoc x λz hz=>(h4 z hz).1 x (by simp),λw hw=>⟨λz hz=>?_,λz hz=>?_⟩,λw=>?_,by simp at h6⊢;omega⟩,by simp⟩
    ·simp at hz
     rcases d_.1 hw with hw|hw
     ·exact(h4 w hw).1 z (by simp[hz])
     ·simp at hw;subst hw;exact hx.1 z hz
    ·rcases d_.1 hw with hw|hw
     ·exact(h4 w hw).2 z hz
     ·simp at hw;subst hw
      rcases ak_.1 hz with rfl|hz
      ·exact hlt
      ·have:=hy.1 z hz;omega
    ·rw[<-h5 w];simp;grind
   ·have hge:¬x<y:=by rw[FI]at h;simpa using h
    refine ae (dw (b:=decide (y<x)) (λ_=>dZ (x:=y) (by simp) rfl (dZ (x:=x) (by simp) rfl (aa rfl))) (aJ (λh=>?_) λh=>?_))
    ·have hlt:y<x:=by rw[FI]at h;simpa using h
     refine dZ (x:=y) (by simp) rfl (ao (decide_eq_true (by simp at h6⊢;omega)) (ao rfl (ao (by simp) (aa ?_))))
     refine⟨⟨h1,(by simpa only[Jc]using hy.2),snoc y λz hz=>(h4 z hz).2 y (by simp),λw hw=>⟨λz hz=>?_,λz hz=>?_⟩,λw=>?_,by simp at h6⊢;omega⟩,by simp⟩
     ·rcases d_.1 hw with hw|hw
      ·exact(h4 w hw).1 z hz
      ·simp at hw;subst hw
       rcases ak_.1 hz with rfl|hz
       ·exact hlt
       ·have:=hx.1 z hz;omega
     ·simp at hz
      rcases d_.1 hw with hw|hw
      ·exact(h4 w hw).2 z (by simp[hz])
      ·simp at hw;subst hw;exact hy.1 z hz
     ·rw[<-h5 w];simp;grind
    ·have hnl:¬y<x:=by rw[FI]at h;simpa using h
     have hxy:x=y:=by omega
     subst hxy
     refine dZ (x:=x) (by simp) rfl (ao (decide_eq_true (by simp at h6⊢;omega)) (ao rfl (ao (by simp) (ao rfl (ao (by simp) (aa ?_))))))
     refine⟨⟨(by simpa only[Jc]using hx.2),(by simpa only[Jc]using hy.2),snoc x λz hz=>(h4 z hz).1 x (by simp),λw hw=>⟨λz hz=>?_,λz hz=>?_⟩,λw=>?_,by simp at h6⊢;omega⟩,by simp;omega⟩
     ·simp at hz
      rcases d_.1 hw with hw|hw
      ·exact(h4 w hw).1 z (by simp[hz])
      ·simp at hw;subst hw;exact hx.1 z hz
     ·simp at hz
      rcases d_.1 hw with hw|hw
      ·exact(h4 w hw).2 z (by simp[hz])
      ·simp at hw;subst hw;exact hy.1 z hz
     ·rw[<-h5 w];simp;grind
 ·have he1:xs=[]:=by cases xs with|nil=>rfl|cons _ _=>simp at he
  have he2:ys=[]:=by cases ys with|nil=>rfl|cons _ _=>simp at he
  subst he1 he2
  refine aa (aa ?_)
  rw[wX h3 λx=>by simpa using h5 x]
theorem Ex(l:List Int)(hl:l.length<=1000000000):aU tbl lh [.d (.list tI) l] [] iT (xF l,()):=by
 refine aZ rfl (aV Gv rfl (λO n=>GF O n l) ?_)
 unfold vA
 refine ae (aS (N:=l.length) (I:=λi s=>∃out:List Int,s=((i:Int),out,())/\Asc out/\out.length<=i/\∀x,x∈out↔x∈l.take i) ⟨[],rfl,by simp[Asc],by simp,by simp⟩ ?_ ?_)
 ·rintro i s hi ⟨out,rfl,h1,h2,h3⟩
  unfold my
  have hmem:∀c:List Int,(∀x,x∈c↔x=l[i]\/x∈out)->∀x,x∈c↔x∈l.take (i+1):=λc hc x=>by
   rw[hc x,h3 x,h_,a_ hi,d_,C_,o_]
   exact Or.comm
  refine bT hi (ae (aB hi ?_))
  generalize hv:l[i]=v at hmem
  refine ae (Go.Ev.wp_loop (σ:=Int×List Int×Unit) (λs=>∃k:Nat,s=((k:Int),out,())/\k<=out.length/\∀j (hj:j<out.length),j<k->out[j]<v) (λs=>out.length - s.1.toNat) ⟨0,rfl,by omega,λj _ h=>absurd h (by omega)⟩ ?_)
  rintro s ⟨k,rfl,g1,g2⟩
  unfold sN
  refine ae (gf (b:=decide (∃h:k<out.length,out[k]<v)) (λh=>?_) (aJ (λh=>aa ?_) λh=>aa ?_))
  ·have hk:k<out.length:=by simpa using h
   refine aB hk (bm (x:=out[k]) (by simp) (aa ?_))
   exact decide_eq_decide.2 ⟨λh=>⟨hk,h⟩,fun⟨_,h⟩=>h⟩
  ·simp only[l_,decide_eq_true_eq]at h
   obtain⟨hk,hlt⟩:=h.2
   refine⟨⟨k+1,by rw[an hk (by omega)],by omega,λj hj hjk=>?_⟩,?_⟩
   ·rcases az_.1 hjk with h|rfl
    ·exact g2 j hj h
    ·exact hlt
   ·rw[an hk (by omega)]
    simp only[c_]
    omega
  ·have hge:∀h:k<out.length,v<=out[k]:=λhk=>by
    simp only[aJ_,decide_eq_false_iff_not,not_exists]at h
    rcases h with h|h
    ·omega
    ·have:=h hk;omega
   have hbefore:∀x∈out.take k,x<v:=λx hx=>by
    obtain⟨j,hj,rfl⟩:=k_.1 hx
    rw[List.getElem_take]
    exact g2 j (by simp at hj;omega) (by simp at hj;omega)
   refine ae (gf (b:=decide (∃h:k<out.length,out[k]=v)) (λh=>?_) (aJ (λh=>aa ?_) λh=>?_))
   ·have hk:k<out.length:=by simpa using h
    refine aB hk (bm (x:=out[k]) (by simp) (aa ?_))
    rw[show(out[k]==v)=decide (out[k]=v)from rfl]
    exact decide_eq_decide.2 ⟨λh=>⟨hk,h⟩,fun⟨_,h⟩=>h⟩
   ·simp only[l_,decide_eq_true_eq]at h
    obtain⟨hk,he⟩:=h.2
    refine aa ⟨out,by rw[an hi (by omega)],h1,by omega,hmem out λx=>⟨.inr,λh=>h.elim (λe=>by subst e;rw[<-he];exact b_ hk) id⟩⟩
   ·have hgt:∀h:k<out.length,v<out[k]:=λhk=>by
     have h4:=hge hk
     simp only[aJ_,decide_eq_false_iff_not,not_exists]at h
     rcases h with h|h
     ·omega
     ·have:=h hk;omega
    have hafter:∀x∈out.drop k,v<x:=λx hx=>by
     obtain⟨j,hj,rfl⟩:=k_.1 hx
     rw[List.getElem_drop]
     simp at hj
     have hk:k<out.length:=by omega
     have h5:=hgt hk
     rcases V_ j with rfl|hj0
     ·simpa using h5
     ·have:=Jr h1 (i:=k) (j:=k+j) (by omega) (by omega);omega
    refine ao (decide_eq_true (by simp;omega)) ?_
    simp only
    have hw:u_ .i64 ((((out++[(0:Int)]).length:Int)) - (1:Int))=(out.length:Int):=by
     rw[wrap_i64 (by simp only[m_,K_];omega) (by simp only[m_,K_];omega)];simp
    rw[hw]
    refine ae (Go.Ev.wp_loop (σ:=Int×List Int×Unit) (λs=>∃m y,s=(((m:Nat):Int),out.take m++[y]++out.drop m,())/\k<=m/\m<=out.length) (λs=>s.1.toNat) ⟨out.length,0,by simp,g1,Z_ _⟩ ?_)
    rintro s ⟨m,y,rfl,m1,m2⟩
    unfold sO
    refine aJ (λh=>?_) λh=>?_
    ·have hkm:k<m:=by simp at h;omega
     have hlen:(out.take m++[y]++out.drop m).length=out.length+1:=by simp;omega
     simp only
     rw[Ct (by omega) (by omega)]
     refine aB (by omega) (bm (x:=out[m - 1]) ?_ (aB (by omega) (bm (x:=y) ?_ (aa ?_))))
     ·simp only[c_]
      rw[r_,T_ (by simp;omega),List.getElem?_take_of_lt (by omega),a_]
     ·simp only[c_]
      rw[r_,P_ (by simp;omega)]
      simp[Y_ m2]
     ·refine⟨⟨m - 1,out[m - 1],?_,by omega,by omega⟩,by simp only[c_];omega⟩
      congr 2
      simp only[c_]
      have e1:(out.take m++[y]++out.drop m).set m out[m - 1]=out.take m++[out[m - 1]]++out.drop m:=by
       rw[r_,af_ _ _ (by simp;omega)]
       simp[Y_ m2]
      rw[e1]
      have e2:out.take m=out.take (m - 1)++[out[m - 1]]:=by
       have:=h_ (l:=out) (i:=m - 1)
       rw[show m - 1+1=m by omega,a_ (show m - 1<out.length by omega)]at this
       exact this
      have e3:out.drop (m - 1)=out[m - 1]::out.drop m:=by
       have:=aX_ (l:=out) (i:=m - 1) (by omega)
       rw[show m - 1+1=m by omega]at this
       exact this
      rw[e3]
      conv=>lhs;rw[e2]
      simp
    ·have hkm:k=m:=by simp at h;omega
     subst hkm
     have hlen:(out.take k++[y]++out.drop k).length=out.length+1:=by simp;omega
     refine aa (aB (by show k<(out.take k++[y]++out.drop k).length;omega) (bm (x:=y) ?_ (aa (aa ?_))))
     ·simp only[c_]
      rw[r_,P_ (by simp;omega)]
      simp[Y_ m2]
     ·have e1:(out.take k++[y]++out.drop k).set k v=out.take k++([v]++out.drop k):=by
       rw[r_,af_ _ _ (by simp;omega)]
       simp[Y_ m2]
      simp only[c_]
      rw[e1]
      refine⟨_,by rw[an hi (by omega)],?_,by simp;omega,hmem _ λx=>?_⟩
      ·refine p6 (List.Pairwise.sublist (List.take_sublist ..) h1) (p6 (by simp[Asc]) (List.Pairwise.sublist (List.drop_sublist ..) h1) λx hx z hz=>?_) λx hx z hz=>?_
       ·simp at hx;subst hx;exact hafter z hz
       ·have h5:=hbefore x hx
        rcases d_.1 hz with hz|hz
        ·simp at hz;subst hz;exact h5
        ·have:=hafter z hz;omega
      ·have:x∈out↔x∈out.take k\/x∈out.drop k:=by rw[<-d_,ag_]
       rw[this];simp;grind
 ·rintro s ⟨out,rfl,h1,h2,h3⟩
  unfold my
  refine br (aa (aa ?_))
  rw[wX h1 λx=>by rw[h3 x,g_]]
theorem JY{σ α β:Type}(f:σ->α->σ⊕β):∀(l:List α) (s:σ),iO f s l=jF f s l
 |[],_=>rfl
 |x::l,s=>by
  simp only[iO,jF]
  cases f s x with
  |inl s'=>exact JY f l s'
  |inr b=>rfl
theorem Mc{k:Nat}(h:k<=1000000000):(decide (0<=(k:Int))&&decide ((k:Int)<=(k:Int))&&decide ((k:Int)<=9223372036854775807)&&decide (8*(k:Int)<=281474976710656))=true:=by
 simp only[l_,decide_eq_true_eq];omega
def cE(d:DF)(s:Int):Bool:=d.2.2.1.getD s.toNat false
def nZ(R:List (List Nat)):List (List Int):=R.map λr=>r.map fun(k:Nat)=>(k:Int)
def sE(k:Nat)(r:List Nat):List Int:=(r.map fun(k:Nat)=>(k:Int))++i_ (k - r.length) 0
theorem Ge{k:Nat}{r:List Nat}{n:Nat}(h:r.length<k):(sE k r).set r.length (n:Int)=sE k (r++[n]):=by
 unfold sE
 rw[af_ _ _ (by simp),q_,bd_]
 obtain⟨m,hm⟩:∃m,k - r.length=m+1:=⟨k - r.length - 1,by omega⟩
 rw[hm,bo_,aV_,m_,show k - (r.length+[n].length)=m by simp;omega]
 simp
structure WF(d:DF):Prop where
 starts:de d.1
 len:0<d.2.1.length/\d.2.2.1.length=d.2.1.length
 rows:∀r∈d.2.1,r.length=d.1.length
 start:0<=d.2.2.2.1/\d.2.2.2.1<(d.2.1.length:Int)
 to:∀r∈d.2.1,∀t∈r,0<=t/\t<(d.2.1.length:Int)
theorem Good.wf{d:DF}(h:Good d):WF d:=⟨h.starts,h.len,h.rows,h.start,h.to⟩
theorem qa{xs:List Int}{v:Int}(hs:de xs)(hv:0<=v):kX xs v (fT xs v):=by
 have key:∀n,0<n->∃c,∃h:c<xs.length,xs[c]<=v/\∀j (_:j<xs.length),c<j->j<n->v<xs[j]:=by
  intro n
  induction n with
  |zero=>intro h;omega
  |succ n ih=>
   intro _
   rcases V_ n with rfl|hn
   ·exact⟨0,hs.1,by rw[hs.2.1 hs.1];exact hv,λj _ h1 h2=>by omega⟩
   ·obtain⟨c,h1,h2,h3⟩:=ih hn
    by_cases hnl:n<xs.length
    ·by_cases hle:xs[n]<=v
     ·exact⟨n,hnl,hle,λj _ h4 h5=>by omega⟩
     ·refine⟨c,h1,h2,λj hj h4 h5=>?_⟩
      rcases az_.1 h5 with h6|rfl
      ·exact h3 j hj h4 h6
      ·omega
    ·exact⟨c,h1,h2,λj hj h4 h5=>h3 j hj h4 (by omega)⟩
 obtain⟨c,h1,h2,h3⟩:=key xs.length hs.1
 have hc:kX xs v c:=⟨h1,h2,λj hj h4=>h3 j hj h4 hj⟩
 rw[p9 hc];exact hc
theorem Lm{xs:List Int}(hs:de xs){c:Nat}(hc:c<xs.length):fT xs xs[c]=c:=
 p9 ⟨hc,am_ _,λj hj h=>kN hs j c hj h⟩
theorem hH{xs:List Int}(hs:de xs):∀v∈xs,0<=v/\v<=4294967295:=λv hv=>by
 refine⟨?_,hs.2.2.2 v hv⟩
 obtain⟨i,hi,rfl⟩:=k_.1 hv
 have h0:=hs.2.1 hs.1
 rcases V_ i with rfl|hp
 ·omega
 ·have:=kN hs i 0 hi hp;omega
def In(d:DF)(s:Int):Prop:=0<=s/\s<(d.2.1.length:Int)
def bM(d:DF)(s:Int)(c:Nat):Int:=(d.2.1.getD s.toNat []).getD c 0
theorem jN(d:DF)(s v:Int):bL d s v=bM d s (fT d.1 v):=rfl
theorem NI{d:DF}(h:WF d){s:Int}(hs:In d s){c:Nat}(hc:c<d.1.length):∃h1:s.toNat<d.2.1.length,∃h2:c<d.2.1[s.toNat].length,d.2.1[s.toNat][c]=bM d s c/\In d (bM d s c):=by
 have h1:s.toNat<d.2.1.length:=by have:=hs.1;have:=hs.2;omega
 have h2:c<d.2.1[s.toNat].length:=by rw[h.rows _ (b_ h1)];exact hc
 have e:d.2.1[s.toNat][c]=bM d s c:=by
  unfold bM
  simp only[f_,a_ h1,t_,a_ h2]
 exact⟨h1,h2,e,e▸h.to _ (b_ h1) _ (b_ h2)⟩
theorem Qu{d:DF}(h:WF d){s v:Int}(hs:In d s)(hv:0<=v):In d (bL d s v):=
 (NI h hs (qa h.starts hv).1).2.2.2
theorem hU{d:DF}(h:WF d)(s:Int){c:Nat}(hc:c<d.1.length):bL d s d.1[c]=bM d s c:=by
 rw[jN,Lm h.starts hc]
def Valid(w:List Int):Prop:=∀v∈w,0<=v/\v<=4294967295
theorem Valid.app{w u:List Int}(h:Valid w)(h':Valid u):Valid (w++u):=λv hv=>(d_.1 hv).elim (h v) (h' v)
theorem pU{v:Int}(h:0<=v/\v<=4294967295):Valid [v]:=λu hu=>by simp at hu;subst hu;exact h
noncomputable def eC(d:DF)(w:List Int):Int:=w.foldl (bL d) d.2.2.2.1
theorem gS(d:DF)(w u:List Int):eC d (w++u)=u.foldl (bL d) (eC d w):=List.foldl_append
def Wh(d:DF)(s t:Int):Prop:=∀w,Valid w->cE d (w.foldl (bL d) s)=cE d (w.foldl (bL d) t)
theorem Ef{d:DF}(h:WF d):∀(w:List Int) (s:Int),In d s->Valid w->In d (w.foldl (bL d) s)
 |[],_,hs,_=>hs
 |v::w,s,hs,hw=>Ef h w _ (Qu h hs (hw v (w_ ..)).1) λu hu=>hw u (s_ _ hu)
theorem ME{d:DF}(h:WF d){w:List Int}(hw:Valid w):In d (eC d w):=Ef h w _ h.start hw
def lW(n:Nat):List Int:=(e_ n).map fun(k:Nat)=>(k:Int)
theorem rangeI_mem{n:Nat}{s:Int}:s∈lW n↔0<=s/\s<(n:Int):=by
 unfold lW
 rw[y_]
 constructor
 ·rintro⟨k,hk,rfl⟩;have:=j_.1 hk;omega
 ·rintro⟨h1,h2⟩;exact⟨s.toNat,j_.2 (by omega),by omega⟩
theorem qG{n k:Nat}(h:k<n):(lW n)[k]? =some (k:Int):=by simp[lW,h]
theorem qH(n:Nat):(lW n).length=n:=by simp[lW]
structure Canon(d:DF):Prop where
 wf:WF d
 bfs:∃i0,∀i,i0<=i->(bD (bL d) d.2.2.2.1 d.1 i).1=lW d.2.1.length
 red:∀s t,In d s->In d t->Wh d s t->s=t
 cols:∀c (h:c+1<d.1.length),∃s,In d s/\bL d s d.1[c+1]≠bL d s d.1[c]
theorem BJ{d:DF}(hw:WF d){i:Nat}(hb:(bD (bL d) d.2.2.2.1 d.1 i).1=lW d.2.1.length){s:Int}(hs:In d s):∃w,Valid w/\eC d w=s:=by
 have hm:=rangeI_mem.2 hs
 rw[<-hb]at hm
 obtain⟨k,hk,hk2⟩:=k_.1 hm
 obtain⟨p,hp⟩:=(dq (f:=bL d) (s0:=d.2.2.2.1) (ls:=d.1) i).tr k hk
 obtain⟨h1,h2⟩:=hp.reaches (dq i)
 rw[a_ hk,hk2]at h1
 exact⟨p,λv hv=>hH hw.starts v (h2 v hv),(ap_ h1).symm⟩
theorem FO{d:DF}(h:Canon d)(v:Int):v∈d.1↔v=0\/(0<v/\v<=4294967295/\∃w,Valid w/\eC d (w++[v])≠eC d (w++[v - 1])):=by
 have hst:=h.wf.starts
 constructor
 ·intro hv
  have hv2:=hH hst v hv
  obtain⟨i,hi,rfl⟩:=k_.1 hv
  cases i with
  |zero=>exact .inl (hst.2.1 hst.1)
  |succ c=>
   have hlt:=hst.2.2.1 c hi
   have h0:=(hH hst d.1[c] (b_ _)).1
   refine .inr ⟨by omega,hv2.2,?_⟩
   obtain⟨s,hs,hne⟩:=h.cols c hi
   obtain⟨i0,hb⟩:=h.bfs
   obtain⟨w,hw,rfl⟩:=BJ h.wf (hb i0 (Z_ _)) hs
   refine⟨w,hw,?_⟩
   rw[gS,gS]
   show bL d (eC d w) d.1[c+1]≠bL d (eC d w) (d.1[c+1] - 1)
   have e:bL d (eC d w) (d.1[c+1] - 1)=bL d (eC d w) d.1[c]:=by
    rw[jN,jN,Lm hst (by omega)]
    congr 1
    refine p9 ⟨by omega,by omega,λj hj hcj=>?_⟩
    rcases ae_ (show c+1<=j by omega)with h1|rfl
    ·have:=kN hst j (c+1) hj h1;omega
    ·omega
   rw[e];exact hne
 ·rintro(rfl|⟨h0,hm,w,hw,hne⟩)
  ·have:=hst.2.1 hst.1
   rw[<-this];exact b_ _
  ·refine H_ λhn=>hne ?_
   rw[gS,gS]
   show bL d (eC d w) v=bL d (eC d w) (v - 1)
   rw[jN,jN]
   congr 1
   obtain⟨h1,h2,h3⟩:=qa hst (show 0<=v by omega)
   symm
   refine p9 ⟨h1,?_,λj hj hcj=>by have:=h3 j hj hcj;omega⟩
   have:d.1[fT d.1 v]≠v:=λe=>hn (e▸b_ h1)
   omega
theorem Ac{a b:DF}(ha:Canon a)(hb:Canon b)(hl:∀w,Valid w->cE a (eC a w)=cE b (eC b w)):a=b:=by
 have half:∀{a b:DF},Canon b->(∀w,Valid w->cE a (eC a w)=cE b (eC b w))->∀w u,Valid w->Valid u->eC a w=eC a u->eC b w=eC b u:=by
  intro a b hb hl w u hw hu he
  refine hb.red _ _ (ME hb.wf hw) (ME hb.wf hu) λx hx=>?_
  rw[<-gS,<-gS,<-hl _ (hw.app hx),<-hl _ (hu.app hx),gS,gS,he]
 have hR:∀w u,Valid w->Valid u->(eC a w=eC a u↔eC b w=eC b u):=λw u hw hu=>
  ⟨half hb hl w u hw hu,half ha (λw hw=>(hl w hw).symm) w u hw hu⟩
 have hst:a.1=b.1:=by
  refine yS _ _ (Gp ha.wf.starts) (Gp hb.wf.starts) λv=>?_
  rw[FO ha,FO hb]
  refine or_congr bK_ ⟨fun⟨h0,hm,w,hw,hne⟩=>⟨h0,hm,w,hw,λe=>hne ?_⟩,fun⟨h0,hm,w,hw,hne⟩=>⟨h0,hm,w,hw,λe=>hne ?_⟩⟩
  ·exact(hR _ _ (hw.app (pU (by omega))) (hw.app (pU (by omega)))).2 e
  ·exact(hR _ _ (hw.app (pU (by omega))) (hw.app (pU (by omega)))).1 e
 have hrel:=Az (f:=bL a) (g:=bL b) (h:=id) (s0:=a.2.2.2.1) (t0:=b.2.2.2.1) (ls:=a.1) (Rel:=λs t=>∃w,Valid w/\eC a w=s/\eC b w=t)
  ⟨[],(λ_ h=>by cases h),rfl,rfl⟩
  (λx y c hc ⟨w,hw,h1,h2⟩=>⟨w++[c],hw.app (pU (hH ha.wf.starts c hc)),by rw[gS,h1];rfl,by rw[gS,h2];rfl⟩)
  (λs s' t t' ⟨w,hw,h1,h2⟩ ⟨u,hu,g1,g2⟩=>by subst h1 h2 g1 g2;exact hR w u hw hu)
 obtain⟨i1,hba⟩:=ha.bfs
 obtain⟨i2,hbb⟩:=hb.bfs
 have hF:=(hrel (max i1 i2)).1
 rw[List.map_id,hba _ (by omega),hst,hbb _ (by omega)]at hF
 have hn:a.2.1.length=b.2.1.length:=by have:=hF.len;rwa [qH,qH]at this
 have hk:∀s,In a s->∃w,Valid w/\eC a w=s/\eC b w=s:=by
  intro s hs
  have h1:s.toNat<a.2.1.length:=by have:=hs.1;have:=hs.2;omega
  have e1:=qG h1
  have e2:=qG (n:=b.2.1.length) (k:=s.toNat) (by omega)
  rw[show((s.toNat:Nat):Int)=s from aM_ hs.1]at e1 e2
  exact hF.get e1 e2
 have hstep:∀s v,In a s->0<=v/\v<=4294967295->bL a s v=bL b s v:=by
  intro s v hs hv
  obtain⟨w,hw,h1,h2⟩:=hk s hs
  obtain⟨u,hu,g1,g2⟩:=hk _ (Qu ha.wf hs hv.1)
  have h3:eC a (w++[v])=bL a s v:=by rw[gS,h1];rfl
  have h4:eC b (w++[v])=bL b s v:=by rw[gS,h2];rfl
  have:=(hR _ _ (hw.app (pU hv)) hu).1 (h3.trans g1.symm)
  rw[<-h4,this,g2]
 refine aj_ hst (aj_ ?_ (aj_ ?_ (aj_ ?_ rfl)))
 ·refine x_ hn λk h1 h2=>?_
  have hin:In a (k:Int):=⟨by omega,by omega⟩
  have hin':In b (k:Int):=⟨by omega,by omega⟩
  refine x_ (by rw[ha.wf.rows _ (b_ h1),hb.wf.rows _ (b_ h2),hst]) λc g1 g2=>?_
  have hca:c<a.1.length:=by rw[<-ha.wf.rows _ (b_ h1)];exact g1
  have hcb:c<b.1.length:=by rw[<-hst];exact hca
  obtain⟨_,_,e1,_⟩:=NI ha.wf hin hca
  obtain⟨_,_,e2,_⟩:=NI hb.wf hin' hcb
  simp only[c_]at e1 e2
  rw[e1,e2,<-hU ha.wf _ hca,<-hU hb.wf _ hcb]
  have e3:b.1[c]=a.1[c]:=by simp only[hst]
  rw[e3]
  exact hstep _ _ hin (hH ha.wf.starts _ (b_ _))
 ·refine x_ (by rw[ha.wf.len.2,hb.wf.len.2,hn]) λk h1 h2=>?_
  have hin:In a (k:Int):=⟨by omega,by have:=ha.wf.len.2;omega⟩
  obtain⟨w,hw,e1,e2⟩:=hk _ hin
  have:=hl w hw
  rw[e1,e2]at this
  unfold cE at this
  simpa[f_,a_ h1,a_ h2]using this
 ·have h0:=(dq (f:=bL a) (s0:=a.2.2.2.1) (ls:=a.1) (max i1 i2)).head
  have h0':=(dq (f:=bL b) (s0:=b.2.2.2.1) (ls:=b.1) (max i1 i2)).head
  rw[hba _ (by omega),qG ha.wf.len.1]at h0
  rw[hbb _ (by omega),qG hb.wf.len.1]at h0'
  rw[<-ap_ h0,<-ap_ h0']
theorem Oc{d m:DF}(hm:WF m){ψ:Int->Int}{P:Int->Prop}(hP0:P d.2.2.2.1)(hPs:∀s v,P s->0<=v->P (bL d s v))(h1:ψ d.2.2.2.1=m.2.2.2.1)
 (h2:∀s v,P s->0<=v->ψ (bL d s v)=bL m (ψ s) v) (h3:∀s,P s->cE m (ψ s)=cE d s) (h4:∀s t,P s->P t->Wh d s t->ψ s=ψ t)
 (hb:∃i0,∀i,i0<=i->(bD (bL m) m.2.2.2.1 m.1 i).1=lW m.2.1.length) (hc:∀c (h:c+1<m.1.length),∃s,In m s/\bL m s m.1[c+1]≠bL m s m.1[c]):
 Canon m/\∀w,Valid w->cE m (eC m w)=cE d (eC d w):=by
 have hf:∀(w:List Int) (s:Int),P s->Valid w->ψ (w.foldl (bL d) s)=w.foldl (bL m) (ψ s)/\P (w.foldl (bL d) s):=by
  intro w
  induction w with
  |nil=>intro s hs _;exact⟨rfl,hs⟩
  |cons v w ih=>
   intro s hs hw
   have hv:=(hw v (w_ ..)).1
   have:=ih (bL d s v) (hPs s v hs hv) λu hu=>hw u (s_ _ hu)
   rw[h2 s v hs hv]at this
   exact this
 have hrun:∀w,Valid w->ψ (eC d w)=eC m w/\P (eC d w):=λw hw=>by
  have:=hf w _ hP0 hw
  rw[h1]at this
  exact this
 refine⟨⟨hm,hb,λs t hs ht he=>?_,hc⟩,λw hw=>?_⟩
 ·obtain⟨i0,hb0⟩:=hb
  obtain⟨w,hw,rfl⟩:=BJ hm (hb0 i0 (Z_ _)) hs
  obtain⟨u,hu,rfl⟩:=BJ hm (hb0 i0 (Z_ _)) ht
  obtain⟨e1,p1⟩:=hrun w hw
  obtain⟨e2,p2⟩:=hrun u hu
  rw[<-e1,<-e2]
  refine h4 _ _ p1 p2 λx hx=>?_
  have f1:=hf x _ p1 hx
  have f2:=hf x _ p2 hx
  rw[<-h3 _ f1.2,<-h3 _ f2.2,f1.1,f2.1,e1,e2]
  exact he x hx
 ·obtain⟨e1,p1⟩:=hrun w hw
  rw[<-e1,h3 _ p1]
structure RW(d:DF):Prop where
 len:0<d.2.1.length/\d.2.2.1.length=d.2.1.length
 rows:∀r∈d.2.1,r.length=d.1.length
 start:In d d.2.2.2.1
 to:∀r∈d.2.1,∀t∈r,In d t
theorem WF.rw{d:DF}(h:WF d):RW d:=⟨h.len,h.rows,h.start,h.to⟩
theorem Gf{d:DF}(h:RW d){s:Int}(hs:In d s):∃h1:s.toNat<d.2.1.length,d.2.1[s.toNat]=(e_ d.1.length).map (bM d s):=by
 have h1:s.toNat<d.2.1.length:=by have:=hs.1;have:=hs.2;omega
 refine⟨h1,?_⟩
 have hr:=h.rows _ (b_ h1)
 refine x_ (by simp[hr]) λc g1 g2=>?_
 simp only[aa_,ad_]
 unfold bM
 simp only[f_,a_ h1,t_,a_ g1]
theorem JD{d:DF}(h:RW d){s:Int}(hs:In d s){c:Nat}(hc:c<d.1.length):In d (bM d s c):=by
 obtain⟨h1,e⟩:=Gf h hs
 refine h.to _ (b_ h1) _ ?_
 rw[e]
 exact y_.2 ⟨c,j_.2 hc,rfl⟩
abbrev sy(d:DF)(i:Nat):List Int×List (Nat×Nat)×List (List Nat):=bD (bM d) d.2.2.2.1 (e_ d.1.length) i
def ar(d:DF):List Int:=(sy d d.2.1.length).1
theorem lD{d:DF}(h:RW d)(i:Nat):∀x∈(sy d i).1,In d x:=λx hx=>by
 obtain⟨k,hk,rfl⟩:=k_.1 hx
 exact(dq i).inv (P:=In d) h.start (λ_ c hc hx=>JD h hx (j_.1 hc)) k _ (a_ hk)
theorem Tf{d:DF}{L:List Int}(hn:L.Nodup)(hi:∀x∈L,In d x):L.length<=d.2.1.length:=by
 have:=kG L (lW d.2.1.length) hn λx hx=>rangeI_mem.2 (hi x hx)
 rwa [qH]at this
theorem nA{d:DF}(h:RW d)(i:Nat):(sy d i).1.length<=d.2.1.length:=Tf (dq i).nodup (lD h i)
theorem Oj{d:DF}(h:RW d){i:Nat}(hi:(sy d i).1.length<=i):ar d=(sy d i).1:=by
 have hl:=nA h d.2.1.length
 have e1:sy d (max i d.2.1.length)=sy d i:=wg (by omega) hi
 have e2:sy d (max i d.2.1.length)=sy d d.2.1.length:=wg (by omega) hl
 unfold ar
 rw[<-e2,e1]
theorem b8{d:DF}(h:RW d):∀x∈ar d,∀c,c<d.1.length->bM d x c∈ar d:=λx hx c hc=>by
 have hl:=nA h d.2.1.length
 exact ri _ x (by rw[v_ hl];exact hx) c (j_.2 hc)
theorem eL{d:DF}:d.2.2.2.1∈ar d:=bk_ (dq _).head
def marks(n:Nat)(L:List Int):List Bool:=(e_ n).map fun(k:Nat)=>decide ((k:Int)∈L)
theorem Tw{n:Nat}{L:List Int}{v:Int}(h0:0<=v)(hv:v<(n:Int)):∃h1:v.toNat<(marks n L).length,(marks n L)[v.toNat]=decide (v∈L):=by
 have h1:v.toNat<(marks n L).length:=by simp[marks];omega
 refine⟨h1,?_⟩
 simp only[marks,aa_,ad_]
 rw[aM_ h0]
theorem II{n:Nat}{L:List Int}{v:Int}(h0:0<=v):(marks n L).set v.toNat true=marks n (L++[v]):=by
 refine x_ (by simp[marks]) λk g1 g2=>?_
 rw[ab_]
 simp only[marks,aa_,ad_,d_,o_]
 split
 ·rename_i h;subst h;simp[aM_ h0]
 ·rename_i h
  have:¬(k:Int)=v:=λe=>h (by omega)
  simp[this]
theorem Q6{n:Nat}{v:Int}(h0:0<=v):(i_ n false).set v.toNat true=marks n [v]:=by
 have:i_ n false=marks n []:=by
  refine x_ (by simp[marks]) λk g1 g2=>?_
  simp[marks]
 rw[this,II h0];rfl
theorem A7{d:DF}(hn:d.2.1.length<=16777216){L:List Int}(hL:L.Nodup)(hi:∀x∈L,In d x)(r:List Int)(hr:∀x∈r,In d x)(hrl:r.length<=16777216):
 Wp (λn=>aK n (ik (kS tbl n) n r) ((0:Int),marks d.2.1.length L,L,())) λt=>t=(marks d.2.1.length (cH L r),cH L r,()):=by
 refine aS (N:=r.length) (I:=λi s=>s=((i:Int),marks d.2.1.length (cH L (r.take i)),cH L (r.take i),())/\(cH L (r.take i)).Nodup/\∀x∈cH L (r.take i),In d x) ⟨rfl,hL,hi⟩ ?_ ?_
 ·rintro i s hir ⟨rfl,h1,h2⟩
  have hx:=hr _ (b_ hir)
  have hlen:=Tf h1 h2
  obtain⟨g1,g2⟩:=Tw (L:=cH L (r.take i)) hx.1 hx.2
  have hs:cH L (r.take (i+1))=cH (cH L (r.take i)) [r[i]]:=by
   rw[h_,a_ hir,sr];rfl
  unfold ik
  refine bT hir (ae (aB hir (cr hx.1 g1 (bm (x:=decide (r[i]∈cH L (r.take i))) (by rw[a_ g1,g2]) (aJ (λhb=>?_) λhb=>aa (aa ?_))))))
  ·have hb:r[i]∉cH L (r.take i):=by simpa using hb
   refine cr hx.1 g1 (bm (x:=decide (r[i]∈cH L (r.take i))) (by rw[a_ g1,g2]) (ao (decide_eq_true (by simp;omega)) (aa (aa ?_))))
   have e:cH (cH L (r.take i)) [r[i]]=cH L (r.take i)++[r[i]]:=Nv hb
   rw[hs,e,an hir (by omega),II hx.1]
   refine⟨rfl,?_,λx hx'=>?_⟩
   ·rw[aY_]
    exact⟨h1,by simp,λa ha b hb'=>by simp at hb';subst hb';rintro rfl;exact hb ha⟩
   ·rcases d_.1 hx' with h|h
    ·exact h2 x h
    ·simp at h;subst h;exact hx
  ·have hb:r[i]∈cH L (r.take i):=by simpa using hb
   rw[hs,If hb,an hir (by omega)]
   exact⟨rfl,h1,h2⟩
 ·rintro s ⟨rfl,h1,h2⟩
  unfold ik
  refine br (aa ?_)
  simp only[g_]
theorem uB{d:DF}(h:RW d)(hn:d.2.1.length<=16777216)(hk:d.1.length<=16777216):aU tbl gH [.d (pr [.list tI,.list (.list tI),.list tB,tI]) d] [] ft (ar d,()):=by
 refine aZ rfl (aV DW rfl (λO n=>D6 O n d) ?_)
 unfold uD
 have hs:=h.start
 have hsn:d.2.2.2.1.toNat<(i_ d.2.1.length false).length:=by have:=hs.1;have:=hs.2;simp;omega
 refine ao (by simp only[l_,decide_eq_true_eq];omega) (cr hs.1 hsn (bm (x:=false) (show(i_ d.2.1.length false)[d.2.2.2.1.toNat]? =some false from by rw[a_ hsn];simp) ?_))
 simp only
 refine ae (Go.Ev.wp_loop (σ:=Int×List Bool×List Int×Unit) (λs=>∃i:Nat,s=((i:Int),marks d.2.1.length (sy d i).1,(sy d i).1,())/\i<=(sy d i).1.length) (λs=>d.2.1.length - s.1.toNat) ⟨0,?_,aG_ _⟩ ?_)
 ·rw[show(sy d 0).1=[d.2.2.2.1]from rfl,<-Q6 hs.1]
  rfl
 rintro s ⟨i,rfl,hil⟩
 have hlen:=nA h i
 unfold rb
 simp only
 refine aJ (λhb=>?_) λhb=>aa (aa ?_)
 ·have hi:i<(sy d i).1.length:=by simp only[decide_eq_true_eq]at hb;omega
  have hx:=a_ hi
  have hin:=lD h i _ (b_ hi)
  obtain⟨h1,e⟩:=Gf h hin
  refine aB hi (bm (x:=(sy d i).1[i]) hx (cr hin.1 h1 ?_))
  refine ae (Wp.imp (A7 (d:=d) hn (dq i).nodup (lD h i) _ (h.to _ (b_ h1)) (by rw[h.rows _ (b_ h1)];exact hk)) λr hr=>aa ?_)
  subst hr
  have es:(sy d (i+1)).1=cH (sy d i).1 d.2.1[(sy d i).1[i].toNat]:=by
   unfold sy
   rw[b6 hx,e]
   simp only
   rw[uk]
  rw[an hi (by omega)]
  refine⟨⟨i+1,by rw[es],?_⟩,by simp only[c_];omega⟩
  have:=(iM (f:=bM d) (s0:=d.2.2.2.1) (ls:=e_ d.1.length) i).1.length_le
  exact E_ hi this
 ·have hi:(sy d i).1.length<=i:=by simp only[decide_eq_false_iff_not]at hb;omega
  rw[Oj h hi]
abbrev Wg(d:DF)(s t:Int):Prop:=Eqv (bM d) (cE d) (e_ d.1.length) s t
def bv(B:List Int)(s:Int):Int:=B.getD s.toNat 0
theorem EW{B:List Int}{s:Int}(h:s.toNat<B.length):B[s.toNat]=bv B s:=by
 unfold bv
 simp only[f_,a_ h,t_]
theorem BK{B:List Int}{s t x:Int}(hs:0<=s)(ht:0<=t)(hl:s.toNat<B.length):bv (B.set s.toNat x) t=if t=s then x else bv B t:=by
 unfold bv
 simp only[f_,bt_]
 by_cases h:t=s
 ·subst h;simp[hl]
 ·have:s.toNat≠t.toNat:=λe=>h (by omega)
  simp[this,h]
def XI(d:DF)(B:List Int)(s t:Int):Prop:=bv B s=bv B t/\∀c,c<d.1.length->bv B (bM d s c)=bv B (bM d t c)
section
variable {d:DF} {P:Int->Prop} {B B':List Int} {m m':Nat}
structure Rng(P:Int->Prop)(B:List Int)(m:Nat):Prop where
 rng:∀s,P s->0<=bv B s/\bv B s<(m:Int)
 onto:∀i:Nat,i<m->∃s,P s/\bv B s=(i:Int)
structure Weak(d:DF)(P:Int->Prop)(B:List Int):Prop where
 coarse:∀s t,P s->P t->Wg d s t->bv B s=bv B t
 acc:∀s t,P s->P t->bv B s=bv B t->cE d s=cE d t
structure RefOk(d:DF)(P:Int->Prop)(B B':List Int)(m':Nat):Prop where
 rng:Rng P B' m'
 ref:∀s t,P s->P t->(bv B' s=bv B' t↔XI d B s t)
structure BlkOk(d:DF)(P:Int->Prop)(B:List Int)(m:Nat):Prop where
 rng:Rng P B m
 eqv:∀s t,P s->P t->(bv B s=bv B t↔Wg d s t)
theorem Kl{l:List Int}(hg:Rng (·∈l) B m):m<=l.length:=by
 obtain⟨rep,hrep⟩:∃rep:Nat->Int,∀i,i<m->rep i∈l/\bv B (rep i)=(i:Int):=
  ⟨λi=>if h:i<m then av_ (hg.onto i h)else 0,λi hi=>by simp only[hi,dif_pos];exact J_ (hg.onto i hi)⟩
 have hnd:((e_ m).map rep).Nodup:=by
  rw[F_,bv_]
  refine List.Pairwise.imp_of_mem ?_ (F_.1 bA_)
  intro i j hi hj hij he
  have:=(hrep i (j_.1 hi)).2
  rw[he,(hrep j (j_.1 hj)).2]at this
  omega
 have:=kG _ l hnd λx hx=>by
  obtain⟨i,hi,rfl⟩:=y_.1 hx
  exact(hrep i (j_.1 hi)).1
 simpa using this
theorem U0(n:Nat)(s:Int):bv (i_ n 0) s=0:=by
 unfold bv
 rw[f_,X_]
 split<;>rfl
theorem F6(hP:∀s c,c<d.1.length->P s->P (bM d s c))(hw:Weak d P B)(hr:RefOk d P B B' m'):Weak d P B':=
 ⟨λs t hs ht he=>(hr.ref s t hs ht).2 ⟨hw.coarse s t hs ht he,λc hc=>hw.coarse _ _ (hP s c hc hs) (hP t c hc ht) (he.step (j_.2 hc))⟩,
  λs t hs ht he=>hw.acc s t hs ht ((hr.ref s t hs ht).1 he).1⟩
theorem Uf(hg:Rng P B m)(hr:RefOk d P B B' m'):m<=m':=by
 rcases V_ m with rfl|hm
 ·exact aG_ _
 obtain⟨s0,hs0,_⟩:=hg.onto 0 hm
 obtain⟨rep,hrep⟩:∃rep:Nat->Int,∀i,i<m->P (rep i)/\bv B (rep i)=(i:Int):=
  ⟨λi=>if h:i<m then av_ (hg.onto i h)else 0,λi hi=>by simp only[hi,dif_pos];exact J_ (hg.onto i hi)⟩
 have hnd:((e_ m).map λi=>bv B' (rep i)).Nodup:=by
  rw[F_,bv_]
  refine List.Pairwise.imp_of_mem ?_ (F_.1 bA_)
  intro i j hi hj hij he
  have hi:=j_.1 hi
  have hj:=j_.1 hj
  have:=((hr.ref _ _ (hrep i hi).1 (hrep j hj).1).1 he).1
  rw[(hrep i hi).2,(hrep j hj).2]at this
  omega
 have:=kG _ (lW m') hnd λx hx=>by
  obtain⟨i,hi,rfl⟩:=y_.1 hx
  exact rangeI_mem.2 (hr.rng.rng _ (hrep i (j_.1 hi)).1)
 simpa[qH]using this
theorem Ug(hP:∀s c,c<d.1.length->P s->P (bM d s c))(hw:Weak d P B)(hg:Rng P B m)(hr:RefOk d P B B' m):BlkOk d P B' m:=by
 have hsame:∀s t,P s->P t->bv B s=bv B t->bv B' s=bv B' t:=λs t hs ht he=>
  Km (P:=P) (b:=bv B) (b':=bv B') hg.onto hr.rng.rng (λs t hs ht he=>((hr.ref s t hs ht).1 he).1) hs ht he
 refine⟨hr.rng,λs t hs ht=>⟨λhe=>?_,λhe=>(F6 hP hw hr).coarse s t hs ht he⟩⟩
 refine OW (P:=P) (b:=bv B') (λs c hc=>hP s c (j_.1 hc)) (F6 hP hw hr).acc (λs t c hc hs ht he=>?_) hs ht he
 have hc:=j_.1 hc
 exact hsame _ _ (hP s c hc hs) (hP t c hc ht) (((hr.ref s t hs ht).1 he).2 c hc)
end
section
variable {κ:Type} [DecidableEq κ]
structure Keyed(key:Int->κ)(l:List Int)(K:List κ)(B:List Int):Prop where
 nodup:K.Nodup
 num:∀s∈l,bv B s=(pos K (key s):Int)/\key s∈K
 onto:∀x∈K,∃s∈l,key s=x
theorem Kg{K:List κ}{x y:κ}(hx:x∈K)(h:pos K x=pos K y):x=y:=by
 have h1:=pos_lt.1 hx
 have e1:K[pos K x]? =some x:=by
  unfold pos at h1⊢
  rw[a_ h1,an_]
 have h2:pos K y<K.length:=by rw[<-h];exact h1
 have e2:K[pos K y]? =some y:=by
  unfold pos at h2⊢
  rw[a_ h2,an_]
 rw[h]at e1
 exact ap_ (e1.symm.trans e2)
theorem Keyed.refOk{key:Int->κ}{l:List Int}{K:List κ}{d:DF}{B B':List Int}(h:Keyed key l K B')(hk:∀s∈l,∀t∈l,key s=key t↔XI d B s t):RefOk d (·∈l) B B' K.length:=by
 refine⟨⟨λs hs=>?_,λi hi=>?_⟩,λs t hs ht=>?_⟩
 ·obtain⟨h1,h2⟩:=h.num s hs
  have:=pos_lt.1 h2
  omega
 ·obtain⟨s,hs,e⟩:=h.onto _ (b_ hi)
  refine⟨s,hs,?_⟩
  rw[(h.num s hs).1,e]
  unfold pos
  rw[List.Nodup.idxOf_getElem h.nodup]
 ·obtain⟨h1,h2⟩:=h.num s hs
  obtain⟨g1,g2⟩:=h.num t ht
  rw[<-hk s hs t ht,h1,g1]
  exact⟨λe=>Kg h2 (by omega),λe=>by rw[e]⟩
theorem Keyed.old{key:Int->κ}{l:List Int}{K:List κ}{B:List Int}(h:Keyed key l K B)(hl:∀s∈l,0<=s){v:Int}(hv:0<=v)(hb:v.toNat<B.length)(hk:key v∈K):Keyed key (l++[v]) K (B.set v.toNat (pos K (key v):Int)):=by
 refine⟨h.nodup,λs hs=>?_,λx hx=>?_⟩
 ·rcases d_.1 hs with hs|hs
  ·rw[BK hv (hl s hs) hb]
   split
   ·rename_i e;subst e;exact⟨rfl,hk⟩
   ·exact h.num s hs
  ·simp at hs;subst hs
   rw[BK hv hv hb,if_pos rfl];exact⟨rfl,hk⟩
 ·obtain⟨s,hs,e⟩:=h.onto x hx
  exact⟨s,as_ _ hs,e⟩
theorem Keyed.new{key:Int->κ}{l:List Int}{K:List κ}{B:List Int}(h:Keyed key l K B)(hl:∀s∈l,0<=s){v:Int}(hv:0<=v)(hb:v.toNat<B.length)(hk:key v∉K):Keyed key (l++[v]) (K++[key v]) (B.set v.toNat (K.length:Int)):=by
 have hp:pos (K++[key v]) (key v)=K.length:=by
  unfold pos
  rw[List.idxOf_append,if_neg hk];simp
 have hold:∀s∈l,pos (K++[key v]) (key s)=pos K (key s):=λs hs=>B4 (aU_ _ _) (h.num s hs).2
 refine⟨?_,λs hs=>?_,λx hx=>?_⟩
 ·rw[aY_]
  exact⟨h.nodup,by simp,λa ha b hb=>by simp at hb;subst hb;rintro rfl;exact hk ha⟩
 ·rcases d_.1 hs with hs1|hs
  ·rw[BK hv (hl s hs1) hb]
   split
   ·rename_i e;rw[e]at hs1;exact absurd (h.num v hs1).2 hk
   ·rw[hold s hs1];exact⟨(h.num s hs1).1,as_ _ (h.num s hs1).2⟩
  ·simp at hs;subst hs
   rw[BK hv hv hb,if_pos rfl,hp];exact⟨rfl,by simp⟩
 ·rcases d_.1 hx with hx|hx
  ·obtain⟨s,hs,e⟩:=h.onto x hx
   exact⟨s,as_ _ hs,e⟩
  ·simp at hx;subst hx;exact⟨v,by simp,rfl⟩
theorem Keyed.len{key:Int->κ}{l:List Int}{K:List κ}{B:List Int}(h:Keyed key l K B):K.length<=l.length:=by
 have:=kG K (l.map key) h.nodup λx hx=>by
  obtain⟨s,hs,e⟩:=h.onto x hx
  exact y_.2 ⟨s,hs,e⟩
 simpa using this
end
def UM(v:Int):List Int:=[u_ .u8 (bJ_ v (2^(min (D_ (8:Int)) (aQ_ .i64)))),u_ .u8 v]
def W6(n:Int):UInt8:=UInt8.ofNat n.toNat
def Tl(d:DF)(B:List Int)(s:Int):List Int:=bv B s::(e_ d.1.length).map λc=>bv B (bM d s c)
def Kn(d:DF)(B:List Int)(s:Int):List UInt8:=((Tl d B s).flatMap UM).map W6
theorem Qv{x y:Int}(hx:0<=x/\x<256)(hy:0<=y/\y<256)(h:W6 x=W6 y):x=y:=by
 have:=congrArg UInt8.toNat h
 unfold W6 at this
 rw[UInt8.toNat_ofNat',UInt8.toNat_ofNat']at this
 omega
theorem Jw{v:Int}(h:0<=v/\v<65536):UM v=[v/256,v%256]:=by
 unfold UM
 rw[wrap_u8,wrap_u8,show(2:Int)^(min (D_ (8:Int)) (aQ_ .i64))=256 from rfl,aT_ _ (by omega)]
 rw[Int.emod_eq_of_lt (show 0<=v/256 by omega) (by omega)]
theorem Qr:∀(l l':List Int),(∀v∈l,0<=v/\v<65536)->(∀v∈l',0<=v/\v<65536)->(l.flatMap UM).map W6=(l'.flatMap UM).map W6->l=l'
 |[],[],_,_,_=>rfl
 |[],v::l',_,h',h=>by
  rw[ai_,Jw (h' v (by simp))]at h;simp at h
 |v::l,[],h',_,h=>by
  rw[ai_,Jw (h' v (by simp))]at h;simp at h
 |v::l,u::l',hl,hl',h=>by
  have hv:=hl v (by simp)
  have hu:=hl' u (by simp)
  rw[ai_,ai_,Jw hv,Jw hu]at h
  simp only[aw_,Q_,O_,List.cons.injEq]at h
  have h1:=Qv (by omega) (by omega) h.1
  have h2:=Qv (by omega) (by omega) h.2.1
  rw[Qr l l' (λx hx=>hl x (s_ _ hx)) (λx hx=>hl' x (s_ _ hx)) h.2.2,show v=u by omega]
theorem Vn{d:DF}{B:List Int}{s t:Int}:Tl d B s=Tl d B t↔XI d B s t:=by
 unfold Tl XI
 rw[List.cons.injEq]
 refine and_congr bK_ ?_
 rw[List.map_inj_left]
 exact⟨λh c hc=>h c (j_.2 hc),λh c hc=>h c (j_.1 hc)⟩
theorem Dd{d:DF}(h:RW d)(hk:d.1.length<=16777216){B:List Int}(hB:B.length=d.2.1.length){s:Int}(hs:In d s):aU tbl jW [.d (pr [.list tI,.list (.list tI),.list tB,tI]) d,.d (.list tI) B,.d tI s] [] gR (Kn d B s,()):=by
 refine aZ rfl (aV DX rfl (λO n=>D7 O n d B s) ?_)
 unfold uE
 simp only
 rw[wrap_i64 (n:=(2:Int)*(d.1.length:Int)) (by omega) (by omega),wrap_i64 (by omega) (by omega)]
 have hsl:s.toNat<B.length:=by have:=hs.1;have:=hs.2;omega
 obtain⟨h1,e⟩:=Gf h hs
 refine ao (by simp only[l_,decide_eq_true_eq];omega) (cr hs.1 hsl (ao rfl (cr hs.1 hsl (ao rfl (cr hs.1 h1 ?_)))))
 rw[EW hsl,e]
 have hrow:∀i (hi:i<((e_ d.1.length).map (bM d s)).length),((e_ d.1.length).map (bM d s))[i]=bM d s i:=λi hi=>by simp
 refine ae (aS (N:=((e_ d.1.length).map (bM d s)).length) (I:=λi t=>t=((i:Int),(bv B s::(e_ i).map λc=>bv B (bM d s c)).flatMap UM,())) (by simp[UM]) ?_ ?_)
 ·rintro i t hi rfl
  have hik:i<d.1.length:=by simpa using hi
  have hin:=JD h hs hik
  have hcl:(bM d s i).toNat<B.length:=by have:=hin.1;have:=hin.2;omega
  unfold kZ
  refine bT hi (aB hi ?_)
  rw[hrow i hi]
  refine cr hin.1 hcl (ao rfl (cr hin.1 hcl (ao (decide_eq_true ?_) (aa ?_))))
  ·have hfl:((bv B s::(e_ i).map λc=>bv B (bM d s c)).flatMap UM).length=2*(i+1):=by
    rw[List.length_flatMap,show(λa=>(UM a).length)=λ_=>2 from rfl,bE_,List.sum_replicate_nat]
    simp;omega
   simp only[hfl,ac_,G_]
   omega
  ·rw[EW hcl,an hi (by simp at hi⊢;omega),R_,p_,<-aw_,ay_]
   simp[UM]
 ·rintro t rfl
  unfold kZ
  refine br (aa (aa ?_))
  simp only[q_,List.length_range]
  rfl
def Si:Nat->List (List UInt8)->List (List UInt8×Int)
 |_,[]=>[]
 |k,x::l=>(x,(k:Int))::Si (k+1) l
theorem Px(x y:List UInt8):CP tS x y=decide (x=y):=by
 show(x==y)=_
 by_cases h:x=y<;>simp[h]
theorem Tm(y:List UInt8):∀(L:List (List UInt8)) (k:Nat),gN tS tI (Si k L) y=if y∈L then some (((k+pos L y:Nat):Int))else none
 |[],k=>by simp[Si,gN]
 |x::L,k=>by
  have ih:=Tm y L (k+1)
  simp only[Si,gN]
  rw[Px y x,ih]
  by_cases h:y=x
  ·subst h;simp[pos_eq]
  ·have h':x≠y:=λe=>h e.symm
   rw[decide_eq_false h]
   have e:pos (x::L) y=pos L y+1:=FX h'
   simp only[cond_false,ak_,h,false_or,e]
   split
   ·congr 1;omega
   ·rfl
theorem Tn(y:List UInt8):∀(L:List (List UInt8)) (k:Nat),y∉L->mg tS tI (Si k L) y (((k+L.length:Nat):Int))=Si k (L++[y])
 |[],k,_=>by simp[Si,mg]
 |x::L,k,h=>by
  have h1:y≠x:=λe=>h (by simp[e])
  have h2:y∉L:=λe=>h (by simp[e])
  have ih:=Tn y L (k+1) h2
  simp only[aw_,Si,mg]
  rw[Px y x,decide_eq_false h1]
  simp only[cond_false,ac_]
  rw[show k+(L.length+1)=k+1+L.length by omega,ih]
theorem xp:∀(L:List (List UInt8)) (k:Nat),(Si k L).length=L.length
 |[],_=>rfl
 |_::L,k=>by simp[Si,xp L (k+1)]
theorem A5{d:DF}(h:RW d)(hk:d.1.length<=16777216){B:List Int}(hB:B.length=d.2.1.length){l:List Int}(hl:∀s∈l,In d s)(hll:l.length<=16777216):
 Wp (λn=>aK n (kY (kS tbl n) n d l) ((0:Int),B,([]:List (List UInt8×Int)),i_ d.2.1.length 0,())) λr=>∃K B',r=(Si 0 K,B',())/\Keyed (Kn d B) l K B'/\B'.length=d.2.1.length:=by
 refine aS (N:=l.length) (I:=λi s=>∃K B',s=((i:Int),B,Si 0 K,B',())/\Keyed (Kn d B) (l.take i) K B'/\B'.length=d.2.1.length) ⟨[],i_ d.2.1.length 0,rfl,⟨by simp,by simp,by simp⟩,by simp⟩ ?_ ?_
 ·rintro i s hi ⟨K,B',rfl,hK,hB'⟩
  have hin:=hl _ (b_ hi)
  have hbl:(l[i]).toNat<B'.length:=by have:=hin.1;have:=hin.2;omega
  have htake:l.take (i+1)=l.take i++[l[i]]:=by rw[h_,a_ hi];rfl
  have hnn:∀s∈l.take i,0<=s:=λs hs=>(hl s (B_ hs)).1
  have hKl:=hK.len
  have hti:(l.take i).length<=l.length:=by simp;omega
  unfold kY
  refine bT hi (aB hi (au (Dd h hk hB hin) ?_))
  have hkv:=Tm (Kn d B l[i]) K 0
  by_cases hm:Kn d B l[i]∈K
  ·rw[if_pos hm]at hkv
   refine ae (aJ (λhc=>by rw[hkv]at hc;simp at hc) λ_=>aa ?_)
   refine cr hin.1 hbl (bm (x:=B'[(l[i]).toNat]) (a_ hbl) (aa ?_))
   rw[hkv,an hi (by omega),htake]
   refine⟨K,B'.set (l[i]).toNat (pos K (Kn d B l[i]):Int),by simp,hK.old hnn hin.1 hbl hm,by simpa using hB'⟩
  ·rw[if_neg hm]at hkv
   have hset:=Tn (Kn d B l[i]) K 0 hm
   simp only[aS_]at hset
   refine ae (aJ (λ_=>ao (decide_eq_true (by rw[xp];simp only[maxLen];omega)) (aa ?_)) λhc=>by rw[hkv]at hc;simp at hc)
   refine cr hin.1 hbl (bm (x:=B'[(l[i]).toNat]) (a_ hbl) (aa ?_))
   rw[an hi (by omega),htake]
   refine⟨K++[Kn d B l[i]],B'.set (l[i]).toNat (K.length:Int),?_,hK.new hnn hin.1 hbl hm,by simpa using hB'⟩
   rw[<-hset,xp]
 ·rintro s ⟨K,B',rfl,hK,hB'⟩
  rw[g_]at hK
  unfold kY
  exact br (aa ⟨K,B',rfl,hK,hB'⟩)
theorem Jg{d:DF}(h:RW d)(hk:d.1.length<=16777216)(hn:d.2.1.length<=65536):∃c:List Int×Int×Unit,(∃m:Nat,c.2.1=(m:Int)/\m<=d.2.1.length/\BlkOk d (·∈ar d) c.1 m/\c.1.length=d.2.1.length)/\
 aU tbl pp [.d (pr [.list tI,.list (.list tI),.list tB,tI]) d,.d (.list tI) (ar d)] [] i7 c:=by
 refine lz (sh:=i7) (λ_=>rfl) (aV Kx rfl (λO n=>KF O n d (ar d)) ?_)
 unfold zA
 have hl:∀s∈ar d,In d s:=lD h _
 have hll:(ar d).length<=d.2.1.length:=nA h _
 have hl0:(ar d)[0]? =some d.2.2.2.1:=(dq _).head
 have hlp:0<(ar d).length:=(I_.1 hl0).1
 have hP:∀s c,c<d.1.length->s∈ar d->bM d s c∈ar d:=λs c hc hs=>b8 h s hs c hc
 have hacc:∀s,In d s->∃h1:s.toNat<d.2.2.1.length,d.2.2.1[s.toNat]=cE d s:=λs hs=>by
  have h1:s.toNat<d.2.2.1.length:=by have:=h.len.2;have:=hs.1;have:=hs.2;omega
  exact⟨h1,by unfold cE;simp only[f_,a_ h1,t_]⟩
 refine ao (by simp only[l_,decide_eq_true_eq];omega) ?_
 refine ae (aS (N:=(ar d).length) (I:=λi s=>∃(B:List Int) (cnt:Int),s=(cnt,(i:Int),B,())/\B.length=d.2.1.length/\
  (∀s,0<=s->bv B s=if s∈(ar d).take i/\cE d s≠cE d d.2.2.2.1 then 1 else 0)/\
  ((cnt=1/\∀s∈(ar d).take i,cE d s=cE d d.2.2.2.1)\/(cnt=2/\∃s∈(ar d).take i,cE d s≠cE d d.2.2.2.1)))
  ⟨i_ d.2.1.length 0,1,rfl,by simp,λs _=>by rw[U0];simp,.inl ⟨rfl,by simp⟩⟩ ?_ ?_)
 ·rintro i s hi ⟨B,cnt,rfl,hB,hbv,hcnt⟩
  have hin:=hl _ (b_ hi)
  obtain⟨a1,a2⟩:=hacc _ hin
  obtain⟨b1,b2⟩:=hacc _ h.start
  have htake:(ar d).take (i+1)=(ar d).take i++[(ar d)[i]]:=by rw[h_,a_ hi];rfl
  have hbl:((ar d)[i]).toNat<B.length:=by have:=hin.1;have:=hin.2;omega
  unfold pW
  refine bT hi (ae (aB hi (cr hin.1 a1 (dZ (x:=d.2.2.2.1) (by simp) hl0 (cr h.start.1 b1 ?_)))))
  rw[a2,b2]
  refine aJ (λhc=>?_) λhc=>aa (aa ?_)
  ·have hc:cE d (ar d)[i]≠cE d d.2.2.2.1:=by simpa using hc
   refine cr hin.1 hbl (bm (x:=B[((ar d)[i]).toNat]) (a_ hbl) (aa (aa ?_)))
   rw[an hi (by omega)]
   refine⟨_,2,rfl,by simpa using hB,λs hs=>?_,.inr ⟨rfl,(ar d)[i],(by rw[htake];exact bh_ _ (ba_ _)),hc⟩⟩
   rw[BK hin.1 hs hbl,hbv s hs,htake]
   by_cases e:s=(ar d)[i]
   ·rw[if_pos e,if_pos ⟨by rw[e];exact bh_ _ (ba_ _),by rw[e];exact hc⟩]
   ·rw[if_neg e]
    have hm:s∈(ar d).take i++[(ar d)[i]]↔s∈(ar d).take i:=by rw[d_,o_];exact⟨λh=>h.resolve_right e,.inl⟩
    simp only[hm]
  ·have hc:cE d (ar d)[i]=cE d d.2.2.2.1:=by simpa using hc
   rw[an hi (by omega)]
   refine⟨B,cnt,rfl,hB,λs hs=>?_,?_⟩
   ·rw[hbv s hs,htake]
    by_cases e:s=(ar d)[i]
    ·rw[if_neg λh=>h.2 (by rw[e];exact hc),if_neg λh=>h.2 (by rw[e];exact hc)]
    ·have hm:s∈(ar d).take i++[(ar d)[i]]↔s∈(ar d).take i:=by rw[d_,o_];exact⟨λh=>h.resolve_right e,.inl⟩
     simp only[hm]
   ·rw[htake]
    rcases hcnt with⟨h1,h2⟩|⟨h1,s,h2,h3⟩
    ·refine .inl ⟨h1,λs hs=>?_⟩
     rcases d_.1 hs with hs|hs
     ·exact h2 s hs
     ·simp at hs;subst hs;exact hc
    ·exact .inr ⟨h1,s,as_ _ h2,h3⟩
 ·rintro s ⟨B,cnt,rfl,hB,hbv,hcnt⟩
  rw[g_]at hbv hcnt
  unfold pW
  refine br (aa ?_)
  have hst:=eL (d:=d)
  have hw:Weak d (·∈ar d) B:=by
   refine⟨λs t hs ht he=>?_,λs t hs ht he=>?_⟩
   ·rw[hbv s (hl s hs).1,hbv t (hl t ht).1,he.nil]
    simp[hs,ht]
   ·rw[hbv s (hl s hs).1,hbv t (hl t ht).1]at he
    simp only[hs,ht,true_and]at he
    generalize cE d d.2.2.2.1=z at he
    cases h1:cE d s<;>cases h2:cE d t<;>cases z<;>simp_all
  have hg:∃m:Nat,cnt=(m:Int)/\Rng (·∈ar d) B m:=by
   rcases hcnt with⟨rfl,h2⟩|⟨rfl,s1,h2,h3⟩
   ·refine⟨1,rfl,λs hs=>?_,λi hi=>⟨_,hst,?_⟩⟩
    ·rw[hbv s (hl s hs).1];simp[h2 s hs]
    ·rw[hbv _ h.start.1];simp;omega
   ·refine⟨2,rfl,λs hs=>?_,λi hi=>?_⟩
    ·rw[hbv s (hl s hs).1];split<;>omega
    ·rcases V_ i with rfl|hp
     ·exact⟨_,hst,by rw[hbv _ h.start.1];simp⟩
     ·exact⟨s1,h2,by rw[hbv _ (hl _ h2).1,if_pos ⟨h2,h3⟩];omega⟩
  obtain⟨m,rfl,hg⟩:=hg
  refine ae (Go.Ev.wp_loop (σ:=Int×List Int×Unit) (λs=>∃(m:Nat) (B:List Int),s=((m:Int),B,())/\B.length=d.2.1.length/\Weak d (·∈ar d) B/\Rng (·∈ar d) B m) (λs=>d.2.1.length+1 - s.1.toNat) ⟨m,B,rfl,hB,hw,hg⟩ ?_)
  rintro s ⟨m,B,rfl,hB,hw,hg⟩
  have hmn:m<=d.2.1.length:=E_ (Kl hg) hll
  unfold vC
  refine ao (by simp only[l_,decide_eq_true_eq];omega) (ae (Wp.imp (A5 h hk hB hl (by omega)) λr hr=>?_))
  obtain⟨K,B',rfl,hK,hB'⟩:=hr
  have hr:RefOk d (·∈ar d) B B' K.length:=hK.refOk λs hs t ht=>by
   rw[<-Vn]
   have hrange:∀s∈ar d,∀v∈Tl d B s,0<=v/\v<65536:=λs hs v hv=>by
    have hb:∀s∈ar d,0<=bv B s/\bv B s<65536:=λs hs=>by have:=hg.rng s hs;omega
    rcases ak_.1 hv with rfl|hv
    ·exact hb s hs
    ·obtain⟨c,hc,rfl⟩:=y_.1 hv
     exact hb _ (hP s c (j_.1 hc) hs)
   exact⟨λe=>Qr _ _ (hrange s hs) (hrange t ht) e,λe=>by unfold Kn;rw[e]⟩
  have hgrow:=Uf hg hr
  refine aJ (λhc=>aa (aa ⟨_,rfl,K.length,?_,E_ (Kl hr.rng) hll,?_,hB'⟩)) λhc=>aa ?_
  ·rw[xp]at hc
   have hc:(K.length:Int)=(m:Int):=by simpa using hc
   exact hc.symm
  ·rw[xp]at hc
   have hc:(K.length:Int)=(m:Int):=by simpa using hc
   have hc:K.length=m:=by omega
   rw[hc]at hr⊢
   exact Ug hP hw hg hr
  ·rw[xp]at hc⊢
   have hc:(K.length:Int)≠(m:Int):=by simpa using hc
   have hK2:=Kl hr.rng
   refine⟨⟨K.length,B',rfl,hB',F6 hP hw hr,hr.rng⟩,?_⟩
   simp only[c_]
   omega
def bJ(q:DF)(cs:List Nat):DF:=
 (cs.map λc=>q.1.getD c 0,(ar q).map λb=>cs.map λc=>(pos (ar q) (bM q b c):Int),(ar q).map (cE q),0,())
structure Keeps(q:DF)(kp:Nat->Bool):Prop where
 zero:kp 0=true
 drop:∀s∈ar q,∀c,c<q.1.length->kp c=false->0<c/\bM q s c=bM q s (c - 1)
 keep:∀c,c+1<q.1.length->kp (c+1)=true->∃s∈ar q,bM q s (c+1)≠bM q s c
section
variable {q:DF} {kp:Nat->Bool}
abbrev gG(q:DF)(kp:Nat->Bool):List Nat:=(e_ q.1.length).filter kp
theorem cls_mem{c:Nat}:c∈gG q kp↔c<q.1.length/\kp c=true:=by
 rw[ao_,j_]
theorem U5:(gG q kp).Pairwise (·<·):=List.Pairwise.sublist (aN_ ..) List.pairwise_lt_range
theorem BN{i j:Nat}(hij:i<j)(hj:j<(gG q kp).length):(gG q kp)[i]<(gG q kp)[j]:=ax_.1 U5 i j (by omega) hj hij
theorem xd{i:Nat}(hi:i<(gG q kp).length):(gG q kp)[i]<q.1.length:=(cls_mem.1 (b_ hi)).1
theorem Lo(hk:Keeps q kp)(hq:0<q.1.length):∃h:0<(gG q kp).length,(gG q kp)[0]=0:=by
 have hm:0∈gG q kp:=cls_mem.2 ⟨hq,hk.zero⟩
 have hp:=aI_ hm
 refine⟨hp,?_⟩
 obtain⟨i,hi,e⟩:=k_.1 hm
 rcases V_ i with rfl|h0
 ·exact e
 ·have:=BN (q:=q) (kp:=kp) h0 hi;omega
theorem EZ(hk:Keeps q kp):∀c,c<q.1.length->∃j,∃h:j<(gG q kp).length,(gG q kp)[j]<=c/\(∀j' (_:j'<(gG q kp).length),j<j'->c<(gG q kp)[j'])/\∀s∈ar q,bM q s c=bM q s (gG q kp)[j]
 |0,hc=>by
  obtain⟨h,e⟩:=Lo hk hc
  exact⟨0,h,by omega,λj' hj' h0=>by have:=BN (q:=q) (kp:=kp) h0 hj';omega,λs _=>by rw[e]⟩
 |c+1,hc=>by
  cases hkc:kp (c+1)
  ·obtain⟨j,h,h1,h2,h3⟩:=EZ hk c (by omega)
   refine⟨j,h,by omega,λj' hj' h0=>?_,λs hs=>?_⟩
   ·have:=h2 j' hj' h0
    have hm:=(cls_mem.1 (b_ hj')).2
    rcases ae_ (show c+1<=(gG q kp)[j'] by omega)with h4|h4
    ·exact h4
    ·rw[<-h4,hkc]at hm;cases hm
   ·rw[(hk.drop s hs (c+1) hc hkc).2]
    exact h3 s hs
  ·obtain⟨j,hj,e⟩:=k_.1 (cls_mem.2 ⟨hc,hkc⟩:c+1∈gG q kp)
   exact⟨j,hj,by omega,λj' hj' h0=>by have:=BN (q:=q) (kp:=kp) h0 hj';omega,λs _=>by rw[e]⟩
theorem getD_at{α:Type}{xs:List α}{i:Nat}{z:α}(h:i<xs.length):xs.getD i z=xs[i]:=by
 simp only[f_,a_ h,t_]
theorem gD(hq:RW q)(hs:de q.1)(hk:Keeps q kp){j:Nat}(hj:j<(gG q kp).length):∃h:j<(bJ q (gG q kp)).1.length,(bJ q (gG q kp)).1[j]=q.1[(gG q kp)[j]]'(xd hj):=by
 have h:j<(bJ q (gG q kp)).1.length:=by unfold bJ;simpa using hj
 refine⟨h,?_⟩
 simp only[bJ,aa_]
 exact getD_at (xd hj)
theorem wO(hq:RW q)(hs:de q.1)(hk:Keeps q kp):(bJ q (gG q kp)).1.length=(gG q kp).length:=by simp[bJ]
theorem Ov(hq:RW q)(hs:de q.1)(hk:Keeps q kp):de (bJ q (gG q kp)).1:=by
 obtain⟨h0,e0⟩:=Lo hk hs.1
 refine⟨by rw[wO hq hs hk];exact h0,λh=>?_,λi hi=>?_,λx hx=>?_⟩
 ·obtain⟨_,e⟩:=gD hq hs hk h0
  rw[e]
  simp only[e0]
  exact hs.2.1 hs.1
 ·rw[wO hq hs hk]at hi
  obtain⟨_,e1⟩:=gD hq hs hk (j:=i) (by omega)
  obtain⟨_,e2⟩:=gD hq hs hk hi
  rw[e1,e2]
  exact kN hs _ _ _ (BN (by omega) hi)
 ·obtain⟨i,hi,rfl⟩:=k_.1 hx
  rw[wO hq hs hk]at hi
  obtain⟨_,e1⟩:=gD hq hs hk hi
  rw[e1]
  exact hs.2.2.2 _ (b_ _)
theorem WU(hq:RW q)(hs:de q.1)(hk:Keeps q kp):RW (bJ q (gG q kp)):=by
 have hpos:0<(ar q).length:=aI_ eL
 refine⟨⟨by simpa[bJ]using hpos,by simp[bJ]⟩,λr hr=>?_,⟨am_ _,by simpa[bJ]using hpos⟩,λr hr t ht=>?_⟩
 ·simp only[bJ,y_]at hr
  obtain⟨b,_,rfl⟩:=hr
  simp[bJ]
 ·simp only[bJ,y_]at hr
  obtain⟨b,hb,rfl⟩:=hr
  obtain⟨c,hc,rfl⟩:=y_.1 ht
  have:=pos_lt.1 (b8 hq b hb c (cls_mem.1 hc).1)
  refine⟨by omega,?_⟩
  simp only[bJ,q_]
  omega
theorem Ow(hq:RW q)(hs:de q.1)(hk:Keeps q kp):WF (bJ q (gG q kp)):=by
 have h:=WU hq hs hk
 exact⟨Ov hq hs hk,h.len,h.rows,h.start,h.to⟩
theorem Eo(hq:RW q)(hs:de q.1)(hk:Keeps q kp){b:Int}(hb:b∈ar q){j:Nat}(hj:j<(gG q kp).length):bM (bJ q (gG q kp)) (pos (ar q) b:Int) j=(pos (ar q) (bM q b (gG q kp)[j]):Int):=by
 have hp:=pos_lt.1 hb
 have e:(ar q)[pos (ar q) b]? =some b:=by
  unfold pos at hp⊢
  rw[a_ hp,an_]
 unfold bM
 simp only[bJ,c_,f_,A_,e,S_,t_,a_ hj]
 rfl
theorem Ul(hq:RW q)(hs:de q.1)(hk:Keeps q kp){b:Int}(hb:b∈ar q){v:Int}(hv:0<=v):bL (bJ q (gG q kp)) (pos (ar q) b:Int) v=(pos (ar q) (bL q b v):Int):=by
 obtain⟨hc,hc1,hc2⟩:=qa hs hv
 obtain⟨j,hj,h1,h2,h3⟩:=EZ hk _ hc
 have hcl:fT (bJ q (gG q kp)).1 v=j:=by
  obtain⟨g1,e1⟩:=gD hq hs hk hj
  refine p9 ⟨g1,?_,λj' hj' hlt=>?_⟩
  ·rw[e1]
   rcases ae_ h1 with hl|he
   ·have:=kN hs _ _ hc hl;omega
   ·simp only[he];exact hc1
  ·rw[wO hq hs hk]at hj'
   obtain⟨_,e2⟩:=gD hq hs hk hj'
   rw[e2]
   exact hc2 _ _ (h2 j' hj' hlt)
 rw[jN,hcl,Eo hq hs hk hb hj,jN,h3 b hb]
theorem VJ(hq:RW q)(hs:de q.1)(hk:Keeps q kp){b:Int}(hb:b∈ar q):cE (bJ q (gG q kp)) (pos (ar q) b:Int)=cE q b:=by
 have hp:=pos_lt.1 hb
 have e:(ar q)[pos (ar q) b]? =some b:=by
  unfold pos at hp⊢
  rw[a_ hp,an_]
 unfold cE
 simp only[bJ,c_,f_,A_,e,S_,t_]
 simp only[cE,f_]
theorem VK(hq:RW q)(hs:de q.1)(hk:Keeps q kp):∃i0,∀i,i0<=i->(bD (bL (bJ q (gG q kp))) (bJ q (gG q kp)).2.2.2.1 (bJ q (gG q kp)).1 i).1=lW (bJ q (gG q kp)).2.1.length:=by
 refine⟨q.2.1.length,λi hi=>?_⟩
 have hord:(bD (bM q) q.2.2.2.1 (e_ q.1.length) i).1=ar q:=by
  have:=wg (f:=bM q) (s0:=q.2.2.2.1) (ls:=e_ q.1.length) hi (nA hq _)
  rw[this];rfl
 have hdrop:(bD (bM q) q.2.2.2.1 (gG q kp) i).1=ar q:=by
  rw[B0 i λx hx c hc hkc=>hk.drop x (by rw[<-hord];exact hx) c hc hkc,hord]
 have hrel:=Az (f:=bM q) (g:=bL (bJ q (gG q kp))) (h:=λc=>q.1.getD c 0) (s0:=q.2.2.2.1) (t0:=0) (ls:=gG q kp) (Rel:=λb t=>b∈ar q/\t=(pos (ar q) b:Int))
  ⟨eL,?_⟩ (λx y c hc ⟨hx,hy⟩=>?_) (λa a' b b' ⟨ha,hb⟩ ⟨ha',hb'⟩=>?_) i
 ·have hF:=hrel.1
  rw[hdrop]at hF
  have hl:=hF.len
  have hN:(bJ q (gG q kp)).2.1.length=(ar q).length:=by simp[bJ]
  rw[hN]
  refine aH_ λk=>?_
  by_cases hkl:k<(ar q).length
  ·have hx:=a_ hkl
   have hy:=a_ (l:=(bD (bL (bJ q (gG q kp))) 0 ((gG q kp).map λc=>q.1.getD c 0) i).1) (i:=k) (by omega)
   have hr:=(hF.get hx hy).2
   have hp:pos (ar q) (ar q)[k]=k:=by
    unfold pos
    exact List.Nodup.idxOf_getElem (dq (f:=bM q) (s0:=q.2.2.2.1) (ls:=e_ q.1.length) _).nodup k hkl
   rw[hp]at hr
   rw[qG hkl,<-hr]
   exact hy
  ·rw[U_ (show(lW (ar q).length).length<=k by rw[qH];omega)]
   exact U_ (by show(bD (bL (bJ q (gG q kp))) 0 ((gG q kp).map λc=>q.1.getD c 0) i).1.length<=k;omega)
 ·rw[show pos (ar q) q.2.2.2.1=0 from ?_];rfl
  have h0:(ar q)[0]? =some q.2.2.2.1:=(dq _).head
  exact(Kh (aG_ _) (λj z hj=>by omega) (λz hz=>by rw[h0]at hz;cases hz;rfl)).symm
 ·have hcm:=cls_mem.1 hc
  obtain⟨j,hj,e⟩:=k_.1 hc
  obtain⟨g1,e1⟩:=gD hq hs hk hj
  refine⟨b8 hq x hx c hcm.1,?_⟩
  rw[hy,getD_at hcm.1]
  have e2:q.1[c]=(bJ q (gG q kp)).1[j]:=by rw[e1];simp only[e]
  rw[e2,hU (Ow hq hs hk) _ g1,Eo hq hs hk hx hj]
  simp only[e]
 ·subst hb hb'
  exact⟨λe=>by rw[e],λe=>Kg ha (by omega)⟩
theorem Uk(hq:RW q)(hs:de q.1)(hk:Keeps q kp):∀c (h:c+1<(bJ q (gG q kp)).1.length),∃s,In (bJ q (gG q kp)) s/\bL (bJ q (gG q kp)) s (bJ q (gG q kp)).1[c+1]≠bL (bJ q (gG q kp)) s (bJ q (gG q kp)).1[c]:=by
 intro c h
 have hw:=Ow hq hs hk
 have h':c+1<(gG q kp).length:=by rwa [wO hq hs hk]at h
 have hlt:=BN (q:=q) (kp:=kp) (show c<c+1 by omega) h'
 have hb:=xd h'
 have hm:=cls_mem.1 (b_ h')
 obtain⟨e,he⟩:∃e,(gG q kp)[c+1]=e+1:=⟨(gG q kp)[c+1] - 1,by omega⟩
 rw[he]at hm hb
 obtain⟨b,hbm,hne⟩:=hk.keep e hm.1 hm.2
 obtain⟨j,hj,h1,h2,h3⟩:=EZ hk e (by omega)
 have hjc:j=c:=by
  rcases bx_ j c with hl|he'|hl
  ·have:=h2 c (by omega) hl;omega
  ·exact he'
  ·rcases ae_ (show c+1<=j by omega)with h5|rfl
   ·have:=BN (q:=q) (kp:=kp) h5 hj;omega
   ·omega
 subst hjc
 refine⟨(pos (ar q) b:Int),⟨by omega,?_⟩,?_⟩
 ·have:=pos_lt.1 hbm
  simp only[bJ,q_]
  omega
 ·rw[hU hw _ h,hU hw _ (by omega),Eo hq hs hk hbm h',Eo hq hs hk hbm hj]
  intro e2
  apply hne
  have hin1:=b8 hq b hbm (e+1) hm.1
  have e3:=Kg (x:=bM q b (e+1)) (y:=bM q b (gG q kp)[j]) hin1 (by rw[<-he];omega)
  rw[e3,h3 b hbm]
end
theorem Wt{d:DF}(hd:WF d){s t:Int}(h:Wh d s t):Wg d s t:=by
 have hcol:∀(w:List Nat),(∀c∈w,c∈e_ d.1.length)->∀s,(w.map λc=>d.1.getD c 0).foldl (bL d) s=w.foldl (bM d) s:=by
  intro w
  induction w with
  |nil=>intro _ s;rfl
  |cons c w ih=>
   intro hw s
   have hc:=j_.1 (hw c (w_ ..))
   rw[O_,aB_,aB_,ih λx hx=>hw x (s_ _ hx)]
   congr 1
   rw[getD_at hc,hU hd _ hc]
 intro w hw
 rw[<-hcol w hw,<-hcol w hw]
 refine h _ λv hv=>?_
 obtain⟨c,hc,rfl⟩:=y_.1 hv
 have hc:=j_.1 (hw c hc)
 rw[getD_at hc]
 exact hH hd.starts _ (b_ hc)
theorem F5{d q:DF}(hd:WF d)(hq:RW q)(h1:q.1=d.1){P:Int->Prop}{B:List Int}{m:Nat}(hB:BlkOk d P B m)(hPr:∀s∈ar d,P s)(hst:q.2.2.2.1=bv B d.2.2.2.1)
 (hcol:∀s∈ar d,∀c,c<d.1.length->bM q (bv B s) c=bv B (bM d s c)) (hacc:∀s∈ar d,cE q (bv B s)=cE d s) {kp:Nat->Bool} (hk:Keeps q kp):
 Canon (bJ q (gG q kp))/\∀w,Valid w->cE (bJ q (gG q kp)) (eC (bJ q (gG q kp)) w)=cE d (eC d w):=by
 have hs:de q.1:=h1▸hd.starts
 have hin:∀s∈ar d,bv B s∈ar q:=by
  intro s hs'
  obtain⟨k,hkk,rfl⟩:=k_.1 hs'
  refine(dq (f:=bM d) (s0:=d.2.2.2.1) (ls:=e_ d.1.length) d.2.1.length).inv (P:=λs=>s∈ar d/\bv B s∈ar q) ⟨eL,by rw[<-hst];exact eL⟩ (λx c hc ⟨hx,hx2⟩=>?_) k _ (a_ hkk) |>.2
  have hc:=j_.1 hc
  exact⟨b8 hd.rw x hx c hc,by rw[<-hcol x hx c hc];exact b8 hq _ hx2 c (by rw[h1];exact hc)⟩
 refine Oc (Ow hq hs hk) (ψ:=λs=>(pos (ar q) (bv B s):Int)) (P:=(·∈ar d)) eL (λs v hs' hv=>?_) ?_ (λs v hs' hv=>?_) (λs hs'=>?_) (λs t hs' ht' he=>?_) (VK hq hs hk) (Uk hq hs hk)
 ·exact b8 hd.rw s hs' _ (qa hd.starts hv).1
 ·show(pos (ar q) (bv B d.2.2.2.1):Int)=0
  rw[<-hst]
  have h0:(ar q)[0]? =some q.2.2.2.1:=(dq _).head
  rw[<-Kh (L:=ar q) (y:=q.2.2.2.1) (k:=0) (aG_ _) (λj z hj=>by omega) (λz hz=>by rw[h0]at hz;cases hz;rfl)]
  rfl
 ·show(pos (ar q) (bv B (bL d s v)):Int)=_
  rw[Ul hq hs hk (hin s hs') hv,jN,jN,h1,hcol s hs' _ (qa hd.starts hv).1]
 ·exact(VJ hq hs hk (hin s hs')).trans (hacc s hs')
 ·show(pos (ar q) (bv B s):Int)=(pos (ar q) (bv B t):Int)
  rw[(hB.eqv s t (hPr s hs') (hPr t ht')).2 (Wt hd he)]
theorem RA{k i:Nat}{r:List Nat}{n:Nat}(hr:r.length=i)(h:i<k):(sE k r).set i (n:Int)=sE k (r++[n]):=by
 subst hr;exact Ge h
theorem Uq{k:Nat}{r:List Nat}(h:r.length<=k):(sE k r).length=k:=by unfold sE;simp;omega
theorem Rz{k:Nat}{r:List Nat}(h:r.length=k):sE k r=r.map fun(n:Nat)=>(n:Int):=by
 unfold sE;rw[h];simp
def wP(d:DF):DF:=(d.1,(ar d).map λb=>(e_ d.1.length).map λc=>(pos (ar d) (bM d b c):Int),(ar d).map (cE d),0,())
theorem Sz{d:DF}(h:RW d){s:Int}(hs:In d s):∃h1:s.toNat<d.2.2.1.length,d.2.2.1[s.toNat]=cE d s:=by
 have h1:s.toNat<d.2.2.1.length:=by have:=h.len.2;have:=hs.1;have:=hs.2;omega
 exact⟨h1,by unfold cE;simp only[f_,a_ h1,t_]⟩
theorem Ki{d:DF}:(ar d).Nodup:=(dq (f:=bM d) (s0:=d.2.2.2.1) (ls:=e_ d.1.length) _).nodup
theorem WE{L:List Int}(hn:L.Nodup){i:Nat}(hi:i<L.length):pos L L[i]=i:=by
 unfold pos;exact List.Nodup.idxOf_getElem hn i hi
theorem Et{d:DF}(h:RW d)(hk:d.1.length<=16777216)(hn:d.2.1.length<=16777216):aU tbl lf [.d (pr [.list tI,.list (.list tI),.list tB,tI]) d] [] iS (wP d,()):=by
 refine aZ rfl (aV Gs rfl (λO n=>GC O n d) ?_)
 unfold vu
 have hl:∀s∈ar d,In d s:=lD h _
 have hll:(ar d).length<=d.2.1.length:=nA h _
 refine au (uB h hn hk) (ao (by simp only[l_,decide_eq_true_eq];omega) ?_)
 refine ae (aS (N:=(ar d).length) (I:=λi s=>∃A:List Int,s=((i:Int),(0:Int),A,())/\A.length=d.2.1.length/\∀x∈(ar d).take i,bv A x=(pos (ar d) x:Int)) ⟨i_ d.2.1.length 0,rfl,by simp,by simp⟩ ?_ ?_)
 ·rintro i s hi ⟨A,rfl,hA,hb⟩
  have hin:=hl _ (b_ hi)
  have hbl:((ar d)[i]).toNat<A.length:=by have:=hin.1;have:=hin.2;omega
  unfold mr
  refine bT hi (aB hi (cr hin.1 hbl (bm (x:=A[((ar d)[i]).toNat]) (a_ hbl) (aa ?_))))
  rw[an hi (by omega)]
  refine⟨_,rfl,by simpa using hA,λx hx=>?_⟩
  rw[h_,a_ hi]at hx
  have hx0:0<=x:=by
   rcases d_.1 hx with h1|h1
   ·exact(hl x (B_ h1)).1
   ·simp at h1;subst h1;exact hin.1
  rw[BK hin.1 hx0 hbl]
  split
  ·rename_i e;rw[e,WE Ki hi]
  ·rename_i e
   rcases d_.1 hx with h1|h1
   ·exact hb x h1
   ·simp at h1;exact absurd h1 e
 ·rintro s ⟨A,rfl,hA,hb⟩
  rw[g_]at hb
  unfold mr
  refine br (aa ?_)
  refine ae (aS (N:=(ar d).length) (I:=λi s=>s=((i:Int),(0:Int),A,d.1,(0:Int),((ar d).take i).map (λb=>(e_ d.1.length).map λc=>(pos (ar d) (bM d b c):Int)),((ar d).take i).map (cE d),())) rfl ?_ ?_)
  ·rintro i s hi rfl
   have hin:=hl _ (b_ hi)
   obtain⟨h1,e⟩:=Gf h hin
   obtain⟨h2,e2⟩:=Sz h hin
   unfold mu
   refine bT hi (aB hi (ao (Mc (by omega)) (cr hin.1 h1 ?_)))
   rw[e]
   generalize hNX:((ar d).take i).map (λb=>(e_ d.1.length).map λc=>(pos (ar d) (bM d b c):Int))=NX
   generalize hAC:((ar d).take i).map (cE d)=AC
   refine ae (aS (N:=d.1.length) (I:=λc s=>s=((c:Int),(0:Int),A,d.1,(0:Int),NX,AC,sE d.1.length ((e_ c).map λc=>pos (ar d) (bM d (ar d)[i] c)),())) (by rw[bF_,W_,show sE d.1.length []=i_ d.1.length 0 from by simp[sE]];rfl) ?_ ?_)
   ·rintro c s hc rfl
    have hcin:=b8 h _ (b_ hi) c hc
    have hci:=hl _ hcin
    have hcl:(bM d (ar d)[i] c).toNat<A.length:=by have:=hci.1;have:=hci.2;omega
    have hrl:(sE d.1.length ((e_ c).map λc=>pos (ar d) (bM d (ar d)[i] c))).length=d.1.length:=Uq (by simp;omega)
    have hml:((e_ d.1.length).map (bM d (ar d)[i])).length=d.1.length:=by simp
    unfold mt
    rw[hml]
    refine bT hc (Bj (x:=bM d (ar d)[i] c) (by simp[hc]) (cr hci.1 hcl (bm (x:=A[(bM d (ar d)[i] c).toNat]) (a_ hcl) ?_)))
    refine aB (by rw[hrl];exact hc) (bm (x:=(sE d.1.length ((e_ c).map λc=>pos (ar d) (bM d (ar d)[i] c)))[c]'(by rw[hrl];exact hc)) (a_ _) (aa ?_))
    rw[an hc (by omega),EW hcl,hb _ hcin]
    simp only[c_]
    rw[RA (by simp) hc,R_,p_]
    rfl
   ·rintro s rfl
    unfold mt
    have hml:((e_ d.1.length).map (bM d (ar d)[i])).length=d.1.length:=by simp
    rw[hml]
    refine br (aa ?_)
    have hNl:NX.length=i:=by rw[<-hNX];simp;omega
    have hAl:AC.length=i:=by rw[<-hAC];simp;omega
    refine ao (decide_eq_true (by simp;omega)) (cr hin.1 h2 (ao (decide_eq_true (by simp;omega)) (aa ?_)))
    rw[an hi (by omega),e2,Rz (by simp),<-hNX,<-hAC]
    simp only[h_,a_ hi,p_,C_,O_,W_,bu_]
    rfl
  ·rintro s rfl
   unfold mu
   refine br (aa (aa ?_))
   simp only[g_]
   rfl
def kR(q:DF)(kp:Nat->Bool):DF:=((gG q kp).map λc=>q.1.getD c 0,q.2.1.map λr=>(gG q kp).map λc=>r.getD c 0,q.2.2.1,q.2.2.2.1,())
theorem Qp{q:DF}(kp:Nat->Bool){s:Int}(hs:In q s){j:Nat}(hj:j<(gG q kp).length):bM (kR q kp) s j=bM q s (gG q kp)[j]:=by
 have h1:s.toNat<q.2.1.length:=by have:=hs.1;have:=hs.2;omega
 unfold bM
 simp only[kR,f_,A_,a_ h1,S_,t_,a_ hj]
theorem WX{q:DF}(kp:Nat->Bool)(hq:RW q):RW (kR q kp):=by
 refine⟨⟨by simpa[kR]using hq.len.1,by simpa[kR]using hq.len.2⟩,λr hr=>?_,?_,λr hr t ht=>?_⟩
 ·simp only[kR,y_]at hr
  obtain⟨r,_,rfl⟩:=hr
  simp[kR]
 ·have:=hq.start
  exact⟨this.1,by simpa[kR]using this.2⟩
 ·simp only[kR,y_]at hr
  obtain⟨r,hr,rfl⟩:=hr
  obtain⟨c,hc,rfl⟩:=y_.1 ht
  have hcl:c<r.length:=by rw[hq.rows r hr];exact(cls_mem.1 hc).1
  rw[getD_at hcl]
  have:=hq.to r hr _ (b_ hcl)
  exact⟨this.1,by simpa[kR]using this.2⟩
theorem RH{q:DF}{kp:Nat->Bool}(hq:RW q)(hk:Keeps q kp):ar (kR q kp)=ar q:=by
 have hn:(kR q kp).2.1.length=q.2.1.length:=by simp[kR]
 have hl:(kR q kp).1.length=(gG q kp).length:=by simp[kR]
 have hord:(bD (bM q) q.2.2.2.1 (gG q kp) q.2.1.length).1=ar q:=by
  rw[B0 _ λx hx c hc hkc=>hk.drop x hx c hc hkc];rfl
 have hrel:=Az (f:=bM (kR q kp)) (g:=bM q) (h:=λj=>(gG q kp).getD j 0) (s0:=q.2.2.2.1) (t0:=q.2.2.2.1) (ls:=e_ (gG q kp).length) (Rel:=λx y=>x=y/\In q x)
  ⟨rfl,hq.start⟩ (λx y c hc ⟨hx,hy⟩=>by
   subst hx
   have hc:=j_.1 hc
   rw[Qp kp hy hc,getD_at hc]
   exact⟨rfl,JD hq hy (xd hc)⟩) (λa a' b b' ⟨ha,_⟩ ⟨hb,_⟩=>by subst ha hb;exact bK_) q.2.1.length
 have hmap:(e_ (gG q kp).length).map (λj=>(gG q kp).getD j 0)=gG q kp:=by
  refine x_ (by simp) λi h1 h2=>?_
  simp only[aa_,ad_]
  exact getD_at h2
 have hF:=hrel.1
 rw[hmap,hord]at hF
 unfold ar sy
 rw[hn,hl]
 refine aH_ λk=>?_
 have hlen:=hF.len
 by_cases hkl:k<(bD (bM (kR q kp)) q.2.2.2.1 (e_ (gG q kp).length) q.2.1.length).1.length
 ·have hx:=a_ hkl
  have hy:=a_ (l:=ar q) (i:=k) (by omega)
  have:=(hF.get hx hy).1
  exact hx.trans ((congrArg some this).trans hy.symm)
 ·rw[show(bD (bM (kR q kp)) (kR q kp).2.2.2.1 (e_ (gG q kp).length) q.2.1.length).1[k]? =none from U_ (by show(bD (bM (kR q kp)) q.2.2.2.1 (e_ (gG q kp).length) q.2.1.length).1.length<=k;omega)]
  exact(U_ (show(ar q).length<=k by omega)).symm
theorem VN{q:DF}{kp:Nat->Bool}(hq:RW q)(hk:Keeps q kp):wP (kR q kp)=bJ q (gG q kp):=by
 have hr:=RH hq hk
 unfold wP bJ
 rw[hr]
 refine aj_ rfl (aj_ ?_ (aj_ ?_ rfl))
 ·refine al_ λb hb=>?_
  have hin:=lD hq _ b hb
  refine x_ (by simp[kR]) λj h1 h2=>?_
  have hj:j<(gG q kp).length:=by simpa using h2
  simp only[aa_,ad_]
  rw[Qp kp hin hj]
 ·rfl
def fX(NX:List (List Int))(c:Nat):Bool:=decide (c=0)||NX.any λr=>r.getD c 0 != r.getD (c - 1) 0
def DV(k:Nat)(r:List Int):List Int:=r++i_ (k - r.length) 0
theorem Up{k i:Nat}{r:List Int}{x:Int}(hr:r.length=i)(h:i<k):(DV k r).set i x=DV k (r++[x]):=by
 subst hr
 unfold DV
 rw[af_ _ _ (Z_ _),bd_]
 obtain⟨m,hm⟩:∃m,k - r.length=m+1:=⟨k - r.length - 1,by omega⟩
 rw[hm,bo_,aV_,m_,show k - (r.length+[x].length)=m by simp;omega]
 simp
theorem Uo{k:Nat}{r:List Int}(h:r.length<=k):(DV k r).length=k:=by unfold DV;simp;omega
theorem Ry{k:Nat}{r:List Int}(h:r.length=k):DV k r=r:=by unfold DV;rw[h];simp
theorem Vv{α β:Type}{g g':α->β}{xs:List α}{j:Nat}(hj:j<xs.length):((xs.take j).map g'++(xs.drop j).map g)[j]? =some (g xs[j]):=by
 rw[P_ (by simp;omega)]
 simp[Y_ (bw_ hj),hj]
theorem Vw{α β:Type}{g g':α->β}{xs:List α}{j:Nat}(hj:j<xs.length):((xs.take j).map g'++(xs.drop j).map g).set j (g' xs[j])=(xs.take (j+1)).map g'++(xs.drop (j+1)).map g:=by
 rw[af_ _ _ (by simp;omega),aX_ hj,h_,a_ hj]
 simp only[q_,N_,Y_ (bw_ hj),bd_,O_,aV_,p_,C_,W_,r_,aw_,Q_]
structure Quo(d:DF)(B:List Int)(m:Nat)(NX:List (List Int))(AC:List Bool):Prop where
 blk:BlkOk d (·∈ar d) B m
 le:m<=d.2.1.length
 len:NX.length=m/\AC.length=m
 at_:∀s∈ar d,NX[(bv B s).toNat]? =some ((e_ d.1.length).map λc=>bv B (bM d s c))/\AC[(bv B s).toNat]? =some (cE d s)
theorem Quo.rw{d:DF}(hd:RW d){B:List Int}{m:Nat}{NX:List (List Int)}{AC:List Bool}(h:Quo d B m NX AC):RW (d.1,NX,AC,bv B d.2.2.2.1,()):=by
 have hst:=h.blk.rng.rng _ (eL (d:=d))
 have hrow:∀r∈NX,∃s∈ar d,r=(e_ d.1.length).map λc=>bv B (bM d s c):=λr hr=>by
  obtain⟨b,hb,rfl⟩:=k_.1 hr
  obtain⟨s,hs,e⟩:=h.blk.rng.onto b (by rw[<-h.len.1];exact hb)
  refine⟨s,hs,?_⟩
  have:=(h.at_ s hs).1
  rw[e,c_,a_ hb]at this
  exact ap_ this
 refine⟨⟨?_,?_⟩,λr hr=>?_,⟨hst.1,?_⟩,λr hr t ht=>?_⟩
 ·show 0<NX.length
  rw[h.len.1];omega
 ·show AC.length=NX.length
  rw[h.len.1,h.len.2]
 ·obtain⟨s,_,rfl⟩:=hrow r hr
  simp
 ·show bv B d.2.2.2.1<(NX.length:Int)
  rw[h.len.1];exact hst.2
 ·obtain⟨s,hs,rfl⟩:=hrow r hr
  obtain⟨c,hc,rfl⟩:=y_.1 ht
  have:=h.blk.rng.rng _ (b8 hd s hs c (j_.1 hc))
  refine⟨this.1,?_⟩
  show bv B (bM d s c)<(NX.length:Int)
  rw[h.len.1];exact this.2
theorem Quo.col{d:DF}{B:List Int}{m:Nat}{NX:List (List Int)}{AC:List Bool}(h:Quo d B m NX AC){s:Int}(hs:s∈ar d){c:Nat}(hc:c<d.1.length):bM (d.1,NX,AC,bv B d.2.2.2.1,()) (bv B s) c=bv B (bM d s c):=by
 show(NX.getD (bv B s).toNat []).getD c 0=_
 simp only[f_,(h.at_ s hs).1,t_,A_,bn_ hc,S_]
theorem Quo.acc{d:DF}{B:List Int}{m:Nat}{NX:List (List Int)}{AC:List Bool}(h:Quo d B m NX AC){s:Int}(hs:s∈ar d):cE (d.1,NX,AC,bv B d.2.2.2.1,()) (bv B s)=cE d s:=by
 show AC.getD (bv B s).toNat false=_
 rw[f_,(h.at_ s hs).2];rfl
theorem Quo.reach{d:DF}(hd:RW d){B:List Int}{m:Nat}{NX:List (List Int)}{AC:List Bool}(h:Quo d B m NX AC){s:Int}(hs:s∈ar d):bv B s∈ar (d.1,NX,AC,bv B d.2.2.2.1,()):=by
 obtain⟨k,hkk,rfl⟩:=k_.1 hs
 refine((dq (f:=bM d) (s0:=d.2.2.2.1) (ls:=e_ d.1.length) d.2.1.length).inv (P:=λs=>s∈ar d/\bv B s∈ar (d.1,NX,AC,bv B d.2.2.2.1,())) ⟨eL,eL (d:=(d.1,NX,AC,bv B d.2.2.2.1,()))⟩ (λx c hc ⟨hx,hx2⟩=>?_) k _ (a_ hkk)).2
 have hc:=j_.1 hc
 exact⟨b8 hd x hx c hc,by rw[<-h.col hx hc];exact b8 (h.rw hd) _ hx2 c hc⟩
theorem Quo.keeps{d:DF}(hd:RW d){B:List Int}{m:Nat}{NX:List (List Int)}{AC:List Bool}(h:Quo d B m NX AC):Keeps (d.1,NX,AC,bv B d.2.2.2.1,()) (fX NX):=by
 have hq:=h.rw hd
 have hrow:∀b,b∈ar (d.1,NX,AC,bv B d.2.2.2.1,())->∃r∈NX,∀c,bM (d.1,NX,AC,bv B d.2.2.2.1,()) b c=r.getD c 0:=λb hb=>by
  have hin:=lD hq _ b hb
  have h1:b.toNat<NX.length:=by have:=hin.1;have:=hin.2;simp only at this;omega
  refine⟨NX[b.toNat],b_ h1,λc=>?_⟩
  unfold bM
  simp only[f_,a_ h1,t_]
 refine⟨rfl,λb hb c hc hk=>?_,λc hc hk=>?_⟩
 ·simp only[fX,z_,decide_eq_false_iff_not,bs_]at hk
  obtain⟨r,hr,e⟩:=hrow b hb
  refine⟨by omega,?_⟩
  rw[e,e]
  simpa using hk.2 r hr
 ·simp only[fX,L_,decide_eq_true_eq,M_]at hk
  rcases hk with hk|⟨r,hr,hk⟩
  ·omega
  obtain⟨b,hb,rfl⟩:=k_.1 hr
  obtain⟨s,hs,e⟩:=h.blk.rng.onto b (by rw[<-h.len.1];exact hb)
  have hbr:=h.reach hd hs
  rw[e]at hbr
  refine⟨(b:Int),hbr,?_⟩
  unfold bM
  simp only[c_,f_,a_ hb,t_]
  simpa[f_]using hk
theorem Quo.canon{d:DF}(hd:WF d){B:List Int}{m:Nat}{NX:List (List Int)}{AC:List Bool}(h:Quo d B m NX AC):
 Canon (wP (kR (d.1,NX,AC,bv B d.2.2.2.1,()) (fX NX)))/\∀w,Valid w->cE (wP (kR (d.1,NX,AC,bv B d.2.2.2.1,()) (fX NX))) (eC (wP (kR (d.1,NX,AC,bv B d.2.2.2.1,()) (fX NX))) w)=cE d (eC d w):=by
 rw[VN (h.rw hd.rw) (h.keeps hd.rw)]
 exact F5 hd (h.rw hd.rw) rfl h.blk (λ_ hs=>hs) rfl (λs hs c hc=>h.col hs hc) (λs hs=>h.acc hs) (h.keeps hd.rw)
theorem N6{NX:List (List Int)}{c j:Nat}(hj:j<NX.length):(decide (c=0)||(NX.take (j+1)).any λr=>r.getD c 0 != r.getD (c - 1) 0)=((decide (c=0)||(NX.take j).any λr=>r.getD c 0 != r.getD (c - 1) 0)||(NX[j].getD c 0 != NX[j].getD (c - 1) 0)):=by
 rw[h_,a_ hj,aA_]
 simp[bq_]
theorem BO{d:DF}(hs:d.1.length<=16777216){NX:List (List Int)}(AC:List Bool)(st:Int)(hr:∀r∈NX,r.length=d.1.length)(hn:NX.length<=16777216):
 Wp (λn=>aK n (jO (kS tbl n) n d) ((0:Int),(0:Int),st,([]:List Int),NX,AC,i_ NX.length ([]:List Int),()))
  λr=>r=((0:Int),st,((e_ d.1.length).filter (fX NX)).map (λc=>d.1.getD c 0),NX,AC,NX.map (λr=>((e_ d.1.length).filter (fX NX)).map λc=>r.getD c 0),()):=by
 refine aS (N:=d.1.length) (I:=λc s=>s=((c:Int),(0:Int),st,((e_ c).filter (fX NX)).map (λc=>d.1.getD c 0),NX,AC,NX.map (λr=>((e_ c).filter (fX NX)).map λc=>r.getD c 0),())) ?_ ?_ ?_
 ·show _=((0:Int),(0:Int),st,[],NX,AC,NX.map (λ_=>[]),())
  rw[bE_]
 ·rintro c s hc rfl
  generalize hS:((e_ c).filter (fX NX)).map (λc=>d.1.getD c 0)=S1
  have hSl:S1.length<=c:=by
   rw[<-hS,q_]
   exact E_ (ar_ ..) (by simp)
  generalize hg:(λr:List Int=>((e_ c).filter (fX NX)).map λc=>r.getD c 0)=g
  have hgl:∀r,(g r).length<=c:=λr=>by
   rw[<-hg,q_]
   exact E_ (ar_ ..) (by simp)
  unfold jO
  refine bT hc (ae (aB hc ?_))
  refine ae (aS (N:=NX.length) (I:=λj s=>s=((decide (c=0)||(NX.take j).any λr=>r.getD c 0 != r.getD (c - 1) 0),(j:Int),(0:Int),st,S1,NX,AC,NX.map g,())) ?_ ?_ ?_)
  ·rw[bG_,List.any_nil,Bool.or_false,show(((c:Int)==(0:Int)))=decide (c=0)from ?_]
   ·rfl
   ·by_cases e:c=0<;>simp[e]
  ·rintro j s hj rfl
   have hjl:=hr _ (b_ hj)
   unfold oh
   refine bT hj (aB hj (bm (x:=NX[j]) (a_ hj) ?_))
   refine ae (dw (b:=NX[j].getD c 0 != NX[j].getD (c - 1) 0) (λhf=>?_) (aa ?_))
   ·have h0:0<c:=by
     simp only[z_,decide_eq_false_iff_not]at hf
     omega
    rw[Ct h0 (by omega)]
    refine aB (by omega) (aB (by omega) (aa ?_))
    rw[getD_at (by omega),getD_at (by omega)]
   ·rw[an hj (by omega),N6 hj]
  ·rintro s rfl
   unfold oh
   refine br (aa ?_)
   rw[g_]
   have hkc:(decide (c=0)||NX.any λr=>r.getD c 0 != r.getD (c - 1) 0)=fX NX c:=rfl
   rw[hkc]
   have hfil:(e_ (c+1)).filter (fX NX)=(e_ c).filter (fX NX)++(if fX NX c=true then [c]else []):=by
    rw[R_,br_]
    congr 1
    cases h:fX NX c<;>simp[h]
   refine aJ (λhk=>?_) λhk=>aa (aa ?_)
   ·have hk:fX NX c=true:=hk
    have hg':(λr:List Int=>((e_ (c+1)).filter (fX NX)).map λc=>r.getD c 0)=λr=>g r++[r.getD c 0]:=by
     funext r
     rw[hfil,if_pos hk,p_,<-hg];rfl
    have hS':((e_ (c+1)).filter (fX NX)).map (λc=>d.1.getD c 0)=S1++[d.1[c]]:=by
     rw[hfil,if_pos hk,p_,<-hS,O_,W_,getD_at hc]
    refine ao (decide_eq_true (by simp;omega)) ?_
    refine ae (aS (N:=NX.length) (I:=λj s=>s=((j:Int),(0:Int),st,S1++[d.1[c]],NX,AC,(NX.take j).map (λr=>g r++[r.getD c 0])++(NX.drop j).map g,())) rfl ?_ ?_)
    ·rintro j s hj rfl
     have hjl:=hr _ (b_ hj)
     have hgj:=hgl NX[j]
     have hmx:=Vv (g:=g) (g':=λr=>g r++[r.getD c 0]) hj
     have hml:j<((NX.take j).map (λr=>g r++[r.getD c 0])++(NX.drop j).map g).length:=(I_.1 hmx).1
     unfold oj
     refine bT hj (aB hj (bm (x:=NX[j]) (a_ hj) (ao (decide_eq_true (by show(0:Int)<=(j:Int);omega)) ?_)))
     refine bm (x:=g NX[j]) hmx (Bj hmx (bm (x:=g NX[j]) hmx (ao (by simp) (aB (by omega) (ao (decide_eq_true (by simp;omega)) ?_)))))
     refine Bj hmx (bm (x:=g NX[j]) hmx (ao (by simp) (bm (x:=g NX[j]) hmx (aa ?_))))
     have hset:=Vw (g:=g) (g':=λr=>g r++[r.getD c 0]) hj
     simp only[getD_at (show c<NX[j].length by omega)]at hset
     rw[an hj (by omega)]
     simp only[c_]
     rw[hset]
    ·rintro s rfl
     unfold oj
     refine br (aa (aa (aa ?_)))
     rw[an hc (by omega),hS',hg',g_,List.drop_length,W_,ah_]
   ·have hk:fX NX c=false:=hk
    have hfil':(e_ (c+1)).filter (fX NX)=(e_ c).filter (fX NX):=by rw[hfil,hk];simp
    rw[an hc (by omega),hfil',hS,hg]
 ·rintro s rfl
  unfold jO
  exact br (aa rfl)
theorem Cb{m:Nat}{b:Int}(hb:b<=24)(hm:m<=65536)(h0:0<=b):(decide (0<=(m:Int))&&decide ((m:Int)<=(m:Int))&&decide ((m:Int)<=9223372036854775807)&&decide (b*(m:Int)<=281474976710656))=true:=by
 have:b*(m:Int)<=24*65536:=Int.mul_le_mul hb (by omega) (by omega) (by omega)
 simp only[l_,decide_eq_true_eq];omega
theorem xW{d:DF}(hd:WF d)(hk:d.1.length<=16777216)(hn:d.2.1.length<=65536):∃c:DF×Unit,((Canon c.1/\∀w,Valid w->cE c.1 (eC c.1 w)=cE d (eC d w))/\c.1.1.length<=d.1.length/\c.1.2.1.length<=d.2.1.length)/\
 aU tbl fI [.d (pr [.list tI,.list (.list tI),.list tB,tI]) d] [] dQ c:=by
 refine lz (sh:=dQ) (λ_=>rfl) (aV HF rfl (λO n=>HV O n d) ?_)
 unfold xZ
 have h:=hd.rw
 have hl:∀s∈ar d,In d s:=lD h _
 have hll:(ar d).length<=d.2.1.length:=nA h _
 obtain⟨⟨B,mi,_⟩,⟨m,hmi,hm,hB,hBl⟩,hc⟩:=Jg h hk hn
 simp only at hmi hB hBl
 subst hmi
 have hst:d.2.2.2.1.toNat<B.length:=by have:=h.start.1;have:=h.start.2;omega
 refine au (uB h (by omega) hk) (au hc ?_)
 refine ao (Cb (m:=m) (by omega) (by omega) (by omega)) (ao (Cb (m:=m) (by omega) (by omega) (by omega)) (cr h.start.1 hst ?_))
 rw[EW hst]
 refine ae (aS (N:=(ar d).length) (I:=λi s=>∃NX AC,s=((i:Int),(0:Int),bv B d.2.2.2.1,NX,AC,())/\NX.length=m/\AC.length=m/\
  ∀s∈(ar d).take i,NX[(bv B s).toNat]? =some ((e_ d.1.length).map λc=>bv B (bM d s c))/\AC[(bv B s).toNat]? =some (cE d s))
  ⟨i_ m [],i_ m false,rfl,by simp,by simp,by simp⟩ ?_ ?_)
 ·rintro i s hi ⟨NX,AC,rfl,hNX,hAC,hat⟩
  have hmem:=b_ hi
  have hin:=hl _ hmem
  obtain⟨h1,e⟩:=Gf h hin
  obtain⟨h2,e2⟩:=Sz h hin
  have hbl:((ar d)[i]).toNat<B.length:=by have:=hin.1;have:=hin.2;omega
  have hbr:=hB.rng.rng _ hmem
  unfold oe
  refine bT hi (aB hi (ao (by simp only[l_,decide_eq_true_eq];omega) (cr hin.1 h1 ?_)))
  rw[e]
  refine ae (aS (N:=d.1.length) (I:=λc s=>s=((c:Int),(0:Int),bv B d.2.2.2.1,NX,AC,DV d.1.length ((e_ c).map λc=>bv B (bM d (ar d)[i] c)),())) (by rw[bF_,W_,show DV d.1.length []=i_ d.1.length 0 from by simp[DV]];rfl) ?_ ?_)
  ·rintro c s hc rfl
   have hcin:=b8 h _ hmem c hc
   have hci:=hl _ hcin
   have hcl:(bM d (ar d)[i] c).toNat<B.length:=by have:=hci.1;have:=hci.2;omega
   have hrl:(DV d.1.length ((e_ c).map λc=>bv B (bM d (ar d)[i] c))).length=d.1.length:=Uo (by simp;omega)
   have hml:((e_ d.1.length).map (bM d (ar d)[i])).length=d.1.length:=by simp
   unfold od
   rw[hml]
   refine bT hc (Bj (x:=bM d (ar d)[i] c) (by simp[hc]) (cr hci.1 hcl ?_))
   refine aB (by rw[hrl];exact hc) (bm (x:=(DV d.1.length ((e_ c).map λc=>bv B (bM d (ar d)[i] c)))[c]'(by rw[hrl];exact hc)) (a_ _) (aa ?_))
   rw[an hc (by omega),EW hcl]
   simp only[c_]
   rw[Up (by simp) hc,R_,p_]
   rfl
  ·rintro s rfl
   unfold od
   have hml:((e_ d.1.length).map (bM d (ar d)[i])).length=d.1.length:=by simp
   rw[hml]
   have hNl:(bv B (ar d)[i]).toNat<NX.length:=by omega
   have hAl:(bv B (ar d)[i]).toNat<AC.length:=by omega
   refine br (aa (cr hin.1 hbl ?_))
   rw[EW hbl]
   refine cr hbr.1 hNl (bm (x:=NX[(bv B (ar d)[i]).toNat]) (a_ hNl) (cr hin.1 hbl ?_))
   rw[EW hbl]
   refine cr hin.1 h2 (cr hbr.1 hAl (bm (x:=AC[(bv B (ar d)[i]).toNat]) (a_ hAl) (aa ?_)))
   rw[an hi (by omega),e2,Ry (by simp)]
   refine⟨_,_,rfl,by simpa using hNX,by simpa using hAC,λs hs=>?_⟩
   rw[h_,a_ hi]at hs
   have hsm:s∈ar d:=by
    rcases d_.1 hs with h3|h3
    ·exact B_ h3
    ·simp at h3;subst h3;exact hmem
   have hsr:=hB.rng.rng s hsm
   by_cases hsame:bv B s=bv B (ar d)[i]
   ·have he:=(hB.eqv s _ hsm hmem).1 hsame
    rw[hsame,bb_ hNl,bb_ hAl]
    refine⟨?_,by rw[he.nil]⟩
    congr 1
    refine al_ λc hc=>?_
    have hc':=j_.1 hc
    exact((hB.eqv _ _ (b8 h s hsm c hc') (b8 h _ hmem c hc')).2 (he.step hc)).symm
   ·have hne:(bv B (ar d)[i]).toNat≠(bv B s).toNat:=λe=>hsame (by omega)
    rw[bj_ hne,bj_ hne]
    rcases d_.1 hs with h3|h3
    ·exact hat s h3
    ·simp at h3;subst h3;exact absurd rfl hsame
 ·rintro s ⟨NX,AC,rfl,hNX,hAC,hat⟩
  rw[g_]at hat
  unfold oe
  refine br (aa ?_)
  have hQ:Quo d B m NX AC:=⟨hB,hm,⟨hNX,hAC⟩,hat⟩
  have hQr:=hQ.rw h
  refine ao (Cb (m:=m) (by omega) (by omega) (by omega)) ?_
  have hcols:=BO hk (NX:=NX) AC (bv B d.2.2.2.1) (λr hr=>hQr.rows r hr) (by omega)
  rw[hNX]at hcols
  refine ae (Wp.imp hcols λr hr=>?_)
  subst hr
  have hsel:=WX (fX NX) hQr
  refine au (Et (d:=kR (d.1,NX,AC,bv B d.2.2.2.1,()) (fX NX)) hsel ?_ ?_) (aa ⟨_,rfl,hQ.canon hd,?_,?_⟩)
  ·simp only[kR,q_]
   exact E_ (ar_ ..) (by simpa using hk)
  ·simp only[kR,q_]
   omega
  ·simp only[wP,kR,q_]
   exact E_ (ar_ ..) (by simp)
  ·simp only[wP,q_]
   refine E_ (nA hsel _) ?_
   simp only[kR,q_]
   omega
structure Quo2(d:DF)(B:List Int)(m:Nat)(NX:List (List Int))(AC:List Bool):Prop where
 blk:BlkOk d (·∈lW d.2.1.length) B m
 len:NX.length=m/\AC.length=m
 at_:∀s,In d s->NX[(bv B s).toNat]? =some ((e_ d.1.length).map λc=>bv B (bM d s c))/\AC[(bv B s).toNat]? =some (cE d s)
section
variable {d:DF} {B:List Int} {m:Nat} {NX:List (List Int)} {AC:List Bool}
abbrev qD(d:DF)(B:List Int)(NX:List (List Int))(AC:List Bool):DF:=(d.1,NX,AC,bv B d.2.2.2.1,())
theorem Quo2.rw(hd:RW d)(h:Quo2 d B m NX AC):RW (qD d B NX AC):=by
 have hst:=h.blk.rng.rng _ (rangeI_mem.2 hd.start)
 have hrow:∀r∈NX,∃s,In d s/\r=(e_ d.1.length).map λc=>bv B (bM d s c):=λr hr=>by
  obtain⟨b,hb,rfl⟩:=k_.1 hr
  obtain⟨s,hs,e⟩:=h.blk.rng.onto b (by rw[<-h.len.1];exact hb)
  refine⟨s,rangeI_mem.1 hs,?_⟩
  have:=(h.at_ s (rangeI_mem.1 hs)).1
  rw[e,c_,a_ hb]at this
  exact ap_ this
 refine⟨⟨?_,?_⟩,λr hr=>?_,⟨hst.1,?_⟩,λr hr t ht=>?_⟩
 ·show 0<NX.length
  rw[h.len.1];omega
 ·show AC.length=NX.length
  rw[h.len.1,h.len.2]
 ·obtain⟨s,_,rfl⟩:=hrow r hr
  simp
 ·show bv B d.2.2.2.1<(NX.length:Int)
  rw[h.len.1];exact hst.2
 ·obtain⟨s,hs,rfl⟩:=hrow r hr
  obtain⟨c,hc,rfl⟩:=y_.1 ht
  have:=h.blk.rng.rng _ (rangeI_mem.2 (JD hd hs (j_.1 hc)))
  refine⟨this.1,?_⟩
  show bv B (bM d s c)<(NX.length:Int)
  rw[h.len.1];exact this.2
theorem Quo2.col(h:Quo2 d B m NX AC){s:Int}(hs:In d s){c:Nat}(hc:c<d.1.length):bM (qD d B NX AC) (bv B s) c=bv B (bM d s c):=by
 show(NX.getD (bv B s).toNat []).getD c 0=_
 simp only[f_,(h.at_ s hs).1,t_,A_,bn_ hc,S_]
theorem Quo2.acc(h:Quo2 d B m NX AC){s:Int}(hs:In d s):cE (qD d B NX AC) (bv B s)=cE d s:=by
 show AC.getD (bv B s).toNat false=_
 rw[f_,(h.at_ s hs).2];rfl
def IB(q:DF)(c:Nat):Bool:=decide (c=0)||(ar q).any λs=>bM q s c != bM q s (c - 1)
theorem L2(q:DF):Keeps q (IB q):=by
 refine⟨rfl,λb hb c hc hk=>?_,λc hc hk=>?_⟩
 ·simp only[IB,z_,decide_eq_false_iff_not,bs_]at hk
  exact⟨by omega,by simpa using hk.2 b hb⟩
 ·simp only[IB,L_,decide_eq_true_eq,M_]at hk
  rcases hk with hk|⟨b,hb,hk⟩
  ·omega
  ·exact⟨b,hb,by simpa using hk⟩
theorem Quo2.canon(hd:WF d)(h:Quo2 d B m NX AC):Canon (bJ (qD d B NX AC) (gG (qD d B NX AC) (IB (qD d B NX AC))))/\∀w,Valid w->cE (bJ (qD d B NX AC) (gG (qD d B NX AC) (IB (qD d B NX AC)))) (eC (bJ (qD d B NX AC) (gG (qD d B NX AC) (IB (qD d B NX AC)))) w)=cE d (eC d w):=
 F5 hd (h.rw hd.rw) rfl h.blk (λs hs=>rangeI_mem.2 (lD hd.rw _ s hs)) rfl (λs hs c hc=>h.col (lD hd.rw _ s hs) hc) (λs hs=>h.acc (lD hd.rw _ s hs)) (L2 _)
end
theorem CX{d:DF}:∀(l:List Int) (s0:Int),(∀v∈l,0<=v/\v<=4294967295)->iO (jM d) s0 l= .inl (l.foldl (bL d) s0)
 |[],_,_=>rfl
 |x::l,s0,hv=>by
  have hx:=hv x (w_ ..)
  have e:jM d s0 x= .inl (bL d s0 x):=by
   unfold jM
   rw[show(decide (x<0)||decide (x>4294967295))=false by simp;omega];rfl
  simp only[iO,e,aB_]
  exact CX l _ λv hv'=>hv v (s_ _ hv')
theorem L9{d:DF}(hg:Good d){l:List Int}(hv:∀v∈l,0<=v/\v<=4294967295):kb d l=cE d (l.foldl (bL d) d.2.2.2.1):=by
 unfold kb
 rw[if_pos hg,CX l _ hv];rfl
theorem yR:∀l:List Int,∃c,Asc c/\∀x,x∈c↔x∈l
 |[]=>⟨[],by simp[Asc],by simp⟩
 |v::l=>by
  obtain⟨c,hc,hm⟩:=yR l
  refine⟨c.filter (λy=>decide (y<v))++([v]++c.filter λy=>decide (v<y)),?_,λx=>?_⟩
  ·refine p6 (List.Pairwise.sublist (aN_ ..) hc) (p6 (by simp[Asc]) (List.Pairwise.sublist (aN_ ..) hc) λx hx y hy=>?_) λx hx y hy=>?_
   ·simp at hx hy;omega
   ·simp at hx hy
    rcases hy with rfl|hy<;>omega
  ·simp only[d_,ao_,decide_eq_true_eq,ak_,bB_,or_false,hm]
   constructor
   ·rintro(⟨h,_⟩|h|⟨h,_⟩)
    ·exact .inr h
    ·exact .inl h
    ·exact .inr h
   ·rintro(h|h)
    ·exact .inr (.inl h)
    ·rcases Int.lt_trichotomy x v with hl|he|hg
     ·exact .inl ⟨h,hl⟩
     ·exact .inr (.inl he)
     ·exact .inr (.inr ⟨h,hg⟩)
section
variable {κ:Type} [DecidableEq κ]
theorem Mp{L:List κ}{x:κ}(h:x∈L):L[pos L x]? =some x:=by
 have hp:=pos_lt.1 h
 unfold pos at hp⊢
 rw[a_ hp,an_]
variable (f:κ->Int->κ) (s0:κ) (ls:List Int) (acc:κ->Bool) (L:List κ)
def QZ:DF:=(ls,L.map λx=>ls.map λc=>(pos L (f x c):Int),L.map acc,0,())
structure ExOk:Prop where
 st:de ls
 cl:∀x∈L,∀c∈ls,f x c∈L
 hd:L[0]? =some s0
 same:∀x v (h:fT ls v<ls.length),0<=v->v<=4294967295->f x v=f x ls[fT ls v]
variable {f s0 ls acc L}
theorem Xf(h:ExOk f s0 ls L):WF (QZ f ls acc L):=by
 have h0:=(I_.1 h.hd).1
 have hn:(QZ f ls acc L).2.1.length=L.length:=by simp[QZ]
 refine⟨h.st,⟨by omega,by simp[QZ]⟩,λr hr=>?_,⟨am_ _,by rw[hn];show(0:Int)<_;omega⟩,λr hr t ht=>?_⟩
 ·obtain⟨x,_,rfl⟩:=y_.1 hr
  simp[QZ]
 ·obtain⟨x,hx,rfl⟩:=y_.1 hr
  obtain⟨c,hc,rfl⟩:=y_.1 ht
  have:=pos_lt.1 (h.cl x hx c hc)
  rw[hn];omega
theorem Va(h:ExOk f s0 ls L){x:κ}(hx:x∈L){v:Int}(hv:0<=v/\v<=4294967295):bL (QZ f ls acc L) (pos L x:Int) v=(pos L (f x v):Int)/\f x v∈L:=by
 obtain⟨h1,h2,h3⟩:=qa h.st hv.1
 have e:=h.same x v h1 hv.1 hv.2
 refine⟨?_,by rw[e];exact h.cl x hx _ (b_ h1)⟩
 rw[jN]
 show bM (QZ f ls acc L) (pos L x:Int) (fT ls v)=_
 have e2:L[pos L x]? =some x:=Mp hx
 unfold bM QZ
 simp only[c_,f_,A_,e2,S_,t_,a_ h1]
 rw[<-e]
theorem Ta(h:ExOk f s0 ls L):∀(w:List Int) (x:κ),x∈L->Valid w->w.foldl (bL (QZ f ls acc L)) (pos L x:Int)=(pos L (w.foldl f x):Int)/\w.foldl f x∈L
 |[],x,hx,_=>⟨rfl,hx⟩
 |v::w,x,hx,hw=>by
  obtain⟨h1,h2⟩:=Va (acc:=acc) h hx (hw v (w_ ..))
  rw[aB_,aB_,h1]
  exact Ta h w _ h2 λu hu=>hw u (s_ _ hu)
theorem U9(h:ExOk f s0 ls L){w:List Int}(hw:Valid w):cE (QZ f ls acc L) (eC (QZ f ls acc L) w)=acc (w.foldl f s0):=by
 have hs:s0∈L:=bk_ h.hd
 have hp0:pos L s0=0:=(Kh (aG_ _) (λj z hj=>by omega) (λz hz=>by rw[h.hd]at hz;cases hz;rfl)).symm
 obtain⟨h1,h2⟩:=Ta (acc:=acc) h w _ hs hw
 rw[hp0]at h1
 have e0:eC (QZ f ls acc L) w=(pos L (w.foldl f s0):Int):=h1
 rw[e0]
 have e:L[pos L (w.foldl f s0)]? =some (w.foldl f s0):=Mp h2
 show(L.map acc).getD _ false=_
 simp only[c_,f_,A_,e,S_,t_]
end
theorem Pg:∀{c l:List Int},Asc c->(∀x,x∈c->x∈l)->c.length<=l.length:=fun{c l} hc hm=>
 kG c l (F_.2 (List.Pairwise.imp (λh=>by omega) hc)) hm
structure Cz(g:G):Prop where
 lie:Lie 0 g
 inn:∀q∈g.sp,0<=q.1/\q.2<=4294967295
 le:∀q∈g.sp,q.1<=q.2
 n64:g.sp.length<=64
theorem JZ{r:Rx}(hw:cO r=true)(hs:sz r<=64):Cz (bR r 0):=
 ⟨fC r 0,V9 r hw 0,XB r hw 0,by rw[(dE r hw 0).1];exact E_ (E0 r) hs⟩
noncomputable def bX(g:G):List Int:=xF (p8 g.sp)
theorem AL(g:G):Asc (bX g)/\∀x,x∈bX g↔x∈p8 g.sp:=by
 obtain⟨c,hc,hm⟩:=yR (p8 g.sp)
 unfold bX
 rw[wX hc hm]
 exact⟨hc,hm⟩
theorem wx{g:G}(h:Cz g):(bX g).length<=129:=by
 obtain⟨h1,h2⟩:=AL g
 have:=Pg h1 λx hx=>(h2 x).1 hx
 have:=zY g.sp
 have:=h.n64
 omega
theorem PQ{g:G}(h:Cz g):∀v∈bX g,0<=v/\v<=4294967295:=λv hv=>UZ h.inn h.le v ((AL g).2 v |>.1 hv)
theorem CZ{g:G}(h:Cz g):de (bX g):=by
 obtain⟨hasc,hm⟩:=AL g
 have h0:(0:Int)∈bX g:=(hm 0).2 (w_ ..)
 have hp:=aI_ h0
 refine⟨hp,λh'=>?_,λi h'=>Jr hasc (by omega) h',λv hv=>(PQ h v hv).2⟩
 obtain⟨i,hi,e⟩:=k_.1 h0
 have h1:=(PQ h _ (b_ h')).1
 rcases V_ i with rfl|hi0
 ·exact e
 ·have:=Jr hasc hi0 hi;omega
theorem Q1{g:G}(h:Cz g)(x:Option Nat)(v:Int)(hc:fT (bX g) v<(bX g).length)(hv0:0<=v)(hv:v<=4294967295):cu g x v=cu g x (bX g)[fT (bX g) v]:=by
 obtain⟨hasc,hm⟩:=AL g
 obtain⟨h1,h2,h3⟩:=qa (CZ h) hv0
 refine R1 h.inn h2 hv (λy hy hyv=>?_) x
 obtain⟨j,hj,rfl⟩:=k_.1 ((hm y).2 hy)
 rcases Nat.lt_or_ge (fT (bX g) v) j with hl|hge
 ·have:=h3 j hj hl;omega
 ·rcases ae_ hge with hl|he
  ·have:=Jr hasc hl h1;omega
  ·simp only[he];exact am_ _
abbrev Jb(lim:Nat):List (Option Nat)->Option Nat->Bool:=λL _=>decide (lim<=L.length)
noncomputable abbrev cn(g:G)(i:Nat):=bD (cu g) none (bX g) i
noncomputable abbrev lE(g:G)(i:Nat):=iL (cu g) none (bX g) (Jb 4096) i
theorem Ru{m:Nat}{L:List (Option Nat)}(h:Quiet (Jb (m+1)) L):L.length<=m+1:=by
 apply H_
 intro hn
 have h1:=h m _ (a_ (show m+1<L.length by omega))
 have h2:decide (m+1<=(L.take (m+1)).length)=false:=h1
 rw[N_]at h2
 have:=of_decide_eq_false h2
 omega
theorem Ci{L:List (Option Nat)}(h:Quiet (Jb 4096) L):L.length<=4096:=Ru (m:=4095) h
theorem VX:∃n:Nat,n=4097:=⟨_,rfl⟩
noncomputable def NL:Nat:=av_ VX
theorem O7:NL=4097:=J_ VX
noncomputable def sR(g:G):List (Option Nat):=(cn g NL).1
noncomputable def dN(g:G):DF:=QZ (cu g) (bX g) (l4 g) (sR g)
theorem K4{g:G}{S}(h:lE g NL= .inl S):S=cn g NL/\(sR g).length<=4096:=by
 obtain⟨h1,h2⟩:=(ka NL).1 S h
 exact⟨h1,by have:=Ci h2;rw[h1]at this;exact this⟩
theorem Pd{g:G}(hg:Cz g)(h:(sR g).length<=4096):ExOk (cu g) none (bX g) (sR g):=
 ⟨CZ hg,λx hx c hc=>ri NL x (by rw[v_ (by show(sR g).length<=NL;rw[O7];omega)];exact hx) c hc,(dq NL).head,λx v hc h0 h1=>Q1 hg x v hc h0 h1⟩
theorem Xc{g:G}(hg:Cz g)(h:(sR g).length<=4096):WF (dN g):=Xf (Pd hg h)
theorem U6{g:G}(hg:Cz g)(h:(sR g).length<=4096){w:List Int}(hw:Valid w):cE (dN g) (eC (dN g) w)=lR g w:=by
 rw[<-Sy hg.lie w]
 exact U9 (Pd hg h) hw
theorem Pr{g:G}(h:(sR g).length<=4096):(dN g).2.1=nZ (cn g NL).2.2:=by
 show((sR g).map λx=>(bX g).map λc=>(pos (sR g) (cu g x c):Int))=_
 rw[xj NL NL (Z_ _),v_ (by show(sR g).length<=NL;rw[O7];omega)]
 unfold nZ
 rw[bu_]
 refine al_ λx _=>?_
 show _=((bX g).map λc=>pos (sR g) (cu g x c)).map (fun(k:Nat)=>(k:Int))
 rw[bu_];rfl
abbrev NK:Type:=Bool×(Int×Unit)
def cQ:Option Nat->NK
 |none=>(true,0,())
 |some b=>(false,(b:Int),())
theorem SZ{x y:Option Nat}:cQ x=cQ y↔x=y:=by
 constructor
 ·intro h
  cases x<;>cases y
  ·rfl
  ·cases h
  ·cases h
  ·rename_i a b
   have e:(a:Int)=(b:Int):=by simpa[cQ]using h
   have e:a=b:=Int.ofNat_inj.1 e
   rw[e]
 ·rintro rfl;rfl
theorem Pw(x y:Option Nat):CP (pr [tB,tQ]) (cQ x) (cQ y)=decide (x=y):=by
 have h:∀a b:NK,CP (pr [tB,tQ]) a b=decide (a=b):=by
  rintro⟨x1,x2,_⟩ ⟨y1,y2,_⟩
  show((x1==y1)&&((x2==y2)&&true))=_
  by_cases h1:x1=y1<;>by_cases h2:x2=y2<;>simp[h1,h2]
 rw[h]
 exact decide_eq_decide.2 SZ
def IC:Nat->List (Option Nat)->List (NK×Int)
 |_,[]=>[]
 |k,x::l=>(cQ x,(k:Int))::IC (k+1) l
theorem PM(y:Option Nat):∀(L:List (Option Nat)) (k:Nat),gN (pr [tB,tQ]) tI (IC k L) (cQ y)=if y∈L then some (((k+pos L y:Nat):Int))else none
 |[],k=>by simp[IC,gN]
 |x::L,k=>by
  have ih:=PM y L (k+1)
  simp only[IC,gN]
  rw[Pw y x,ih]
  by_cases h:y=x
  ·subst h;simp[pos_eq]
  ·have h':x≠y:=λe=>h e.symm
   rw[decide_eq_false h]
   have e:pos (x::L) y=pos L y+1:=FX h'
   simp only[cond_false,ak_,h,false_or,e]
   split
   ·congr 1;omega
   ·rfl
theorem PP(y:Option Nat):∀(L:List (Option Nat)) (k:Nat),y∉L->mg (pr [tB,tQ]) tI (IC k L) (cQ y) (((k+L.length:Nat):Int))=IC k (L++[y])
 |[],k,_=>by simp[IC,mg]
 |x::L,k,h=>by
  have h1:y≠x:=λe=>h (by simp[e])
  have h2:y∉L:=λe=>h (by simp[e])
  have ih:=PP y L (k+1) h2
  simp only[aw_,IC,mg]
  rw[Pw y x,decide_eq_false h1]
  simp only[cond_false,ac_]
  rw[show k+(L.length+1)=k+1+L.length by omega,ih]
theorem PN:∀(L:List (Option Nat)) (k:Nat),(IC k L).length=L.length
 |[],_=>rfl
 |_::L,k=>by simp[IC,PN L (k+1)]
theorem Jj(k n:Int):aU tbl pq [.d tI k,.d tI n] [] eI (qt k,fB k n,()):=by
 refine aZ rfl (aV Kz rfl (λO m=>KH O m k n) ?_)
 unfold zE
 by_cases h0:k=0
 ·subst h0;exact cY (λ_=>rfl) rfl
 by_cases h1:k=1
 ·subst h1;exact cY (λ_=>rfl) rfl
 by_cases h2:k=2
 ·subst h2;exact cY (λ_=>rfl) rfl
 by_cases h3:k=3
 ·subst h3;exact cY (λ_=>rfl) rfl
 by_cases h4:k=4
 ·subst h4;exact cY (λ_=>rfl) rfl
 by_cases h5:k=5
 ·subst h5;exact cY (λ_=>rfl) rfl
 by_cases h6:k=6
 ·subst h6;exact cY (λ_=>rfl) rfl
 by_cases h7:k=7
 ·subst h7;exact cY (λ_=>rfl) rfl
 have e0:(k==(0:Int))=false:=by simpa using h0
 have e1:(k==(1:Int))=false:=by simpa using h1
 have e2:(k==(2:Int))=false:=by simpa using h2
 have e3:(k==(3:Int))=false:=by simpa using h3
 have e4:(k==(4:Int))=false:=by simpa using h4
 have e5:(k==(5:Int))=false:=by simpa using h5
 have e6:(k==(6:Int))=false:=by simpa using h6
 have e7:(k==(7:Int))=false:=by simpa using h7
 simp only[e0,e1,e2,e3,e4,e5,e6,e7]
 refine cY (λ_=>rfl) ?_
 simp only[qt,fB,e0,e1,e2,e3,e4,e5,e6,e7]
 rfl
theorem zz(r:Rx):aU tbl lm [.d .rx r] [] eJ (gO r.out.1 r.out.2.1 r.out.2.2.1 (r.out.2.2.2.1.length:Int),()):=by
 refine aZ rfl (aV KA rfl (λO m=>KI O m r) ?_)
 unfold zF
 generalize r.out.1=k
 generalize r.out.2.1=lo
 generalize r.out.2.2.1=hi
 generalize(r.out.2.2.2.1.length:Int)=n
 refine au (Jj k n) ?_
 unfold gO
 cases qt k
 ·exact cY (λ_=>rfl) rfl
 cases e1:(k==(1:Int))
 ·have f1:(k != (1:Int))=true:=by simpa[bne]using e1
  rw[f1]
  cases(lo != (0:Int))<;>cases(hi != (0:Int))<;>cases fB k n<;>exact cY (λ_=>rfl) rfl
 ·have f1:(k != (1:Int))=false:=by simpa[bne]using e1
  rw[f1]
  cases decide (lo<(0:Int))<;>cases decide (lo>hi)<;>cases decide (hi>(4294967295:Int))<;>cases fB k n<;>exact cY (λ_=>rfl) rfl
theorem Rf(k lo hi:Int)(n:Int)(hn:0<=n):gO k lo hi n=
 bif k==1 then(bif decide (lo<0)||decide (lo>hi)||decide (hi>4294967295)then 5 else bif decide (n>0)then 1 else 0)
 else bif !qt k then 15 else bif !fB k n then 1 else bif lo != 0||hi != 0 then 1 else 0:=by
 unfold gO
 cases e1:(k==(1:Int))
 ·have f1:(k != (1:Int))=true:=by simpa[bne]using e1
  rw[f1]
  cases qt k<;>cases(lo != (0:Int))<;>cases(hi != (0:Int))<;>cases fB k n<;>rfl
 ·have hk:k=1:=by simpa using e1
  subst hk
  have:fB 1 n= !decide (n>0):=by
   show(n==0)=_
   by_cases h:n=0
   ·subst h;rfl
   ·rw[show(n==0)=false by simpa using h,decide_eq_true (show n>0 by omega)];rfl
  rw[this]
  cases decide (lo<(0:Int))<;>cases decide (lo>hi)<;>cases decide (hi>(4294967295:Int))<;>cases decide (n>0)<;>rfl
theorem Ew(r:Rx):aU tbl lg [.d .rx r] [] eW (gO r.out.1 r.out.2.1 r.out.2.2.1 (r.out.2.2.2.1.length:Int),()):=by
 refine aZ rfl (aV Gu rfl (λO m=>GE O m r) ?_)
 unfold vz
 have hn:(0:Int)<=(r.out.2.2.2.1.length:Int):=by omega
 generalize(r.out.2.2.2.1.length:Int)=n at hn
 rw[Rf _ _ _ _ hn]
 generalize r.out.1=k
 generalize r.out.2.1=lo
 generalize r.out.2.2.1=hi
 by_cases h1:k=1
 ·subst h1
  cases decide (lo<(0:Int))<;>cases decide (lo>hi)<;>cases decide (hi>(4294967295:Int))<;>cases decide (n>0)<;>exact cY (λ_=>rfl) rfl
 have e1:(k==(1:Int))=false:=by simpa using h1
 rw[e1]
 have h02:∀m:Int,0<=m->(m==0)= !decide (m>0):=λm hm=>by
  by_cases h:m=0
  ·subst h;rfl
  ·rw[show(m==0)=false by simpa using h,decide_eq_true (show m>0 by omega)];rfl
 by_cases h0:k=0
 ·subst h0
  rw[show fB 0 n= !decide (n>0)from h02 n hn]
  cases decide (n>0)<;>cases(lo != (0:Int))<;>cases(hi != (0:Int))<;>exact cY (λ_=>rfl) rfl
 by_cases h2:k=2
 ·subst h2
  rw[show fB 2 n= !decide (n>0)from h02 n hn]
  cases decide (n>0)<;>cases(lo != (0:Int))<;>cases(hi != (0:Int))<;>exact cY (λ_=>rfl) rfl
 by_cases h3:k=3
 ·subst h3
  have:fB 3 n= !decide (n<2):=by
   show decide (n>=2)=_
   by_cases h:n<2
   ·rw[decide_eq_true h,decide_eq_false (show ¬n>=2 by omega)];rfl
   ·rw[decide_eq_false h,decide_eq_true (show n>=2 by omega)];rfl
  rw[this]
  cases decide (n<2)<;>cases(lo != (0:Int))<;>cases(hi != (0:Int))<;>exact cY (λ_=>rfl) rfl
 by_cases h4:k=4
 ·subst h4
  show Wp _ _
  have:fB 4 n= !(n==1):=rfl
  rw[this]
  cases(n==(1:Int))<;>cases(lo != (0:Int))<;>cases(hi != (0:Int))<;>exact cY (λ_=>rfl) rfl
 have hn1:∀m:Int,(m==1)= !(m != 1):=λm=>by simp[bne]
 by_cases h5:k=5
 ·subst h5
  rw[show fB 5 n= !(n != 1)from hn1 n]
  cases(n != (1:Int))<;>cases(lo != (0:Int))<;>cases(hi != (0:Int))<;>exact cY (λ_=>rfl) rfl
 by_cases h6:k=6
 ·subst h6
  rw[show fB 6 n= !(n != 1)from hn1 n]
  cases(n != (1:Int))<;>cases(lo != (0:Int))<;>cases(hi != (0:Int))<;>exact cY (λ_=>rfl) rfl
 by_cases h7:k=7
 ·subst h7
  rw[show fB 7 n= !(n != 1)from hn1 n]
  cases(n != (1:Int))<;>cases(lo != (0:Int))<;>cases(hi != (0:Int))<;>exact cY (λ_=>rfl) rfl
 have e0:(k==(0:Int))=false:=by simpa using h0
 have e2:(k==(2:Int))=false:=by simpa using h2
 have e3:(k==(3:Int))=false:=by simpa using h3
 have e4:(k==(4:Int))=false:=by simpa using h4
 have e5:(k==(5:Int))=false:=by simpa using h5
 have e6:(k==(6:Int))=false:=by simpa using h6
 have e7:(k==(7:Int))=false:=by simpa using h7
 simp only[qt,e0,e1,e2,e3,e4,e5,e6,e7]
 exact cY (λ_=>rfl) rfl
theorem wR{k lo up:Int}{ks:List Rx}{M:Nat}(h:sz (.mk k lo up ks)<=M):ks.length<M/\∀r∈ks,sz r<M:=by
 simp only[sz]at h
 have h1:=Yc ks
 exact⟨by omega,λr hr=>by have:=xw hr;omega⟩
theorem Jl:∀(r:Rx),sz r<=1000000->aU tbl lu [.d .rx r] [] fH (cO r,()):=by
 refine f8 λk lo up ks ih hs=>?_
 obtain⟨hlen,hkid⟩:=wR hs
 refine aZ rfl (aV KD rfl (λO m=>KL O m (.mk k lo up ks)) ?_)
 unfold zH
 refine au (zz _) ?_
 show Wp _ _
 have hw:cO (.mk k lo up ks)=(gO k lo up ks.length==0&&wU ks):=rfl
 refine aJ (λh=>aa ?_) λh=>?_
 ·have:(gO k lo up ks.length==0)=false:=by
   have h:(gO k lo up ks.length != 0)=true:=h
   simpa[bne]using h
  rw[hw,this];rfl
 ·have h0:(gO k lo up ks.length==0)=true:=by
   have h:(gO k lo up ks.length != 0)=false:=h
   simpa[bne]using h
  rw[hw,h0,aq_]
  refine ae (Bi (xs:=ks) (P:=λr=>cO r=true) (e:=(false,())) (g:=()) (λi hi=>?_) ?_ (λhg=>?_) (λhb=>?_))
  ·unfold pX
   refine bT hi (aB hi ?_)
   rw[f7]
   have hr:=b_ hi
   refine au (ih ks[i] hr (by have:=hkid _ hr;omega)) (r9 ?_ (by rw[an hi (by omega)]))
   show(!cO ks[i])=true↔_
   simp
  ·unfold pX
   exact br (aa rfl)
  ·refine aa ?_
   rw[(uw ks).2 hg]
  ·refine aa ?_
   have:wU ks=false:=by
    cases hq:wU ks
    ·rfl
    ·exact absurd ((uw ks).1 hq) hb
   rw[this]
theorem xc{ks:List Rx}{lv c:Int}:∀{i:Nat},(h:i<ks.length)->(fz (ks.take i) lv c).2=0->fz (ks.take (i+1)) lv c=(let p:=tD ks[i] lv (fz (ks.take i) lv c).1;(p.1,p.2)):=by
 intro i
 induction ks generalizing c i with
 |nil=>intro h;simp at h
 |cons r ks ih=>
  intro h h0
  cases i with
  |zero=>
   simp only[bG_,aP_,fz,List.getElem_cons_zero]
   split
   ·rfl
   ·rename_i hz
    have:(tD r lv c).2=0:=by simpa using hz
    exact aj_ rfl this.symm
  |succ i=>
   simp only[aP_,fz,List.getElem_cons_succ]at h0⊢
   split at h0
   ·rename_i hz;exact absurd h0 hz
   ·rename_i hz
    rw[if_neg hz,if_neg hz]
    exact ih (by simpa using h) h0
theorem Ae{lv:Int}:∀{ks:List Rx} {c:Int} {i:Nat},(fz (ks.take i) lv c).2≠0->fz ks lv c=fz (ks.take i) lv c:=by
 intro ks
 induction ks with
 |nil=>intro c i h;simp[fz]at h
 |cons r ks ih=>
  intro c i h
  cases i with
  |zero=>simp[fz]at h
  |succ i=>
   simp only[aP_,fz]at h⊢
   split at h
   ·rename_i hz;rw[if_pos hz,if_pos hz]
   ·rename_i hz;rw[if_neg hz,if_neg hz];exact ih h
theorem BM:∀(r:Rx) (lv c:Int),0<=c->c<=64->c<=(tD r lv c).1/\(tD r lv c).1<=64:=by
 refine f8 λk lo up ks ih lv c h0 h1=>?_
 have hs:∀(l:List Rx) (lv c:Int),(∀r∈l,r∈ks)->0<=c->c<=64->c<=(fz l lv c).1/\(fz l lv c).1<=64:=by
  intro l
  induction l with
  |nil=>intro lv c _ h0 h1;exact⟨am_ _,h1⟩
  |cons r l ihl=>
   intro lv c hl h0 h1
   have hr:=ih r (hl r (w_ ..)) lv c h0 h1
   simp only[fz]
   split
   ·exact hr
   ·have:=ihl lv (tD r lv c).1 (λx hx=>hl x (s_ _ hx)) (by omega) hr.2
    omega
 simp only[tD]
 split
 ·exact⟨am_ _,h1⟩
 split
 ·exact⟨am_ _,h1⟩
 split
 ·exact⟨am_ _,h1⟩
 ·have:=hs ks (lv+1) (c+1) (λ_ h=>h) (by omega) (by omega)
  omega
theorem GI:∀(r:Rx),sz r<=1000000->∀(lv c:Int),0<=lv->lv<=17->0<=c->c<=64->aU tbl jy [.d .rx r,.d tI lv,.d tI c] [] dh ((tD r lv c).1,(tD r lv c).2,()):=by
 refine f8 λk lo up ks ih hs lv c hl0 hl1 hc0 hc1=>?_
 obtain⟨hlen,hkid⟩:=wR hs
 refine aZ rfl (aV HH rfl (λO m=>HX O m (.mk k lo up ks) lv c) ?_)
 unfold x5
 refine aJ (λh=>aa ?_) λh=>?_
 ·have h:lv>16:=by simpa using h
  simp only[tD,if_pos h]
 have h1:¬lv>16:=by simpa using h
 refine aJ (λh=>aa ?_) λh=>?_
 ·have h:c>=64:=by simpa using h
  simp only[tD,if_neg h1,if_pos h]
 have h2:¬c>=64:=by simpa using h
 refine au (Ew _) ?_
 show Wp _ _
 refine aJ (λh=>aa ?_) λh=>?_
 ·have h:gO k lo up ks.length≠0:=by
   have h:(gO k lo up ks.length != 0)=true:=h
   simpa using h
  simp only[tD,if_neg h1,if_neg h2,if_pos h]
  rfl
 have h3:¬gO k lo up ks.length≠0:=by
  have h:(gO k lo up ks.length != 0)=false:=h
  simpa using h
 have ec:tD (.mk k lo up ks) lv c=fz ks (lv+1) (c+1):=by simp only[tD,if_neg h1,if_neg h2,if_neg h3]
 rw[ec,wrap_i64 (by omega) (by omega)]
 have hrange:∀i,(fz (ks.take i) (lv+1) (c+1)).2=0->0<=(fz (ks.take i) (lv+1) (c+1)).1/\(fz (ks.take i) (lv+1) (c+1)).1<=64:=by
  intro i
  induction i with
  |zero=>intro _;simp[fz];omega
  |succ i ihi=>
   intro h0
   by_cases hi:i<ks.length
   ·have hz:(fz (ks.take i) (lv+1) (c+1)).2=0:=H_ λhn=>by
     have:=Ae (ks:=ks.take (i+1)) (lv:=lv+1) (c:=c+1) (i:=i) (by rw[aW_,show min i (i+1)=i by omega];exact hn)
     rw[aW_,show min i (i+1)=i by omega]at this
     rw[this]at h0
     exact hn h0
    rw[xc hi hz]
    have hr:=ihi hz
    have:=BM ks[i] (lv+1) _ hr.1 hr.2
    exact⟨by show 0<=(tD ks[i] _ _).1;omega,this.2⟩
   ·rw[show ks.take (i+1)=ks.take i by rw[v_ (by omega),v_ (by omega)]]at h0⊢
    exact ihi h0
 refine ae (aS (N:=ks.length) (I:=λi s=>s=((fz (ks.take i) (lv+1) (c+1)).1,(i:Int),())/\(fz (ks.take i) (lv+1) (c+1)).2=0) (by simp[fz]) (λi s hi hs=>?_) λs hs=>?_)
 ·obtain⟨rfl,hz⟩:=hs
  unfold ol
  refine bT hi (aB hi ?_)
  rw[f7,wrap_i64 (by omega) (by omega)]
  have hr:=b_ hi
  have hrg:=hrange i hz
  refine au (ih ks[i] hr (by have:=hkid _ hr;omega) (lv+1) _ (by omega) (by omega) hrg.1 hrg.2) ?_
  have ht:=xc hi hz
  refine aJ (λh=>aa ?_) λh=>aa ?_
  ·have hn:(tD ks[i] (lv+1) (fz (ks.take i) (lv+1) (c+1)).1).2≠0:=by simpa using h
   have he:=Ae (ks:=ks) (lv:=lv+1) (c:=c+1) (i:=i+1) (by rw[ht];exact hn)
   refine aa ?_
   rw[he,ht]
  ·have hn:(tD ks[i] (lv+1) (fz (ks.take i) (lv+1) (c+1)).1).2=0:=by simpa using h
   refine⟨?_,by rw[ht];exact hn⟩
   rw[an hi (by omega),ht]
 ·obtain⟨rfl,hz⟩:=hs
  unfold ol
  refine br (aa (aa ?_))
  rw[g_]at hz⊢
  rw[hz]
theorem GO:∀(r:Rx),sz r<=1000000->∀(lv c:Int),0<=lv->lv<=17->0<=c->c<=64->∃s:Int,((tD r lv c).2=0->s=(tD r lv c).1)/\
 aU tbl d5 [.d .rx r,.d tI lv,.ptr 0 0] [.box aP [.d tI c]] bK ((tD r lv c).2,s,()):=by
 refine f8 λk lo up ks ih hs lv c hl0 hl1 hc0 hc1=>?_
 obtain⟨hlen,hkid⟩:=wR hs
 suffices h:∃x:Int×Int×Unit,(x.1=(tD (.mk k lo up ks) lv c).2/\((tD (.mk k lo up ks) lv c).2=0->x.2.1=(tD (.mk k lo up ks) lv c).1))/\aU tbl d5 [.d .rx (.mk k lo up ks),.d tI lv,.ptr 0 0] [.box aP [.d tI c]] bK x by
  obtain⟨⟨e,s,_⟩,⟨he,h1⟩,h2⟩:=h
  have he:e=_:=he
  subst he
  exact⟨s,h1,h2⟩
 refine lz (sh:=bK) (λ_=>rfl) (aV Bd rfl (λO m=>Bm O m (.mk k lo up ks) lv c) ?_)
 unfold q9
 refine aJ (λh=>aa ⟨_,rfl,?_⟩) λh=>?_
 ·have h:lv>16:=by simpa using h
  simp only[tD,if_pos h]
  exact⟨trivial,λh=>by cases h⟩
 have h1:¬lv>16:=by simpa using h
 refine aJ (λh=>aa ⟨_,rfl,?_⟩) λh=>?_
 ·have h:c>=64:=by simpa using h
  simp only[tD,if_neg h1,if_pos h]
  exact⟨trivial,λh=>by cases h⟩
 have h2:¬c>=64:=by simpa using h
 refine au (zz _) ?_
 show Wp _ _
 refine aJ (λh=>aa ⟨_,rfl,?_⟩) λh=>?_
 ·have h:gO k lo up ks.length≠0:=by
   have h:(gO k lo up ks.length != 0)=true:=h
   simpa using h
  simp only[tD,if_neg h1,if_neg h2,if_pos h]
  exact⟨rfl,λh'=>absurd h' h⟩
 have h3:¬gO k lo up ks.length≠0:=by
  have h:(gO k lo up ks.length != 0)=false:=h
  simpa using h
 have ec:tD (.mk k lo up ks) lv c=fz ks (lv+1) (c+1):=by simp only[tD,if_neg h1,if_neg h2,if_neg h3]
 rw[ec,wrap_i64 (by omega) (by omega)]
 have hrange:∀i,(fz (ks.take i) (lv+1) (c+1)).2=0->0<=(fz (ks.take i) (lv+1) (c+1)).1/\(fz (ks.take i) (lv+1) (c+1)).1<=64:=by
  intro i
  induction i with
  |zero=>intro _;simp[fz];omega
  |succ i ihi=>
   intro h0
   by_cases hi:i<ks.length
   ·have hz:(fz (ks.take i) (lv+1) (c+1)).2=0:=H_ λhn=>by
     have:=Ae (ks:=ks.take (i+1)) (lv:=lv+1) (c:=c+1) (i:=i) (by rw[aW_,show min i (i+1)=i by omega];exact hn)
     rw[aW_,show min i (i+1)=i by omega]at this
     rw[this]at h0
     exact hn h0
    rw[xc hi hz]
    have hr:=ihi hz
    have:=BM ks[i] (lv+1) _ hr.1 hr.2
    exact⟨by show 0<=(tD ks[i] _ _).1;omega,this.2⟩
   ·rw[show ks.take (i+1)=ks.take i by rw[v_ (by omega),v_ (by omega)]]at h0⊢
    exact ihi h0
 refine ae (aS (N:=ks.length) (I:=λi s=>s=((i:Int),(fz (ks.take i) (lv+1) (c+1)).1,())/\(fz (ks.take i) (lv+1) (c+1)).2=0) (by simp[fz]) (λi s hi hs=>?_) λs hs=>?_)
 ·obtain⟨rfl,hz⟩:=hs
  unfold jm
  refine bT hi (aB hi ?_)
  rw[f7,wrap_i64 (by omega) (by omega)]
  have hr:=b_ hi
  have hrg:=hrange i hz
  obtain⟨s,hs0,hs1⟩:=ih ks[i] hr (by have:=hkid _ hr;omega) (lv+1) _ (by omega) (by omega) hrg.1 hrg.2
  refine au hs1 ?_
  have ht:=xc hi hz
  refine aJ (λh=>aa ?_) λh=>aa ?_
  ·have hn:(tD ks[i] (lv+1) (fz (ks.take i) (lv+1) (c+1)).1).2≠0:=by simpa using h
   have he:=Ae (ks:=ks) (lv:=lv+1) (c:=c+1) (i:=i+1) (by rw[ht];exact hn)
   refine aa ⟨_,rfl,?_⟩
   rw[he,ht]
   exact⟨rfl,λh'=>absurd h' hn⟩
  ·have hn:(tD ks[i] (lv+1) (fz (ks.take i) (lv+1) (c+1)).1).2=0:=by simpa using h
   refine⟨?_,by rw[ht];exact hn⟩
   rw[an hi (by omega),ht,hs0 hn]
 ·obtain⟨rfl,hz⟩:=hs
  unfold jm
  refine br (aa (aa ⟨_,rfl,?_⟩))
  rw[g_]at hz⊢
  exact⟨hz.symm,λ_=>rfl⟩
def eD(r:Rx):Int:=(tD r 1 0).2
theorem GH(r:Rx)(hs:sz r<=1000000):aU tbl mS [.d .rx r] [] jJ (eD r,()):=by
 refine aZ rfl (aV HG rfl (λO m=>HW O m r) ?_)
 unfold x4
 exact au (GI r hs 1 0 (by decide) (by decide) (by decide) (by decide)) (aa rfl)
theorem xX(r:Rx)(hs:sz r<=1000000):aU tbl jA [.d .rx r] [] gZ (eD r,()):=by
 refine aZ rfl (aV HM rfl (λO m=>H1 O m r) ?_)
 unfold x9
 obtain⟨s,_,h⟩:=GO r hs 1 0 (by decide) (by decide) (by decide) (by decide)
 exact au h (aa rfl)
theorem SQ:∀(r:Rx) (lv c:Int),(tD r lv c).2=0->cO r=true/\(tD r lv c).1=c+(sz r:Int):=by
 refine f8 λk lo up ks ih lv c h=>?_
 have hs:∀(l:List Rx) (lv c:Int),(∀r∈l,r∈ks)->(fz l lv c).2=0->(∀r∈l,cO r=true)/\(fz l lv c).1=c+(wS l:Int):=by
  intro l
  induction l with
  |nil=>intro lv c _ _;exact⟨by simp,by simp[fz,wS]⟩
  |cons r l ihl=>
   intro lv c hl h
   simp only[fz]at h⊢
   split at h
   ·rename_i hz;exact absurd h hz
   ·rename_i hz
    rw[if_neg hz]
    have hz:(tD r lv c).2=0:=by simpa using hz
    obtain⟨h1,h2⟩:=ih r (hl r (w_ ..)) lv c hz
    obtain⟨h3,h4⟩:=ihl lv _ (λx hx=>hl x (s_ _ hx)) h
    refine⟨λx hx=>?_,by rw[h4,h2];simp only[wS];omega⟩
    rcases ak_.1 hx with rfl|hx
    ·exact h1
    ·exact h3 x hx
 simp only[tD]at h⊢
 split at h
 ·exact absurd h (by simp)
 split at h
 ·exact absurd h (by simp)
 split at h
 ·rename_i hz;exact absurd h hz
 ·rename_i a b hz
  rw[if_neg a,if_neg b,if_neg hz]
  obtain⟨h1,h2⟩:=hs ks (lv+1) (c+1) (λ_ h=>h) h
  have hz:gO k lo up ks.length=0:=by simpa using hz
  exact⟨well_iff.2 ⟨nodeE_zero.1 hz,h1⟩,by rw[h2];simp only[sz];omega⟩
theorem mA{r:Rx}(h:eD r=0):cO r=true/\sz r<=64:=by
 obtain⟨h1,h2⟩:=SQ r 1 0 h
 have:=BM r 1 0 (by decide) (by decide)
 exact⟨h1,by omega⟩
theorem sL:∀(r:Rx),sz r<=1000000->aU tbl eQ [.d .rx r] [] bz (Mh r,()):=by
 refine f8 λk lo up ks ih hs=>?_
 obtain⟨hlen,hkid⟩:=wR hs
 refine aZ rfl (aV Co rfl (λO m=>Cu O m (.mk k lo up ks)) ?_)
 unfold sM
 refine ae (aS (N:=ks.length) (I:=λi s=>s=(vn (ks.take i),qZ (ks.take i),(i:Int),())) (by simp[vn,qZ]) (λi s hi hs=>?_) λs hs=>?_)
 ·subst hs
  unfold j9
  refine bT hi (aB hi ?_)
  rw[f7]
  have hr:=b_ hi
  refine au (ih ks[i] hr (by have:=hkid _ hr;omega)) ?_
  refine ae (dw (b:=Mh ks[i]) (λ_=>aa rfl) (ae (gf (b:=Mh ks[i]) (λ_=>aa rfl) (aa ?_))))
  have e1:vn (ks.take (i+1))=(vn (ks.take i)||Mh ks[i]):=by
   rw[h_,a_ hi,Mj];simp[vn]
  have e2:qZ (ks.take (i+1))=(qZ (ks.take i)&&Mh ks[i]):=by
   rw[h_,a_ hi,Mi];simp[qZ]
  rw[e1,e2,an hi (by omega)]
 ·subst hs
  unfold j9
  refine br (aa ?_)
  rw[g_]
  show Wp _ _
  have hn:Mh (.mk k lo up ks)=bif k==0||k==5||k==7 then true else bif k==3||k==6 then qZ ks else bif k==4 then vn ks else false:=rfl
  rw[hn]
  show Wp (λ_=>n_ (bif (k==(0:Int))then some (((k==(0:Int)),()))else bif (k==(5:Int))then some (((k==(5:Int)),()))else some (((k==(7:Int)),()))) _) _
  by_cases h0:k=0
  ·subst h0;exact cY (λ_=>rfl) rfl
  by_cases h5:k=5
  ·subst h5;exact cY (λ_=>rfl) rfl
  by_cases h7:k=7
  ·subst h7;exact cY (λ_=>rfl) rfl
  by_cases h3:k=3
  ·subst h3;exact cY (λ_=>rfl) rfl
  by_cases h6:k=6
  ·subst h6;exact cY (λ_=>rfl) rfl
  by_cases h4:k=4
  ·subst h4;exact cY (λ_=>rfl) rfl
  have e0:(k==(0:Int))=false:=by simpa using h0
  have e3:(k==(3:Int))=false:=by simpa using h3
  have e4:(k==(4:Int))=false:=by simpa using h4
  have e5:(k==(5:Int))=false:=by simpa using h5
  have e6:(k==(6:Int))=false:=by simpa using h6
  have e7:(k==(7:Int))=false:=by simpa using h7
  refine cY (a:=some (ii bz (false,()))) (λ_=>?_) ?_
  ·show n_ (bif (k==(0:Int))then some (((k==(0:Int)),()))else bif (k==(5:Int))then some (((k==(5:Int)),()))else some (((k==(7:Int)),()))) (λv6=>bif v6.1 then aW bz (true,())else n_ (bif (k==(3:Int))then some (((k==(3:Int)),()))else some (((k==(6:Int)),()))) λv7=>bif v7.1 then aW bz (qZ ks,())else bif (k==(4:Int))then aW bz (vn ks,())else aW bz (false,()))=_
   rw[e0,e5,e7,e3,e6,e4];rfl
  ·rw[e0,e5,e7,e3,e6,e4];rfl
def cL(l:List Nat):List Int:=l.map fun(k:Nat)=>(k:Int)
theorem Jx(a b:List Nat):cL (a++b)=cL a++cL b:=p_
theorem bQ(l:List Nat):(cL l).length=l.length:=q_ _
theorem vO{l:List Nat}{i:Nat}(h:i<l.length):(cL l)[i]'(by rw[bQ];exact h)=(l[i]:Int):=by simp[cL]
theorem FY{a:List Nat}{i:Nat}(h:i<a.length)(b:List Nat):cg (a.take (i+1)) b=cg (a.take i) b++cg [a[i]] b:=by
 unfold cg
 rw[h_,a_ h,ay_];rfl
theorem GP:∀(r:Rx),sz r<=1000000->aU tbl jB [.d .rx r] [] g8 ((cnt r:Int),()):=by
 refine f8 λk lo up ks ih hs=>?_
 obtain⟨hlen,hkid⟩:=wR hs
 refine aZ rfl (aV HQ rfl (λO m=>H5 O m (.mk k lo up ks)) ?_)
 unfold yd
 have hb:cnt (.mk k lo up ks)<=1000000:=E_ (E0 _) hs
 simp only[cnt]at hb
 have hc:∀i,cd (ks.take i)<=cd ks:=λi=>by
  have:cd ks=cd (ks.take i)+cd (ks.drop i):=by rw[<-qc,ag_]
  omega
 have h0:∀n:Nat,(n_ (n_ (bif (k==(1:Int))then some true else some (k==(2:Int))) λv=>bif v then some (((1:Int),()):Int×Unit)else some ((0:Int),())) fun(v:Int×Unit)=>some v)=some (((bif k==1||k==2 then 1 else 0:Nat):Int),()):=λ_=>by
  cases(k==(1:Int))<;>cases(k==(2:Int))<;>rfl
 have h0':(n_ (bif (k==(1:Int))then some true else some (k==(2:Int))) λv=>bif v then some (((1:Int),()):Int×Unit)else some ((0:Int),()))=some (((bif k==1||k==2 then 1 else 0:Nat):Int),()):=by
  cases(k==(1:Int))<;>cases(k==(2:Int))<;>rfl
 refine ae (cY (a:=(((bif k==1||k==2 then 1 else 0:Nat):Int),())) (λ_=>h0') ?_)
 refine ae (aS (N:=ks.length) (I:=λi s=>s=((((bif k==1||k==2 then 1 else 0)+cd (ks.take i):Nat):Int),(i:Int),())) (by simp[cd]) (λi s hi hs=>?_) λs hs=>?_)
 ·subst hs
  unfold oq
  refine bT hi (aB hi ?_)
  rw[f7]
  have hr:=b_ hi
  refine au (ih ks[i] hr (by have:=hkid _ hr;omega)) (aa ?_)
  have e2:cd (ks.take (i+1))=cd (ks.take i)+cnt ks[i]:=by
   rw[h_,a_ hi,qc];simp[cd]
  have:=hc (i+1)
  refine aj_ ?_ (aj_ (an hi (by omega)) rfl)
  show u_ .i64 ((((bif k==1||k==2 then 1 else 0)+cd (ks.take i):Nat):Int)+(cnt ks[i]:Int))=_
  rw[wrap_i64 (by omega) (by omega),e2]
  omega
 ·subst hs
  unfold oq
  refine br (aa (aa ?_))
  rw[g_]
  rfl
structure FolR(n:Nat)(F:List (List Int))(P:List (Nat×Nat)):Prop where
 len:F.length=n
 nd:∀l∈F,l.Nodup
 bd:∀l∈F,∀x∈l,0<=x/\x<(n:Int)
 mem:∀p (h:p<F.length) (q:Nat),(q:Int)∈F[p]↔(p,q)∈P
theorem FolR.congr{n:Nat}{F:List (List Int)}{P P':List (Nat×Nat)}(h:FolR n F P)(e:∀x,x∈P↔x∈P'):FolR n F P':=⟨h.len,h.nd,h.bd,λp hp q=>(h.mem p hp q).trans (e _)⟩
theorem FolR.len1{n:Nat}{F:List (List Int)}{P:List (Nat×Nat)}(h:FolR n F P){p:Nat}(hp:p<F.length):F[p].length<=n:=by
 have h1:=kG F[p] ((e_ n).map fun(k:Nat)=>(k:Int)) (h.nd _ (b_ hp)) λx hx=>by
  have:=h.bd _ (b_ hp) x hx
  exact y_.2 ⟨x.toNat,j_.2 (by omega),by omega⟩
 simpa using h1
theorem FolR.add{n:Nat}{F:List (List Int)}{P:List (Nat×Nat)}(h:FolR n F P){p q:Nat}(hp:p<F.length)(hq:q<n)(hn:(q:Int)∉F[p]):FolR n (F.set p (F[p]++[(q:Int)])) (P++[(p,q)]):=by
 have hmem:∀l∈F.set p (F[p]++[(q:Int)]),l∈F\/l=F[p]++[(q:Int)]:=λl hl=>by
  rcases List.mem_or_eq_of_mem_set hl with h|h
  ·exact .inl h
  ·exact .inr h
 refine⟨by rw[bD_,h.len],λl hl=>?_,λl hl x hx=>?_,λp' hp' q'=>?_⟩
 ·rcases hmem l hl with h1|rfl
  ·exact h.nd l h1
  ·exact aY_.2 ⟨h.nd _ (b_ hp),by simp,λa ha b hb=>by simp at hb;subst hb;rintro rfl;exact hn ha⟩
 ·rcases hmem l hl with h1|rfl
  ·exact h.bd l h1 x hx
  ·rcases d_.1 hx with h2|h2
   ·exact h.bd _ (b_ hp) x h2
   ·simp at h2;subst h2;omega
 ·have hp'':p'<F.length:=by simpa using hp'
  rw[ab_]
  split
  ·rename_i e
   subst e
   simp only[d_,o_,h.mem p hp,bI_.injEq,true_and]
   constructor
   ·rintro(h1|h1)
    ·exact .inl h1
    ·exact .inr (by omega)
   ·rintro(h1|h1)
    ·exact .inl h1
    ·exact .inr (by omega)
  ·rename_i e
   simp only[d_,o_,h.mem p' hp'',bI_.injEq]
   constructor
   ·exact .inl
   ·rintro(h1|h1)
    ·exact h1
    ·exact absurd h1.1.symm e
theorem zy{n:Nat}{F:List (List Int)}{P:List (Nat×Nat)}(hF:FolR n F P)(sp:List (Int×(Int×Unit))){la fi:List Nat}(hla:∀p∈la,p<n)(hfi:∀q∈fi,q<n)(h1:la.length<=1000000)(h2:fi.length<=1000000)(hn:n<=1000000):
 ∃F',FolR n F' (P++cg la fi)/\aU tbl b5 [.ptr 0 0,.d (.list tI) (cL la),.d (.list tI) (cL fi)] [.box bi [.sl 1,.sl 2],.vec bH (pr [tI,tI]) sp,.tree fx (.s 3 1 .e .e) (.list tI) F none] bF (sp,F',()):=by
 suffices h:∃c:List (Int×(Int×Unit))×List (List Int)×Unit,(∃F',c=(sp,F',())/\FolR n F' (P++cg la fi))/\aU tbl b5 [.ptr 0 0,.d (.list tI) (cL la),.d (.list tI) (cL fi)] [.box bi [.sl 1,.sl 2],.vec bH (pr [tI,tI]) sp,.tree fx (.s 3 1 .e .e) (.list tI) F none] bF c by
  obtain⟨c,⟨F',rfl,hF'⟩,hc⟩:=h
  exact⟨F',hF',hc⟩
 refine lz (sh:=bF) (λ_=>rfl) (aV qN rfl (λO m=>qS O m (cL la) (cL fi) sp F) ?_)
 unfold iE
 refine ae (aS (N:=(cL la).length) (I:=λi s=>∃F',s=((i:Int),sp,F',())/\FolR n F' (P++cg (la.take i) fi)) ⟨F,rfl,hF.congr λx=>by simp[cg]⟩ ?_ ?_)
 ·rintro i s hi ⟨F1,rfl,hF1⟩
  have hi':i<la.length:=by rw[bQ]at hi;exact hi
  unfold ej
  refine bT hi (aB hi ?_)
  rw[vO hi']
  have hp:la[i]<n:=hla _ (b_ hi')
  have hpI:la[i]<n:=hp
  refine ae (aS (N:=(cL fi).length) (I:=λj s=>∃F',s=((j:Int),sp,F',())/\FolR n F' (P++cg (la.take i) fi++cg [la[i]] (fi.take j))) ⟨F1,rfl,hF1.congr λx=>by simp[cg]⟩ ?_ ?_)
  ·rintro j s hj ⟨F2,rfl,hF2⟩
   have hj':j<fi.length:=by rw[bQ]at hj;exact hj
   have hq:fi[j]<n:=hfi _ (b_ hj')
   have hpF:la[i]<F2.length:=by rw[hF2.len];exact hp
   unfold ei
   refine bT hj (ae (aB hj ?_))
   rw[vO hj']
   refine aB hpF (ao (decide_eq_true (by omega)) ?_)
   refine bm (x:=F2[la[i]]) (by simp[a_ hpF]) (bm (x:=F2[la[i]]) (by simp[a_ hpF]) (ao (aR_ _) ?_))
   refine ae (aS (N:=F2[la[i]].length) (I:=λm s=>s=((F2[la[i]].take m).any (·==((fi[j]:Nat):Int)),(m:Int),sp,(F2,((la[i]:Nat):Int)),F2[la[i]],())) (by simp) ?_ ?_)
   ·rintro m s hm rfl
    have hl:=hF2.len1 hpF
    unfold ee
    refine bT hm (aB hm (bm (x:=F2[la[i]][m]) (by simp[a_ hm]) ?_))
    refine ae (dw (b:=(F2[la[i]][m]==((fi[j]:Nat):Int))) (λ_=>aa rfl) (aa ?_))
    rw[an hm (by omega),h_,a_ hm,aA_]
    simp
   ·rintro s rfl
    unfold ee
    refine br (aa ?_)
    rw[g_]
    have hset:F2.set la[i] F2[la[i]]=F2:=List.set_getElem_self hpF
    have hget:F2[la[i]]? =some F2[la[i]]:=a_ hpF
    have e1:(D_ ((la[i]:Nat):Int))=la[i]:=by omega
    simp only[e1,c_,hset]
    refine bm (x:=F2[la[i]]) hget ?_
    have hl:=hF2.len1 hpF
    have hstep:∀F3,FolR n F3 (P++cg (la.take i) fi++cg [la[i]] (fi.take j)++[(la[i],fi[j])])->FolR n F3 (P++cg (la.take i) fi++cg [la[i]] (fi.take (j+1))):=λF3 h3=>h3.congr λx=>by
     rw[h_,a_ hj']
     simp only[cg,ai_,bz_,ah_,p_,C_,O_,W_,r_]
    refine aJ (λh=>?_) λh=>aa (aa ⟨F2,?_,hstep F2 ?_⟩)
    ·have hnm:((fi[j]:Nat):Int)∉F2[la[i]]:=λhm=>by
      have:F2[la[i]].any (·==((fi[j]:Nat):Int))=true:=M_.2 ⟨_,hm,by simp⟩
      rw[this]at h;cases h
     refine ao (decide_eq_true (by omega)) (bm (x:=F2[la[i]]) hget (aB hpF (bm (x:=F2[la[i]]) hget (ao (aR_ _) ?_))))
     refine ao (decide_eq_true (by simp;omega)) (aB hpF (bm (x:=F2[la[i]]) hget (ao (aR_ _) (bm (x:=F2[la[i]]) hget (aa (aa ⟨_,?_,hstep _ (hF2.add hpF hq hnm)⟩))))))
     rw[an hj (by rw[bQ];omega)]
    ·rw[an hj (by rw[bQ];omega)]
    ·refine hF2.congr λx=>?_
     have hm:((fi[j]:Nat):Int)∈F2[la[i]]:=by
      have:F2[la[i]].any (·==((fi[j]:Nat):Int))=true:=by simpa using h
      obtain⟨y,hy,he⟩:=M_.1 this
      have he:y=((fi[j]:Nat):Int):=by simpa using he
      rw[<-he];exact hy
     have:=(hF2.mem _ hpF fi[j]).1 hm
     simp only[d_,o_]at this⊢
     constructor
     ·exact .inl
     ·rintro(h1|rfl)
      ·exact h1
      ·exact this
  ·rintro s ⟨F2,rfl,hF2⟩
   unfold ei
   refine br (aa (aa ⟨F2,?_,hF2.congr λx=>?_⟩))
   ·rw[an hi (by rw[bQ];omega)]
   ·rw[bQ,g_,FY hi',r_]
 ·rintro s ⟨F1,rfl,hF1⟩
  unfold ej
  refine br (aa (aa ⟨_,rfl,F1,rfl,hF1.congr λx=>?_⟩))
  rw[bQ,g_]
def nj(l:List (Int×Int)):List (Int×(Int×Unit)):=l.map λp=>(p.1,p.2,())
theorem Qt(a b:List (Int×Int)):nj (a++b)=nj a++nj b:=p_
theorem pM(l:List (Int×Int)):(nj l).length=l.length:=q_ _
theorem FolR.one{n:Nat}{F:List (List Int)}{P:List (Nat×Nat)}(h:FolR n F P)(hP:∀p q,(p,q)∈P->p<n):FolR (n+1) (F++[[]]) P:=by
 refine⟨by simp[h.len],λl hl=>?_,λl hl x hx=>?_,λp hp q=>?_⟩
 ·rcases d_.1 hl with h1|h1
  ·exact h.nd l h1
  ·simp at h1;subst h1;simp
 ·rcases d_.1 hl with h1|h1
  ·have:=h.bd l h1 x hx;omega
  ·simp at h1;subst h1;cases hx
 ·by_cases hpl:p<F.length
  ·rw[List.getElem_append_left hpl];exact h.mem p hpl q
  ·have:p=F.length:=by simp at hp;omega
   subst this
   simp only[List.getElem_concat_length,bB_,false_iff]
   intro hm
   have:=hP _ _ hm
   have:=h.len
   omega
theorem Ji:∀(r:Rx),cO r=true->sz r<=1000000->∀(sp:List (Int×(Int×Unit))) (F:List (List Int)) (P:List (Nat×Nat)),FolR sp.length F P->(∀p q,(p,q)∈P->p<sp.length)->sp.length+cnt r<=1000000->
 ∃F',FolR (sp.length+(bR r sp.length).sp.length) F' (P++(bR r sp.length).pr)/\
  aU tbl bP [.ptr 0 0,.d .rx r] [.box bi [.sl 1,.sl 2],.vec bH (pr [tI,tI]) sp,.tree fx (.s 3 1 .e .e) (.list tI) F none] bn
   (cL (bR r sp.length).fi,cL (bR r sp.length).la,sp++nj (bR r sp.length).sp,F',()):=by
 refine f8 λk lo up ks ih hw hs sp F P hF hP hM=>?_
 obtain⟨hlen,hkid⟩:=wR hs
 obtain⟨hn,hks⟩:=well_iff.1 hw
 have hgw:=dE _ hw sp.length
 have hgl:=fC (.mk k lo up ks) sp.length
 have hcs:cd ks<=cnt (.mk k lo up ks):=by simp only[cnt];omega
 suffices h:∃c:List Int×List Int×List (Int×(Int×Unit))×List (List Int)×Unit,(∃F',c=(cL (bR (.mk k lo up ks) sp.length).fi,cL (bR (.mk k lo up ks) sp.length).la,sp++nj (bR (.mk k lo up ks) sp.length).sp,F',())/\FolR (sp.length+(bR (.mk k lo up ks) sp.length).sp.length) F' (P++(bR (.mk k lo up ks) sp.length).pr))/\
  aU tbl bP [.ptr 0 0,.d .rx (.mk k lo up ks)] [.box bi [.sl 1,.sl 2],.vec bH (pr [tI,tI]) sp,.tree fx (.s 3 1 .e .e) (.list tI) F none] bn c by
  obtain⟨c,⟨F',rfl,hF'⟩,hc⟩:=h
  exact⟨F',hF',hc⟩
 refine lz (sh:=bn) (λ_=>rfl) (aV q6 rfl (λO m=>q7 O m (.mk k lo up ks) sp F) ?_)
 unfold jd
 by_cases h12:k=1\/k=2
 ·have hleaf:∀lo' up',bR (.mk k lo up ks) sp.length=Ix sp.length lo' up'->Wp (λ_=>(aw (decide ((sp.length+(([(lo',up',())]:List (Int×(Int×Unit)))).length)*16<=140737488355328)) (aw (decide ((F.length+(([([]:List Int)]:List (List Int))).length)*24<=140737488355328)) (
   some ((.inr ((([u_ .i64 (((sp++(([(lo',up',())]:List (Int×(Int×Unit))))).length:Int) - (1:Int))]:List Int),([u_ .i64 (((sp++(([(lo',up',())]:List (Int×(Int×Unit))))).length:Int) - (1:Int))]:List Int),sp++(([(lo',up',())]:List (Int×(Int×Unit)))),F++(([([]:List Int)]:List (List Int))),()))):(List (Int×(Int×Unit))×List (List Int)×List Int×List Int×Unit)⊕(List Int×List Int×List (Int×(Int×Unit))×List (List Int)×Unit))))))
   λr=>∃F',r= .inr (cL (bR (.mk k lo up ks) sp.length).fi,cL (bR (.mk k lo up ks) sp.length).la,sp++nj (bR (.mk k lo up ks) sp.length).sp,F',())/\FolR (sp.length+(bR (.mk k lo up ks) sp.length).sp.length) F' (P++(bR (.mk k lo up ks) sp.length).pr):=λlo' up' he=>by
   have hfl:=hF.len
   refine ao (decide_eq_true (by simp;omega)) (ao (decide_eq_true (by simp;omega)) (aa ⟨F++[[]],?_,?_⟩))
   ·rw[he]
    simp only[m_,K_]
    rw[wrap_i64 (by omega) (by omega),show((sp.length+1:Nat):Int) - 1=(sp.length:Int) by omega]
    rfl
   ·rw[he]
    simp only[Ix,K_,ah_]
    exact hF.one hP
  rcases h12 with rfl|rfl
  ·refine ae (Wp.imp (hleaf lo up (by simp[bR])) λr hr=>?_)
   obtain⟨F',rfl,hF'⟩:=hr
   exact aa ⟨_,rfl,F',rfl,hF'⟩
  ·have hz:=hn.zero (by decide)
   refine ae (Wp.imp (hleaf lo 4294967295 (by rw[hz.1];simp[bR])) λr hr=>?_)
   obtain⟨F',rfl,hF'⟩:=hr
   exact aa ⟨_,rfl,F',rfl,hF'⟩
 have h1:k≠1:=λe=>h12 (.inl e)
 have h2:k≠2:=λe=>h12 (.inr e)
 have e1:(k==(1:Int))=false:=by simpa using h1
 have e2:(k==(2:Int))=false:=by simpa using h2
 have key:∀(g:G),g.sp.length<=cnt (.mk k lo up ks)->Lie sp.length g->g.fi.length<=1000000/\g.la.length<=1000000:=λg h hl=>by
  have:=hl.fl;have:=hl.ll;omega
 have hPx:∀(g:G),Lie sp.length g->∀p q,(p,q)∈P++g.pr->p<sp.length+g.sp.length:=λg hl p q h=>by
  rcases d_.1 h with h|h
  ·have:=hP p q h;omega
  ·have:=hl.pr p q h;omega
 have htk:∀i,cd (ks.take i)<=cd ks:=λi=>by
  have:cd ks=cd (ks.take i)+cd (ks.drop i):=by rw[<-qc,ag_]
  omega
 have htk1:∀i (h:i<ks.length),cd (ks.take i)+cnt ks[i]<=cd ks:=λi h=>by
  have e:cd (ks.take (i+1))=cd (ks.take i)+cnt ks[i]:=by
   rw[h_,a_ h,qc];simp[cd]
  have:=htk (i+1);omega
 have Vp:∀i,Lie sp.length (cT (ks.take i) sp.length (Pl.g0 true))/\(cT (ks.take i) sp.length (Pl.g0 true)).sp.length=cd (ks.take i)/\(cT (ks.take i) sp.length (Pl.g0 true)).em=qZ (ks.take i):=λi=>by
  have hl:=fC (.mk 3 0 0 (ks.take i)) sp.length
  have e:bR (.mk 3 0 0 (ks.take i)) sp.length=cT (ks.take i) sp.length (Pl.g0 true):=by simp[bR]
  rw[e]at hl
  refine⟨hl,?_⟩
  have:∀(l:List Rx) (a:G),(∀r∈l,r∈ks)->(cT l sp.length a).sp.length=a.sp.length+cd l/\(cT l sp.length a).em=(a.em&&qZ l):=by
   intro l
   induction l with
   |nil=>intro a _;simp[cT,cd,qZ]
   |cons r l ihl=>
    intro a hl
    have hr:=hl r (w_ ..)
    obtain⟨g1,g2⟩:=dE r (hks r hr) (sp.length+a.sp.length)
    obtain⟨g3,g4⟩:=ihl (gT a (bR r (sp.length+a.sp.length))) λx hx=>hl x (s_ _ hx)
    simp only[cT,g3,g4,cd,qZ]
    simp only[gT,m_,g1,g2,bi_]
    exact⟨by omega,trivial⟩
  have:=this (ks.take i) (Pl.g0 true) λr hr=>B_ hr
  simpa[Pl.g0]using this
 have Tp:∀i,Lie sp.length (b7 (ks.take i) sp.length (Pl.g0 false))/\(b7 (ks.take i) sp.length (Pl.g0 false)).sp.length=cd (ks.take i):=λi=>by
  have hl:=fC (.mk 4 0 0 (ks.take i)) sp.length
  have e:bR (.mk 4 0 0 (ks.take i)) sp.length=b7 (ks.take i) sp.length (Pl.g0 false):=by simp[bR]
  rw[e]at hl
  refine⟨hl,?_⟩
  have:∀(l:List Rx) (a:G),(∀r∈l,r∈ks)->(b7 l sp.length a).sp.length=a.sp.length+cd l:=by
   intro l
   induction l with
   |nil=>intro a _;simp[b7,cd]
   |cons r l ihl=>
    intro a hl
    have hr:=hl r (w_ ..)
    obtain⟨g1,g2⟩:=dE r (hks r hr) (sp.length+a.sp.length)
    have g3:=ihl (tL a (bR r (sp.length+a.sp.length))) λx hx=>hl x (s_ _ hx)
    simp only[b7,g3,cd]
    simp only[tL,m_,g1]
    omega
  have:=this (ks.take i) (Pl.g0 false) λr hr=>B_ hr
  simpa[Pl.g0]using this
 refine ae (ae (cY (a:=(false,sp,F,())) (λ_=>?_) ?_))
 ·show(bif (k==(1:Int))then some ((k==(1:Int)),sp,F,())else some ((k==(2:Int)),sp,F,()))=_
  rw[e1,e2];rfl
 show Wp (λn=>bif (k==(3:Int))then _ else _) _
 by_cases h3:k=3
 ·subst h3
  have eg:bR (.mk 3 lo up ks) sp.length=cT ks sp.length (Pl.g0 true):=by simp[bR]
  show Wp (λn=>n_ (aK n (cZ (kS tbl n) n (.mk 3 lo up ks)) (true,(0:Int),sp,F,([]:List Int),([]:List Int),())) _) _
  refine ae (aS (N:=ks.length) (I:=λi s=>∃F',s=((cT (ks.take i) sp.length (Pl.g0 true)).em,(i:Int),sp++nj (cT (ks.take i) sp.length (Pl.g0 true)).sp,F',cL (cT (ks.take i) sp.length (Pl.g0 true)).fi,cL (cT (ks.take i) sp.length (Pl.g0 true)).la,())/\FolR (sp.length+(cT (ks.take i) sp.length (Pl.g0 true)).sp.length) F' (P++(cT (ks.take i) sp.length (Pl.g0 true)).pr)) ⟨F,by simp[cT,Pl.g0,nj,cL],by simpa[cT,Pl.g0]using hF⟩ ?_ ?_)
  ·rintro i s hi ⟨F1,rfl,hF1⟩
   obtain⟨l1,l2,l3⟩:=Vp i
   rw[B3 hi]
   have hsp1:(sp++nj (cT (ks.take i) sp.length (Pl.g0 true)).sp).length=sp.length+(cT (ks.take i) sp.length (Pl.g0 true)).sp.length:=by rw[m_,pM]
   have hkk:=key _ (by rw[l2];have:=htk i;omega) l1
   generalize cT (ks.take i) sp.length (Pl.g0 true)=a at*
   have hr:=b_ hi
   obtain⟨w1,w2⟩:=dE ks[i] (hks _ hr) (sp.length+a.sp.length)
   have hlx:=fC ks[i] (sp.length+a.sp.length)
   unfold cZ
   refine bT hi (aB hi ?_)
   rw[f7]
   have hsz:=hkid _ hr
   have hcn:=htk1 i hi
   obtain⟨F2,hF2,hc⟩:=ih ks[i] hr (hks _ hr) (by omega) (sp++nj a.sp) F1 (P++a.pr) (by rw[hsp1];exact hF1) (by rw[hsp1];exact hPx a l1) (by rw[hsp1];omega)
   rw[hsp1]at hF2 hc
   generalize bR ks[i] (sp.length+a.sp.length)=x at*
   refine au hc (au (sL ks[i] (by omega)) ?_)
   have hfx:=hlx.fl
   have hllx:=hlx.ll
   obtain⟨F3,hF3,hc3⟩:=zy hF2 (sp++nj a.sp++nj x.sp) (la:=a.la) (fi:=x.fi) (λp hp=>by have:=l1.la p hp;omega) (λq hq=>by have:=hlx.fi q hq;omega) (by omega) (by omega) (by omega)
   refine au hc3 ?_
   have hF3':FolR (sp.length+(gT a x).sp.length) F3 (P++(gT a x).pr):=by
    simp only[gT,m_]
    rw[<-aZ_]
    exact hF3.congr λy=>by simp only[r_]
   have hfin:∀b:Bool,a.em=b->∀b2:Bool,x.em=b2->((b&&b2,((i+1:Nat):Int),sp++nj a.sp++nj x.sp,F3,(bif b then cL a.fi++cL x.fi else cL a.fi),(bif b2 then cL a.la else [])++cL x.la,()):Bool×Int×List (Int×(Int×Unit))×List (List Int)×List Int×List Int×Unit)=((gT a x).em,((i+1:Nat):Int),sp++nj (gT a x).sp,F3,cL (gT a x).fi,cL (gT a x).la,()):=λb hb b2 hb2=>by
    simp only[gT,hb,hb2,Qt,r_]
    cases b<;>cases b2<;>simp[Jx,cL]
   rw[<-w2]
   show Wp (λn=>n_ (bif a.em then _ else _) _) _
   cases hb:a.em
   ·refine ae (aa (ae (aa ?_)))
    cases hb2:x.em
    ·refine ae (aa (ao (decide_eq_true (by simp only[bQ,G_];omega)) (aa ⟨F3,?_,hF3'⟩)))
     rw[an hi (by omega)];exact hfin false hb false hb2
    ·refine ae (aa (ao (decide_eq_true (by simp only[bQ];omega)) (aa ⟨F3,?_,hF3'⟩)))
     rw[an hi (by omega)];exact hfin false hb true hb2
   ·refine ae (ao (decide_eq_true (by simp only[bQ];omega)) (aa (ae (aa ?_))))
    cases hb2:x.em
    ·refine ae (aa (ao (decide_eq_true (by simp only[bQ,G_];omega)) (aa ⟨F3,?_,hF3'⟩)))
     rw[an hi (by omega)];exact hfin true hb false hb2
    ·refine ae (aa (ao (decide_eq_true (by simp only[bQ];omega)) (aa ⟨F3,?_,hF3'⟩)))
     rw[an hi (by omega)];exact hfin true hb true hb2
  ·rintro s ⟨F1,rfl,hF1⟩
   unfold cZ
   rw[g_]at hF1⊢
   refine br (aa (aa (aa ⟨_,rfl,F1,?_,by rw[eg];exact hF1⟩)))
   rw[eg]
 ·have e3:(k==(3:Int))=false:=by simpa using h3
  rw[e3]
  show Wp (λn=>n_ (aK n (c8 (kS tbl n) n (.mk k lo up ks)) ((0:Int),sp,F,([]:List Int),([]:List Int),())) _) _
  refine ae (aS (N:=ks.length) (I:=λi s=>∃F',s=((i:Int),sp++nj (b7 (ks.take i) sp.length (Pl.g0 false)).sp,F',cL (b7 (ks.take i) sp.length (Pl.g0 false)).fi,cL (b7 (ks.take i) sp.length (Pl.g0 false)).la,())/\FolR (sp.length+(b7 (ks.take i) sp.length (Pl.g0 false)).sp.length) F' (P++(b7 (ks.take i) sp.length (Pl.g0 false)).pr)) ⟨F,by simp[b7,Pl.g0,nj,cL],by simpa[b7,Pl.g0]using hF⟩ ?_ ?_)
  ·rintro i s hi ⟨F1,rfl,hF1⟩
   obtain⟨l1,l2⟩:=Tp i
   rw[B2 hi]
   have hsp1:(sp++nj (b7 (ks.take i) sp.length (Pl.g0 false)).sp).length=sp.length+(b7 (ks.take i) sp.length (Pl.g0 false)).sp.length:=by rw[m_,pM]
   have hkk:=key _ (by rw[l2];have:=htk i;omega) l1
   generalize b7 (ks.take i) sp.length (Pl.g0 false)=a at*
   have hr:=b_ hi
   obtain⟨w1,w2⟩:=dE ks[i] (hks _ hr) (sp.length+a.sp.length)
   have hlx:=fC ks[i] (sp.length+a.sp.length)
   unfold c8
   refine bT hi (aB hi ?_)
   rw[f7]
   have hsz:=hkid _ hr
   have hcn:=htk1 i hi
   obtain⟨F2,hF2,hc⟩:=ih ks[i] hr (hks _ hr) (by omega) (sp++nj a.sp) F1 (P++a.pr) (by rw[hsp1];exact hF1) (by rw[hsp1];exact hPx a l1) (by rw[hsp1];omega)
   rw[hsp1]at hF2 hc
   generalize bR ks[i] (sp.length+a.sp.length)=x at*
   have hfx:=hlx.fl
   have hllx:=hlx.ll
   refine au hc (ao (decide_eq_true (by simp only[bQ];omega)) (ao (decide_eq_true (by simp only[bQ];omega)) (aa ⟨F2,?_,?_⟩)))
   ·rw[an hi (by omega)]
    simp only[tL,Qt,Jx,r_]
   ·simp only[tL,m_]
    rw[<-aZ_]
    exact hF2.congr λy=>by simp only[r_]
  ·rintro s ⟨F1,rfl,hF1⟩
   unfold c8
   obtain⟨l1,l2⟩:=Tp ks.length
   rw[g_]at hF1 l1 l2⊢
   have hkk:=key _ (by rw[l2];omega) l1
   refine br (aa ?_)
   have hloop:∀(hk:bR (.mk k lo up ks) sp.length=jH (b7 ks sp.length (Pl.g0 false))\/bR (.mk k lo up ks) sp.length=Ir (jH (b7 ks sp.length (Pl.g0 false)))),(bR (.mk k lo up ks) sp.length).fi=(b7 ks sp.length (Pl.g0 false)).fi/\(bR (.mk k lo up ks) sp.length).la=(b7 ks sp.length (Pl.g0 false)).la/\(bR (.mk k lo up ks) sp.length).sp=(b7 ks sp.length (Pl.g0 false)).sp/\(bR (.mk k lo up ks) sp.length).pr=(b7 ks sp.length (Pl.g0 false)).pr++cg (b7 ks sp.length (Pl.g0 false)).la (b7 ks sp.length (Pl.g0 false)).fi:=λhk=>by
    rcases hk with h|h<;>rw[h]<;>exact⟨rfl,rfl,rfl,rfl⟩
   have hflat:∀(hk:bR (.mk k lo up ks) sp.length=b7 ks sp.length (Pl.g0 false)\/bR (.mk k lo up ks) sp.length=Ir (b7 ks sp.length (Pl.g0 false))),(bR (.mk k lo up ks) sp.length).fi=(b7 ks sp.length (Pl.g0 false)).fi/\(bR (.mk k lo up ks) sp.length).la=(b7 ks sp.length (Pl.g0 false)).la/\(bR (.mk k lo up ks) sp.length).sp=(b7 ks sp.length (Pl.g0 false)).sp/\(bR (.mk k lo up ks) sp.length).pr=(b7 ks sp.length (Pl.g0 false)).pr:=λhk=>by
    rcases hk with h|h<;>rw[h]<;>exact⟨rfl,rfl,rfl,rfl⟩
   by_cases h56:k=5\/k=6
   ·have hb:(bif (k==(5:Int))then some true else some (k==(6:Int)))=some true:=by
     rcases h56 with rfl|rfl<;>rfl
    refine ae (cY (a:=true) (λ_=>hb) ?_)
    obtain⟨q1,q2,q3,q4⟩:=hloop (by
     rcases h56 with rfl|rfl
     ·exact .inr (by simp[bR])
     ·exact .inl (by simp[bR]))
    obtain⟨F2,hF2,hc2⟩:=zy hF1 (sp++nj (b7 ks sp.length (Pl.g0 false)).sp) (la:=(b7 ks sp.length (Pl.g0 false)).la) (fi:=(b7 ks sp.length (Pl.g0 false)).fi) (λp hp=>by have:=l1.la p hp;omega) (λq hq=>by have:=l1.fi q hq;omega) hkk.2 hkk.1 (by omega)
    refine au hc2 (aa (aa ⟨_,rfl,F2,?_,?_⟩))
    ·rw[q1,q2,q3]
    ·rw[q3,q4,<-r_];exact hF2
   ·have h5:k≠5:=λe=>h56 (.inl e)
    have h6:k≠6:=λe=>h56 (.inr e)
    have hb:(bif (k==(5:Int))then some true else some (k==(6:Int)))=some false:=by
     rw[show(k==(5:Int))=false by simpa using h5,show(k==(6:Int))=false by simpa using h6];rfl
    refine ae (cY (a:=false) (λ_=>hb) ?_)
    obtain⟨q1,q2,q3,q4⟩:=hflat (by
     rcases hn.known with rfl|rfl|rfl|rfl|rfl|rfl|rfl|rfl
     ·have:=len_nil (hn.leaf (by simp));subst this
      exact .inr (by simp[bR,b7,Pl.g0,Ir])
     ·exact absurd rfl h1
     ·exact absurd rfl h2
     ·exact absurd rfl h3
     ·exact .inl (by simp[bR])
     ·exact absurd rfl h5
     ·exact absurd rfl h6
     ·exact .inr (by simp[bR]))
    refine aa (aa ⟨_,rfl,F1,?_,?_⟩)
    ·rw[q1,q2,q3]
    ·rw[q3,q4];exact hF1
def eZ(M:Nat)(P:List (Nat×Nat)):List (List Bool):=(e_ M).map λi=>(e_ M).map λk=>decide ((i,k)∈P)
theorem FN(M:Nat)(P:List (Nat×Nat)):(eZ M P).length=M:=by simp[eZ]
theorem AP{M:Nat}{P:List (Nat×Nat)}{i:Nat}(h:i<(eZ M P).length):(eZ M P)[i]=(e_ M).map λk=>decide ((i,k)∈P):=by simp[eZ]
theorem Tx{M:Nat}{P:List (Nat×Nat)}{i k:Nat}(hi:i<M)(hk:k<M):(eZ M P).set i (((e_ M).map λk=>decide ((i,k)∈P)).set k true)=eZ M (P++[(i,k)]):=by
 refine x_ (by simp[eZ]) λa h1 h2=>?_
 simp only[ab_,AP,bD_]at h1⊢
 split
 ·rename_i e
  subst e
  refine x_ (by simp) λb h3 h4=>?_
  simp only[ab_,aa_,ad_,d_,o_,bI_.injEq,true_and]
  by_cases hb:k=b
  ·subst hb;simp
  ·rw[if_neg hb]
   refine decide_eq_decide.2 ⟨.inl,λh=>?_⟩
   rcases h with h|h
   ·exact h
   ·exact absurd h.symm hb
 ·rename_i e
  refine al_ λb _=>decide_eq_decide.2 ?_
  simp only[d_,o_,bI_.injEq]
  constructor
  ·exact .inl
  ·rintro(h|⟨h,_⟩)
   ·exact h
   ·exact absurd h.symm e
theorem gz(a b:List Int)(ha:a.length<=1000000)(hb:b.length<=1000000):aU tbl gA [.d (.list tI) a,.d (.list tI) b] [] fG (a++b,()):=by
 refine aZ rfl (aV Ky rfl (λO m=>KG O m a b) ?_)
 unfold zB
 refine ao (decide_eq_true (by simp;omega)) (ao (decide_eq_true (by simp;omega)) (aa ?_))
 simp
theorem pV(x y:Int)(lo hi:List Int)(F:List (List Bool))(h1:lo.length<=1000000)(h2:hi.length<=1000000):aU tbl dm [.ptr 0 0,.d tI x,.d tI y] [.box aY [.sl 1,.sl 2,.sl 3],.vec aP tI lo,.vec aP tI hi,.tree cW (.s 4 1 .e .e) (.list tB) F none] cx
 (([(lo.length:Int)],[(lo.length:Int)],false,()),lo++[x],hi++[y],F,()):=by
 refine aZ rfl (aV uu rfl (λO m=>uz O m x y lo hi F) ?_)
 unfold kV
 exact ao (decide_eq_true (by simp;omega)) (ao (decide_eq_true (by simp;omega)) (aa rfl))
theorem jk{M:Nat}(P:List (Nat×Nat))(lo up:List Int){la fi:List Nat}(hla:∀p∈la,p<M)(hfi:∀q∈fi,q<M)(h1:la.length<=1000000)(h2:fi.length<=1000000)(hM:M<=1000000):
 aU tbl cV [.ptr 0 0,.d (.list tI) (cL la),.d (.list tI) (cL fi)] [.box aY [.sl 1,.sl 2,.sl 3],.vec aP tI lo,.vec aP tI up,.tree cW (.s 4 1 .e .e) (.list tB) (eZ M P) none] cq (lo,up,eZ M (P++cg la fi),()):=by
 refine aZ rfl (aV tu rfl (λO m=>tC O m (cL la) (cL fi) lo up (eZ M P)) ?_)
 unfold km
 refine ae (aS (N:=(cL la).length) (I:=λi s=>s=((i:Int),lo,up,eZ M (P++cg (la.take i) fi),())) (by simp[cg]) ?_ ?_)
 ·rintro i s hi' rfl
  have hi:i<la.length:=by rw[bQ]at hi';exact hi'
  have hp:=hla _ (b_ hi)
  unfold fm
  refine bT hi' (aB hi' ?_)
  rw[vO hi]
  refine ae (aS (N:=(cL fi).length) (I:=λj s=>s=((j:Int),lo,up,eZ M (P++cg (la.take i) fi++cg [la[i]] (fi.take j)),())) (by simp[cg]) ?_ ?_)
  ·rintro j s hj' rfl
   have hj:j<fi.length:=by rw[bQ]at hj';exact hj'
   have hq:=hfi _ (b_ hj)
   unfold fk
   refine bT hj' (aB hj' ?_)
   rw[vO hj]
   have hpl:la[i]<(eZ M (P++cg (la.take i) fi++cg [la[i]] (fi.take j))).length:=by rw[FN];exact hp
   have hg:=a_ hpl
   rw[AP]at hg
   refine aB hpl (ao (decide_eq_true (by omega)) ?_)
   simp only[c_]
   refine bm hg (bm hg (ao (aR_ _) ?_))
   have hql:fi[j]<((e_ M).map λk=>decide ((la[i],k)∈P++cg (la.take i) fi++cg [la[i]] (fi.take j))).length:=by simpa using hq
   refine aB hql (bm (a_ hql) (bm hg (aa ?_)))
   rw[an hj' (by rw[bQ];omega),Tx hp hq]
   congr 4
   rw[h_,a_ hj]
   simp only[cg,ai_,bz_,ah_,p_,C_,O_,W_,r_]
  ·rintro s rfl
   unfold fk
   refine br (aa (aa ?_))
   rw[an hi' (by rw[bQ];omega),bQ,g_,FY hi,r_]
 ·rintro s rfl
  unfold fm
  refine br (aa (aa ?_))
  rw[bQ,g_]
theorem Vp{ks:List Rx}(hks:∀r∈ks,cO r=true)(o i:Nat):Lie o (cT (ks.take i) o (Pl.g0 true))/\(cT (ks.take i) o (Pl.g0 true)).sp.length=cd (ks.take i):=by
 have hl:=fC (.mk 3 0 0 (ks.take i)) o
 have e:bR (.mk 3 0 0 (ks.take i)) o=cT (ks.take i) o (Pl.g0 true):=by simp[bR]
 rw[e]at hl
 refine⟨hl,?_⟩
 have:∀(l:List Rx) (a:G),(∀r∈l,r∈ks)->(cT l o a).sp.length=a.sp.length+cd l:=by
  intro l
  induction l with
  |nil=>intro a _;simp[cT,cd]
  |cons r l ihl=>
   intro a hl
   have hr:=hl r (w_ ..)
   obtain⟨g1,g2⟩:=dE r (hks r hr) (o+a.sp.length)
   have g3:=ihl (gT a (bR r (o+a.sp.length))) λx hx=>hl x (s_ _ hx)
   simp only[cT,g3,cd]
   simp only[gT,m_,g1]
   omega
 have:=this (ks.take i) (Pl.g0 true) λr hr=>B_ hr
 simpa[Pl.g0]using this
theorem Tp{ks:List Rx}(hks:∀r∈ks,cO r=true)(o i:Nat):Lie o (b7 (ks.take i) o (Pl.g0 false))/\(b7 (ks.take i) o (Pl.g0 false)).sp.length=cd (ks.take i):=by
 have hl:=fC (.mk 4 0 0 (ks.take i)) o
 have e:bR (.mk 4 0 0 (ks.take i)) o=b7 (ks.take i) o (Pl.g0 false):=by simp[bR]
 rw[e]at hl
 refine⟨hl,?_⟩
 have:∀(l:List Rx) (a:G),(∀r∈l,r∈ks)->(b7 l o a).sp.length=a.sp.length+cd l:=by
  intro l
  induction l with
  |nil=>intro a _;simp[b7,cd]
  |cons r l ihl=>
   intro a hl
   have hr:=hl r (w_ ..)
   obtain⟨g1,g2⟩:=dE r (hks r hr) (o+a.sp.length)
   have g3:=ihl (tL a (bR r (o+a.sp.length))) λx hx=>hl x (s_ _ hx)
   simp only[b7,g3,cd]
   simp only[tL,m_,g1]
   omega
 have:=this (ks.take i) (Pl.g0 false) λr hr=>B_ hr
 simpa[Pl.g0]using this
theorem JC(ks:List Rx)(i:Nat):cd (ks.take i)<=cd ks:=by
 have:cd ks=cd (ks.take i)+cd (ks.drop i):=by rw[<-qc,ag_]
 omega
theorem pu{ks:List Rx}{i:Nat}(h:i<ks.length):cd (ks.take i)+cnt ks[i]<=cd ks:=by
 have e:cd (ks.take (i+1))=cd (ks.take i)+cnt ks[i]:=by
  rw[h_,a_ h,qc];simp[cd]
 have:=JC ks (i+1);omega
theorem xz{M:Nat}(hM:M<=1000000):∀(r:Rx),cO r=true->sz r<=1000000->∀(lo hi:List Int) (P:List (Nat×Nat)),hi.length=lo.length->lo.length+cnt r<=M->
 aU tbl cb [.ptr 0 0,.d .rx r] [.box aY [.sl 1,.sl 2,.sl 3],.vec aP tI lo,.vec aP tI hi,.tree cW (.s 4 1 .e .e) (.list tB) (eZ M P) none] bC
  ((cL (bR r lo.length).fi,cL (bR r lo.length).la,(bR r lo.length).em,()),lo++(bR r lo.length).sp.map (·.1),hi++(bR r lo.length).sp.map (·.2),eZ M (P++(bR r lo.length).pr),()):=by
 refine f8 λk lw up ks ih hw hs lo hi P hhi hcn=>?_
 obtain⟨hlen,hkid⟩:=wR hs
 obtain⟨hn,hks⟩:=well_iff.1 hw
 have hcs:cd ks<=cnt (.mk k lw up ks):=by simp only[cnt];omega
 refine aZ rfl (aV uv rfl (λO m=>uA O m (.mk k lw up ks) lo hi (eZ M P)) ?_)
 unfold kW
 have hv3:(bif (k==(0:Int))then some true else some (k==(3:Int)))=some (k==0||k==3):=by cases(k==(0:Int))<;>rfl
 refine ae (cY (a:=(k==0||k==3)) (λ_=>hv3) ?_)
 rcases hn.known with rfl|rfl|rfl|rfl|rfl|rfl|rfl|rfl
 ·have:=len_nil (hn.leaf (by simp));subst this
  refine cY (a:=some (ii bC (([],[],true,()),lo,hi,eZ M P,()))) (λ_=>rfl) ?_
  simp[bR,Pl.g0,cL]
 ·have:=len_nil (hn.leaf (by simp));subst this
  refine ae (au (pV lw up lo hi _ (by omega) (by omega)) (aa (aa ?_)))
  simp[bR,Ix,cL]
 ·have:=len_nil (hn.leaf (by simp));subst this
  refine ae (au (pV 0 4294967295 lo hi _ (by omega) (by omega)) (aa (aa ?_)))
  simp[bR,Ix,cL]
 ·have eg:bR (.mk 3 lw up ks) lo.length=cT ks lo.length (Pl.g0 true):=by simp[bR]
  rw[eg]
  show Wp (λn=>n_ (n_ (aK n (dJ (kS tbl n) n (.mk 3 lw up ks)) ((0:Int),lo,hi,eZ M P,false,([]:List Int),([]:List Int),true,())) _) _) _
  refine ae (ae (aS (N:=ks.length) (I:=λi s=>s=((i:Int),lo++(cT (ks.take i) lo.length (Pl.g0 true)).sp.map (·.1),hi++(cT (ks.take i) lo.length (Pl.g0 true)).sp.map (·.2),eZ M (P++(cT (ks.take i) lo.length (Pl.g0 true)).pr),false,cL (cT (ks.take i) lo.length (Pl.g0 true)).fi,cL (cT (ks.take i) lo.length (Pl.g0 true)).la,(cT (ks.take i) lo.length (Pl.g0 true)).em,())) (by simp[cT,Pl.g0,cL]) ?_ ?_))
  ·rintro i s hi' rfl
   obtain⟨l1,l2⟩:=Vp hks lo.length i
   rw[B3 hi']
   have hct:=pu hi'
   generalize cT (ks.take i) lo.length (Pl.g0 true)=a at*
   have hr:=b_ hi'
   obtain⟨w1,w2⟩:=dE ks[i] (hks _ hr) (lo.length+a.sp.length)
   have hlx:=fC ks[i] (lo.length+a.sp.length)
   unfold dJ
   refine bT hi' (aB hi' ?_)
   rw[f7]
   have hsz:=hkid _ hr
   have hc:=ih ks[i] hr (hks _ hr) (by omega) (lo++a.sp.map (·.1)) (hi++a.sp.map (·.2)) (P++a.pr) (by simp[hhi]) (by simp;omega)
   rw[show(lo++a.sp.map (·.1)).length=lo.length+a.sp.length by simp]at hc
   generalize bR ks[i] (lo.length+a.sp.length)=x at*
   have h1:=l1.fl;have h2:=l1.ll;have h3:=hlx.fl;have h4:=hlx.ll
   refine au hc (au (jk (P++a.pr++x.pr) _ _ (la:=a.la) (fi:=x.fi) (λp hp=>by have:=l1.la p hp;omega) (λq hq=>by have:=hlx.fi q hq;omega) (by omega) (by omega) hM) ?_)
   have hfin:∀b:Bool,a.em=b->∀b2:Bool,x.em=b2->((((i+1:Nat):Int),lo++a.sp.map (·.1)++x.sp.map (·.1),hi++a.sp.map (·.2)++x.sp.map (·.2),eZ M (P++a.pr++x.pr++cg a.la x.fi),false,(bif b then cL a.fi++cL x.fi else cL a.fi),(bif b2 then cL a.la else [])++cL x.la,b&&b2,()):Int×List Int×List Int×List (List Bool)×Bool×List Int×List Int×Bool×Unit)=(((i+1:Nat):Int),lo++(gT a x).sp.map (·.1),hi++(gT a x).sp.map (·.2),eZ M (P++(gT a x).pr),false,cL (gT a x).fi,cL (gT a x).la,(gT a x).em,()):=λb hb b2 hb2=>by
    simp only[gT,hb,hb2,p_,r_]
    cases b<;>cases b2<;>simp[Jx,cL]
   show Wp (λn=>n_ (bif a.em then _ else _) _) _
   cases hb:a.em
   ·refine ae (aa ?_)
    show Wp (λn=>n_ (bif !x.em then _ else _) _) _
    cases hb2:x.em
    ·refine ae (aa (au (gz [] (cL x.la) (by simp) (by rw[bQ];omega)) (ae (aa (aa ?_)))))
     rw[an hi' (by omega)];exact hfin false hb false hb2
    ·refine ae (aa (au (gz (cL a.la) (cL x.la) (by rw[bQ];omega) (by rw[bQ];omega)) (ae (aa (aa ?_)))))
     rw[an hi' (by omega)];exact hfin false hb true hb2
   ·refine ae (au (gz (cL a.fi) (cL x.fi) (by rw[bQ];omega) (by rw[bQ];omega)) (aa ?_))
    show Wp (λn=>n_ (bif !x.em then _ else _) _) _
    cases hb2:x.em
    ·refine ae (aa (au (gz [] (cL x.la) (by simp) (by rw[bQ];omega)) (ae (aa (aa ?_)))))
     rw[an hi' (by omega)];exact hfin true hb false hb2
    ·refine ae (aa (au (gz (cL a.la) (cL x.la) (by rw[bQ];omega) (by rw[bQ];omega)) (ae (aa (aa ?_)))))
     rw[an hi' (by omega)];exact hfin true hb true hb2
  ·rintro s rfl
   unfold dJ
   refine br (aa (aa (aa ?_)))
   rw[g_]
 ·have eg:bR (.mk 4 lw up ks) lo.length=b7 ks lo.length (Pl.g0 false):=by simp[bR]
  rw[eg]
  show Wp (λn=>n_ (n_ (aK n (dK (kS tbl n) n (.mk 4 lw up ks)) ((0:Int),lo,hi,eZ M P,false,([]:List Int),([]:List Int),false,())) _) _) _
  refine ae (ae (aS (N:=ks.length) (I:=λi s=>s=((i:Int),lo++(b7 (ks.take i) lo.length (Pl.g0 false)).sp.map (·.1),hi++(b7 (ks.take i) lo.length (Pl.g0 false)).sp.map (·.2),eZ M (P++(b7 (ks.take i) lo.length (Pl.g0 false)).pr),false,cL (b7 (ks.take i) lo.length (Pl.g0 false)).fi,cL (b7 (ks.take i) lo.length (Pl.g0 false)).la,(b7 (ks.take i) lo.length (Pl.g0 false)).em,())) (by simp[b7,Pl.g0,cL]) ?_ ?_))
  ·rintro i s hi' rfl
   obtain⟨l1,l2⟩:=Tp hks lo.length i
   rw[B2 hi']
   have hct:=pu hi'
   generalize b7 (ks.take i) lo.length (Pl.g0 false)=a at*
   have hr:=b_ hi'
   obtain⟨w1,w2⟩:=dE ks[i] (hks _ hr) (lo.length+a.sp.length)
   have hlx:=fC ks[i] (lo.length+a.sp.length)
   unfold dK
   refine bT hi' (aB hi' ?_)
   rw[f7]
   have hsz:=hkid _ hr
   have hc:=ih ks[i] hr (hks _ hr) (by omega) (lo++a.sp.map (·.1)) (hi++a.sp.map (·.2)) (P++a.pr) (by simp[hhi]) (by simp;omega)
   rw[show(lo++a.sp.map (·.1)).length=lo.length+a.sp.length by simp]at hc
   generalize bR ks[i] (lo.length+a.sp.length)=x at*
   have h1:=l1.fl;have h2:=l1.ll;have h3:=hlx.fl;have h4:=hlx.ll
   refine au hc (au (gz (cL a.fi) (cL x.fi) (by rw[bQ];omega) (by rw[bQ];omega)) (au (gz (cL a.la) (cL x.la) (by rw[bQ];omega) (by rw[bQ];omega)) ?_))
   refine ae (dw (b:=x.em) (λ_=>aa rfl) (aa ?_))
   rw[an hi' (by omega)]
   simp only[tL,p_,Jx,r_]
  ·rintro s rfl
   unfold dK
   refine br (aa (aa (aa ?_)))
   rw[g_]
 ·obtain⟨x,rfl⟩:=lP (hn.one (by simp))
  have hr:x∈[x]:=o_.2 rfl
  have hsz:=hkid _ hr
  have hct:cnt x<=M - lo.length:=by simp only[cd]at hcs;omega
  have hc:=ih x hr (hks _ hr) (by omega) lo hi P hhi (by simp only[cd]at hcs;omega)
  have hlx:=fC x lo.length
  obtain⟨w1,w2⟩:=dE x (hks _ hr) lo.length
  have eA:b7 [x] lo.length (Pl.g0 false)=bR x lo.length:=rfl
  have h3:=hlx.fl;have h4:=hlx.ll
  refine ae (au hc (ae (au (jk (P++(bR x lo.length).pr) _ _ (la:=(bR x lo.length).la) (fi:=(bR x lo.length).fi) (λp hp=>by have:=hlx.la p hp;omega) (λq hq=>by have:=hlx.fi q hq;omega) (by omega) (by omega) hM) (aa ?_))))
  refine ae (dw (b:=(5:Int) != 6) (λ_=>aa rfl) (aa (aa ?_)))
  have eg:bR (.mk 5 lw up [x]) lo.length=if(5:Int)=5 then Ir (jH (bR x lo.length))else jH (bR x lo.length):=rfl
  rw[eg]
  simp[Ir,jH]
 ·obtain⟨x,rfl⟩:=lP (hn.one (by simp))
  have hr:x∈[x]:=o_.2 rfl
  have hsz:=hkid _ hr
  have hct:cnt x<=M - lo.length:=by simp only[cd]at hcs;omega
  have hc:=ih x hr (hks _ hr) (by omega) lo hi P hhi (by simp only[cd]at hcs;omega)
  have hlx:=fC x lo.length
  obtain⟨w1,w2⟩:=dE x (hks _ hr) lo.length
  have eA:b7 [x] lo.length (Pl.g0 false)=bR x lo.length:=rfl
  have h3:=hlx.fl;have h4:=hlx.ll
  refine ae (au hc (ae (au (jk (P++(bR x lo.length).pr) _ _ (la:=(bR x lo.length).la) (fi:=(bR x lo.length).fi) (λp hp=>by have:=hlx.la p hp;omega) (λq hq=>by have:=hlx.fi q hq;omega) (by omega) (by omega) hM) (aa ?_))))
  refine ae (dw (b:=(6:Int) != 6) (λ_=>aa rfl) (aa (aa ?_)))
  have eg:bR (.mk 6 lw up [x]) lo.length=if(6:Int)=5 then Ir (jH (bR x lo.length))else jH (bR x lo.length):=rfl
  rw[eg]
  simp[Ir,jH]
 ·obtain⟨x,rfl⟩:=lP (hn.one (by simp))
  have hr:x∈[x]:=o_.2 rfl
  have hsz:=hkid _ hr
  have hc:=ih x hr (hks _ hr) (by omega) lo hi P hhi (by simp only[cd]at hcs;omega)
  refine ae (au hc (ae (aa ?_)))
  refine ae (dw (b:=true) (λ_=>aa rfl) (aa (aa ?_)))
  have eg:bR (.mk 7 lw up [x]) lo.length=Ir (bR x lo.length):=rfl
  rw[eg]
  simp[Ir]
theorem Ht{a b:Nat}(ha:a<2^64)(hb:b<2^64):fb .u64 .or (a:Int) (b:Int)=((a|||b:Nat):Int):=by
 have f1:BitVec.ofInt IntKind.u64.bits (a:Int)=BitVec.ofNat 64 a:=BitVec.ofInt_natCast 64 _
 have f2:BitVec.ofInt IntKind.u64.bits (b:Int)=BitVec.ofNat 64 b:=BitVec.ofInt_natCast 64 _
 show IntKind.u64.wrap ((BitVec.ofInt IntKind.u64.bits (a:Int)|||BitVec.ofInt IntKind.u64.bits (b:Int)).toNat:Int)=_
 rw[f1,f2]
 show IntKind.u64.wrap ((BitVec.ofNat 64 a|||BitVec.ofNat 64 b).toNat:Int)=_
 rw[BitVec.toNat_or,BitVec.toNat_ofNat,BitVec.toNat_ofNat,aL_ ha,aL_ hb,wrap_u64]
 have:=Xn ha hb
 omega
theorem SE{a b:Nat}(ha:a<2^64)(hb:b<2^64):fb .u64 .and (a:Int) (b:Int)=((a&&&b:Nat):Int):=by
 have f1:BitVec.ofInt IntKind.u64.bits (a:Int)=BitVec.ofNat 64 a:=BitVec.ofInt_natCast 64 _
 have f2:BitVec.ofInt IntKind.u64.bits (b:Int)=BitVec.ofNat 64 b:=BitVec.ofInt_natCast 64 _
 show IntKind.u64.wrap ((BitVec.ofInt IntKind.u64.bits (a:Int)&&&BitVec.ofInt IntKind.u64.bits (b:Int)).toNat:Int)=_
 rw[f1,f2]
 show IntKind.u64.wrap ((BitVec.ofNat 64 a&&&BitVec.ofNat 64 b).toNat:Int)=_
 rw[BitVec.toNat_and,BitVec.toNat_ofNat,BitVec.toNat_ofNat,aL_ ha,aL_ hb,wrap_u64]
 have:a&&&b<2^64:=aE_ bg_ ha
 omega
theorem XA{i:Nat}(hi:i<64):min (D_ (u_ .u64 (i:Int))) (aQ_ .u64)=i:=by
 rw[wrap_u64]
 show min _ 64=i
 omega
theorem VT{i:Nat}(hi:i<64):u_ .u64 ((1:Int)*2^(min (D_ (u_ .u64 (i:Int))) (aQ_ .u64)))=((2^i:Nat):Int):=by
 rw[XA hi,wrap_u64,Int.one_mul]
 have h1:2^i<2^64:=bm_ (by decide) hi
 have h2:((2:Int)^i)=((2^i:Nat):Int):=by simp
 have h3:=Nat.two_pow_pos i
 rw[h2]
 generalize 2^i=z at*
 omega
theorem UE{a i:Nat}(ha:a<2^64)(hi:i<64):(fb .u64 .and (bJ_ (a:Int) (2^(min (D_ (u_ .u64 (i:Int))) (aQ_ .u64)))) (1:Int)==(1:Int))=a.testBit i:=by
 rw[XA hi]
 have h2:((2:Int)^i)=((2^i:Nat):Int):=by simp
 have h3:bJ_ (a:Int) ((2:Int)^i)=((a/2^i:Nat):Int):=by
  rw[h2,aT_ _ (aC_ _)];rfl
 have h4:a/2^i<2^64:=aE_ (Nat.div_le_self _ _) ha
 have h5:=SE (a:=a/2^i) (b:=1) h4 (by decide)
 rw[h3]
 have h5:fb .u64 .and ((a/2^i:Nat):Int) (1:Int)=((a/2^i&&&1:Nat):Int):=h5
 rw[h5,Nat.and_one_is_mod]
 rw[Nat.testBit_eq_decide_div_mod_eq]
 have:a/2^i%2<2:=Nat.mod_lt _ (by decide)
 by_cases e:a/2^i%2=1
 ·rw[e];rfl
 ·have:a/2^i%2=0:=by omega
  rw[this];rfl
def fL(P:List (Nat×Nat))(n:Nat):List Int:=(e_ n).map λi=>((bG (FB P i):Nat):Int)
theorem qp(P:List (Nat×Nat))(n:Nat):(fL P n).length=n:=by simp[fL]
theorem qo{P:List (Nat×Nat)}{n i:Nat}(h:i<(fL P n).length):(fL P n)[i]=((bG (FB P i):Nat):Int):=by simp[fL]
theorem EV{a b:List Nat}(h:∀x,x∈a↔x∈b):bG a=bG b:=by
 refine bl_ λi=>?_
 rw[cy,cy]
 exact decide_eq_decide.2 (h i)
theorem zc{P P':List (Nat×Nat)}{n:Nat}(h:∀i,i<n->∀q,(i,q)∈P↔(i,q)∈P'):fL P n=fL P' n:=by
 unfold fL
 refine al_ λi hi=>?_
 have e:bG (FB P i)=bG (FB P' i):=EV λq=>by rw[fol_mem,fol_mem];exact h i (j_.1 hi) q
 rw[e]
theorem VY{P:List (Nat×Nat)}{n:Nat}(hP:∀p q,(p,q)∈P->q<n)(hn:n<=64)(i:Nat):bG (FB P i)<2^64:=
 fy λq hq=>by have:=hP _ _ (fol_mem.1 hq);omega
theorem Tb{P:List (Nat×Nat)}{n i:Nat}(hi:i<n)(fi:List Nat):(fL P n).set i ((bG (FB P i)|||bG fi:Nat):Int)=fL (P++cg [i] fi) n:=by
 refine x_ (by simp[fL]) λj h1 h2=>?_
 rw[ab_]
 split
 ·rename_i e
  subst e
  have e:bG (FB P i++fi)=bG (FB (P++cg [i] fi) i):=EV λq=>by
   rw[d_,fol_mem,fol_mem,d_,prodL_mem]
   simp
  rw[<-z7,e,qo]
 ·rename_i e
  have e2:bG (FB P j)=bG (FB (P++cg [i] fi) j):=EV λq=>by
   rw[fol_mem,fol_mem,d_,prodL_mem]
   simp
   omega
  rw[qo,qo,e2]
theorem H8(x y:Int)(lo hi F:List Int)(h1:lo.length<64)(h2:hi.length<64)(h3:F.length<64):aU tbl cU [.ptr 0 0,.d tI x,.d tI y] [.box aE [.sl 1,.sl 2,.sl 3],.vec aP tI lo,.vec aP tI hi,.vec gl tQ F] cp
 ((((2^lo.length:Nat):Int),((2^lo.length:Nat):Int),false,()),lo++[x],hi++[y],F++[0],()):=by
 refine aZ rfl (aV tp rfl (λO m=>tx O m x y lo hi F) ?_)
 unfold kh
 rw[VT h1]
 refine ao (decide_eq_true (by rw[wrap_u64];omega)) (ao (decide_eq_true ?_) (ao (decide_eq_true ?_) (ao (decide_eq_true ?_) (aa rfl))))
 ·show(lo.length+1)*8<=_;omega
 ·show(hi.length+1)*8<=_;omega
 ·show(F.length+1)*8<=_;omega
theorem yG{n:Nat}(P:List (Nat×Nat))(lo up:List Int){la fi:List Nat}(hP:∀p q,(p,q)∈P->q<n)(hla:∀p∈la,p<n)(hfi:∀q∈fi,q<n)(hn:n<=64):
 aU tbl cG [.ptr 0 0,.d tQ ((bG la:Nat):Int),.d tQ ((bG fi:Nat):Int)] [.box aE [.sl 1,.sl 2,.sl 3],.vec aP tI lo,.vec aP tI up,.vec gl tQ (fL P n)] ci (lo,up,fL (P++cg la fi) n,()):=by
 refine aZ rfl (aV sF rfl (λO m=>sI O m ((bG la:Nat):Int) ((bG fi:Nat):Int) lo up (fL P n)) ?_)
 unfold jr
 have hb1:bG la<2^64:=fy λp hp=>by have:=hla p hp;omega
 have hb2:bG fi<2^64:=fy λp hp=>by have:=hfi p hp;omega
 refine ae (aS (N:=(fL P n).length) (I:=λi s=>s=((i:Int),lo,up,fL (P++cg (la.filter λp=>decide (p<i)) fi) n,())) ?_ ?_ ?_)
 ·have:(la.filter λp=>decide (p<0))=[]:=by simp
  rw[this]
  simp[cg]
 ·rintro i s hi rfl
  rw[qp]at hi
  unfold eS
  dsimp only
  refine bT (by rw[qp];exact hi) (ae ?_)
  have key:∀b:Bool,(bG la).testBit i=b->(fL (P++cg (la.filter λp=>decide (p<i)) fi) n).set i (bif b then((bG (FB (P++cg (la.filter λp=>decide (p<i)) fi) i)|||bG fi:Nat):Int)else((bG (FB (P++cg (la.filter λp=>decide (p<i)) fi) i):Nat):Int))=fL (P++cg (la.filter λp=>decide (p<i+1)) fi) n:=λb hb=>by
   rw[cy]at hb
   cases b with
   |true=>
    have hm:i∈la:=of_decide_eq_true hb
    rw[cond_true,Tb hi]
    refine zc λj hj q=>?_
    simp only[d_,prodL_mem,ao_,decide_eq_true_eq,o_]
    constructor
    ·rintro((h|⟨⟨h1,h2⟩,h3⟩)|⟨rfl,h3⟩)
     ·exact .inl h
     ·exact .inr ⟨⟨h1,by omega⟩,h3⟩
     ·exact .inr ⟨⟨hm,by omega⟩,h3⟩
    ·rintro(h|⟨⟨h1,h2⟩,h3⟩)
     ·exact .inl (.inl h)
     ·by_cases e:j=i
      ·exact .inr ⟨e,h3⟩
      ·exact .inl (.inr ⟨⟨h1,by omega⟩,h3⟩)
   |false=>
    have hm:i∉la:=of_decide_eq_false hb
    rw[cond_false]
    have:(fL (P++cg (la.filter λp=>decide (p<i)) fi) n).set i ((bG (FB (P++cg (la.filter λp=>decide (p<i)) fi) i):Nat):Int)=fL (P++cg (la.filter λp=>decide (p<i)) fi) n:=by
     refine x_ (by simp) λj h1 h2=>?_
     rw[ab_]
     split
     ·rename_i e;subst e;rw[qo]
     ·rfl
    rw[this]
    refine zc λj hj q=>?_
    simp only[d_,prodL_mem,ao_,decide_eq_true_eq]
    constructor
    ·rintro(h|⟨⟨h1,h2⟩,h3⟩)
     ·exact .inl h
     ·exact .inr ⟨⟨h1,by omega⟩,h3⟩
    ·rintro(h|⟨⟨h1,h2⟩,h3⟩)
     ·exact .inl h
     ·refine .inr ⟨⟨h1,?_⟩,h3⟩
      have:j≠i:=λe=>hm (e▸h1)
      omega
  have hq:∀p q,(p,q)∈P++cg (la.filter λp=>decide (p<i)) fi->q<n:=λp q h=>by
   rcases d_.1 h with h|h
   ·exact hP p q h
   ·exact hfi q (prodL_mem.1 h).2
  generalize hP':P++cg (la.filter λp=>decide (p<i)) fi=P' at*
  refine ao (decide_eq_true (by rw[wrap_u64];omega)) ?_
  rw[UE hb1 (by omega)]
  have hlen:i<(fL P' n).length:=by rw[qp];exact hi
  refine aJ (λh=>?_) λh=>aa (aa ?_)
  ·refine aB hlen (bm (x:=(fL P' n)[i]) (by rw[c_];exact a_ hlen) (aB hlen (bm (x:=(fL P' n)[i]) (by rw[c_];exact a_ hlen) (aa (aa ?_)))))
   have hk:=key true h
   rw[cond_true]at hk
   rw[qo,Ht (VY hq hn i) hb2,c_,hk,an hi (by omega)]
  ·have hk:=key false h
   rw[cond_false]at hk
   have:(fL P' n).set i ((bG (FB P' i):Nat):Int)=fL P' n:=by
    refine x_ (by simp) λj h1 h2=>?_
    rw[ab_]
    split
    ·rename_i e;subst e;rw[qo]
    ·rfl
   rw[this]at hk
   rw[hk,an hi (by omega)]
 ·rintro s rfl
  unfold eS
  refine br (aa (aa ?_))
  rw[qp]
  have:fL (P++cg (la.filter λp=>decide (p<n)) fi) n=fL (P++cg la fi) n:=zc λj hj q=>by
   simp only[d_,prodL_mem,ao_,decide_eq_true_eq]
   constructor
   ·rintro(h|⟨⟨h1,h2⟩,h3⟩)
    ·exact .inl h
    ·exact .inr ⟨h1,h3⟩
   ·rintro(h|⟨h1,h3⟩)
    ·exact .inl h
    ·exact .inr ⟨⟨h1,hj⟩,h3⟩
  rw[this]
theorem Nr:∀(r:Rx),cO r=true->sz r<=1000000->∀(lo hi:List Int) (P:List (Nat×Nat)),hi.length=lo.length->(∀p q,(p,q)∈P->p<lo.length/\q<lo.length)->lo.length+cnt r<=64->
 aU tbl bN [.ptr 0 0,.d .rx r] [.box aE [.sl 1,.sl 2,.sl 3],.vec aP tI lo,.vec aP tI hi,.vec gl tQ (fL P lo.length)] aN
  ((((bG (bR r lo.length).fi:Nat):Int),((bG (bR r lo.length).la:Nat):Int),(bR r lo.length).em,()),lo++(bR r lo.length).sp.map (·.1),hi++(bR r lo.length).sp.map (·.2),fL (P++(bR r lo.length).pr) (lo.length+(bR r lo.length).sp.length),()):=by
 refine f8 λk lw up ks ih hw hs lo hi P hhi hP hcn=>?_
 obtain⟨hlen,hkid⟩:=wR hs
 obtain⟨hn,hks⟩:=well_iff.1 hw
 have hcs:cd ks<=cnt (.mk k lw up ks):=by simp only[cnt];omega
 refine aZ rfl (aV tq rfl (λO m=>tz O m (.mk k lw up ks) lo hi (fL P lo.length)) ?_)
 unfold ki
 have one:fL P lo.length++[0]=fL P (lo.length+1):=by
  unfold fL
  rw[R_,p_]
  have:FB P lo.length=[]:=by
   refine List.eq_nil_iff_forall_not_mem.2 λq hq=>?_
   have:=(hP _ _ (fol_mem.1 hq)).1
   omega
  simp[this,bG]
 have b1:bG [lo.length]=2^lo.length:=by simp[bG]
 rcases hn.known with rfl|rfl|rfl|rfl|rfl|rfl|rfl|rfl
 ·have:=len_nil (hn.leaf (by simp));subst this
  refine cY (a:=some (ii aN (((0:Int),(0:Int),true,()),lo,hi,fL P lo.length,()))) (λ_=>rfl) ?_
  simp[bR,Pl.g0,bG]
 ·have:=len_nil (hn.leaf (by simp));subst this
  have hc1:lo.length<64:=by simp[cnt,cd]at hcn;omega
  refine db rfl (au (H8 lw up lo hi _ hc1 (by omega) (by rw[qp];omega)) (aa ?_))
  rw[one]
  simp[bR,Ix,b1]
 ·have:=len_nil (hn.leaf (by simp));subst this
  have hc1:lo.length<64:=by simp[cnt,cd]at hcn;omega
  refine aX rfl (db rfl (au (H8 0 4294967295 lo hi _ hc1 (by omega) (by rw[qp];omega)) (aa ?_)))
  rw[one]
  simp[bR,Ix,b1]
 ·have eg:bR (.mk 3 lw up ks) lo.length=cT ks lo.length (Pl.g0 true):=by simp[bR]
  rw[eg]
  refine aX rfl (aX rfl (db rfl ?_))
  refine ae (aS (N:=ks.length) (I:=λi s=>s=((i:Int),lo++(cT (ks.take i) lo.length (Pl.g0 true)).sp.map (·.1),hi++(cT (ks.take i) lo.length (Pl.g0 true)).sp.map (·.2),fL (P++(cT (ks.take i) lo.length (Pl.g0 true)).pr) (lo.length+(cT (ks.take i) lo.length (Pl.g0 true)).sp.length),(0:Int),(0:Int),false,((bG (cT (ks.take i) lo.length (Pl.g0 true)).fi:Nat):Int),((bG (cT (ks.take i) lo.length (Pl.g0 true)).la:Nat):Int),(cT (ks.take i) lo.length (Pl.g0 true)).em,())) (by simp[cT,Pl.g0,bG]) ?_ ?_)
  ·rintro i s hi' rfl
   obtain⟨l1,l2⟩:=Vp hks lo.length i
   rw[B3 hi']
   have hct:=pu hi'
   generalize cT (ks.take i) lo.length (Pl.g0 true)=a at*
   have hr:=b_ hi'
   obtain⟨w1,w2⟩:=dE ks[i] (hks _ hr) (lo.length+a.sp.length)
   have hlx:=fC ks[i] (lo.length+a.sp.length)
   unfold fh
   refine bT hi' (aB hi' ?_)
   rw[f7]
   have hsz:=hkid _ hr
   have hPa:∀p q,(p,q)∈P++a.pr->p<lo.length+a.sp.length/\q<lo.length+a.sp.length:=λp q h=>by
    rcases d_.1 h with h|h
    ·have:=hP p q h;omega
    ·have:=l1.pr p q h;omega
   have hc:=ih ks[i] hr (hks _ hr) (by omega) (lo++a.sp.map (·.1)) (hi++a.sp.map (·.2)) (P++a.pr) (by simp[hhi]) (by simpa using hPa) (by simp;omega)
   rw[show(lo++a.sp.map (·.1)).length=lo.length+a.sp.length by simp]at hc
   generalize bR ks[i] (lo.length+a.sp.length)=x at*
   have hn64:lo.length+a.sp.length+x.sp.length<=64:=by omega
   refine au hc (au (yG (n:=lo.length+a.sp.length+x.sp.length) (P++a.pr++x.pr) _ _ (la:=a.la) (fi:=x.fi) (λp q h=>?_) (λp hp=>by have:=l1.la p hp;omega) (λq hq=>by have:=hlx.fi q hq;omega) hn64) ?_)
   ·rcases d_.1 h with h|h
    ·have:=hPa p q h;omega
    ·have:=hlx.pr p q h;omega
   have ba:bG a.fi<2^64:=fy λp hp=>by have:=l1.fi p hp;omega
   have bx:bG x.fi<2^64:=fy λp hp=>by have:=hlx.fi p hp;omega
   have bla:bG a.la<2^64:=fy λp hp=>by have:=l1.la p hp;omega
   have blx:bG x.la<2^64:=fy λp hp=>by have:=hlx.la p hp;omega
   dsimp only
   rw[Ht ba bx]
   have hfin:∀b:Bool,a.em=b->∀b2:Bool,x.em=b2->((((i+1:Nat):Int),lo++a.sp.map (·.1)++x.sp.map (·.1),hi++a.sp.map (·.2)++x.sp.map (·.2),fL (P++a.pr++x.pr++cg a.la x.fi) (lo.length+a.sp.length+x.sp.length),(0:Int),(0:Int),false,(bif b then((bG a.fi|||bG x.fi:Nat):Int)else((bG a.fi:Nat):Int)),(bif b2 then((bG a.la|||bG x.la:Nat):Int)else((bG x.la:Nat):Int)),b&&b2,()):Int×List Int×List Int×List Int×Int×Int×Bool×Int×Int×Bool×Unit)=(((i+1:Nat):Int),lo++(gT a x).sp.map (·.1),hi++(gT a x).sp.map (·.2),fL (P++(gT a x).pr) (lo.length+(gT a x).sp.length),(0:Int),(0:Int),false,((bG (gT a x).fi:Nat):Int),((bG (gT a x).la:Nat):Int),(gT a x).em,()):=λb hb b2 hb2=>by
    simp only[gT,hb,hb2,p_,r_,m_,aZ_]
    cases b<;>cases b2<;>simp[z7]
   cases hb:a.em<;>cases hb2:x.em
   ·simp only[cond_false,cond_true]
    refine ae (aa ?_)
    simp only[cond_false,cond_true]
    refine ae (aa (ae (aa (aa ?_))))
    rw[an hi' (by omega)]
    have hf:=hfin false hb false hb2
    simp only[cond_false,cond_true]at hf
    simp only[Ht bla blx]
    exact hf
   ·simp only[cond_false,cond_true]
    refine ae (aa ?_)
    simp only[cond_false,cond_true]
    refine ae (aa (ae (aa (aa ?_))))
    rw[an hi' (by omega)]
    have hf:=hfin false hb true hb2
    simp only[cond_false,cond_true]at hf
    simp only[Ht bla blx]
    exact hf
   ·simp only[cond_false,cond_true]
    refine ae (aa ?_)
    simp only[cond_false,cond_true]
    refine ae (aa (ae (aa (aa ?_))))
    rw[an hi' (by omega)]
    have hf:=hfin true hb false hb2
    simp only[cond_false,cond_true]at hf
    simp only[Ht bla blx]
    exact hf
   ·simp only[cond_false,cond_true]
    refine ae (aa ?_)
    simp only[cond_false,cond_true]
    refine ae (aa (ae (aa (aa ?_))))
    rw[an hi' (by omega)]
    have hf:=hfin true hb true hb2
    simp only[cond_false,cond_true]at hf
    simp only[Ht bla blx]
    exact hf
  ·rintro s rfl
   unfold fh
   refine br (aa (aa ?_))
   rw[g_]
 ·have eg:bR (.mk 4 lw up ks) lo.length=b7 ks lo.length (Pl.g0 false):=by simp[bR]
  rw[eg]
  refine aX rfl (aX rfl (aX rfl (db rfl ?_)))
  refine ae (aS (N:=ks.length) (I:=λi s=>s=((i:Int),lo++(b7 (ks.take i) lo.length (Pl.g0 false)).sp.map (·.1),hi++(b7 (ks.take i) lo.length (Pl.g0 false)).sp.map (·.2),fL (P++(b7 (ks.take i) lo.length (Pl.g0 false)).pr) (lo.length+(b7 (ks.take i) lo.length (Pl.g0 false)).sp.length),(0:Int),(0:Int),false,((bG (b7 (ks.take i) lo.length (Pl.g0 false)).fi:Nat):Int),((bG (b7 (ks.take i) lo.length (Pl.g0 false)).la:Nat):Int),(b7 (ks.take i) lo.length (Pl.g0 false)).em,())) (by simp[b7,Pl.g0,bG]) ?_ ?_)
  ·rintro i s hi' rfl
   obtain⟨l1,l2⟩:=Tp hks lo.length i
   rw[B2 hi']
   have hct:=pu hi'
   generalize b7 (ks.take i) lo.length (Pl.g0 false)=a at*
   have hr:=b_ hi'
   obtain⟨w1,w2⟩:=dE ks[i] (hks _ hr) (lo.length+a.sp.length)
   have hlx:=fC ks[i] (lo.length+a.sp.length)
   unfold fj
   refine bT hi' (aB hi' ?_)
   rw[f7]
   have hsz:=hkid _ hr
   have hPa:∀p q,(p,q)∈P++a.pr->p<lo.length+a.sp.length/\q<lo.length+a.sp.length:=λp q h=>by
    rcases d_.1 h with h|h
    ·have:=hP p q h;omega
    ·have:=l1.pr p q h;omega
   have hc:=ih ks[i] hr (hks _ hr) (by omega) (lo++a.sp.map (·.1)) (hi++a.sp.map (·.2)) (P++a.pr) (by simp[hhi]) (by simpa using hPa) (by simp;omega)
   rw[show(lo++a.sp.map (·.1)).length=lo.length+a.sp.length by simp]at hc
   generalize bR ks[i] (lo.length+a.sp.length)=x at*
   have ba:bG a.fi<2^64:=fy λp hp=>by have:=l1.fi p hp;omega
   have bx:bG x.fi<2^64:=fy λp hp=>by have:=hlx.fi p hp;omega
   have bla:bG a.la<2^64:=fy λp hp=>by have:=l1.la p hp;omega
   have blx:bG x.la<2^64:=fy λp hp=>by have:=hlx.la p hp;omega
   refine au hc ?_
   dsimp only
   rw[Ht ba bx,Ht bla blx]
   refine ae (dw (b:=x.em) (λ_=>aa rfl) (aa ?_))
   rw[an hi' (by omega)]
   simp only[tL,p_,z7,r_,m_,aZ_]
  ·rintro s rfl
   unfold fj
   refine br (aa (aa ?_))
   rw[g_]
 ·obtain⟨x,rfl⟩:=lP (hn.one (by simp))
  have hr:x∈[x]:=o_.2 rfl
  have hsz:=hkid _ hr
  have hcx:lo.length+cnt x<=64:=by simp only[cd]at hcs;omega
  have hc:=ih x hr (hks _ hr) (by omega) lo hi P hhi hP hcx
  have hlx:=fC x lo.length
  obtain⟨w1,w2⟩:=dE x (hks _ hr) lo.length
  have eg:bR (.mk 5 lw up [x]) lo.length=if(5:Int)=5 then Ir (jH (bR x lo.length))else jH (bR x lo.length):=rfl
  rw[eg]
  refine aX rfl (aX rfl (aX rfl (aX rfl (ae ?_))))
  refine cY (a:=((5:Int)==5||true,lo,hi,fL P lo.length,(0:Int),(0:Int),false,())) (λ_=>rfl) ?_
  refine db rfl (dZ (by decide) rfl (au hc (au (yG (n:=lo.length+(bR x lo.length).sp.length) (P++(bR x lo.length).pr) _ _ (la:=(bR x lo.length).la) (fi:=(bR x lo.length).fi) (λp q h=>?_) (λp hp=>by have:=hlx.la p hp;omega) (λq hq=>by have:=hlx.fi q hq;omega) (by omega)) (ae (dw (b:=(5:Int)==5) (λ_=>aa rfl) (aa ?_))))))
  ·rcases d_.1 h with h|h
   ·have:=hP p q h;omega
   ·have:=hlx.pr p q h;omega
  ·simp[Ir,jH]
 ·obtain⟨x,rfl⟩:=lP (hn.one (by simp))
  have hr:x∈[x]:=o_.2 rfl
  have hsz:=hkid _ hr
  have hcx:lo.length+cnt x<=64:=by simp only[cd]at hcs;omega
  have hc:=ih x hr (hks _ hr) (by omega) lo hi P hhi hP hcx
  have hlx:=fC x lo.length
  obtain⟨w1,w2⟩:=dE x (hks _ hr) lo.length
  have eg:bR (.mk 6 lw up [x]) lo.length=if(6:Int)=5 then Ir (jH (bR x lo.length))else jH (bR x lo.length):=rfl
  rw[eg]
  refine aX rfl (aX rfl (aX rfl (aX rfl (ae ?_))))
  refine cY (a:=((6:Int)==5||true,lo,hi,fL P lo.length,(0:Int),(0:Int),false,())) (λ_=>rfl) ?_
  refine db rfl (dZ (by decide) rfl (au hc (au (yG (n:=lo.length+(bR x lo.length).sp.length) (P++(bR x lo.length).pr) _ _ (la:=(bR x lo.length).la) (fi:=(bR x lo.length).fi) (λp q h=>?_) (λp hp=>by have:=hlx.la p hp;omega) (λq hq=>by have:=hlx.fi q hq;omega) (by omega)) (ae (dw (b:=(6:Int)==5) (λ_=>aa rfl) (aa ?_))))))
  ·rcases d_.1 h with h|h
   ·have:=hP p q h;omega
   ·have:=hlx.pr p q h;omega
  ·simp[Ir,jH]
 ·obtain⟨x,rfl⟩:=lP (hn.one (by simp))
  have hr:x∈[x]:=o_.2 rfl
  have hsz:=hkid _ hr
  have hcx:lo.length+cnt x<=64:=by simp only[cd]at hcs;omega
  have hc:=ih x hr (hks _ hr) (by omega) lo hi P hhi hP hcx
  have eg:bR (.mk 7 lw up [x]) lo.length=Ir (bR x lo.length):=rfl
  rw[eg]
  refine aX rfl (aX rfl (aX rfl (aX rfl (ae ?_))))
  refine cY (a:=(false,lo,hi,fL P lo.length,(0:Int),(0:Int),false,())) (λ_=>rfl) ?_
  refine aX rfl (db rfl (dZ (by decide) rfl (au hc (aa ?_))))
  simp[Ir]
open Classical in
noncomputable def sC(d:DF):DF:=if Good d then(d.1,d.2.1,d.2.2.1.map (!·),d.2.2.2.1,())else([],[],[],0,())
theorem fY{d:DF}(h:Good d):sC d=(d.1,d.2.1,d.2.2.1.map (!·),d.2.2.2.1,()):=by unfold sC;rw[if_pos h]
theorem FD{d:DF}(h:Good d):Good (sC d):=by
 rw[fY h]
 have:=h.small
 exact⟨h.starts,by unfold Big at this⊢;simpa using this,⟨h.len.1,by simpa using h.len.2⟩,h.rows,h.start,h.to⟩
theorem Rl{d:DF}(h:Good d):Wi d:=by
 have hl:=ww h
 exact⟨by omega,by omega,λr hr=>by rw[h.rows r hr];omega,by omega⟩
theorem Qx(d:DF):aU tbl wW [.d (pr [.list tI,.list (.list tI),.list tB,tI]) d] [] pS (sC d,()):=by
 refine aZ rfl (aV R4 rfl (λO n=>R8 O n d) ?_)
 unfold H9
 refine au (vr d) (aJ (λh=>aa ?_) λh=>?_)
 ·have:¬Good d:=λhg=>by rw[good_iff.2 hg]at h;simp at h
  rw[show sC d=([],[],[],0,())from by unfold sC;rw[if_neg this]]
 have hg:Good d:=good_iff.1 (by simpa using h)
 have hl:=ww hg
 have hn:=hg.len
 refine ao (decide_eq_true (by simp;omega)) ?_
 refine ae (aS (N:=d.2.1.length) (I:=λi s=>s=((i:Int),(0:Int),([]:List Int)++d.1,d.2.2.2.1,d.2.1.take i,(d.2.2.1.take i).map (!·),())) (by simp) ?_ ?_)
 ·rintro i s hi rfl
  have h2:i<d.2.2.1.length:=by omega
  unfold vB
  have hr:=hg.rows _ (b_ hi)
  refine bT hi (aB hi (ao (decide_eq_true (by simp;omega)) (ao (decide_eq_true (by simp;omega)) (aB h2 (ao (decide_eq_true (by simp;omega)) (aa ?_))))))
  simp only[an hi (by omega),h_,a_ hi,a_ h2,p_,C_,O_,W_,Q_]
 ·rintro s rfl
  unfold vB
  refine br (aa (aa ?_))
  rw[fY hg]
  simp only[g_,Q_]
  rw[v_ (by omega)]
theorem MH{d:DF}(hg:Good d):∀(l:List Int) (s0:Int),0<=s0/\s0<(d.2.1.length:Int)->(∀v∈l,0<=v/\v<=4294967295)->∃s,iO (jM d) s0 l= .inl s/\0<=s/\s<(d.2.1.length:Int)
 |[],s0,h0,_=>⟨s0,rfl,h0⟩
 |x::l,s0,h0,hv=>by
  have hx:=hv x (w_ ..)
  obtain⟨_,_,_,h4⟩:=Gq hg h0.1 h0.2 hx.1
  obtain⟨s,hs,h5⟩:=MH hg l (bL d s0 x) h4 λv hv'=>hv v (s_ _ hv')
  refine⟨s,?_,h5⟩
  have e:jM d s0 x= .inl (bL d s0 x):=by
   unfold jM
   rw[show(decide (x<0)||decide (x>4294967295))=false by simp;omega];rfl
  simp only[iO,e,hs]
theorem Qn{d:DF}:∀(l:List Int) (s0:Int) (v:Int),v∈l->(v<0\/v>4294967295)->iO (jM d) s0 l= .inr false
 |x::l,s0,v,hv,hb=>by
  cases hx:decide (x<0)||decide (x>4294967295)
  ·have e:jM d s0 x= .inl (bL d s0 x):=by unfold jM;rw[hx];rfl
   have hv':v∈l:=by
    rcases ak_.1 hv with rfl|h
    ·simp only[z_,decide_eq_false_iff_not]at hx;omega
    ·exact h
   simp only[iO,e,Qn l _ v hv' hb]
  ·have e:jM d s0 x= .inr false:=by unfold jM;rw[hx];rfl
   simp only[iO,e]
theorem Q7{d:DF}{l:List Int}{v:Int}(hv:v∈l)(hb:v<0\/v>4294967295):kb d l=false:=by
 unfold kb
 rw[Qn l _ v hv hb]
 split<;>rfl
theorem R0{d:DF}(h:Good d):jM (sC d)=jM d:=by rw[fY h];rfl
theorem Q8{d:DF}{l:List Int}(hg:Good d)(hv:∀v∈l,0<=v/\v<=4294967295):kb (sC d) l= !kb d l:=by
 unfold kb
 rw[if_pos hg,if_pos (FD hg),R0 hg]
 obtain⟨s,hs,h1,h2⟩:=MH hg l _ hg.start hv
 rw[show(sC d).2.2.2.1=d.2.2.2.1 from by rw[fY hg],hs,show(sC d).2.2.1=d.2.2.1.map (!·)from by rw[fY hg]]
 have h3:s.toNat<d.2.2.1.length:=by have:=hg.len;omega
 simp only[f_,A_,a_ h3,S_,t_]
def zD:DF:=([],[],[],0,())
theorem Rq{m:DF}(h:Canon m)(h1:m.1.length<=2000)(h2:m.2.1.length<=4096):Good m:=by
 have hw:=h.wf
 exact⟨hw.starts,by unfold Big;have:=hw.len;omega,hw.len,hw.rows,hw.start,hw.to⟩
theorem wY(l:List Int):Asc (xF l)/\∀x,x∈xF l↔x∈l:=by
 obtain⟨c,hc,hm⟩:=yR l
 rw[wX hc hm]
 exact⟨hc,hm⟩
theorem Nx{l l':List Int}(h:∀x,x∈l↔x∈l'):xF l=xF l':=by
 obtain⟨h1,h2⟩:=wY l'
 exact wX h1 λx=>(h2 x).trans (h x).symm
theorem Le(a b:List Int):xF (xF a++b)=xF (a++b):=Nx λx=>by
 rw[d_,d_,(wY a).2]
theorem Lf(l:List Int):(xF l).length<=l.length:=Pg (wY l).1 λx hx=>((wY l).2 x).1 hx
abbrev Ej(g:G):List Int:=g.sp.map (·.1)
abbrev DT(g:G):List Int:=g.sp.map (·.2)
theorem Ih{sp:List (Int×Int)}{i:Nat}(h:i<sp.length):p8 (sp.take (i+1))=p8 (sp.take i)++(sp[i].1::if sp[i].2<4294967295 then [sp[i].2+1]else []):=by
 unfold p8
 rw[h_,a_ h,ay_]
 simp
theorem Jh{g:G}(hg:Cz g)(F:List Int):aU tbl dL [.ptr 0 0] [.box aE [.sl 1,.sl 2,.sl 3],.vec aP tI (Ej g),.vec aP tI (DT g),.vec gl tQ F] cJ (bX g,Ej g,DT g,F,()):=by
 refine aZ rfl (aV sG rfl (λO m=>sJ O m (Ej g) (DT g) F) ?_)
 unfold jt
 have hn:=hg.n64
 refine ae (aS (N:=(Ej g).length) (I:=λi s=>s=(xF (p8 (g.sp.take i)),(i:Int),Ej g,DT g,F,())) ?_ ?_ ?_)
 ·have:xF (p8 (g.sp.take 0))=[0]:=wX (by simp[Asc]) (by simp[p8])
  rw[this];rfl
 ·rintro i s hi rfl
  have hi2:i<g.sp.length:=by simpa using hi
  have hi3:i<(DT g).length:=by simpa using hi2
  have e1:(Ej g)[i]=g.sp[i].1:=by simp
  have e2:(DT g)[i]=g.sp[i].2:=by simp
  have hq:=hg.inn _ (b_ hi2)
  have hq2:=hg.le _ (b_ hi2)
  have hl1:=Lf (p8 (g.sp.take i))
  have hl2:=zY (g.sp.take i)
  rw[N_]at hl2
  unfold eT
  dsimp only
  refine bT hi (ae ?_)
  refine aB hi (bm (x:=(Ej g)[i]) (by rw[c_];exact a_ hi) ?_)
  rw[e1]
  refine au (Cy _ [g.sp[i].1] (wY _).1 (by simp[Asc]) (by omega) (by simp)) ?_
  rw[Le]
  refine aB hi3 (bm (x:=(DT g)[i]) (by rw[c_];exact a_ hi3) ?_)
  rw[e2,Ih hi2]
  refine aJ (λh=>?_) λh=>aa (aa ?_)
  ·have h:=of_decide_eq_true h
   refine aB hi3 (bm (x:=(DT g)[i]) (by rw[c_];exact a_ hi3) ?_)
   rw[e2,wrap_i64 (by omega) (by omega)]
   have hl3:=Lf (p8 (g.sp.take i)++[g.sp[i].1])
   rw[m_,K_]at hl3
   refine au (Cy (xF (p8 (g.sp.take i)++[g.sp[i].1])) [g.sp[i].2+1] (wY _).1 (by simp[Asc]) (by omega) (by simp)) (aa (aa ?_))
   rw[Le,an hi (by simp;omega),if_pos h]
   simp
  ·have h:=of_decide_eq_false h
   rw[an hi (by simp;omega),if_neg h]
 ·rintro s rfl
  unfold eT
  refine br (aa (aa ?_))
  rw[v_ (by simp)]
  rfl
theorem Es{g:G}(hg:Cz g)(F:List Int)(a:Int):aU tbl c9 [.ptr 0 0,.d tI a] [.box aE [.sl 1,.sl 2,.sl 3],.vec aP tI (Ej g),.vec aP tI (DT g),.vec gl tQ F] co (((vm g a:Nat):Int),Ej g,DT g,F,()):=by
 refine aZ rfl (aV pN rfl (λO m=>pO O m a (Ej g) (DT g) F) ?_)
 unfold ij
 have hn:=hg.n64
 refine ae (aS (N:=(Ej g).length) (I:=λi s=>s=(((bG ((e_ i).filter (jo g a)):Nat):Int),(i:Int),Ej g,DT g,F,())) rfl ?_ ?_)
 ·rintro i s hi rfl
  have hi2:i<g.sp.length:=by simpa using hi
  have hi3:i<(DT g).length:=by simpa using hi2
  have e1:(Ej g)[i]=g.sp[i].1:=by simp
  have e2:(DT g)[i]=g.sp[i].2:=by simp
  have eh:jo g a i=(decide (g.sp[i].1<=a)&&decide (a<=g.sp[i].2)):=by
   unfold jo
   rw[a_ hi2]
  unfold dS
  dsimp only
  refine bT hi (ae ?_)
  refine aB hi (bm (x:=(Ej g)[i]) (by rw[c_];exact a_ hi) ?_)
  rw[e1]
  refine ae (gf (b:=decide (a<=g.sp[i].2)) (λ_=>aB hi3 (bm (x:=(DT g)[i]) (by rw[c_];exact a_ hi3) (aa (by rw[e2])))) ?_)
  rw[<-eh]
  have hb:bG ((e_ i).filter (jo g a))<2^64:=fy λp hp=>by
   have:=j_.1 (ao_.1 hp).1
   omega
  have hs:(e_ (i+1)).filter (jo g a)=(e_ i).filter (jo g a)++(if jo g a i=true then [i]else []):=by
   rw[R_,br_,List.filter_cons,List.filter_nil]
  rw[hs]
  refine aJ (λh=>ao (decide_eq_true (by rw[wrap_u64];omega)) (aa (aa ?_))) λh=>aa (aa ?_)
  ·rw[VT (by omega),Ht hb (bm_ (by decide) (by omega)),an hi (by simp;omega),if_pos h,z7]
   simp[bG]
  ·rw[an hi (by simp;omega),if_neg (by rw[h];simp),ah_]
 ·rintro s rfl
  unfold dS
  refine br (aa (aa ?_))
  rw[q_]
  rfl
abbrev Qy(g:G):List Int:=fL g.pr g.sp.length
theorem V2{g:G}(hg:Cz g):∀p q,(p,q)∈g.pr->q<g.sp.length:=λp q h=>by have:=hg.lie.pr p q h;omega
theorem SO{g:G}(hg:Cz g)(x:Option Nat):l5 g x<2^64:=
 aF_ (Po hg.lie x) (au_ (by decide) hg.n64)
theorem Xl{g:G}(hg:Cz g)(a:Int):vm g a<2^64:=
 aF_ (Vt g a) (au_ (by decide) hg.n64)
theorem XQ{g:G}(hg:Cz g):bG g.la<2^64:=fy λp hp=>by have:=hg.lie.la p hp;have:=hg.n64;omega
abbrev SN:Type:=List (Option Nat)×List (Nat×Int)×List (List Nat)
noncomputable def aM(g:G)(i:Nat)(S:SN):Int×Int×List Int×List Int×List Int×Int×Int×Bool×List Int×Int×List (List Int)×List Bool×List NK×List (NK×Int)×Unit:=
 ((i:Int),(0:Int),Ej g,DT g,Qy g,((bG g.fi:Nat):Int),((bG g.la:Nat):Int),g.em,bX g,(0:Int),nZ S.2.2,(S.1.take i).map (l4 g),S.1.map cQ,IC 0 S.1,())
theorem G3{g:G}(hg:Cz g)(i:Nat)(S:SN){b:Nat}(hb:b<2^64)(tb:Bool):
 Wp (λn=>aK n (mO (kS tbl n) n (aM g i S)) ((0:Int),(0:Int),(0:Int),Ej g,DT g,Qy g,((bG g.fi:Nat):Int),((bG g.la:Nat):Int),g.em,bX g,(0:Int),nZ S.2.2,(S.1.take i).map (l4 g),S.1.map cQ,IC 0 S.1,tb,(b:Int),()))
  λr=>r=(((l5 g (some b):Nat):Int),(0:Int),Ej g,DT g,Qy g,((bG g.fi:Nat):Int),((bG g.la:Nat):Int),g.em,bX g,(0:Int),nZ S.2.2,(S.1.take i).map (l4 g),S.1.map cQ,IC 0 S.1,tb,(b:Int),()):=by
 have hn:=hg.n64
 have hF:(Qy g).length=g.sp.length:=qp _ _
 refine aS (N:=(Qy g).length) (I:=λk s=>s=(((bG ((e_ k).flatMap λk=>if b.testBit k then FB g.pr k else []):Nat):Int),(k:Int),(0:Int),Ej g,DT g,Qy g,((bG g.fi:Nat):Int),((bG g.la:Nat):Int),g.em,bX g,(0:Int),nZ S.2.2,(S.1.take i).map (l4 g),S.1.map cQ,IC 0 S.1,tb,(b:Int),())) rfl ?_ ?_
 ·rintro k s hk rfl
  have hk2:k<g.sp.length:=by rw[<-hF];exact hk
  have hc:bG ((e_ k).flatMap λk=>if b.testBit k then FB g.pr k else [])<2^64:=fy λp hp=>by
   obtain⟨j,_,hp⟩:=List.mem_flatMap.1 hp
   split at hp
   ·have:=V2 hg _ _ (fol_mem.1 hp);omega
   ·cases hp
  have hs:(e_ (k+1)).flatMap (λk=>if b.testBit k then FB g.pr k else [])=((e_ k).flatMap λk=>if b.testBit k then FB g.pr k else [])++(if b.testBit k then FB g.pr k else []):=by
   rw[R_,ay_];simp
  rw[hs]
  unfold mO
  simp only[aM]
  refine bT hk (ae (ao (decide_eq_true (by rw[wrap_u64];omega)) ?_))
  rw[UE hb (by omega)]
  refine aJ (λh=>?_) λh=>aa (aa ?_)
  ·refine aB hk (bm (x:=(Qy g)[k]) (by rw[c_];exact a_ hk) (aa (aa ?_)))
   rw[qo,Ht hc (VY (V2 hg) hn k),an hk (by omega),if_pos h,z7]
  ·rw[an hk (by omega),if_neg (by rw[h];simp),ah_]
 ·rintro s rfl
  unfold mO
  simp only[aM]
  refine br (aa ?_)
  rw[hF]
  rfl
theorem Hw{g:G}(hg:Cz g){i:Nat}{L:List (Option Nat)}{T:List (Nat×Int)}(h:Ok (cu g) none (bX g) L T)(hL:L.length<=4096){x:Option Nat}(hx:L[i]? =some x)(RR:List (List Int))(AA:List Bool)(c0:Int×List NK×List (NK×Int)):
 Wp (λn=>aK n (mP (kS tbl n) n (((l5 g x:Nat):Int),(0:Int),Ej g,DT g,Qy g,((bG g.fi:Nat):Int),((bG g.la:Nat):Int),g.em,bX g,(0:Int),RR,AA,c0.2.1,c0.2.2,(cQ x).1,(cQ x).2.1,()))
  ((0:Int),(0:Int),Ej g,DT g,Qy g,((bG g.fi:Nat):Int),((bG g.la:Nat):Int),g.em,bX g,(0:Int),RR,AA,L.map cQ,IC 0 L,(cQ x).1,(cQ x).2.1,i_ (bX g).length 0,()))
  λr=>match jF (mJ (Jb 4096) (cu g) x i) (L,T,[]) (bX g)with
   | .inl r'=>r= .inr ((0:Int),Ej g,DT g,Qy g,((bG g.fi:Nat):Int),((bG g.la:Nat):Int),g.em,bX g,(0:Int),RR,AA,r'.1.map cQ,IC 0 r'.1,(cQ x).1,(cQ x).2.1,r'.2.2.map (fun(k:Nat)=>(k:Int)),())/\r'.1.length<=4096
   | .inr _=>r= .inl ((8:Int),(0:Int),()):=by
 have hk:=wx hg
 refine Nc (xs:=bX g) (f:=mJ (Jb 4096) (cu g) x i) (s0:=(L,T,[])) (Inv:=λj st=>Ok (cu g) none (bX g) st.1 st.2.1/\L<+:st.1/\st.2.2.length=j/\st.1.length<=4096)
  (enc:=λj st=>((j:Int),(0:Int),Ej g,DT g,Qy g,((bG g.fi:Nat):Int),((bG g.la:Nat):Int),g.em,bX g,(0:Int),RR,AA,st.1.map cQ,IC 0 st.1,(cQ x).1,(cQ x).2.1,sE (bX g).length st.2.2,()))
  (oE:=λst=>.inr ((0:Int),Ej g,DT g,Qy g,((bG g.fi:Nat):Int),((bG g.la:Nat):Int),g.em,bX g,(0:Int),RR,AA,st.1.map cQ,IC 0 st.1,(cQ x).1,(cQ x).2.1,sE (bX g).length st.2.2,())) (oB:=λ_=>.inl ((8:Int),(0:Int),())) ⟨h,bC_ _,rfl,hL⟩ (λj hj st hst=>?_) (λst hst=>?_) (λr hr hs=>?_)
 ·obtain⟨Lj,Tj,rj⟩:=st
  obtain⟨g1,g2,g3,g4⟩:=hst
  simp only at g1 g2 g3 g4
  subst g3
  have hx':=AW g2 hx
  unfold mP
  dsimp only
  refine bT hj (aB hj (au (Es hg _ _) ?_))
  dsimp only
  rw[SE (SO hg x) (Xl hg _)]
  have hkey:((false,((l5 g x&&&vm g (bX g)[rj.length]:Nat):Int),()):NK)=cQ (cu g x (bX g)[rj.length]):=rfl
  rw[hkey]
  generalize hy:cu g x (bX g)[rj.length]=y
  have hkv:=PM y Lj 0
  have hrz:rj.length<(sE (bX g).length rj).length:=by unfold sE;simp;omega
  by_cases hm:y∈Lj
  ·rw[if_pos hm]at hkv
   have e:mJ (Jb 4096) (cu g) x i (Lj,Tj,rj) (bX g)[rj.length]= .inl (Lj,Tj,rj++[pos Lj y]):=MC hy hm
   rw[e]
   refine ae (aJ (λhc=>by rw[hkv]at hc;simp at hc) λ_=>aa ?_)
   refine aB hrz (bm (x:=(sE (bX g).length rj)[rj.length]) (by simp) (aa ?_))
   refine⟨⟨g1,g2,by simp,g4⟩,?_⟩
   rw[hkv,an hj (by omega)]
   simp only[t_,c_,aS_]
   rw[Ge hj]
  ·rw[if_neg hm]at hkv
   have hset:=PP y Lj 0 hm
   simp only[aS_]at hset
   have hml:(Lj.map cQ).length=Lj.length:=q_ _
   refine ae (aJ (λ_=>?_) λhc=>by rw[hkv]at hc;simp at hc)
   rw[hml]
   refine aJ (λhd=>aa ?_) λhd=>?_
   ·have hd:Jb 4096 Lj y=true:=by
     have:=of_decide_eq_true hd
     exact decide_eq_true (by omega)
    rw[I0 hy hm hd]
    exact aa rfl
   ·have hd':Jb 4096 Lj y=false:=by
     have:=of_decide_eq_false hd
     exact decide_eq_false (by omega)
    have hlt:Lj.length<4096:=by have:=of_decide_eq_false hd;omega
    have hok:Ok (cu g) none (bX g) (Lj++[y]) (Tj++[(i,(bX g)[rj.length])]):=by rw[<-hy]at hm⊢;exact g1.add hx' (b_ hj) hm
    rw[MD hy hm hd']
    refine ao (decide_eq_true (by rw[PN];simp only[maxLen];omega)) (ao (decide_eq_true (by simp;omega)) (aa ?_))
    refine aB hrz (bm (x:=(sE (bX g).length rj)[rj.length]) (by simp) (aa ?_))
    refine⟨⟨hok,g2.trans (aU_ _ _),by simp,by simp;omega⟩,?_⟩
    rw[an hj (by omega)]
    simp only[c_]
    rw[Ge hj,hset,p_]
    rfl
 ·unfold mP
  exact br (aa rfl)
 ·rw[JY]at hr
  rw[hr]
  cases r with
  |inl st=>
   obtain⟨g1,g2,g3,g4⟩:=hs st rfl
   refine⟨?_,g4⟩
   simp only[sE,g3,bd_,List.replicate_zero,ah_]
  |inr r=>rfl
theorem Fx{g:G}(i:Nat):(cn g i).2.2.length<=i:=by
 rw[xj i i (Z_ _),q_,N_]
 omega
theorem Ie{g:G}{L:List (Option Nat)}{i:Nat}{x:Option Nat}(hx:L[i]? =some x):(L.take i).map (l4 g)++[l4 g x]=(L.take (i+1)).map (l4 g):=by
 rw[h_,hx,p_];rfl
theorem Mr{α:Type}{L L':List α}(h:L<+:L'){i:Nat}(hi:i<=L.length):L'.take i=L.take i:=by
 obtain⟨t,rfl⟩:=h
 rw[List.take_append_of_le_length hi]
theorem vq{r:Rx}(hr:eD r=0){m:DF}(hm:(sR (bR r 0)).length<=4096->aU tbl fI [.d (pr [.list tI,.list (.list tI),.list tB,tI]) (dN (bR r 0))] [] dQ (m,())):
 aU tbl kq [.d .rx r] [] fF (match lE (bR r 0) NL with| .inl _=>(m,0,())| .inr _=>(zD,8,())):=by
 obtain⟨hw,hsz⟩:=mA hr
 have hg:=JZ hw hsz
 have hcnt:=E0 r
 refine aZ (by cases lE (bR r 0) NL<;>rfl) (aV M1 rfl (λO n=>Nf O n r) ?_)
 unfold CC
 refine au (xX r (by omega)) ?_
 rw[hr]
 refine aX rfl ?_
 have hwalk:=Nr r hw (by omega) [] [] [] rfl (λp q h=>by cases h) (by simp;omega)
 simp only[G_,aS_,Q_]at hwalk
 have ef:fL ([]:List (Nat×Nat)) 0=[]:=rfl
 rw[ef]at hwalk
 refine au hwalk ?_
 generalize bR r 0=g at*
 have hk:=wx hg
 refine au (Jh hg _) ?_
 refine dZ (x:=cQ none) (by decide) rfl (bm (x:=cQ none) rfl (ao rfl ?_))
 refine ae (Ev.wp_loop (λs=>∃i S,s=aM g i S/\lE g i= .inl S/\i<=S.1.length) (λs=>NL - s.1.toNat) ⟨0,([none],[],[]),rfl,rfl,by simp⟩ ?_)
 rintro s ⟨i,S,rfl,hS,hiS⟩
 obtain⟨hSe,hq⟩:=(ka i).1 S hS
 have hSe:S=cn g i:=hSe
 have hNL:=O7
 subst hSe
 have hok:Ok (cu g) none (bX g) (cn g i).1 (cn g i).2.1:=dq i
 have hlen:=Ci hq
 have hrl:=Fx (g:=g) i
 unfold yg
 have hml:((cn g i).1.map cQ).length=(cn g i).1.length:=q_ _
 simp only[aM]
 refine aJ (λh=>?_) λh=>?_
 ·have hi:i<(cn g i).1.length:=by have:=of_decide_eq_true h;omega
  have hx:=a_ hi
  generalize hxe:(cn g i).1[i]=x at hx
  have hxm:((cn g i).1.map cQ)[i]? =some (cQ x):=by rw[A_,hx];rfl
  refine dZ (x:=cQ x) (by omega) (by rw[c_];exact hxm) (bm (x:=cQ x) (by rw[c_];exact hxm) ?_)
  refine ae (Ev.wp_mono (Q:=λv=>v=(((l5 g x:Nat):Int),(0:Int),Ej g,DT g,Qy g,((bG g.fi:Nat):Int),((bG g.la:Nat):Int),g.em,bX g,(0:Int),nZ (cn g i).2.2,((cn g i).1.take i).map (l4 g),(cn g i).1.map cQ,IC 0 (cn g i).1,(cQ x).1,(cQ x).2.1,())) ?_ ?_)
  ·cases x with
   |none=>exact aX rfl (aa rfl)
   |some b=>
    have hb:b<2^64:=by
     have:=hok.inv (P:=λy=>∀c,y=some c->c<2^64) (λc hc=>by cases hc) (λy c _ _ d hd=>by
      have:l5 g y&&&vm g c=d:=by simpa[cu]using hd
      rw[<-this]
      exact aE_ bg_ (SO hg y)) i _ hx
     exact this b rfl
    refine db rfl (ae (Ev.wp_mono (G3 hg i (cn g i) hb false) ?_))
    rintro v rfl
    exact aa rfl
  rintro v rfl
  dsimp only
  refine ao (Mc (by omega)) (ae (Ev.wp_mono (Hw hg hok hlen hx _ _ ((0:Int),(cn g i).1.map cQ,IC 0 (cn g i).1)) λt ht=>?_))
  have hsucc:lE g (i+1)=match jF (mJ (Jb 4096) (cu g) x i) ((cn g i).1,(cn g i).2.1,[]) (bX g)with
   | .inl r=>.inl (r.1,r.2.1,(cn g i).2.2++[r.2.2])
   | .inr r=>.inr (r.1,r.2,(cn g i).2.2):=by
   have hS':iL (cu g) none (bX g) (Jb 4096) i= .inl (cn g i):=hS
   simp only[lE,iL,hS',hx]
   generalize jF (mJ (Jb 4096) (cu g) x i) ((cn g i).1,(cn g i).2.1,[]) (bX g)=z
   cases z<;>rfl
  cases hf:jF (mJ (Jb 4096) (cu g) x i) ((cn g i).1,(cn g i).2.1,[]) (bX g)with
  |inl r'=>
   rw[hf]at ht hsucc
   obtain⟨rfl,h2⟩:=ht
   have hpre:=((ka (i+1)).1 _ hsucc).1
   have hp:=(iM (f:=cu g) (s0:=none) (ls:=bX g) i).1
   rw[<-hpre]at hp
   have hpl:(cn g i).1.length<=r'.1.length:=hp.length_le
   refine ao (decide_eq_true (by simp[nZ];omega)) ?_
   refine ae (gf (b:=g.em) (λ_=>aa rfl) ?_)
   refine ae (dw (b:= !(cQ x).1&&(fb .u64 .and (cQ x).2.1 ((bG g.la:Nat):Int) != (0:Int))) (λ_=>ae (gf (λ_=>aa rfl) (aa rfl))) ?_)
   have hacc:(((cQ x).1&&g.em)||(!(cQ x).1&&(fb .u64 .and (cQ x).2.1 ((bG g.la:Nat):Int) != (0:Int))))=l4 g x:=by
    cases x with
    |none=>simp[cQ,l4]
    |some b=>
     have hb:b<2^64:=by
      have:=hok.inv (P:=λy=>∀c,y=some c->c<2^64) (λc hc=>by cases hc) (λy c _ _ d hd=>by
       have:l5 g y&&&vm g c=d:=by simpa[cu]using hd
       rw[<-this]
       exact aE_ bg_ (SO hg y)) i _ hx
      exact this b rfl
     simp only[cQ,l4,Bool.false_and,Bool.not_false,aq_,bp_]
     rw[SE hb (XQ hg)]
     by_cases e:b&&&bG g.la=0
     ·rw[e];rfl
     ·rw[show((((b&&&bG g.la:Nat):Int)) != 0)=true by simp;omega,show(b&&&bG g.la != 0)=true by simpa using e]
   rw[hacc]
   refine ao (decide_eq_true (by simp;omega)) (aa ?_)
   refine⟨⟨i+1,(r'.1,r'.2.1,(cn g i).2.2++[r'.2.2]),?_,hsucc,E_ hi hpl⟩,?_⟩
   ·simp only[aM,nZ,p_,O_,W_]
    rw[an hi (by omega),show(r'.1.take (i+1)).map (l4 g)=((cn g i).1.take i).map (l4 g)++[l4 g x]from by rw[Ie hx,Mr (L':=r'.1) hp (by_ hi)]]
   ·rw[an hi (by omega)]
    simp only[c_]
    omega
  |inr r'=>
   rw[hf]at ht hsucc
   subst ht
   refine aa (aa ?_)
   have he:lE g NL= .inr (r'.1,r'.2,(cn g i).2.2):=Fw (by omega) hsucc
   rw[he]
   rfl
 ·have hi:(cn g i).1.length<=i:=by have:=of_decide_eq_false h;omega
  have he:lE g NL= .inl (cn g i):=It (by omega) hS hi
  have hfin:cn g NL=cn g i:=wg (by omega) hi
  have hall:(sR g).length<=4096:=by unfold sR;rw[hfin];exact hlen
  have hd:((bX g,nZ (cn g i).2.2,((cn g i).1.take i).map (l4 g),(0:Int),()):DF)=dN g:=by
   have h1:=Pr hall
   rw[hfin]at h1
   rw[<-h1,v_ hi,<-hfin]
   rfl
  rw[he]
  refine aa ?_
  show Wp (λn=>n_ (aH (kS tbl n) fI [.d (pr [.list tI,.list (.list tI),.list tB,tI]) (bX g,nZ (cn g i).2.2,((cn g i).1.take i).map (l4 g),(0:Int),())] [] dQ) _) _
  rw[hd]
  exact au (hm hall) (aa rfl)
section
variable {α β:Type}
theorem UJ{xs:List α}{i:Nat}{f:Nat->α->Option β}{Q:β->Prop}(h:i<xs.length)(hk:Wp (λn=>f n xs[i]) Q):Wp (λn=>n_ (aL xs (i:Int)) λ_=>n_ xs[D_ (i:Int)]? (f n)) Q:=by
 refine aB h ?_
 rw[c_]
 exact bm (a_ h) hk
theorem zx{M i:Nat}{g:Nat->Bool}{f:Nat->Bool->Option β}{Q:β->Prop}(h:i<M)(hk:Wp (λn=>f n (g i)) Q):Wp (λn=>n_ (aL (a6 M g) (i:Int)) λ_=>n_ (a6 M g)[D_ (i:Int)]? (f n)) Q:=by
 refine UJ (by rw[cX];exact h) ?_
 rw[tw]
 exact hk
end
theorem OA{M:Nat}(hM:M<=1000000):Wp (λn=>aK n (jQ (kS tbl n) n ((M:Int),())) ((0:Int),i_ (D_ (M:Int)) ([]:List Bool),())) λt=>t=(eZ M [],()):=by
 have hz:eZ M []=i_ M (i_ M false):=by
  refine x_ (by simp[eZ]) λi h1 h2=>?_
  rw[AP,List.getElem_replicate]
  refine x_ (by simp) λj h3 h4=>by simp
 refine aS (N:=M) (I:=λi s=>s=((i:Int),(i_ M (i_ M false)).take i++i_ (M - i) [],())) (by simp) ?_ ?_
 ·rintro i s hi rfl
  have hln:((i_ M (i_ M false)).take i++i_ (M - i) ([]:List Bool)).length=M:=by simp;omega
  have hget:i<((i_ M (i_ M false)).take i++i_ (M - i) ([]:List Bool)).length:=by rw[hln];exact hi
  unfold jQ
  show Wp (λn=>bif decide ((i:Int)<((i_ (D_ (M:Int)) ([]:List Bool)).length:Int))then _ else _) _
  rw[aK_,c_]
  refine bT hi ?_
  show Wp (λn=>aw _ _) _
  refine ao (by rw[hln];simp only[l_,decide_eq_true_eq];omega) ?_
  refine aB hget (ao (decide_eq_true (by omega)) ?_)
  rw[c_]
  refine bm (a_ hget) (bm (a_ hget) (ao (aR_ _) (bm (a_ hget) (aa ?_))))
  rw[an hi (by omega),hln,c_]
  congr 2
  refine aH_ λj=>?_
  rw[bt_]
  by_cases hj:i=j
  ·subst hj
   rw[if_pos rfl,if_pos hget,T_ (by simp;omega),aO_,X_,if_pos (by omega)]
   rfl
  ·rw[if_neg hj]
   by_cases h1:j<i
   ·rw[T_ (by simp;omega),T_ (by simp;omega)]
    rw[aO_,aO_,X_,X_,if_pos (by omega),if_pos (by omega)]
   ·rw[P_ (by simp;omega),P_ (by simp;omega)]
    simp only[N_,aK_,X_]
    rw[Y_ (by omega),Y_ (by omega)]
    by_cases h2:j<M
    ·rw[if_pos (by omega),if_pos (by omega)]
    ·rw[if_neg (by omega),if_neg (by omega)]
 ·rintro s rfl
  unfold jQ
  show Wp (λn=>bif decide ((M:Int)<((i_ (D_ (M:Int)) ([]:List Bool)).length:Int))then _ else _) _
  rw[aK_,c_]
  refine br (aa ?_)
  show(_,_)=(_,_)
  rw[hz]
  simp
theorem JW{M:Nat}(hM:M<=1000000)(fi la:List Nat)(em:Bool)(lo up:List Int)(F:List (List Bool))(hfi:∀p∈fi,p<M)(hl:fi.length<=1000000):
 Wp (λn=>aK n (jR (kS tbl n) n ((cL fi,cL la,em,()),lo,up,F,())) ((0:Int),lo,up,F,cL fi,cL la,em,a6 M (λ_=>false),())) λt=>t=(lo,up,F,cL fi,cL la,em,a6 M (λp=>decide (p∈fi)),()):=by
 refine aS (N:=(cL fi).length) (I:=λi s=>s=((i:Int),lo,up,F,cL fi,cL la,em,a6 M (λp=>decide (p∈fi.take i)),())) (by simp) ?_ ?_
 ·rintro i s hi' rfl
  have hi:i<fi.length:=by rw[bQ]at hi';exact hi'
  have hp:=hfi _ (b_ hi)
  unfold jR
  refine bT hi' (aB hi' ?_)
  rw[vO hi]
  refine zx hp (aa ?_)
  rw[an hi' (by rw[bQ];omega),c_,qR]
  have e:(a6 M λj=>if j=fi[i]then true else decide (j∈fi.take i))=a6 M λp=>decide (p∈fi.take (i+1)):=cz λj _=>by
   have ht:∀x,x∈fi.take (i+1)↔x∈fi.take i\/x=fi[i]:=λx=>by
    rw[h_,a_ hi,d_,C_,o_]
   by_cases h:j=fi[i]
   ·rw[if_pos h,decide_eq_true ((ht j).2 (.inr h))]
   ·rw[if_neg h]
    refine decide_eq_decide.2 ⟨λh1=>(ht j).2 (.inl h1),λh1=>((ht j).1 h1).resolve_right h⟩
  rw[e]
 ·rintro s rfl
  unfold jR
  refine br (aa ?_)
  rw[bQ,g_]
theorem Od{M:Nat}(hM:M<=1000000){i:Nat}(hi:i<M)(P:List (Nat×Nat))(lo up fi la:List Int)(em:Bool)(fc fa0 fa fn:Nat->Bool):
 Wp (λn=>aK n (jS (kS tbl n) n ((i:Int),eZ M P,lo,up,fi,la,em,a6 M fc,a6 M fa0,a6 M fn,())) ((0:Int),eZ M P,lo,up,fi,la,em,a6 M fc,a6 M fa,a6 M fn,())) λt=>
  t=(eZ M P,lo,up,fi,la,em,a6 M fc,a6 M fa,a6 M (λq=>fn q||(fa i&&decide ((i,q)∈P))),()):=by
 refine aS (N:=(a6 M fn).length) (I:=λk s=>s=((k:Int),eZ M P,lo,up,fi,la,em,a6 M fc,a6 M fa,a6 M (λq=>if q<k then fn q||(fa i&&decide ((i,q)∈P))else fn q),())) (by simp) ?_ ?_
 ·rintro k s hk' rfl
  have hk:k<M:=by rw[cX]at hk';exact hk'
  unfold jS
  refine bT hk' (zx hk ?_)
  rw[if_neg (Nat.lt_irrefl k)]
  refine ae (dw (b:=fa i&&decide ((i,k)∈P)) (λ_=>?_) ?_)
  ·refine zx hi (ae (gf (b:=decide ((i,k)∈P)) (λ_=>?_) (aa rfl)))
   refine aB (xs:=eZ M P) (by rw[FN];exact hi) ?_
   rw[AP]
   refine aB (by simpa using hk) (aa ?_)
   simp
  ·refine zx hk (aa ?_)
   rw[an hk' (by rw[cX];omega),c_,qR]
   have e:(a6 M λj=>if j=k then fn k||(fa i&&decide ((i,k)∈P))else if j<k then fn j||(fa i&&decide ((i,j)∈P))else fn j)=a6 M λq=>if q<k+1 then fn q||(fa i&&decide ((i,q)∈P))else fn q:=cz λj _=>by
    by_cases h:j=k
    ·subst h;simp
    ·by_cases h1:j<k
     ·simp[h,h1,show j<k+1 by omega]
     ·simp[h,h1,show ¬j<k+1 by omega]
   rw[e]
 ·rintro s rfl
  unfold jS
  refine br (aa ?_)
  rw[cX]
  have e:(a6 M λq=>if q<M then fn q||(fa i&&decide ((i,q)∈P))else fn q)=a6 M λq=>fn q||(fa i&&decide ((i,q)∈P)):=cz λj hj=>by rw[if_pos hj]
  rw[e]
theorem EN(f:Nat->Bool)(i:Nat):(e_ (i+1)).any f=((e_ i).any f||f i):=by
 rw[R_,aA_];simp
theorem OX{M:Nat}(hM:M<=1000000)(g:G)(hsp:g.sp.length=M)(hpr:∀p q,(p,q)∈g.pr->p<M)(J2:Int)(fi la:List Int)(em:Bool)(fc fa:Nat->Bool)(v:Int):
 Wp (λn=>aK n (jT (kS tbl n) n (J2,eZ M g.pr,g.sp.map (·.1),g.sp.map (·.2),fi,la,em,a6 M fc,a6 M fa,()) v) ((0:Int),eZ M g.pr,g.sp.map (·.1),g.sp.map (·.2),fi,la,em,a6 M fc,a6 M fa,a6 M (λ_=>false),())) λt=>
  t=(eZ M g.pr,g.sp.map (·.1),g.sp.map (·.2),fi,la,em,a6 M (G1 g fc v),a6 M (TG g (G1 g fc v)),()):=by
 refine aS (N:=(a6 M fa).length) (I:=λi s=>s=((i:Int),eZ M g.pr,g.sp.map (·.1),g.sp.map (·.2),fi,la,em,a6 M fc,a6 M (λj=>if j<i then G1 g fc v j else fa j),a6 M (λq=>(e_ i).any λj=>G1 g fc v j&&decide ((j,q)∈g.pr)),())) (by simp) ?_ ?_
 ·rintro i s hi' rfl
  have hi:i<M:=by rw[cX]at hi';exact hi'
  have his:i<g.sp.length:=by omega
  have hh:jo g v i=(decide (g.sp[i].1<=v)&&decide (v<=g.sp[i].2)):=by
   unfold jo
   rw[a_ his]
  unfold jT
  refine bT hi' (zx hi ?_)
  refine ae (gf (b:=decide (g.sp[i].1<=v)) (λ_=>?_) ?_)
  ·refine UJ (xs:=g.sp.map (·.1)) (by simpa using his) ?_
   refine aa ?_
   simp
  refine ae (gf (b:=decide (v<=g.sp[i].2)) (λ_=>?_) ?_)
  ·refine UJ (xs:=g.sp.map (·.2)) (by simpa using his) ?_
   refine aa ?_
   simp
  refine zx hi ?_
  have ha:((fc i&&decide (g.sp[i].1<=v))&&decide (v<=g.sp[i].2))=G1 g fc v i:=by
   unfold G1
   rw[hh,bi_]
  rw[ha,c_]
  have e1:(a6 M λj=>if j<i then G1 g fc v j else fa j).set i (G1 g fc v i)=a6 M λj=>if j<i+1 then G1 g fc v j else fa j:=by
   rw[qR]
   refine cz λj _=>?_
   by_cases h:j=i
   ·subst h;simp
   ·by_cases h1:j<i
    ·simp[h,h1,show j<i+1 by omega]
    ·simp[h,h1,show ¬j<i+1 by omega]
  rw[e1]
  refine ae (Ev.wp_mono (Od hM hi g.pr _ _ fi la em fc _ _ _) ?_)
  rintro t rfl
  refine aa ?_
  rw[an hi' (by rw[cX];omega)]
  have e2:(a6 M λq=>((e_ i).any λj=>G1 g fc v j&&decide ((j,q)∈g.pr))||((if i<i+1 then G1 g fc v i else fa i)&&decide ((i,q)∈g.pr)))=a6 M λq=>(e_ (i+1)).any λj=>G1 g fc v j&&decide ((j,q)∈g.pr):=cz λq _=>by
   rw[EN,if_pos (Nat.lt_succ_self i)]
  rw[e2]
 ·rintro s rfl
  unfold jT
  refine br (aa ?_)
  rw[cX]
  have e1:(a6 M λj=>if j<M then G1 g fc v j else fa j)=a6 M (G1 g fc v):=cz λj hj=>by rw[if_pos hj]
  have e2:(a6 M λq=>(e_ M).any λj=>G1 g fc v j&&decide ((j,q)∈g.pr))=a6 M (TG g (G1 g fc v)):=cz λq _=>by
   refine bf_.2 ?_
   rw[nxF_iff,M_]
   constructor
   ·rintro⟨p,_,h⟩
    simp only[l_,decide_eq_true_eq]at h
    exact⟨p,h⟩
   ·rintro⟨p,h1,h2⟩
    exact⟨p,j_.2 (hpr p q h2),by simp[h1,h2]⟩
  rw[e1,e2]
theorem Mv{path:List Int}{i:Nat}(h:i<path.length):eK (path.take (i+1))=(eK (path.take i)&&(decide (0<=path[i])&&decide (path[i]<=4294967295))):=by
 unfold eK
 rw[h_,a_ h,List.all_append]
 simp
theorem Mw{path:List Int}{i:Nat}(h:eK (path.take i)=false):eK path=false:=by
 cases e:eK path
 ·rfl
 ·have:eK (path.take i)=true:=by
   unfold eK at e⊢
   rw[List.all_eq_true]at e⊢
   exact λx hx=>e x (B_ hx)
  rw[this]at h;cases h
theorem Oh{M:Nat}(hM:M<=1000000)(g:G)(hsp:g.sp.length=M)(hpr:∀p q,(p,q)∈g.pr->p<M)(fi la:List Int)(em:Bool)(path:List Int)(hp:path.length<=1000000):
 Wp (λn=>aK n (jU (kS tbl n) n path) ((0:Int),eZ M g.pr,g.sp.map (·.1),g.sp.map (·.2),fi,la,em,a6 M (gE g []).1,a6 M (gE g []).2,())) λt=>match t with
  | .inl e=>e=(false,())/\eK path=false
  | .inr t=>eK path=true/\t=(fi,la,em,a6 M (gE g path).2,()):=by
 refine aS (N:=path.length) (I:=λi s=>eK (path.take i)=true/\s=((i:Int),eZ M g.pr,g.sp.map (·.1),g.sp.map (·.2),fi,la,em,a6 M (gE g (path.take i)).1,a6 M (gE g (path.take i)).2,())) ⟨rfl,by simp⟩ ?_ ?_
 ·rintro i s hi ⟨hr,rfl⟩
  have hsu:=Mv hi
  rw[hr,aq_]at hsu
  unfold jU
  refine bT hi (aB hi ?_)
  refine ae (dw (b:=decide (path[i]>4294967295)) (λ_=>aa rfl) ?_)
  refine aJ (λh=>aa ⟨rfl,?_⟩) λh=>?_
  ·refine Mw (i:=i+1) ?_
   rw[hsu]
   have h:(decide (path[i]<0)||decide (path[i]>4294967295))=true:=h
   simp only[L_,decide_eq_true_eq]at h
   simp only[aJ_,decide_eq_false_iff_not]
   omega
  ·have h:(decide (path[i]<0)||decide (path[i]>4294967295))=false:=h
   simp only[z_,decide_eq_false_iff_not]at h
   have hl:(a6 M (gE g (path.take i)).1).length=M:=cX _ _
   refine ao ?_ ?_
   ·show(decide (0<=((a6 M (gE g (path.take i)).1).length:Int))&&decide (((a6 M (gE g (path.take i)).1).length:Int)<=((a6 M (gE g (path.take i)).1).length:Int))&&decide (((a6 M (gE g (path.take i)).1).length:Int)<=9223372036854775807)&&decide (1*((a6 M (gE g (path.take i)).1).length:Int)<=281474976710656))=true
    rw[hl]
    simp only[l_,decide_eq_true_eq]
    omega
   have h3:=OX hM g hsp hpr (i:Int) fi la em (gE g (path.take i)).1 (gE g (path.take i)).2 path[i]
   have hz:i_ (D_ ((a6 M (gE g (path.take i)).1).length:Int)) (Ty.zero tB)=a6 M λ_=>false:=by
    rw[hl,c_];exact Bg M
   rw[<-hz]at h3
   refine ae (Ev.wp_mono h3 ?_)
   rintro t rfl
   refine aa ⟨?_,?_⟩
   ·rw[hsu]
    simp only[l_,decide_eq_true_eq]
    omega
   ·rw[an hi (by omega),RD hi]
    rfl
 ·rintro s ⟨hr,rfl⟩
  unfold jU
  rw[g_]at hr
  refine br (aa ⟨hr,?_⟩)
  rw[g_]
theorem GL(r:Rx)(hs:sz r<=100000)(path:List Int)(hp:path.length<=1000000):
 aU tbl gU [.d .rx r,.d (.list tI) path] [] cM (cO r&&(eK path&&lR (bR r 0) path),()):=by
 refine aZ rfl (aV HN rfl (λO m=>H2 O m r path) ?_)
 unfold ya
 refine au (Jl r (by omega)) (aJ (λh=>aa ?_) λh=>?_)
 ·have h:(!cO r)=true:=h
  have:cO r=false:=by simpa using h
  rw[this];rfl
 have hw:cO r=true:=by
  have h:(!cO r)=false:=h
  simpa using h
 rw[hw,aq_]
 have hM:cnt r<=100000:=E_ (E0 r) hs
 obtain⟨hsp,_⟩:=dE r hw 0
 have hlie:=fC r 0
 refine au (GP r (by omega)) (ao ?_ (ae (Ev.wp_mono (OA (M:=cnt r) (by omega)) ?_)))
 ·show(decide (0<=(cnt r:Int))&&decide ((cnt r:Int)<=(cnt r:Int))&&decide ((cnt r:Int)<=9223372036854775807)&&decide (24*(cnt r:Int)<=281474976710656))=true
  simp only[l_,decide_eq_true_eq]
  omega
 rintro t rfl
 have hwk:=xz (M:=cnt r) (by omega) r hw (by omega) [] [] [] rfl (by simp)
 simp only[Q_,G_]at hwk
 generalize hg:bR r 0=g at*
 have hl:(eZ (cnt r) g.pr).length=cnt r:=FN _ _
 have hz:i_ (D_ ((eZ (cnt r) g.pr).length:Int)) (Ty.zero tB)=a6 (cnt r) λ_=>false:=by
  rw[hl,c_];exact Bg _
 refine au hwk (ao ?_ ?_)
 ·show(decide (0<=((eZ (cnt r) g.pr).length:Int))&&decide (((eZ (cnt r) g.pr).length:Int)<=((eZ (cnt r) g.pr).length:Int))&&decide (((eZ (cnt r) g.pr).length:Int)<=9223372036854775807)&&decide (1*((eZ (cnt r) g.pr).length:Int)<=281474976710656))=true
  rw[hl]
  simp only[l_,decide_eq_true_eq]
  omega
 have h1:=JW (M:=cnt r) (by omega) g.fi g.la g.em (g.sp.map (·.1)) (g.sp.map (·.2)) (eZ (cnt r) g.pr) (λp hp=>by have:=hlie.fi p hp;omega) (by have:=hlie.fl;omega)
 rw[<-hz]at h1
 refine ae (Ev.wp_mono h1 ?_)
 rintro t rfl
 have hl2:(a6 (cnt r) λp=>decide (p∈g.fi)).length=cnt r:=cX _ _
 have hz2:i_ (D_ ((a6 (cnt r) λp=>decide (p∈g.fi)).length:Int)) (Ty.zero tB)=a6 (cnt r) λ_=>false:=by
  rw[hl2,c_];exact Bg _
 refine ao ?_ ?_
 ·show(decide (0<=((a6 (cnt r) λp=>decide (p∈g.fi)).length:Int))&&decide (((a6 (cnt r) λp=>decide (p∈g.fi)).length:Int)<=((a6 (cnt r) λp=>decide (p∈g.fi)).length:Int))&&decide (((a6 (cnt r) λp=>decide (p∈g.fi)).length:Int)<=9223372036854775807)&&decide (1*((a6 (cnt r) λp=>decide (p∈g.fi)).length:Int)<=281474976710656))=true
  rw[hl2]
  simp only[l_,decide_eq_true_eq]
  omega
 have h4:=Oh (M:=cnt r) (by omega) g hsp (λp q h=>by have:=(hlie.pr p q h).1;omega) (cL g.fi) (cL g.la) g.em path hp
 have hst:(a6 (cnt r) (gE g []).2)=i_ (D_ ((a6 (cnt r) λp=>decide (p∈g.fi)).length:Int)) (Ty.zero tB):=hz2.symm
 rw[hst]at h4
 refine ae (Ev.wp_mono h4 ?_)
 rintro(e|t) ht
 ·obtain⟨rfl,hr⟩:=ht
  refine aa ?_
  rw[hr];rfl
 obtain⟨hr,rfl⟩:=ht
 rw[hr,aq_]
 refine aJ (λh=>aa ?_) λh=>?_
 ·have:path=[]:=List.eq_nil_of_length_eq_zero (by
   have h:((path.length:Int)==0)=true:=h
   simpa using h)
  subst this
  rfl
 ·have hne:path.isEmpty=false:=by
   cases path with
   |nil=>cases h
   |cons=>rfl
  have hmg:lR g path=g.la.any (gE g path).2:=by unfold lR;rw[hne];rfl
  rw[hmg]
  have hlast:Wp (λn=>aK n (jV (kS tbl n) n (cL g.fi,cL g.la,g.em,a6 (cnt r) (gE g path).2,())) ((0:Int),a6 (cnt r) (gE g path).2,())) λt=>match t with
   | .inl e=>e=(true,())/\g.la.any (gE g path).2=true
   | .inr _=>g.la.any (gE g path).2=false:=by
   refine aS (N:=(cL g.la).length) (I:=λi s=>s=((i:Int),a6 (cnt r) (gE g path).2,())/\(g.la.take i).any (gE g path).2=false) ⟨rfl,rfl⟩ ?_ ?_
   ·rintro i s hi' ⟨rfl,ha⟩
    have hi:i<g.la.length:=by rw[bQ]at hi';exact hi'
    have hm:=b_ hi
    have hlt:g.la[i]<cnt r:=by have:=hlie.la _ hm;omega
    have hll:=hlie.ll
    unfold jV
    refine bT hi' (aB hi' ?_)
    rw[vO hi]
    refine zx hlt (aJ (λh=>aa ⟨rfl,?_⟩) λh=>aa ⟨?_,?_⟩)
    ·exact M_.2 ⟨_,hm,h⟩
    ·rw[an hi' (by rw[bQ];omega)]
    ·rw[h_,a_ hi,aA_,ha]
     simp[h]
   ·rintro s ⟨rfl,ha⟩
    unfold jV
    refine br (aa ?_)
    rw[bQ,g_]at ha
    exact ha
  refine ae (Ev.wp_mono hlast ?_)
  rintro(e|t) ht
  ·obtain⟨rfl,ha⟩:=ht
   refine aa ?_
   rw[ha]
  ·refine aa ?_
   rw[show g.la.any (gE g path).2=false from ht]
theorem s8{k:Nat}(h:k<=1000000000):(decide (0<=(k:Int))&&decide ((k:Int)<=(k:Int))&&decide ((k:Int)<=9223372036854775807)&&decide (1*(k:Int)<=281474976710656))=true:=by
 simp only[l_,decide_eq_true_eq];omega
theorem tg(n:Nat):i_ (D_ (n:Int)) (Ty.zero tB)=a6 n λ_=>false:=by
 rw[c_];exact Bg n
theorem GJ(n:Nat)(hn:n<=1000000)(l:List Nat)(hl:∀p∈l,p<n)(hll:l.length<=1000000):aU tbl mT [.d tI (n:Int),.d (.list tI) (cL l)] [] jK (a6 n (λp=>decide (p∈l)),()):=by
 refine aZ rfl (aV HJ rfl (λO m=>HZ O m (n:Int) (cL l)) ?_)
 unfold x7
 rw[tg]
 refine ao (s8 (by omega)) (ae (aS (N:=(cL l).length) (I:=λi s=>s=((i:Int),a6 n (λp=>decide (p∈l.take i)),())) ?_ ?_ ?_))
 ·simp
 ·rintro i s hi rfl
  have hi2:i<l.length:=by rw[<-bQ];exact hi
  have hp:=hl _ (b_ hi2)
  unfold om
  dsimp only
  refine bT hi (aB hi ?_)
  rw[vO hi2]
  have hv:l[i]<(a6 n (λp=>decide (p∈l.take i))).length:=by rw[cX];exact hp
  refine aB hv (bm (x:=(a6 n (λp=>decide (p∈l.take i)))[l[i]]) (by rw[c_];exact a_ hv) (aa ?_))
  rw[an hi (by rw[bQ];omega),c_,qR]
  have:a6 n (λj=>if j=l[i]then true else decide (j∈l.take i))=a6 n (λp=>decide (p∈l.take (i+1))):=cz λj hj=>by
   rw[h_,a_ hi2]
   simp only[C_,d_,o_]
   by_cases e:j=l[i]
   ·rw[if_pos e];simp[e]
   ·rw[if_neg e];simp[e]
  rw[this]
 ·rintro s rfl
  unfold om
  refine br (aa (aa ?_))
  rw[bQ,g_]
theorem xy(n:Nat)(hn:n<=1000000)(l:List Nat)(hl:∀p∈l,p<n)(hll:l.length<=1000000):aU tbl fP [.d tI (n:Int),.d (.list tI) (cL l)] [] eB (a6 n (λp=>decide (p∈l)),()):=by
 refine aZ rfl (aV xU rfl (λO m=>xV O m (n:Int) (cL l)) ?_)
 unfold oF
 rw[tg]
 refine ao (s8 (by omega)) (ae (aS (N:=(cL l).length) (I:=λi s=>s=((i:Int),a6 n (λp=>decide (p∈l.take i)),())) ?_ ?_ ?_))
 ·simp
 ·rintro i s hi rfl
  have hi2:i<l.length:=by rw[<-bQ];exact hi
  have hp:=hl _ (b_ hi2)
  unfold hZ
  dsimp only
  refine bT hi (aB hi ?_)
  rw[vO hi2]
  have hv:l[i]<(a6 n (λp=>decide (p∈l.take i))).length:=by rw[cX];exact hp
  refine aB hv (bm (x:=(a6 n (λp=>decide (p∈l.take i)))[l[i]]) (by rw[c_];exact a_ hv) (aa ?_))
  rw[an hi (by rw[bQ];omega),c_,qR]
  have:a6 n (λj=>if j=l[i]then true else decide (j∈l.take i))=a6 n (λp=>decide (p∈l.take (i+1))):=cz λj hj=>by
   rw[h_,a_ hi2]
   simp only[C_,d_,o_]
   by_cases e:j=l[i]
   ·rw[if_pos e];simp[e]
   ·rw[if_neg e];simp[e]
  rw[this]
 ·rintro s rfl
  unfold hZ
  refine br (aa (aa ?_))
  rw[bQ,g_]
def kg(n:Nat):Option Nat->List Bool
 |none=>a6 n λ_=>false
 |some b=>a6 n b.testBit
theorem Bh(n:Nat)(x:Option Nat):(kg n x).length=n:=by cases x<;>exact cX _ _
structure Sts(n:Nat)(L:List (Option Nat)):Prop where
 hd:L[0]? =some none
 tl:∀i,0<i->∀x,L[i]? =some x->∃b,x=some b/\b<2^n
theorem GK{n:Nat}(hn:n<=1000000){L:List (Option Nat)}(hL:Sts n L)(hl:L.length<=1000000){c:Nat}(hc:c<2^n):
 aU tbl mU [.d (.list (.list tB)) (L.map (kg n)),.d (.list tB) (kg n (some c))] [] gY ((pos L (some c):Int),()):=by
 refine aZ rfl (aV HK rfl (λO m=>H0 O m (L.map (kg n)) (kg n (some c))) ?_)
 unfold x8
 have h0:=(I_.1 hL.hd).1
 have hml:(L.map (kg n)).length=L.length:=q_ _
 refine ae (Ev.wp_mono (Q:=fun(r:(Int×Unit)⊕Unit)=>match r with| .inl v=>v=((pos L (some c):Int),())| .inr _=>pos L (some c)=L.length) (aS (N:=L.length - 1) (I:=λj s=>s=(((j+1:Nat):Int),())/\∀t z,t<j+1->L[t]? =some z->z≠some c) ⟨rfl,λt z ht hz=>?_⟩ ?_ ?_) ?_)
 ·have:t=0:=by omega
  subst this
  rw[hL.hd]at hz
  cases hz
  intro h;cases h
 ·rintro j s hj ⟨rfl,hno⟩
  have hj2:j+1<L.length:=by omega
  have hx:=a_ hj2
  obtain⟨b,hb,hb2⟩:=hL.tl (j+1) (by omega) _ hx
  unfold oo
  dsimp only
  refine db (decide_eq_true (by rw[hml];omega)) ?_
  have hin:Wp (λm=>aK m (jP (kS tbl m) m (L.map (kg n)) (kg n (some c)) (((j+1:Nat):Int),())) (true,(0:Int),())) λr=>r=(decide (b=c),()):=by
   refine aS (N:=(kg n (some c)).length) (I:=λk s=>s=(true,(k:Int),())/\∀t,t<k->b.testBit t=c.testBit t) ⟨rfl,λt ht=>absurd ht (by omega)⟩ ?_ ?_
   ·rintro k s hk ⟨rfl,hsame⟩
    have hk2:k<n:=by rw[Bh]at hk;exact hk
    unfold jP
    dsimp only
    refine bT hk (aB hk (Bj (x:=kg n (some b)) (by rw[A_,hx,hb];rfl) (aB (by rw[Bh];exact hk2) ?_)))
    have e1:(kg n (some c))[k]=c.testBit k:=tw _ _
    have e2:(kg n (some b))[k]'(by rw[Bh];exact hk2)=b.testBit k:=tw _ _
    rw[e1,e2]
    refine aJ (λh=>aa ?_) λh=>aa ⟨?_,?_⟩
    ·have:b≠c:=by rintro rfl;simp at h
     rw[decide_eq_false this]
    ·rw[an hk2 (by omega)]
    ·intro t ht
     by_cases e:t=k
     ·subst e
      simpa using h
     ·exact hsame t (by omega)
   ·rintro s ⟨rfl,hsame⟩
    rw[Bh]at hsame
    unfold jP
    refine br (aa ?_)
    have:b=c:=bl_ λi=>by
     by_cases hi:i<n
     ·exact hsame i hi
     ·rw[be_ (aF_ hb2 (au_ (by decide) (by omega))),be_ (aF_ hc (au_ (by decide) (by omega)))]
    rw[decide_eq_true this]
  refine ae (Ev.wp_mono hin ?_)
  rintro r rfl
  refine aJ (λh=>aa ?_) λh=>aa ⟨?_,λt z ht hz=>?_⟩
  ·have h:b=c:=of_decide_eq_true h
   subst h
   show(((j+1:Nat):Int),())=_
   have:j+1=pos L (some b):=Kh (by omega) (λt z ht hz=>hno t z ht hz) (λz hz=>by rw[hx,hb]at hz;cases hz;rfl)
   rw[<-this]
  ·show(u_ .i64 (((j+1:Nat):Int)+1),())=_
   rw[an hj2 (by omega)]
  ·by_cases e:t=j+1
   ·subst e
    rw[hx,hb]at hz
    cases hz
    have h:¬b=c:=of_decide_eq_false h
    intro e;cases e;exact h rfl
   ·exact hno t z (by omega) hz
 ·rintro s ⟨rfl,hno⟩
  unfold oo
  dsimp only
  refine aX (decide_eq_false (by rw[hml];omega)) (aa ?_)
  refine P1 λhm=>?_
  obtain⟨t,ht,e⟩:=k_.1 hm
  exact hno t _ (by omega) (a_ ht) e
 ·rintro(v|v) hv
  ·have hv:v=((pos L (some c):Int),()):=hv
   subst hv
   exact aa rfl
  ·have hv:pos L (some c)=L.length:=hv
   refine aa ?_
   rw[hml,hv]
section
variable {g:G}
theorem Jv(hg:Cz g)(v:(List Int)×(List Int)×(List (Int×(Int×Unit)))×(List (List Int))×Unit)(hv:v.2.2.1=nj g.sp)(F:List (List Int)):
 Wp (λn=>aK n (im (kS tbl n) n v) ((0:Int),(0:Int),nj g.sp,F,([(0:Int)]:List Int),())) λt=>t=((0:Int),nj g.sp,F,p8 g.sp,()):=by
 have hn:=hg.n64
 refine aS (N:=(nj g.sp).length) (I:=λi s=>s=((i:Int),(0:Int),nj g.sp,F,p8 (g.sp.take i),())) rfl ?_ ?_
 ·rintro i s hi rfl
  have hi2:i<g.sp.length:=by rw[<-pM];exact hi
  have e1:(nj g.sp)[i]=(g.sp[i].1,g.sp[i].2,()):=by simp[nj]
  have hq:=hg.inn _ (b_ hi2)
  have hq2:=hg.le _ (b_ hi2)
  have hl2:=zY (g.sp.take i)
  rw[N_]at hl2
  unfold im
  rw[hv]
  dsimp only
  refine bT hi (ae ?_)
  refine aB hi (bm (x:=(nj g.sp)[i]) (by rw[c_];exact a_ hi) ?_)
  rw[e1,Ih hi2]
  refine ao (decide_eq_true (by simp;omega)) ?_
  refine aJ (λh=>ao (decide_eq_true (by simp;omega)) (aa (aa ?_))) λh=>aa (aa ?_)
  ·have h:g.sp[i].2<4294967295:=of_decide_eq_true h
   rw[an hi (by rw[pM];omega),if_pos h]
   show(_,_,_,_,_++[_]++[u_ .i64 (g.sp[i].2+1)],_)=_
   have ew:u_ .i64 (g.sp[i].2+1)=g.sp[i].2+1:=wrap_i64 (by omega) (by omega)
   rw[ew]
   simp
  ·have h:¬g.sp[i].2<4294967295:=of_decide_eq_false h
   rw[an hi (by rw[pM];omega),if_neg h]
 ·rintro s rfl
  unfold im
  rw[hv]
  refine br (aa ?_)
  rw[v_ (by rw[pM];exact Z_ _)]
theorem N9{n:Nat}(hn:n<=64)(l:List Int)(hl:∀x∈l,0<=x/\x<(n:Int))(hll:l.length<=64)(F:List (List Int))(spots:List (Int×(Int×Unit)))(st:List Int)(RR:List (List Int))(AA:List Bool)(SS:List (List Bool))(f:Nat->Bool):
 Wp (λm=>aK m (io (kS tbl m) m l) ((0:Int),(0:Int),F,spots,st,(0:Int),RR,AA,SS,a6 n f,())) λt=>t=((0:Int),F,spots,st,(0:Int),RR,AA,SS,a6 n (λq=>f q||decide ((q:Int)∈l)),()):=by
 refine aS (N:=l.length) (I:=λi s=>s=((i:Int),(0:Int),F,spots,st,(0:Int),RR,AA,SS,a6 n (λq=>f q||decide ((q:Int)∈l.take i)),())) (by simp) ?_ ?_
 ·rintro i s hi rfl
  have hx:=hl _ (b_ hi)
  unfold io
  dsimp only
  refine bT hi (aB hi ?_)
  obtain⟨k,hk⟩:∃k:Nat,l[i]=(k:Int):=⟨l[i].toNat,by omega⟩
  have hkn:k<n:=by omega
  have hv:k<(a6 n (λq=>f q||decide ((q:Int)∈l.take i))).length:=by rw[cX];exact hkn
  rw[hk]
  refine aB hv (bm (x:=(a6 n (λq=>f q||decide ((q:Int)∈l.take i)))[k]) (by rw[c_];exact a_ hv) (aa ?_))
  rw[an hi (by omega),c_,qR]
  have:a6 n (λj=>if j=k then true else(f j||decide ((j:Int)∈l.take i)))=a6 n (λq=>f q||decide ((q:Int)∈l.take (i+1))):=cz λj hj=>by
   rw[h_,a_ hi]
   simp only[C_,d_,o_,hk]
   by_cases e:j=k
   ·rw[if_pos e];simp[e]
   ·rw[if_neg e]
    have:¬(j:Int)=(k:Int):=by omega
    simp[this]
  rw[this]
 ·rintro s rfl
  unfold io
  refine br (aa ?_)
  rw[g_]
def Jp(g:G)(a0:Bool)(bit:Nat->Bool)(k:Nat):Bool:=a0||(e_ k).any λt=>bit t&&decide (t∈g.la)
def yV(g:G)(c0:Nat->Bool)(bit:Nat->Bool)(k:Nat)(q:Nat):Bool:=c0 q||(e_ k).any λt=>bit t&&decide ((t,q)∈g.pr)
theorem K7(f:Nat->Bool)(k:Nat):(e_ (k+1)).any f=((e_ k).any f||f k):=by rw[R_,aA_];simp
theorem QN(hg:Cz g){F:List (List Int)}(hF:FolR g.sp.length F g.pr)(st:List Int)(RR:List (List Int))(AA:List Bool)(SS:List (List Bool))(a0:Bool)(c0 bit:Nat->Bool):
 Wp (λm=>aK m (ip (kS tbl m) m (a6 g.sp.length (λp=>decide (p∈g.la)),()) (a6 g.sp.length bit)) (a0,(0:Int),(0:Int),F,nj g.sp,st,(0:Int),RR,AA,SS,a6 g.sp.length c0,()))
  λt=>t=(Jp g a0 bit g.sp.length,(0:Int),F,nj g.sp,st,(0:Int),RR,AA,SS,a6 g.sp.length (yV g c0 bit g.sp.length),()):=by
 have hn:=hg.n64
 refine aS (N:=(a6 g.sp.length bit).length) (I:=λk s=>s=(Jp g a0 bit k,(k:Int),(0:Int),F,nj g.sp,st,(0:Int),RR,AA,SS,a6 g.sp.length (yV g c0 bit k),())) ?_ ?_ ?_
 ·have:yV g c0 bit 0=c0:=funext λq=>by simp[yV]
  rw[this]
  simp[Jp]
 ·rintro k s hk rfl
  have hk2:k<g.sp.length:=by rw[cX]at hk;exact hk
  unfold ip
  dsimp only
  refine bT hk (ae (aB hk ?_))
  rw[tw]
  have ea:Jp g a0 bit (k+1)=(Jp g a0 bit k||(bit k&&decide (k∈g.la))):=by unfold Jp;rw[K7,bq_]
  have ec:∀q,yV g c0 bit (k+1) q=(yV g c0 bit k q||(bit k&&decide ((k,q)∈g.pr))):=λq=>by unfold yV;rw[K7,bq_]
  rw[ea,an hk (by rw[cX];omega)]
  cases hb:bit k
  ·refine db rfl (aa (aa ?_))
   have:a6 g.sp.length (yV g c0 bit (k+1))=a6 g.sp.length (yV g c0 bit k):=cz λq _=>by rw[ec,hb];simp
   rw[this]
   simp
  ·have hFl:k<F.length:=by rw[hF.len];exact hk2
   refine aX rfl (ae (dw (b:=decide (k∈g.la)) (λ_=>aB (by rw[cX];exact hk2) (aa (tw _ _))) ?_))
   refine aB hFl ?_
   have hbd:=hF.bd _ (b_ hFl)
   have hl1:=hF.len1 hFl
   refine ae (Ev.wp_mono (N9 hn F[k] hbd (by omega) F (nj g.sp) st RR AA SS (yV g c0 bit k)) ?_)
   rintro t rfl
   refine aa (aa ?_)
   have:a6 g.sp.length (yV g c0 bit (k+1))=a6 g.sp.length (λq=>yV g c0 bit k q||decide ((q:Int)∈F[k])):=cz λq _=>by
    rw[ec,hb,aq_,decide_eq_decide.2 (hF.mem k hFl q)]
   rw[this]
   simp
 ·rintro s rfl
  unfold ip
  refine br (aa ?_)
  rw[cX]
def UV(g:G):Option Nat->Bool
 |none=>g.em
 |some _=>false
def U3(g:G):Option Nat->Nat->Bool
 |none,q=>decide (q∈g.fi)
 |some _,_=>false
def ND:Option Nat->Nat->Bool
 |none,_=>false
 |some b,p=>b.testBit p
theorem UG(n:Nat)(x:Option Nat):kg n x=a6 n (ND x):=by cases x<;>rfl
theorem SP(hg:Cz g)(x:Option Nat):Jp g (UV g x) (ND x) g.sp.length=l4 g x/\a6 g.sp.length (yV g (U3 g x) (ND x) g.sp.length)=a6 g.sp.length (l5 g x).testBit:=by
 refine⟨?_,cz λq hq=>?_⟩
 ·cases x with
  |none=>simp[Jp,l4,UV,ND]
  |some b=>
   rw[Ic]
   simp only[Jp,UV,ND,bp_]
   rw[bf_,M_,M_]
   constructor
   ·rintro⟨t,_,h2⟩
    simp only[l_,decide_eq_true_eq]at h2
    exact⟨t,h2.2,h2.1⟩
   ·rintro⟨t,h1,h2⟩
    exact⟨t,j_.2 (by have:=hg.lie.la t h1;omega),by simp[h1,h2]⟩
 ·cases x with
  |none=>
   have:(l5 g none).testBit q=decide (q∈g.fi):=cy _ _
   rw[this]
   simp[yV,U3,ND]
  |some b=>
   rw[Ik hg.lie,bf_,nxF_iff]
   simp only[yV,U3,ND,bp_]
   rw[M_]
   constructor
   ·rintro⟨t,_,h2⟩
    simp only[l_,decide_eq_true_eq]at h2
    exact⟨t,h2.1,h2.2⟩
   ·rintro⟨t,h1,h2⟩
    exact⟨t,j_.2 (by have:=hg.lie.pr t q h2;omega),by simp[h1,h2]⟩
theorem XO{a b:Nat}(h:((a:Int)==(b:Int))=true):a=b:=by simp at h;omega
theorem XN{a b:Nat}(h:((a:Int)==(b:Int))=false):a≠b:=by simp at h;omega
theorem RI(hg:Cz g)(v24:Int×Int×(List (List Int))×(List (Int×(Int×Unit)))×(List Int)×Int×(List (List Int))×(List Bool)×(List (List Bool))×(List Bool)×(List Int)×Unit)(hv:v24.2.2.2.2.2.2.2.2.2.1.length=g.sp.length)(a:Int)(F:List (List Int))(st:List Int)(RR:List (List Int))(AA:List Bool)(SS:List (List Bool))(can:Nat->Bool)(row:List Int):
 Wp (λm=>aK m (iq (kS tbl m) m v24 a) ((0:Int),(0:Int),F,nj g.sp,st,(0:Int),RR,AA,SS,a6 g.sp.length can,row,a6 g.sp.length (λ_=>false),()))
  λt=>t=((0:Int),F,nj g.sp,st,(0:Int),RR,AA,SS,a6 g.sp.length can,row,a6 g.sp.length (λq=>can q&&jo g a q),()):=by
 have hn:=hg.n64
 refine aS (N:=g.sp.length) (I:=λk s=>s=((k:Int),(0:Int),F,nj g.sp,st,(0:Int),RR,AA,SS,a6 g.sp.length can,row,a6 g.sp.length (λq=>decide (q<k)&&(can q&&jo g a q)),())) (by simp) ?_ ?_
 ·rintro k s hk rfl
  have hz:k<(nj g.sp).length:=by rw[pM];exact hk
  have e1:(nj g.sp)[k]=(g.sp[k].1,g.sp[k].2,()):=by simp[nj]
  have hc:k<(a6 g.sp.length can).length:=by rw[cX];exact hk
  have hs:k<(a6 g.sp.length (λq=>decide (q<k)&&(can q&&jo g a q))).length:=by rw[cX];exact hk
  have eh:jo g a k=(decide (g.sp[k].1<=a)&&decide (a<=g.sp[k].2)):=by
   unfold jo
   rw[a_ hk]
  unfold iq
  rw[hv]
  dsimp only
  refine bT hk (aB hc (bm (x:=(a6 g.sp.length can)[k]) (by rw[c_];exact a_ hc) ?_))
  rw[tw]
  refine ae (gf (b:=decide (g.sp[k].1<=a)) (λ_=>aB hz (bm (x:=(nj g.sp)[k]) (by rw[c_];exact a_ hz) (aa (by rw[e1])))) ?_)
  refine ae (gf (b:=decide (a<=g.sp[k].2)) (λ_=>aB hz (bm (x:=(nj g.sp)[k]) (by rw[c_];exact a_ hz) (aa (by rw[e1])))) ?_)
  refine aB hs (bm (x:=(a6 g.sp.length (λq=>decide (q<k)&&(can q&&jo g a q)))[k]) (by rw[c_];exact a_ hs) (aa ?_))
  rw[bi_,<-eh,an hk (by omega),c_,qR]
  have:a6 g.sp.length (λj=>if j=k then can k&&jo g a k else decide (j<k)&&(can j&&jo g a j))=a6 g.sp.length (λq=>decide (q<k+1)&&(can q&&jo g a q)):=cz λj hj=>by
   by_cases e:j=k
   ·subst e;simp
   ·rw[if_neg e]
    have:(decide (j<k))=decide (j<k+1):=decide_eq_decide.2 ⟨λh=>by omega,λh=>by omega⟩
    rw[this]
  rw[this]
 ·rintro s rfl
  unfold iq
  rw[hv]
  refine br (aa ?_)
  have:a6 g.sp.length (λq=>decide (q<g.sp.length)&&(can q&&jo g a q))=a6 g.sp.length (λq=>can q&&jo g a q):=cz λj hj=>by rw[decide_eq_true hj,aq_]
  rw[this]
theorem UC(hg:Cz g){L:List (Option Nat)}{T:List (Nat×Int)}(h:Ok (cu g) none (bX g) L T):Sts g.sp.length L:=by
 refine⟨h.head,λi hi x hx=>?_⟩
 have hP:=h.inv (P:=λy=>y=none\/∃b,y=some b/\b<2^g.sp.length) (.inl rfl) (λy c _ _=>.inr ⟨_,rfl,MY hg.lie y c⟩) i x hx
 rcases hP with rfl|h'
 ·exfalso
  have hi':=I_.1 hx
  have h0:=I_.1 h.head
  have:=(F_.1 h.nodup)
  have:=ax_.1 this 0 i h0.1 hi'.1 hi
  rw[h0.2,hi'.2]at this
  exact this rfl
 ·exact h'
theorem RB(hg:Cz g){i:Nat}{L:List (Option Nat)}{T:List (Nat×Int)}(h:Ok (cu g) none (bX g) L T)(hL:L.length<=4096){x:Option Nat}(hx:L[i]? =some x)(F:List (List Int))(RR:List (List Int))(AA:List Bool)
 (v5:Int×(List (Int×(Int×Unit)))×(List (List Int))×(List Int)×Unit) (hv5:v5.2.1=nj g.sp) (v23:Bool×Int×(List (List Int))×(List (Int×(Int×Unit)))×(List Int)×Int×(List (List Int))×(List Bool)×(List (List Bool))×(List Bool)×Unit) (hv23:v23.2.2.2.2.1=bX g):
 Wp (λn=>aK n (ir (kS tbl n) n v5 v23) ((0:Int),(0:Int),F,nj g.sp,bX g,(0:Int),RR,AA,L.map (kg g.sp.length),a6 g.sp.length (l5 g x).testBit,([]:List Int),()))
  λr=>match jF (mJ (Jb 4096) (cu g) x i) (L,T,[]) (bX g)with
   | .inl r'=>r= .inr ((0:Int),F,nj g.sp,bX g,(0:Int),RR,AA,r'.1.map (kg g.sp.length),r'.2.2.map (fun(k:Nat)=>(k:Int)),())/\r'.1.length<=4096
   | .inr _=>r= .inl (false,(0:Int),()):=by
 have hk:=wx hg
 have hn:=hg.n64
 refine Nc (xs:=bX g) (f:=mJ (Jb 4096) (cu g) x i) (s0:=(L,T,[])) (Inv:=λj st=>Ok (cu g) none (bX g) st.1 st.2.1/\L<+:st.1/\st.2.2.length=j/\st.1.length<=4096)
  (enc:=λj st=>((j:Int),(0:Int),F,nj g.sp,bX g,(0:Int),RR,AA,st.1.map (kg g.sp.length),a6 g.sp.length (l5 g x).testBit,st.2.2.map (fun(k:Nat)=>(k:Int)),()))
  (oE:=λst=>.inr ((0:Int),F,nj g.sp,bX g,(0:Int),RR,AA,st.1.map (kg g.sp.length),st.2.2.map (fun(k:Nat)=>(k:Int)),())) (oB:=λ_=>.inl (false,(0:Int),())) ⟨h,bC_ _,rfl,hL⟩ (λj hj st hst=>?_) (λst hst=>?_) (λr hr hs=>?_)
 ·obtain⟨Lj,Tj,rj⟩:=st
  obtain⟨g1,g2,g3,g4⟩:=hst
  simp only at g1 g2 g3 g4
  subst g3
  have hx':=AW g2 hx
  have hsts:=UC hg g1
  unfold ir
  rw[hv5,hv23]
  dsimp only
  refine bT hj (aB hj ?_)
  rw[tg,pM]
  refine ao (s8 (by omega)) (ae (Ev.wp_mono (RI hg _ (cX _ _) (bX g)[rj.length] F (bX g) RR AA (Lj.map (kg g.sp.length)) (l5 g x).testBit (rj.map fun(k:Nat)=>(k:Int))) ?_))
  rintro t rfl
  dsimp only
  have hset:a6 g.sp.length (λq=>(l5 g x).testBit q&&jo g (bX g)[rj.length] q)=kg g.sp.length (some (l5 g x&&&vm g (bX g)[rj.length])):=cz λq _=>by rw[Nat.testBit_and,AQ]
  rw[hset]
  refine au (GK (by omega) hsts (by omega) (MY hg.lie x _)) ?_
  dsimp only
  have hyy:(some (l5 g x&&&vm g (bX g)[rj.length]):Option Nat)=cu g x (bX g)[rj.length]:=rfl
  rw[hyy]
  generalize hy:cu g x (bX g)[rj.length]=y
  have hml:(Lj.map (kg g.sp.length)).length=Lj.length:=q_ _
  have fin:∀(L':List (Option Nat)) (k:Nat),k<=4096->Wp (fun(n:Nat)=>aw (decide (((rj.map fun(k:Nat)=>(k:Int)).length+([(k:Int)]:List Int).length)*8<=140737488355328)) (some (.inl (u_ .i64 ((rj.length:Int)+(1:Int)),(0:Int),F,nj g.sp,bX g,(0:Int),RR,AA,L'.map (kg g.sp.length),a6 g.sp.length (l5 g x).testBit,(rj.map fun(k:Nat)=>(k:Int))++([(k:Int)]:List Int),())):Option ((Int×Int×(List (List Int))×(List (Int×(Int×Unit)))×(List Int)×Int×(List (List Int))×(List Bool)×(List (List Bool))×(List Bool)×(List Int)×Unit)⊕(Bool×Int×Unit)⊕(Int×(List (List Int))×(List (Int×(Int×Unit)))×(List Int)×Int×(List (List Int))×(List Bool)×(List (List Bool))×(List Int)×Unit)))) λr=>r= .inl (((rj.length+1:Nat):Int),(0:Int),F,nj g.sp,bX g,(0:Int),RR,AA,L'.map (kg g.sp.length),a6 g.sp.length (l5 g x).testBit,(rj++[k]).map (fun(k:Nat)=>(k:Int)),()):=λL' k hk'=>by
   refine ao (decide_eq_true (by simp;omega)) (aa ?_)
   rw[an hj (by omega)]
   simp
  by_cases hm:y∈Lj
  ·have hlt:=pos_lt.1 hm
   rw[MC hy hm]
   refine ae (aX (by rw[hml];exact beq_eq_false_iff_ne.2 λe=>absurd (Int.ofNat.inj e) (Nat.ne_of_lt hlt)) (aa ?_))
   exact Ev.wp_mono (fin Lj (pos Lj y) (by omega)) λr hr=>⟨⟨g1,g2,by simp,g4⟩,hr⟩
  ·have hout:=P1 hm
   rw[hout]
   refine ae (db (by rw[hml];exact beq_self_eq_true _) ?_)
   refine aJ (λhd=>aa ?_) λhd=>?_
   ·have hd:Jb 4096 Lj y=true:=by
     have:(Lj.length:Int)>=4096:=of_decide_eq_true hd
     exact decide_eq_true (by omega)
    rw[I0 hy hm hd]
    exact aa rfl
   ·have hd':Jb 4096 Lj y=false:=by
     have:¬(Lj.length:Int)>=4096:=of_decide_eq_false hd
     exact decide_eq_false (by omega)
    have hlt:Lj.length<4096:=by have:¬(Lj.length:Int)>=4096:=of_decide_eq_false hd;omega
    have hok:Ok (cu g) none (bX g) (Lj++[y]) (Tj++[(i,(bX g)[rj.length])]):=by rw[<-hy]at hm⊢;exact g1.add hx' (b_ hj) hm
    rw[MD hy hm hd']
    refine ao (decide_eq_true (by simp;omega)) (aa ?_)
    have hf:=fin (Lj++[y]) Lj.length (by omega)
    have hy2:kg g.sp.length (some (l5 g x&&&vm g (bX g)[rj.length]))=kg g.sp.length y:=by rw[hyy,hy]
    rw[p_]at hf
    refine Ev.wp_mono hf λr hr=>⟨⟨hok,g2.trans (aU_ _ _),by simp,by simp;omega⟩,by rw[hr];simp only[p_]⟩
 ·unfold ir
  rw[hv23]
  exact br (aa rfl)
 ·rw[JY]at hr
  rw[hr]
  cases r with
  |inl st=>
   obtain⟨g1,g2,g3,g4⟩:=hs st rfl
   exact⟨rfl,g4⟩
  |inr r=>rfl
end
noncomputable def encR(g:G)(F:List (List Int))(i:Nat)(S:SN):Int×Int×(List (List Int))×(List (Int×(Int×Unit)))×(List Int)×Int×(List (List Int))×(List Bool)×(List (List Bool))×Unit:=
 ((i:Int),(0:Int),F,nj g.sp,bX g,(0:Int),nZ S.2.2,(S.1.take i).map (l4 g),S.1.map (kg g.sp.length),())
theorem De{r:Rx}(hr:eD r=0):aU tbl jX [.d .rx r] [] eo (match lE (bR r 0) NL with| .inl _=>(dN (bR r 0),true,())| .inr _=>(zD,false,())):=by
 obtain⟨hw,hsz⟩:=mA hr
 have hg:=JZ hw hsz
 have hem:=(dE r hw 0).2
 have hcnt:=E0 r
 refine aZ (by cases lE (bR r 0) NL<;>rfl) (aV DZ rfl (λO n=>D9 O n r) ?_)
 unfold uG
 obtain⟨F,hF,hwalk⟩:=Ji r hw (by omega) [] [] [] ⟨rfl,by simp,by simp,by simp⟩ (λp q h=>by cases h) (by simp;omega)
 simp only[G_,aS_,Q_]at hwalk hF
 refine au hwalk ?_
 generalize bR r 0=g at*
 have hk:=wx hg
 have hn:=hg.n64
 refine ae (Ev.wp_mono (Jv hg (cL g.fi,cL g.la,nj g.sp,F,()) rfl F) ?_)
 rintro v5 rfl
 have hbl:=zY g.sp
 refine au (Ex (p8 g.sp) (by omega)) ?_
 have hll:=hg.lie.ll
 have hfl:=hg.lie.fl
 have hsl:((nj g.sp).length:Int)=((g.sp.length:Nat):Int):=by rw[pM]
 dsimp only
 rw[hsl]
 refine au (GJ g.sp.length (by omega) g.la (λp hp=>by have:=hg.lie.la p hp;omega) (by omega)) ?_
 refine ao (s8 (by omega)) ?_
 rw[tg]
 show Wp (λn=>n_ (aK n (lb (kS tbl n) n r (cL g.fi,cL g.la,nj g.sp,F,()) ((0:Int),nj g.sp,F,p8 g.sp,()) (a6 g.sp.length (λp=>decide (p∈g.la)),())) (encR g F 0 ([none],[],[]))) _) _
 refine ae (Ev.wp_loop (λs=>∃i S,s=encR g F i S/\lE g i= .inl S/\i<=S.1.length) (λs=>NL - s.1.toNat) ⟨0,([none],[],[]),rfl,rfl,by simp⟩ ?_)
 rintro s ⟨i,S,rfl,hS,hiS⟩
 obtain⟨hSe,hq⟩:=(ka i).1 S hS
 have hSe:S=cn g i:=hSe
 have hNL:=O7
 subst hSe
 have hok:Ok (cu g) none (bX g) (cn g i).1 (cn g i).2.1:=dq i
 have hlen:=Ci hq
 have hrl:=Fx (g:=g) i
 have hsts:=UC hg hok
 have hml:((cn g i).1.map (kg g.sp.length)).length=(cn g i).1.length:=q_ _
 unfold lb
 simp only[encR]
 refine aJ (λh=>?_) λh=>?_
 ·have hi:i<(cn g i).1.length:=by have:=of_decide_eq_true h;omega
  have hx:=a_ hi
  generalize hxe:(cn g i).1[i]=x at hx
  have hxm:((cn g i).1.map (kg g.sp.length))[i]? =some (kg g.sp.length x):=by rw[A_,hx];rfl
  have hx0:i=0->x=none:=λe=>by subst e;rw[hsts.hd]at hx;cases hx;rfl
  have hx1:i≠0->∃b,x=some b:=λe=>by obtain⟨b,hb,_⟩:=hsts.tl i (by omega) x hx;exact⟨b,hb⟩
  rw[hsl]
  refine ao (s8 (by omega)) ?_
  rw[tg]
  refine ae (Ev.wp_mono (Q:=λv=>v=(UV g x,(0:Int),F,nj g.sp,bX g,(0:Int),nZ (cn g i).2.2,((cn g i).1.take i).map (l4 g),(cn g i).1.map (kg g.sp.length),a6 g.sp.length (U3 g x),())) (aJ (λh=>?_) λh=>?_) ?_)
  ·have e:i=0:=XO (b:=0) h
   have ex:=hx0 e
   refine au (xy g.sp.length (by omega) g.fi (λp hp=>by have:=hg.lie.fi p hp;omega) (by omega)) (au (sL r (by omega)) (aa ?_))
   rw[ex,<-hem]
   rfl
  ·have e:i≠0:=XN (b:=0) h
   obtain⟨b,rfl⟩:=hx1 e
   exact aa rfl
  rintro v rfl
  dsimp only
  refine dZ (x:=kg g.sp.length x) (by omega) (by rw[c_];exact hxm) (bm (x:=kg g.sp.length x) (by rw[c_];exact hxm) ?_)
  rw[UG g.sp.length x]
  refine ae (Ev.wp_mono (QN hg hF (bX g) _ _ _ _ _ _) ?_)
  rintro v rfl
  obtain⟨r1,r2⟩:=SP hg x
  rw[r1,r2]
  refine ao (decide_eq_true (by simp;omega)) (ae (Ev.wp_mono (RB hg hok hlen hx F _ _ _ rfl _ rfl) λt ht=>?_))
  have hsucc:lE g (i+1)=match jF (mJ (Jb 4096) (cu g) x i) ((cn g i).1,(cn g i).2.1,[]) (bX g)with
   | .inl r=>.inl (r.1,r.2.1,(cn g i).2.2++[r.2.2])
   | .inr r=>.inr (r.1,r.2,(cn g i).2.2):=by
   have hS':iL (cu g) none (bX g) (Jb 4096) i= .inl (cn g i):=hS
   simp only[lE,iL,hS',hx]
   generalize jF (mJ (Jb 4096) (cu g) x i) ((cn g i).1,(cn g i).2.1,[]) (bX g)=z
   cases z<;>rfl
  cases hf:jF (mJ (Jb 4096) (cu g) x i) ((cn g i).1,(cn g i).2.1,[]) (bX g)with
  |inl r'=>
   rw[hf]at ht hsucc
   obtain⟨rfl,h2⟩:=ht
   have hpre:=((ka (i+1)).1 _ hsucc).1
   have hp:=(iM (f:=cu g) (s0:=none) (ls:=bX g) i).1
   rw[<-hpre]at hp
   have hpl:(cn g i).1.length<=r'.1.length:=hp.length_le
   refine ao (decide_eq_true (by simp[nZ];omega)) (aa ?_)
   refine⟨⟨i+1,(r'.1,r'.2.1,(cn g i).2.2++[r'.2.2]),?_,hsucc,E_ hi hpl⟩,?_⟩
   ·simp only[encR,nZ,p_,O_,W_]
    rw[an hi (by omega),show(r'.1.take (i+1)).map (l4 g)=((cn g i).1.take i).map (l4 g)++[l4 g x]from by rw[Ie hx,Mr (L':=r'.1) hp (by_ hi)]]
   ·rw[an hi (by omega)]
    simp only[c_]
    omega
  |inr r'=>
   rw[hf]at ht hsucc
   subst ht
   refine aa (aa ?_)
   have he:lE g NL= .inr (r'.1,r'.2,(cn g i).2.2):=Fw (by omega) hsucc
   rw[he]
   rfl
 ·have hi:(cn g i).1.length<=i:=by have:=of_decide_eq_false h;omega
  have he:lE g NL= .inl (cn g i):=It (by omega) hS hi
  have hfin:cn g NL=cn g i:=wg (by omega) hi
  have hall:(sR g).length<=4096:=by unfold sR;rw[hfin];exact hlen
  have hd:((bX g,nZ (cn g i).2.2,((cn g i).1.take i).map (l4 g),(0:Int),()):DF)=dN g:=by
   have h1:=Pr hall
   rw[hfin]at h1
   rw[<-h1,v_ hi,<-hfin]
   rfl
  rw[he]
  refine aa (aa ?_)
  show some (ii eo ((bX g,nZ (cn g i).2.2,((cn g i).1.take i).map (l4 g),(0:Int),()),true,()))=_
  rw[hd]
theorem Bs{r:Rx}(hr:eD r=0){m:DF}(hm:(sR (bR r 0)).length<=4096->aU tbl p5 [.d (pr [.list tI,.list (.list tI),.list tB,tI]) (dN (bR r 0))] [] lV (m,())):
 aU tbl jz [.d .rx r] [] eO (match lE (bR r 0) NL with| .inl _=>(m,0,())| .inr _=>(zD,8,())):=by
 obtain⟨hw,hsz⟩:=mA hr
 have h1:=De hr
 refine aZ (by cases lE (bR r 0) NL<;>rfl) (aV HI rfl (λO n=>HY O n r) ?_)
 unfold x6
 refine au (GH r (by omega)) ?_
 rw[hr]
 refine aX rfl ?_
 cases he:lE (bR r 0) NL with
 |inl S=>
  rw[he]at h1
  have hall:=(K4 he).2
  exact au h1 (aX rfl (au (hm hall) (aa rfl)))
 |inr S=>
  rw[he]at h1
  exact au h1 (db rfl (aa rfl))
open Go Go.Av Go.Ev Go.Pl Go.Lib
theorem Wb{n:Int}(h0:0<=n)(h1:n<=4294967295):aU tbl iH [.d tI n] [] qF (decDigits n.toNat,()):=by
 refine QL Gw ?_ rfl
 have hb:Vk n=true:=by simp only[Vk,l_,decide_eq_true_eq];omega
 have hi:Lib.itoa n=decDigits n.toNat:=by unfold Lib.itoa;rw[if_neg (by omega)]
 simp only[xq,hb,cond_true,hi]
 rfl
theorem Br{n:Int}(h0:0<=n)(h1:n<=4294967295):aU tbl fp [.d tI n] [] ek (decDigits n.toNat,()):=by
 refine aZ rfl (aV DY rfl (λO k=>D8 O k n) ?_)
 unfold uF
 exact au (Wb h0 h1) (aa rfl)
theorem UD(ks:List Rx)(i:Nat):wS (ks.take i)<=wS ks:=by
 have:=Kw (ks.take i) (ks.drop i)
 rw[ag_]at this
 omega
theorem Tg(p:Int){x:Rx}(hw:cO x=true):(inn p x).length+1<=26*sz x:=by
 have:=PH p x
 have:=Kc x hw
 omega
theorem Wa(p:Int):∀l:List Rx,(∀x∈l,cO x=true)->((l.map (inn p)).map λx=>x.length+1).sum<=26*wS l
 |[],_=>by simp
 |r::l,h=>by
  have h1:=Tg p (h r (w_ ..))
  have h2:=Wa p l λx hx=>h x (s_ _ hx)
  simp only[O_,List.sum_cons,wS]at*
  omega
theorem XP(c:UInt8)(p:Int)(l:List Rx)(h:∀x∈l,cO x=true):(jn c (l.map (inn p))).length<=26*wS l:=E_ (N5 c _) (Wa p l h)
theorem HT{α β:Type}(f:α->β){l:List α}{i:Nat}(h:i<l.length):(l.take (i+1)).map f=(l.take i).map f++[f l[i]]:=by
 rw[h_,a_ h,p_];rfl
theorem uC(k:Int):aU tbl gI [.d tI k] [] fv (k==5||k==6||k==7,()):=by
 refine aZ rfl (aV D3 rfl (λO m=>Ea O m k) ?_)
 unfold uH
 cases(k==(5:Int))<;>cases(k==(6:Int))<;>exact cY (λ_=>rfl) rfl
theorem LU(ks:List Rx):decide ((ks.length:Int)>0)= !ks.isEmpty:=by
 cases ks with
 |nil=>rfl
 |cons x l=>simp
theorem UK(p k lo up:Int)(ks:List Rx):sa p (.mk k lo up ks)=bif k==4 then !ks.isEmpty else bif k==3 then p != 4 else(k==5||k==6||k==7)&&(p==5||p==6||p==7):=rfl
theorem Df(p:Int)(x:Rx):aU tbl jY [.d tI p,.d .rx x] [] et (sa p x,()):=by
 obtain⟨k,lo,up,ks⟩:=x
 refine aZ rfl (aV D5 rfl (λO m=>Eb O m p (.mk k lo up ks)) ?_)
 unfold uI
 rw[UK]
 refine aJ (λh=>aa ?_) λh=>?_
 ·have h:(k==4)=true:=h
  rw[h,cond_true,<-LU];rfl
 have h:(k==4)=false:=h
 rw[h,cond_false]
 refine aJ (λh=>aa ?_) λh=>?_
 ·have h:(k==3)=true:=h
  rw[h];rfl
 have h:(k==3)=false:=h
 rw[h,cond_false]
 refine au (uC k) (ae (gf (b:=(p==5||p==6||p==7)) (λ_=>au (uC p) (aa rfl)) (aa rfl)))
theorem LV(p:Int)(x:Rx)(hl:(iY x).length<=1000000)(h:aU tbl fw [.d .rx x] [] dR (iY x,())):aU tbl eM [.d tI p,.d .rx x] [] dj (inn p x,()):=by
 refine aZ rfl (aV HR rfl (λO m=>H6 O m p x) ?_)
 unfold ye
 refine au h (au (Df p x) (aJ (λhb=>ao (decide_eq_true ?_) (ao (decide_eq_true ?_) (aa ?_))) λhb=>aa ?_))
 ·show 1+(iY x).length<=_;omega
 ·show(iY x).length+1+1<=_;omega
 ·have hb:sa p x=true:=hb
  unfold inn;rw[hb];rfl
 ·have hb:sa p x=false:=hb
  unfold inn;rw[hb];rfl
theorem I6(k lo up:Int)(ks:List Rx)(c:UInt8)(hw:∀x∈ks,cO x=true)(hz:wS ks<=1000)(h:∀x∈ks,aU tbl fw [.d .rx x] [] dR (iY x,())):
 Wp (λn=>aK n (lc (kS tbl n) n (.mk k lo up ks) ([c],())) (([]:List UInt8),(0:Int),())) λt=>t=(jn c (ks.map (inn k)),()):=by
 have hlen:=Yc ks
 refine aS (N:=ks.length) (I:=λi s=>s=(jn c ((ks.take i).map (inn k)),(i:Int),())) rfl ?_ ?_
 ·rintro i s hi rfl
  have hm:=b_ hi
  have hj:=XP c k (ks.take i) λx hx=>hw x (B_ hx)
  have hst:=UD ks i
  have hin:=Tg k (hw _ hm)
  have hsm:=xw hm
  have hp:=Kc _ (hw _ hm)
  unfold lc
  refine bT hi (aB hi ?_)
  have hc:=LV k ks[i] (by omega) (h _ hm)
  rw[HT _ hi,PL]
  refine ae (Ev.wp_mono (Q:=λv=>v=((if(ks.take i).map (inn k)=[]then []else jn c ((ks.take i).map (inn k))++[c]),ks[i].out.1,ks[i].out.2.1,ks[i].out.2.2.1,ks[i].out.2.2.2.1,())) (aJ (λhb=>ao (decide_eq_true ?_) (aa ?_)) λhb=>aa ?_) ?_)
  ·show(jn c ((ks.take i).map (inn k))).length+1<=_;omega
  ·have hb:(i:Int)>0:=of_decide_eq_true hb
   rw[if_neg (by intro e;have:=congrArg List.length e;rw[q_,N_,G_]at this;omega)];rfl
  ·have hb:¬(i:Int)>0:=of_decide_eq_false hb
   have:i=0:=by omega
   subst this
   rfl
  rintro v rfl
  rw[f7]
  refine au hc (ao (decide_eq_true ?_) (aa ?_))
  ·show(if(ks.take i).map (inn k)=[]then []else jn c ((ks.take i).map (inn k))++[c]).length+(inn k ks[i]).length<=_
   split
   ·simp only[G_];omega
   ·simp only[m_,ac_,G_];omega
  ·show(_,u_ .i64 ((i:Int)+1),())=_
   rw[an hi (by omega)]
   refine aj_ ?_ rfl
   show(if(ks.take i).map (inn k)=[]then []else jn c ((ks.take i).map (inn k))++[c])++inn k ks[i]=_
   split<;>simp
 ·rintro s rfl
  unfold lc
  rw[g_]
  exact br (aa rfl)
theorem Jk:∀(r:Rx),cO r=true->sz r<=1000->aU tbl fw [.d .rx r] [] dR (iY r,()):=by
 refine f8 λk lo up ks ih hw hs=>?_
 obtain⟨nd,hks⟩:=well_iff.1 hw
 have hsz:wS ks<=1000:=by simp only[sz]at hs;omega
 have hsh:∀x∈ks,aU tbl fw [.d .rx x] [] dR (iY x,()):=λx hx=>ih x hx (hks x hx) (by have:=xw hx;omega)
 refine aZ rfl (aV KB rfl (λO m=>KJ O m (.mk k lo up ks)) ?_)
 unfold zG
 have one:∀x,ks=[x]->∀p:Int,aU tbl eM [.d tI p,.d .rx x] [] dj (inn p x,())/\(inn p x).length<=26000:=λx e p=>by
  have hx:x∈ks:=by rw[e];exact w_ ..
  have h1:=Kc x (hks x hx)
  have h2:=xw hx
  have h3:=Tg p (hks x hx)
  exact⟨LV p x (by omega) (hsh x hx),by omega⟩
 rcases nd.known with rfl|rfl|rfl|rfl|rfl|rfl|rfl|rfl
 ·refine ae (db rfl (aa (aa ?_)))
  simp[iY]
 ·obtain⟨r1,r2,r3⟩:=nd.rng rfl
  refine ae (aX rfl (aX rfl (db rfl (aJ (λh=>?_) λh=>?_))))
  ·have h:(lo==up)=true:=h
   have h:lo=up:=by simpa using h
   subst h
   refine au (Br (n:=lo) r1 r3) (aa (aa ?_))
   simp[iY]
  ·have h:(lo==up)=false:=h
   have h:lo≠up:=by simpa using h
   have l1:=tP (n:=lo.toNat) (by omega)
   have l2:=tP (n:=up.toNat) (by omega)
   refine au (Br (n:=lo) r1 (by omega)) (ao (decide_eq_true ?_) (ao (decide_eq_true ?_) (au (Br (n:=up) (by omega) r3) (ao (decide_eq_true ?_) (ao (decide_eq_true ?_) (aa (aa ?_)))))))
   ·show 1+(decDigits lo.toNat).length<=_;omega
   ·show(decDigits lo.toNat).length+1+1<=_;omega
   ·simp only[m_,ac_,G_];omega
   ·simp only[m_,ac_,G_];omega
   ·simp[iY,h]
 ·refine ae (aX rfl (db rfl (aa (aa ?_))))
  simp[iY]
 ·obtain⟨rfl,rfl⟩:=nd.zero (by decide)
  refine ae (aX rfl (aX rfl (aX rfl (aX rfl (aX rfl (aX rfl (aX rfl (aa ?_))))))))
  refine ae (Ev.wp_mono (I6 3 0 0 ks 32 hks hsz hsh) ?_)
  rintro t rfl
  refine aa ?_
  simp[iY,fZ]
 ·obtain⟨rfl,rfl⟩:=nd.zero (by decide)
  refine ae (aX rfl (aX rfl (aX rfl (aX rfl (aX rfl (aX rfl (db rfl (aJ (λh=>aa (aa ?_)) λh=>aa ?_))))))))
  ·have h:((ks.length:Int)==0)=true:=h
   have h:=len_nil (by simpa using h)
   subst h
   simp[iY]
  ·have h:((ks.length:Int)==0)=false:=h
   have hne:ks≠[]:=by rintro rfl;simp at h
   refine ae (Ev.wp_mono (I6 4 0 0 ks 124 hks hsz hsh) ?_)
   rintro t rfl
   refine aa ?_
   simp[iY,fZ,hne]
 ·obtain⟨rfl,rfl⟩:=nd.zero (by decide)
  obtain⟨x,rfl⟩:=lP (nd.one (by simp))
  obtain⟨c1,c2⟩:=one x rfl 5
  refine ae (aX rfl (aX rfl (aX rfl (db rfl (dZ (by decide) rfl (au c1 (ao (decide_eq_true ?_) (aa (aa ?_)))))))))
  ·show(inn 5 x).length+1<=_;omega
  ·simp[iY,fZ]
 ·obtain⟨rfl,rfl⟩:=nd.zero (by decide)
  obtain⟨x,rfl⟩:=lP (nd.one (by simp))
  obtain⟨c1,c2⟩:=one x rfl 6
  refine ae (aX rfl (aX rfl (aX rfl (aX rfl (db rfl (dZ (by decide) rfl (au c1 (ao (decide_eq_true ?_) (aa (aa ?_))))))))))
  ·show(inn 6 x).length+1<=_;omega
  ·simp[iY,fZ]
 ·obtain⟨rfl,rfl⟩:=nd.zero (by decide)
  obtain⟨x,rfl⟩:=lP (nd.one (by simp))
  obtain⟨c1,c2⟩:=one x rfl 7
  refine ae (aX rfl (aX rfl (aX rfl (aX rfl (aX rfl (db rfl (dZ (by decide) rfl (au c1 (ao (decide_eq_true ?_) (aa (aa ?_)))))))))))
  ·show(inn 7 x).length+1<=_;omega
  ·simp[iY,fZ]
theorem GN(r:Rx)(hs:sz r<=1000000):aU tbl gW [.d .rx r] [] fN (if eD r=0 then iY r else [],eD r,()):=by
 refine aZ rfl (aV HP rfl (λO m=>H4 O m r) ?_)
 unfold yc
 refine au (xX r hs) (aJ (λh=>aa ?_) λh=>?_)
 ·have h:eD r≠0:=by
   have h:(eD r != 0)=true:=h
   simpa using h
  rw[if_neg h]
 ·have h:eD r=0:=by
   have h:(eD r != 0)=false:=h
   simpa using h
  obtain⟨h1,h2⟩:=mA h
  refine au (Jk r h1 (by omega)) (aa ?_)
  rw[if_pos h,h]
end Go.Proofs.YteemihfpamlccaaGreatDoor
namespace Go.Ev
open Go Go.RowKit Go.Av
section
variable {tbl:Nat->Option Fun'}
def dB(tbl:Nat->Option Fun')(f:Nat)(ars:List V)(os:List Ob)(sh:Sh)(o:Option (HL sh.sl)):Prop:=∃n0,∀n,n0<=n->iw (kS tbl n) f ars os sh=some o
theorem Ij{f:Nat}{ars:List V}{os:List Ob}{sh:Sh}{R:Option (HL sh.sl)->Prop}(hp:∀c,IS sh (ii sh c)=some c)(h:Conv tbl f ars os λo=>∃c:Option (HL sh.sl),o=c.map (ii sh)/\R c):∃o,R o/\dB tbl f ars os sh o:=by
 obtain⟨o,⟨c,rfl,hr⟩,n0,hn⟩:=h
 refine⟨c,hr,n0,λn hn'=>?_⟩
 have e:=hn n hn'
 unfold iw
 have e:kS tbl n f ars os=_:=e
 cases c with
 |none=>rw[e];rfl
 |some c=>
  rw[e]
  have:=hp c
  unfold IS at this
  simp only[S_]
  cases hb:(Nat.beq (ii sh c).fr.length sh.n&&IM sh.n (ii sh c).fr)
  ·rw[hb]at this;cases this
  ·rw[hb]at this
   simp only[cond_true]at this
   simp only[cond_true,this]
theorem pQ{f:Nat}{ars:List V}{os:List Ob}{sh:Sh}{o:Option (HL sh.sl)}(hp:∀c,IS sh (ii sh c)=some c)(h:Conv tbl f ars os (·=o.map (ii sh))):dB tbl f ars os sh o:=by
 obtain⟨o',rfl,h2⟩:=Ij (R:=λc=>c=o) hp (Io h λx hx=>⟨o,hx,rfl⟩)
 exact h2
theorem gg{f:Nat}{ars:List V}{os:List Ob}{sh:Sh}{β:Type}{k:Nat->Option (HL sh.sl)->Option β}{Q:β->Prop}{o:Option (HL sh.sl)}(h:dB tbl f ars os sh o)(hk:Wp (λn=>k n o) Q):Wp (λn=>n_ (iw (kS tbl n) f ars os sh) (k n)) Q:=by
 obtain⟨n0,hn⟩:=h
 exact ae ⟨o,hk,n0,hn⟩
end
end Go.Ev
namespace Go.Proofs.YteemihfpamlccaaGreatDoor
open Go Go.Av Go.Ev Go.Pl Go.Lib
theorem KS(s:List UInt8)(hs:s.length<=10000):∃c:Bool×Unit,((∀n,s=decDigits n->c=(true,()))/\(c.1=true->s≠[]))/\aU tbl iu [.d tS s] [] cC c:=by
 refine lz (sh:=cC) (λ_=>rfl) (aV Bc rfl (λO k=>Bl O k s) ?_)
 unfold q8
 refine ae (dw (b:=decide ((s.length:Int)>(1:Int))&&(((s.getD 0 0).toNat:Int)==(48:Int))) (λh0=>ae (gf (b:=(((s.getD 0 0).toNat:Int)==(48:Int))) (λh1=>?_) (aa rfl))) ?_)
 ·have hl:1<s.length:=by have:=of_decide_eq_true h1;omega
  refine dZ (x:=s.getD 0 0) (am_ _) ?_ (aa rfl)
  rw[bH_,Int.toNat_zero,a_ (show 0<s.length by omega)];rfl
 ·refine aJ (λh=>aa ⟨(false,()),rfl,λn hn=>?_,λh=>by cases h⟩) (λh=>?_)
  ·exfalso
   have hp:=Lu n
   have hh:=QR n
   rw[<-hn]at hp hh
   simp only[L_,l_,decide_eq_true_eq,beq_iff_eq]at h
   rcases h with h|⟨h1,h2⟩
   ·rw[h]at hp;simp at hp
   ·exact hh (by omega) (by omega)
  ·have hne:s≠[]:=by
    rintro rfl
    simp at h
   refine ae (Wp.imp (Q:=λr=>match r with| .inl v=>v.1=false/\∀n,s≠decDigits n| .inr _=>True) (aS (N:=s.length) (I:=λi st=>st=((i:Int),())) rfl (λi st hi hst=>?_) λst hst=>?_) λr hr=>?_)
   ·subst hst
    unfold jl
    have hx:=a_ hi
    refine aJ (λ_=>?_) (λh=>absurd h (by simp;omega))
    refine dZ (aC_ _) hx ?_
    refine ae (dw (b:=decide ((s[i].toNat:Int)>(57:Int))) (λ_=>dZ (aC_ _) hx (aa rfl)) ?_)
    refine aJ (λhb=>aa ⟨rfl,λn hn=>?_⟩) (λ_=>aa ?_)
    ·have:=Ag n s[i] (by rw[<-hn];exact b_ hi)
     unfold FG at this
     simp only[L_,decide_eq_true_eq]at hb
     omega
    ·simp only
     rw[an hi (by omega)]
   ·subst hst
    unfold jl
    exact aJ (λh=>absurd h (by simp)) λ_=>aa trivial
   ·cases r with
    |inl v=>exact aa ⟨_,rfl,λn hn=>absurd hn (hr.2 n),λ_=>hne⟩
    |inr v=>exact aa ⟨_,rfl,λ_ _=>rfl,λ_=>hne⟩
theorem Sl(s:List UInt8)(hs:s.length<=10000):∃c:Int×Int×Unit,((∀m:Nat,m<=4294967295->s=decDigits m->c=((m:Int),(0:Int),()))/\(c.2.1=0->s≠[]))/\aU tbl iG [.d tS s,.d tI (4294967295:Int)] [] cK c:=by
 obtain⟨cc,⟨hcc,hce⟩,hcall⟩:=KS s hs
 refine lz (sh:=cK) (λ_=>rfl) (aV Gt rfl (λO k=>GD O k s 4294967295) ?_)
 unfold vw
 refine au hcall (aJ (λh=>aa ⟨_,rfl,λm hm hn=>?_,λh0=>by cases h0⟩) (λhc=>?_))
 ·rw[hcc m hn]at h;cases h
 have hne:s≠[]:=hce (by cases e:cc.1<;>simp[e]at hc⊢)
 refine ae (Wp.imp (Q:=λr=>match r with| .inl v=>∀m:Nat,m<=4294967295->s≠decDigits m| .inr v=>∀m:Nat,m<=4294967295->s=decDigits m->v.1=m) (aS (N:=s.length) (I:=λi st=>st.2.1=(i:Int)/\∀m:Nat,m<=4294967295->s=decDigits m->st.1=(wT (s.take i):Int)) ⟨rfl,λ_ _ _=>rfl⟩ (λi st hi hst=>?_) λst hst=>?_) λr hr=>?_)
 ·obtain⟨n,j,_⟩:=st
  obtain⟨h1,h2⟩:=hst
  simp only at h1 h2
  subst h1
  unfold mw
  have hx:=a_ hi
  have hk:∀m:Nat,m<=4294967295->s=decDigits m->n=(wT (s.take i):Int)/\wT (s.take i)<=4294967295/\FG s[i]/\wT (s.take (i+1))<=4294967295/\wT (s.take (i+1))=10*wT (s.take i)+(s[i].toNat - 48):=λm hm hn=>by
   have hv:wT s=m:=by rw[hn,Lv]
   have hd:FG s[i]:=Ag m s[i] (by rw[<-hn];exact b_ hi)
   have e:s.getD i 0=s[i]:=by simp[bH_,hx]
   exact⟨h2 m hm hn,by have:=Jd (l:=s) (k:=i) (by omega);omega,hd,by have:=Jd (l:=s) (k:=i+1) (by omega);omega,by rw[takeD hi,Cr,e]⟩
  have hdg:FG s[i]->u_ .i64 (u_ .u8 ((s[i].toNat:Int) - 48))=((s[i].toNat - 48:Nat):Int):=λh=>by
   unfold FG at h
   rw[wrap_u8,wrap_i64 (by omega) (by omega)];omega
  refine aJ (λ_=>?_) (λh=>absurd h (by simp;omega))
  refine dZ (aC_ _) hx ?_
  refine ao rfl (aJ (λhb=>aa λm hm hn=>?_) (λ_=>aa ⟨?_,λm hm hn=>?_⟩))
  ·obtain⟨g1,g2,g3,g4,g5⟩:=hk m hm hn
   have hb':=of_decide_eq_true hb
   rw[hdg g3,g1]at hb'
   unfold FG at g3
   rw[wrap_i64 (n:=9223372036854775807 - ((s[i].toNat - 48:Nat):Int)) (by omega) (by omega),Int.tdiv_eq_ediv_of_nonneg (by omega),wrap_i64 (by omega) (by omega)]at hb'
   omega
  ·simp only
   rw[an hi (by omega)]
  ·obtain⟨g1,g2,g3,g4,g5⟩:=hk m hm hn
   simp only
   rw[hdg g3,g1,wrap_i64 (n:=10*((wT (s.take i):Nat):Int)) (by omega) (by omega),wrap_i64 (by omega) (by omega),g5]
   omega
 ·obtain⟨n,j,_⟩:=st
  obtain⟨h1,h2⟩:=hst
  simp only at h1 h2
  subst h1
  unfold mw
  refine aJ (λh=>absurd h (by simp)) λ_=>aa λm hm hn=>?_
  simp only
  rw[h2 m hm hn,v_ (Z_ _),hn,Lv]
 ·cases r with
  |inl v=>exact aa ⟨_,rfl,λm hm hn=>absurd hn (hr m hm),λ_=>hne⟩
  |inr v=>
   refine aJ (λhb=>aa ⟨_,rfl,λm hm hn=>?_,λ_=>hne⟩) (λ_=>aa ⟨_,rfl,λm hm hn=>?_,λ_=>hne⟩)
   ·have:=hr m hm hn
    have:=of_decide_eq_true hb
    omega
   ·rw[hr m hm hn]
theorem vt(s:List UInt8)(i:Nat):aU tbl bo [.ptr 0 0] [.box ap [.d tS s,.d tI (i:Int)]] a7 ((pk s i:Int),s,(i:Int),()):=by
 refine aZ rfl (aV vo rfl (λO m=>vp O m s (i:Int)) ?_)
 unfold l6
 refine aJ (λh=>?_) λh=>aa ?_
 ·have h:i<s.length:=by have:=of_decide_eq_true h;omega
  refine aB h (aa ?_)
  rw[WC h]
 ·have h:¬i<s.length:=by have:=of_decide_eq_false h;omega
  rw[WB h];rfl
structure Run(s:List UInt8)(i j:Nat):Prop where
 le:i<=j
 top:j<=s.length
 all:∀k,i<=k->k<j->dg (pk s k)
theorem Qo{s:List UInt8}{i j m:Nat}{t:List UInt8}(h:Run s i j)(he:¬dg (pk s j))(hd0:s.drop i=decDigits m++t)(ht:¬dg (hd t)):j=i+(decDigits m).length/\(s.take j).drop i=decDigits m:=by
 have h1:∀k,i<=k->k<i+(decDigits m).length->dg (pk s k):=λk hk1 hk2=>by
  have hl:k - i<(decDigits m).length:=by omega
  have e:s[k]? =some (decDigits m)[k - i]:=by
   have h2:(s.drop i)[k - i]? =s[k]? :=by rw[List.getElem?_drop];congr 1;omega
   rw[<-h2,hd0,T_ hl,a_ hl]
  have h3:=Ag m _ (b_ hl)
  unfold pk
  rw[bH_,e]
  exact h3
 have h2:¬dg (pk s (i+(decDigits m).length)):=by
  rw[mh,iK hd0];exact ht
 have hj:j=i+(decDigits m).length:=by
  apply H_
  intro hn
  have:=h.le
  rcases Nat.lt_or_gt_of_ne hn with hlt|hgt
  ·exact he (h1 j this hlt)
  ·exact h2 (h.all _ (by omega) hgt)
 refine⟨hj,?_⟩
 rw[List.drop_take,hd0,hj,Nat.add_sub_cancel_left,List.take_left]
theorem Sn(s:List UInt8)(hs:s.length<=10000)(i:Nat)(hi:i<=s.length):∃o:Option (Int×Nat),(∀n j,o=some (n,j)->i<j/\j<=s.length)/\
 (∀(m:Nat) t,s.drop i=decDigits m++t->m<=4294967295->¬dg (hd t)->o=some ((m:Int),i+(decDigits m).length))/\
 dB tbl bc [.ptr 0 0] [.box ap [.d tS s,.d tI (i:Int)]] q_regex_parser_number_r (o.map λx=>(x.1,s,(x.2:Int),())):=by
 suffices h:∃v:Option (HL q_regex_parser_number_r.sl),(∃o:Option (Int×Nat),v=o.map (λx=>(x.1,s,(x.2:Int),()))/\(∀n j,o=some (n,j)->i<j/\j<=s.length)/\
  (∀(m:Nat) t,s.drop i=decDigits m++t->m<=4294967295->¬dg (hd t)->o=some ((m:Int),i+(decDigits m).length)))/\dB tbl bc [.ptr 0 0] [.box ap [.d tS s,.d tI (i:Int)]] q_regex_parser_number_r v by
  obtain⟨v,⟨o,rfl,h1,h2⟩,h3⟩:=h
  exact⟨o,h1,h2,h3⟩
 refine Ij (λ_=>rfl) (aV tt rfl (λO m=>tA O m s (i:Int)) ?_)
 unfold kj
 refine ae (Ev.wp_mono (Ev.wp_loop (Q:=λt=>∃j:Nat,t=(s,(j:Int),())/\Run s i j/\¬dg (pk s j)) (λt=>∃j:Nat,t=(s,(j:Int),())/\Run s i j) (λt=>s.length - t.2.1.toNat) ⟨i,rfl,⟨Z_ _,hi,λk h1 h2=>absurd h2 (by omega)⟩⟩ ?_) ?_)
 ·rintro t ⟨j,rfl,hr⟩
  unfold je
  refine au (vt s j) (aJ (λh=>?_) λh=>aa ⟨j,rfl,hr,?_⟩)
  ·have h:(pk s j:Int)>=48:=of_decide_eq_true h
   have hlt:=gP (s:=s) (i:=j) (by omega)
   refine au (vt s j) (aJ (λh'=>aa ?_) λh'=>aa ⟨j,rfl,hr,?_⟩)
   ·have h':(pk s j:Int)<=57:=of_decide_eq_true h'
    refine⟨⟨j+1,?_,⟨by have:=hr.le;omega,by omega,λk h1 h2=>?_⟩⟩,?_⟩
    ·show(s,u_ .i64 ((j:Int)+1),())=_
     rw[an hlt (by omega)]
    ·by_cases e:k=j
     ·subst e;exact⟨by omega,by omega⟩
     ·exact hr.all k h1 (by omega)
    ·show s.length - (u_ .i64 ((j:Int)+1)).toNat<s.length - (j:Int).toNat
     rw[an hlt (by omega)];omega
   ·have h':¬(pk s j:Int)<=57:=of_decide_eq_false h'
    unfold Pl.dg;omega
  ·have h:¬(pk s j:Int)>=48:=of_decide_eq_false h
   unfold Pl.dg;omega
 ·rintro t ⟨j,rfl,hr,he⟩
  have h1:=hr.le
  have h2:=hr.top
  refine ao (decide_eq_true (by omega)) (ao (decide_eq_true (by show 0<=(j:Int);omega)) (ao ?_ ?_))
  ·show(decide (D_ (i:Int)<=D_ (j:Int))&&decide (D_ (j:Int)<=s.length))=true
   simp only[l_,decide_eq_true_eq];omega
  show Wp (λn=>n_ (aH (kS tbl n) iG [.d tS ((s.take (D_ (j:Int))).drop (D_ (i:Int))),.d tI (4294967295:Int)] [] cK) _) _
  rw[c_,c_]
  obtain⟨c,⟨c1,c2⟩,hc⟩:=Sl ((s.take j).drop i) (by rw[List.length_drop,N_];omega)
  refine au (c:=c) hc (ae (aJ (λh=>aa ?_) λh=>aa ?_))
  ·have h:c.2.1≠0:=by simpa using h
   refine aa ⟨none,rfl,none,rfl,(λ_ _ h=>by cases h),λm t hd0 hm ht=>?_⟩
   obtain⟨_,e2⟩:=Qo hr he hd0 ht
   rw[c1 m hm e2]at h
   exact absurd rfl h
  ·have h:c.2.1=0:=by simpa using h
   refine aa ⟨some (c.1,s,(j:Int),()),rfl,some (c.1,j),rfl,?_,λm t hd0 hm ht=>?_⟩
   ·intro n k hk
    cases hk
    have hne:=c2 h
    refine⟨?_,h2⟩
    apply H_
    intro hn
    apply hne
    rw[List.drop_eq_nil_of_le (by rw[N_];omega)]
   ·obtain⟨e1,e2⟩:=Qo hr he hd0 ht
    rw[c1 m hm e2,<-e1]
theorem W8(s:List UInt8)(hs:s.length<=10000):∃num:Nat->Option (Int×Nat),NumOk s num/\∀i,i<=s.length->
 dB tbl bc [.ptr 0 0] [.box ap [.d tS s,.d tI (i:Int)]] q_regex_parser_number_r ((num i).map λx=>(x.1,s,(x.2:Int),())):=by
 have h:∀i:Nat,∃o:Option (Int×Nat),i<=s.length->(∀n j,o=some (n,j)->i<j/\j<=s.length)/\
  (∀(m:Nat) t,s.drop i=decDigits m++t->m<=4294967295->¬dg (hd t)->o=some ((m:Int),i+(decDigits m).length))/\
  dB tbl bc [.ptr 0 0] [.box ap [.d tS s,.d tI (i:Int)]] q_regex_parser_number_r (o.map λx=>(x.1,s,(x.2:Int),())):=λi=>by
  by_cases hi:i<=s.length
  ·obtain⟨o,ho⟩:=Sn s hs i hi
   exact⟨o,λ_=>ho⟩
  ·exact⟨none,λh=>absurd h hi⟩
 refine⟨λi=>av_ (h i),⟨λi n j hi e=>?_,λi m t hd0 hm ht=>?_⟩,λi hi=>?_⟩
 ·exact(J_ (h i) hi).1 n j e
 ·have hi:i<=s.length:=bw_ (JH hd0 (JG m).1)
  exact(J_ (h i) hi).2.1 m t hd0 hm ht
 ·exact(J_ (h i) hi).2.2
abbrev G2(s:List UInt8)(i:Nat):List Ob:=[.box ap [.d tS s,.d tI (i:Int)]]
def Sj(s:List UInt8)(o:Option (Rx×Nat)):Option (Rx×List UInt8×Int×Unit):=o.map λx=>(x.1,s,(x.2:Int),())
theorem eqT{a b:Nat}(h:((a:Int)==(b:Int))=true):a=b:=by simp at h;omega
theorem Sc{a b:Nat}(h:((a:Int)==(b:Int))=false):a≠b:=by simp at h;omega
theorem X7{a b:Nat}(h:((a:Int) != (b:Int))=true):a≠b:=by simp at h;omega
theorem X6{a b:Nat}(h:((a:Int) != (b:Int))=false):a=b:=by simp at h;omega
theorem Eu(s:List UInt8)(hs:s.length<=10000)(i c:Nat)(hc:c≠0):dB tbl bB [.ptr 0 0,.d tY (c:Int)] (G2 s i) bj (if pk s i=c then some (s,((i+1:Nat):Int),())else none):=by
 refine pQ (λ_=>rfl) (aV sH rfl (λO m=>sK O m (c:Int) s (i:Int)) ?_)
 unfold ju
 refine ae (au (vt s i) (aJ (λh=>aa (aa ?_)) λh=>aa (aa ?_)))
 ·rw[if_neg (X7 h)];rfl
 ·have h:=X6 h
  have hlt:=gP (s:=s) (i:=i) (by omega)
  rw[if_pos h]
  show some (ii bj (s,u_ .i64 ((i:Int)+1),()))=_
  rw[an hlt (by omega)];rfl
section
variable {s:List UInt8}
theorem Wc(hs:s.length<=10000){num:Nat->Option (Int×Nat)}(hn:NumOk s num)(hc:∀i,i<=s.length->dB tbl bc [.ptr 0 0] (G2 s i) q_regex_parser_number_r ((num i).map λx=>(x.1,s,(x.2:Int),())))
 {alt:Nat->Option (Rx×Nat)} (hb:Qw s alt) (d:Nat) (hd0:d<=100) (ha:∀i,i<=s.length->dB tbl a8 [.ptr 0 0,.d tI ((d+1:Nat):Int)] (G2 s i) aR (Sj s (alt i))) (i:Nat) (hi:i<=s.length):
 dB tbl dl [.ptr 0 0,.d tI (d:Int)] (G2 s i) bq (Sj s (iQ num s alt i)):=by
 refine pQ (λ_=>rfl) (aV uq rfl (λO m=>ux O m (d:Int) s (i:Int)) ?_)
 unfold kT
 refine au (vt s i) ?_
 dsimp only
 refine aJ (λh=>?_) λh46=>?_
 ·have h:=eqT (b:=46) h
  have hlt:=gP (s:=s) (i:=i) (by omega)
  rw[an hlt (by omega),show iQ num s alt i=some (.mk 2 0 0 [],i+1) by unfold iQ;rw[if_pos h]]
  exact aa rfl
 have h46:=Sc (b:=46) h46
 refine aJ (λh=>?_) λh33=>?_
 ·have h:=eqT (b:=33) h
  have hlt:=gP (s:=s) (i:=i) (by omega)
  rw[an hlt (by omega),show iQ num s alt i=some (.mk 4 0 0 [],i+1) by unfold iQ;rw[if_neg h46,if_pos h]]
  exact aa rfl
 have h33:=Sc (b:=33) h33
 refine aJ (λh91=>?_) λh91=>?_
 ·have h91:=eqT (b:=91) h91
  have hlt:=gP (s:=s) (i:=i) (by omega)
  have hp:iQ num s alt i=match num (i+1)with
   |none=>none
   |some (lo,j)=>if pk s j=45 then(match num (j+1)with
    |none=>none
    |some (up,k)=>if pk s k=93 then some (.mk 1 lo up [],k+1)else none)else none:=by
   unfold iQ
   rw[if_neg h46,if_neg h33,if_pos h91]
   rfl
  rw[an hlt (by omega),hp]
  refine gg (hc (i+1) (by omega)) ?_
  cases e1:num (i+1)with
  |none=>exact aa rfl
  |some x=>
   obtain⟨lo,j⟩:=x
   have b1:=hn.bnd _ _ _ (by omega) e1
   show Wp (λn=>n_ (iw (kS tbl n) bB [.ptr 0 0,.d tY (45:Int)] (G2 s j) bj) _) _
   refine gg (Eu s hs j 45 (by decide)) ?_
   by_cases h45:pk s j=45
   ·have hlt2:=gP (s:=s) (i:=j) (by omega)
    simp only[if_pos h45]
    show Wp (λn=>n_ (iw (kS tbl n) bc [.ptr 0 0] (G2 s (j+1)) q_regex_parser_number_r) _) _
    refine gg (hc (j+1) (by omega)) ?_
    cases e2:num (j+1)with
    |none=>exact aa rfl
    |some y=>
     obtain⟨up,k⟩:=y
     show Wp (λn=>n_ (iw (kS tbl n) bB [.ptr 0 0,.d tY (93:Int)] (G2 s k) bj) _) _
     refine gg (Eu s hs k 93 (by decide)) ?_
     by_cases h93:pk s k=93
     ·simp only[if_pos h93]
      exact aa rfl
     ·simp only[if_neg h93]
      exact aa rfl
   ·simp only[if_neg h45]
    exact aa rfl
 have h91:=Sc (b:=91) h91
 refine aJ (λh40=>?_) λh40=>?_
 ·have h40:=eqT (b:=40) h40
  have hlt:=gP (s:=s) (i:=i) (by omega)
  rw[an hlt (by omega)]
  refine au (vt s (i+1)) ?_
  dsimp only
  refine aJ (λh=>?_) λh=>?_
  ·have h:=eqT (b:=41) h
   have hlt2:=gP (s:=s) (i:=i+1) (by omega)
   rw[an hlt2 (by omega),show iQ num s alt i=some (.mk 0 0 0 [],i+2) by unfold iQ;rw[if_neg h46,if_neg h33,if_neg h91,if_pos h40,if_pos h]]
   exact aa rfl
  ·have h:=Sc (b:=41) h
   have hp:iQ num s alt i=match alt (i+1)with
    |none=>none
    |some (r,j)=>if pk s j=41 then some (r,j+1)else none:=by
    unfold iQ
    rw[if_neg h46,if_neg h33,if_neg h91,if_pos h40,if_neg h]
    rfl
   rw[hp,show u_ .i64 ((d:Int)+1)=((d+1:Nat):Int) by rw[wrap_i64 (by omega) (by omega)];rfl]
   refine gg (ha (i+1) (by omega)) ?_
   cases e1:alt (i+1)with
   |none=>exact aa rfl
   |some x=>
    obtain⟨r,j⟩:=x
    show Wp (λn=>n_ (iw (kS tbl n) bB [.ptr 0 0,.d tY (41:Int)] (G2 s j) bj) _) _
    refine gg (Eu s hs j 41 (by decide)) ?_
    by_cases h41:pk s j=41
    ·simp only[if_pos h41]
     refine aa ?_
     rw[f7];rfl
    ·simp only[if_neg h41]
     exact aa rfl
 ·have h40:=Sc (b:=40) h40
  have hp:iQ num s alt i=match num i with
   |none=>none
   |some (n,j)=>some (.mk 1 n n [],j):=by
   unfold iQ
   rw[if_neg h46,if_neg h33,if_neg h91,if_neg h40]
   rfl
  rw[hp]
  refine gg (hc i hi) ?_
  cases e1:num i with
  |none=>exact aa rfl
  |some x=>exact aa rfl
def V0(s:List UInt8)(one:Nat->Option (Rx×Nat))(i:Nat):Option (Rx×Nat):=match one i with
 |none=>none
 |some (r,j)=>if pk s j=42 then some (.mk 5 0 0 [r],j+1)else if pk s j=43 then some (.mk 6 0 0 [r],j+1)else if pk s j=63 then some (.mk 7 0 0 [r],j+1)else some (r,j)
theorem Wd(hs:s.length<=10000){one:Nat->Option (Rx×Nat)}(d:Nat)(ha:∀i,i<=s.length->dB tbl dl [.ptr 0 0,.d tI (d:Int)] (G2 s i) bq (Sj s (one i)))(i:Nat)(hi:i<=s.length):
 dB tbl ca [.ptr 0 0,.d tI (d:Int)] (G2 s i) bl (Sj s (V0 s one i)):=by
 refine pQ (λ_=>rfl) (aV ut rfl (λO m=>uy O m (d:Int) s (i:Int)) ?_)
 unfold kU V0
 refine gg (ha i hi) ?_
 cases e1:one i with
 |none=>exact aa rfl
 |some x=>
  obtain⟨r,j⟩:=x
  simp only
  have key:∀(k:Int),j<s.length->some (ii bl (Rx.mk k 0 0 [Rx.mk r.out.1 r.out.2.1 r.out.2.2.1 r.out.2.2.2.1],s,u_ .i64 ((j:Int)+1),()))=(Sj s (some (.mk k 0 0 [r],j+1))).map (ii bl):=λk hj=>by
   rw[f7,an hj (by omega)];rfl
  show Wp (λn=>n_ (n_ (aH (kS tbl n) bo [.ptr 0 0] (G2 s j) a7) _) _) _
  refine ae (au (vt s j) ?_)
  dsimp only
  refine aJ (λh=>aa (aa ?_)) λh1=>?_
  ·have h:=eqT (b:=42) h
   rw[if_pos h];exact key 5 (gP (by omega))
  have h1:=Sc (b:=42) h1
  refine aJ (λh=>aa (aa ?_)) λh2=>?_
  ·have h:=eqT (b:=43) h
   rw[if_neg h1,if_pos h];exact key 6 (gP (by omega))
  have h2:=Sc (b:=43) h2
  refine aJ (λh=>aa (aa ?_)) λh3=>aa (aa ?_)
  ·have h:=eqT (b:=63) h
   rw[if_neg h1,if_neg h2,if_pos h];exact key 7 (gP (by omega))
  ·have h3:=Sc (b:=63) h3
   rw[if_neg h1,if_neg h2,if_neg h3]
   show some (ii bl (Rx.mk r.out.1 r.out.2.1 r.out.2.2.1 r.out.2.2.2.1,s,(j:Int),()))=_
   rw[f7];rfl
theorem Hs(hs:s.length<=10000){one:Nat->Option (Rx×Nat)}(hb:Qw s one)(d:Nat)(ha:∀i,i<=s.length->dB tbl ca [.ptr 0 0,.d tI (d:Int)] (G2 s i) bl (Sj s (one i)))(T:Option (List Rx×Nat))(r:Rx)(i f:Nat)(hi:i<=s.length)(h1:1<=i)(hf:s.length<=f+i)(hT:(if pk s i=32 then kH s 32 one f [r] (i+1)else some ([r],i))=T):
 Wp (λn=>aK n (cP (kS tbl n) n (d:Int)) (s,(i:Int),(0:Int),(0:Int),(0:Int),([r]:List Rx),())) λt=>match t with
  | .inl _=>T=none
  | .inr t=>∃(acc:List Rx) (j:Nat),t=(s,(j:Int),(0:Int),(0:Int),(0:Int),acc,())/\T=some (acc,j):=by
 refine Ev.wp_loop (λt=>∃(acc:List Rx) (j f:Nat),t=(s,(j:Int),(0:Int),(0:Int),(0:Int),acc,())/\j<=s.length/\acc.length<=j/\s.length<=f+j/\(if pk s j=32 then kH s 32 one f acc (j+1)else some (acc,j))=T) (λt=>s.length - t.2.1.toNat) ⟨[r],i,f,rfl,hi,h1,hf,hT⟩ ?_
 rintro t ⟨acc,j,f,rfl,hj,hacc,hf,hT⟩
 unfold cP
 refine au (vt s j) ?_
 dsimp only
 refine aJ (λh=>?_) λh=>aa ⟨acc,j,rfl,?_⟩
 ·have h:=eqT (b:=32) h
  have hlt:=gP (s:=s) (i:=j) (by omega)
  rw[if_pos h]at hT
  rw[an hlt (by omega)]
  refine gg (ha (j+1) (by omega)) ?_
  obtain⟨f2,rfl⟩:∃g,f=g+1:=⟨f - 1,by omega⟩
  rw[kH]at hT
  cases e1:one (j+1)with
  |none=>
   rw[e1]at hT
   exact aa hT.symm
  |some x=>
   obtain⟨r2,k⟩:=x
   obtain⟨b1,b2,_⟩:=hb _ _ _ (by omega) e1
   rw[e1]at hT
   simp only at hT
   refine ao (decide_eq_true ?_) (aa ⟨⟨acc++[r2],k,f2,rfl,b2,?_,by omega,hT⟩,?_⟩)
   ·show(acc.length+1)*48<=140737488355328
    omega
   ·rw[m_,K_];omega
   ·show s.length - (k:Int).toNat<s.length - (j:Int).toNat
    omega
 ·have h:=Sc (b:=32) h
  rw[if_neg h]at hT
  exact hT.symm
theorem AN(hs:s.length<=10000){one:Nat->Option (Rx×Nat)}(hb:Qw s one)(d:Nat)(ha:∀i,i<=s.length->dB tbl bE [.ptr 0 0,.d tI (d:Int)] (G2 s i) bk (Sj s (one i)))(T:Option (List Rx×Nat))(r:Rx)(i f:Nat)(hi:i<=s.length)(h1:1<=i)(hf:s.length<=f+i)(hT:(if pk s i=124 then kH s 124 one f [r] (i+1)else some ([r],i))=T):
 Wp (λn=>aK n (cj (kS tbl n) n (d:Int)) (s,(i:Int),(0:Int),(0:Int),(0:Int),([r]:List Rx),())) λt=>match t with
  | .inl _=>T=none
  | .inr t=>∃(acc:List Rx) (j:Nat),t=(s,(j:Int),(0:Int),(0:Int),(0:Int),acc,())/\T=some (acc,j):=by
 refine Ev.wp_loop (λt=>∃(acc:List Rx) (j f:Nat),t=(s,(j:Int),(0:Int),(0:Int),(0:Int),acc,())/\j<=s.length/\acc.length<=j/\s.length<=f+j/\(if pk s j=124 then kH s 124 one f acc (j+1)else some (acc,j))=T) (λt=>s.length - t.2.1.toNat) ⟨[r],i,f,rfl,hi,h1,hf,hT⟩ ?_
 rintro t ⟨acc,j,f,rfl,hj,hacc,hf,hT⟩
 unfold cj
 refine au (vt s j) ?_
 dsimp only
 refine aJ (λh=>?_) λh=>aa ⟨acc,j,rfl,?_⟩
 ·have h:=eqT (b:=124) h
  have hlt:=gP (s:=s) (i:=j) (by omega)
  rw[if_pos h]at hT
  rw[an hlt (by omega)]
  refine gg (ha (j+1) (by omega)) ?_
  obtain⟨f2,rfl⟩:∃g,f=g+1:=⟨f - 1,by omega⟩
  rw[kH]at hT
  cases e1:one (j+1)with
  |none=>
   rw[e1]at hT
   exact aa hT.symm
  |some x=>
   obtain⟨r2,k⟩:=x
   obtain⟨b1,b2,_⟩:=hb _ _ _ (by omega) e1
   rw[e1]at hT
   simp only at hT
   refine ao (decide_eq_true ?_) (aa ⟨⟨acc++[r2],k,f2,rfl,b2,?_,by omega,hT⟩,?_⟩)
   ·show(acc.length+1)*48<=140737488355328
    omega
   ·rw[m_,K_];omega
   ·show s.length - (k:Int).toNat<s.length - (j:Int).toNat
    omega
 ·have h:=Sc (b:=124) h
  rw[if_neg h]at hT
  exact hT.symm
theorem Ns(hs:s.length<=10000){one:Nat->Option (Rx×Nat)}(hb:Qw s one)(d:Nat)(ha:∀i,i<=s.length->dB tbl ca [.ptr 0 0,.d tI (d:Int)] (G2 s i) bl (Sj s (one i)))(i:Nat)(hi:i<=s.length):
 dB tbl bE [.ptr 0 0,.d tI (d:Int)] (G2 s i) bk (Sj s (Hu s 32 3 one i)):=by
 refine pQ (λ_=>rfl) (aV qO rfl (λO m=>qT O m (d:Int) s (i:Int)) ?_)
 unfold iF Hu
 refine gg (ha i hi) ?_
 obtain⟨f,hf⟩:∃f,s.length+1 - i=f+1:=⟨s.length - i,by omega⟩
 rw[hf,kH]
 cases e1:one i with
 |none=>exact aa rfl
 |some x=>
  obtain⟨r,j⟩:=x
  obtain⟨b1,b2,_⟩:=hb _ _ _ hi e1
  simp only[Q_]
  show Wp (λn=>n_ (aK n (cP (kS tbl n) n (d:Int)) (s,(j:Int),(0:Int),(0:Int),(0:Int),([r]:List Rx),())) _) _
  refine ae (Ev.wp_mono (Hs hs hb d ha _ r j f b2 (by omega) (by omega) rfl) ?_)
  rintro(t|t) ht
  ·rw[show _=none from ht]
   exact aa rfl
  ·obtain⟨acc,k,rfl,hT⟩:=ht
   rw[hT]
   refine aJ (λh=>?_) λh=>aa ?_
   ·have h:=eqT (b:=1) h
    obtain⟨x,rfl⟩:=bc_.1 h
    refine dZ (by decide) rfl (bm rfl (aa ?_))
    rw[f7];rfl
   ·have h:=Sc (b:=1) h
    simp only
    rw[AF h];rfl
theorem Er(hs:s.length<=10000){one:Nat->Option (Rx×Nat)}(hb:Qw s one)(d:Nat)(hd0:d<=32)(ha:∀i,i<=s.length->dB tbl bE [.ptr 0 0,.d tI (d:Int)] (G2 s i) bk (Sj s (one i)))(i:Nat)(hi:i<=s.length):
 dB tbl a8 [.ptr 0 0,.d tI (d:Int)] (G2 s i) aR (Sj s (Hu s 124 4 one i)):=by
 refine pQ (λ_=>rfl) (aV f9 rfl (λO m=>gh O m (d:Int) s (i:Int)) ?_)
 unfold dF Hu
 refine ae (aX (decide_eq_false (by omega)) (aa ?_))
 show Wp (λn=>n_ (iw (kS tbl n) bE [.ptr 0 0,.d tI (d:Int)] (G2 s i) bk) _) _
 refine gg (ha i hi) ?_
 obtain⟨f,hf⟩:∃f,s.length+1 - i=f+1:=⟨s.length - i,by omega⟩
 rw[hf,kH]
 cases e1:one i with
 |none=>exact aa rfl
 |some x=>
  obtain⟨r,j⟩:=x
  obtain⟨b1,b2,_⟩:=hb _ _ _ hi e1
  simp only[Q_]
  show Wp (λn=>n_ (aK n (cj (kS tbl n) n (d:Int)) (s,(j:Int),(0:Int),(0:Int),(0:Int),([r]:List Rx),())) _) _
  refine ae (Ev.wp_mono (AN hs hb d ha _ r j f b2 (by omega) (by omega) rfl) ?_)
  rintro(t|t) ht
  ·rw[show _=none from ht]
   exact aa rfl
  ·obtain⟨acc,k,rfl,hT⟩:=ht
   rw[hT]
   refine aJ (λh=>?_) λh=>aa ?_
   ·have h:=eqT (b:=1) h
    obtain⟨x,rfl⟩:=bc_.1 h
    refine dZ (by decide) rfl (bm rfl (aa ?_))
    rw[f7];rfl
   ·have h:=Sc (b:=1) h
    simp only
    rw[AF h];rfl
theorem UN(i:Nat):dB tbl a8 [.ptr 0 0,.d tI (33:Int)] (G2 s i) aR none:=by
 refine pQ (λ_=>rfl) (aV f9 rfl (λO m=>gh O m (33:Int) s (i:Int)) ?_)
 unfold dF
 exact ae (db rfl (aa (aa rfl)))
theorem Sm(hs:s.length<=10000){num:Nat->Option (Int×Nat)}(hn:NumOk s num)(hc:∀i,i<=s.length->dB tbl bc [.ptr 0 0] (G2 s i) q_regex_parser_number_r ((num i).map λx=>(x.1,s,(x.2:Int),()))):
 ∀(b d:Nat),d+b=33->∀i,i<=s.length->dB tbl a8 [.ptr 0 0,.d tI (d:Int)] (G2 s i) aR (Sj s (AR num s b i))
 |0,d,h,i,_=>by
  have:d=33:=by omega
  subst this
  exact UN i
 |b+1,d,h,i,hi=>by
  have hb:=Jt hn b
  have h1:=Wc hs hn hc hb d (by omega) (Sm hs hn hc b (d+1) (by omega))
  have h2:=Wd hs d h1
  have h3:=Ns hs (EU hn hb) d h2
  exact Er hs (Ju (EU hn hb) (by decide) 3) d (by omega) h3 i hi
end
def Rd(s:List UInt8)(one:Nat->Option (Rx×Nat))(C:Nat->Rx->Bool->Nat->Prop):Prop:=∀i,i<=s.length->∃(r:Rx) (ok:Bool) (j:Nat),(i<=j/\j<=s.length)/\one i=(if ok then some (r,j)else none)/\C i r ok j
section
variable {s:List UInt8}
theorem Rd.imp{one one':Nat->Option (Rx×Nat)}{C:Nat->Rx->Bool->Nat->Prop}(h:Rd s one C)(he:∀i,i<=s.length->one i=one' i):Rd s one' C:=λi hi=>by
 obtain⟨r,ok,j,h1,h2,h3⟩:=h i hi
 exact⟨r,ok,j,h1,by rw[<-he i hi];exact h2,h3⟩
end
def ParsedX(s:List UInt8)(c:Rx×Int×Unit):Prop:=(∃r,eD r=0/\iY r=s/\c=(r,0,()))\/((∀r,eD r=0->iY r≠s)/\c=(.mk 0 0 0 [],2,()))
theorem Je{r:Rx}(h:eD r=0):cO r=true/\sz r<=64/\KR r<=16:=by
 obtain⟨h1,h2⟩:=mA h
 have:=U4 r 1 0 h
 exact⟨h1,h2,by omega⟩
theorem Mo{num:Nat->Option (Int×Nat)}{s:List UInt8}(hn:NumOk s num){b:Nat}(hb:16<=b){r:Rx}(h:eD r=0)(hp:iY r=s):AR num s b 0=some (r,s.length):=by
 obtain⟨h1,_,h3⟩:=Je h
 subst hp
 exact Ro hn h1 (by omega)
theorem TR:∀(r:Rx),cO r=true->sz r<=1000->TQ r:=by
 refine f8 λk lo up ks ih hw hs=>?_
 obtain⟨nd,hks⟩:=well_iff.1 hw
 have hl:=Yc ks
 simp only[sz]at hs
 have h1:lo=0/\up=0\/0<=lo/\lo<=up/\up<=4294967295:=by
  by_cases e:k=1
  ·exact .inr (nd.rng e)
  ·exact .inl (nd.zero e)
 have hk:=nd.known
 have m1:IntKind.i64.min= -9223372036854775808:=rfl
 have m2:IntKind.i64.max=9223372036854775807:=rfl
 refine⟨⟨by omega,by omega⟩,⟨by omega,by omega⟩,⟨by omega,by omega⟩,E_ (show ks.length<=1000 by omega) (by decide),(Cg ks).2 λr hr=>ih r hr (hks r hr) (by have:=xw hr;omega)⟩
theorem ParsedX.ok{s:List UInt8}{c:Rx×Int×Unit}(h:ParsedX s c):TQ c.1:=by
 rcases h with⟨r,h1,_,rfl⟩|⟨_,rfl⟩
 ·obtain⟨h2,h3,_⟩:=Je h1
  exact TR r h2 (by omega)
 ·exact⟨by decide,by decide,by decide,by decide,trivial⟩
theorem GM(s:List UInt8)(hs:s.length<=10000):∃c:Rx×Int×Unit,ParsedX s c/\aU tbl gV [.d tS s] [] di c:=by
 obtain⟨num,hn,hc⟩:=W8 s hs
 refine lz (sh:=di) (λ_=>rfl) (SY HO rfl (λO n=>H3 O n s) ?_)
 unfold yb
 refine gg (Sm hs hn hc 33 0 rfl 0 (aG_ _)) ?_
 cases e:AR num s 33 0 with
 |none=>
  refine aa ⟨_,rfl,.inr ⟨λr hr hp=>?_,rfl⟩⟩
  rw[Mo hn (by decide) hr hp]at e;cases e
 |some x=>
  obtain⟨r,j⟩:=x
  obtain⟨b1,b2,b3⟩:=Jt hn 33 0 r j (aG_ _) e
  have hbad:∀r',eD r'=0->iY r'=s->r'=r:=λr' h1 h2=>by
   rw[Mo hn (by decide) h1 h2]at e;cases e;rfl
  show Wp (λn=>n_ (n_ (aH (kS tbl n) gW [.d .rx (Rx.mk r.out.1 r.out.2.1 r.out.2.2.1 r.out.2.2.2.1)] [] fN) _) _) _
  rw[f7]
  refine ae (au (GN r (by omega)) (ae (dw (b:= !(iY r==s)) (λh=>aa ?_) ?_)))
  ·have h:eD r=0:=by
    have h:(eD r != 0)=false:=h
    simpa using h
   rw[if_pos h]
  ·refine aJ (λh=>aa (aa ⟨_,rfl,.inr ⟨λr' h1 h2=>?_,rfl⟩⟩)) λh=>aa (aa ⟨_,rfl,.inl ⟨r,?_,?_,?_⟩⟩)
   ·have:=hbad r' h1 h2
    subst this
    have h:(eD r' != 0|| !(iY r'==s))=true:=h
    rw[h1,h2]at h
    simp at h
   ·have h:(eD r != 0|| !(iY r==s))=false:=h
    simp at h
    exact h.1
   ·have h:(eD r != 0|| !(iY r==s))=false:=h
    simp at h
    exact h.2
   ·show(Rx.mk r.out.1 r.out.2.1 r.out.2.2.1 r.out.2.2.2.1,(0:Int),())=_
    rw[f7]
end Go.Proofs.YteemihfpamlccaaGreatDoor
