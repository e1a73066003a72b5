import Derived.Test.YtmfolppncelceaaGreatDoorPL5
import Derived.Test.YtmfolppncelceaaGreatDoorPL3
import Derived.OpenShut
import Derived.Deep.Slices
import Derived.ChangeMaps5
import Derived.Carry
set_option linter.unusedVariables false
set_option linter.unusedSimpArgs false
open Array renaming getElem?_eq_some_iff->ak_,getElem?_toList->ax_
open Bool renaming and_eq_true->a_,not_eq_true'->y_,or_eq_true->z_,not_true->ag_,false_eq_true->al_,or_eq_true_iff->aD_,false_or->aE_,and_false->aR_,not_false->aS_
open Classical renaming byContradiction->aV_
open Int renaming toNat_natCast->aG_
open Go.IntKind renaming wrap->P_,signed->ay_,bits->aH_
open List renaming mem_append->c_,getElem?_eq_getElem->d_,length_map->e_,getElem?_map->h_,getElem?_eq_some_iff->i_,all_eq_true->j_,getElem?_append_left->l_,map_cons->m_,mem_cons_of_mem->n_,mem_singleton->p_,map_append->q_,getElem?_append_right->r_,mem_flatMap->s_,mem_of_getElem?->u_,mem_cons->v_,getElem?_set_ne->x_,filter_cons->A_,mem_cons_self->B_,mem_append_left->C_,append_assoc->D_,mapM_cons->E_,mem_append_right->F_,length_cons->H_,mem_range->I_,getElem?_set_self->K_,map_map->L_,map_set->M_,range->N_,replicate->O_,mem_map->Q_,getElem?_range->U_,map_congr_left->V_,all_cons->W_,getElem?_take_of_lt->X_,length_append->aa_,getD->ab_,flatMap_cons->ad_,getElem_mem->ae_,length_take->af_,map_take->ah_,getElem?_drop->am_,map_replicate->an_,getElem?_cons_zero->ap_,drop_eq_nil_of_le->ar_,take_of_length_le->as_,length_nil->av_,nil_append->aw_,getElem?_mapIdx->az_,getElem?_of_mem->aA_,map_drop->aF_,ext_getElem?->aI_,getElem?_set->aJ_,drop_append->aK_,isEmpty_iff->aL_,not_mem_nil->aM_,take_append->aN_,length->aO_,append_nil->aP_,drop_drop->aT_,take_zero->aU_,map_nil->aW_
open Nat renaming eq_of_beq_eq_true->b_,le_of_ble_eq_true->g_,beq->o_,beq_refl->R_,zero_add->S_,zero_le->ac_,lt_or_ge->aj_,succ_mul->au_,le_refl->aB_,ble->aC_,zero_mul->aX_
open Option renaming map_eq_some_iff->f_,bind_eq_some_iff->t_,bind_eq_bind->G_,bind_some->J_,isNone_iff_eq_none->T_,map_some->Y_,pure_def->Z_,bind->ai_,isSome_iff_exists->ao_,getD_some->aq_
open Option.some renaming injEq->k_,inj->w_
open Prod renaming mk->aQ_
namespace Go.Ev
open Go Go.RowKit Go.Av
theorem ev:∀(l:List Slot) (c:HL l) (b:S),(∀k v,lk b.fr k=some v->v.isD=true)->∀k v,lk (unpack l c b).fr k=some v->v.isD=true
 |[],_,_,h=>h
 | .tm j t::l,c,b,h=>ev l c.2 _ λk v hv=>by
  simp only[lk]at hv
  cases hb:o_ k j
  ·rw[hb]at hv;exact h k v hv
  ·rw[hb]at hv
   simp only[cond_true,k_]at hv
   subst hv;rfl
 | .cell _ _ _::l,c,b,h=>ev l c.2 _ h
 | .vec _ _ _::l,c,b,h=>ev l c.2 _ h
 | .map _ _ _ _ _::l,c,b,h=>ev l c.2 _ h
 | .tree _ _ _ _::l,c,b,h=>ev l c.2 _ h
 | .treeH _ _ _ _ _ _::l,c,b,h=>ev l c.2 _ h
theorem Jj{v:V}(h:v.isD=true):v.ids=[]/\v.ids1=[]:=by cases v<;>first|exact⟨rfl,rfl⟩|cases h
theorem Fc{n:Nat}{fr:List (Nat×V)}(h:∀k v,lk fr k=some v->v.isD=true):(res n fr).ids=[]:=by
 have one:∀k,((lk fr k).getD .any).ids=[]/\((lk fr k).getD .any).ids1=[]:=λk=>by
  cases hl:lk fr k with
  |none=>exact⟨rfl,rfl⟩
  |some v=>exact Jj (h k v hl)
 unfold res
 cases o_ n 1
 ·show(Gf fr n).flatMap V.ids1=[]
  rw[List.flatMap_eq_nil_iff]
  intro v hv
  obtain⟨i,_,rfl⟩:=Q_.1 hv
  exact(one i).2
 ·exact(one 0).1
theorem Eg{hp:List AObj}{bor:Bool}{x:BV}{p:PV}(h:x.toPV=some p):tA hp bor x=some p:=by
 cases x<;>first|exact h|cases h
theorem AH{hp:List AObj}{bor:Bool}{x:AV}{p:PV}(h:x.toPV=some p):ir hp bor x=some p:=by
 cases x with
 |b x=>exact Eg h
 |agg xs=>
  have h':(xs.mapM BV.toPV).map PV.agg=some p:=h
  obtain⟨ps,h1,rfl⟩:=f_.1 h'
  show(xs.mapM (tA hp bor)).map PV.agg=_
  rw[kt (λx _ y hy=>Eg hy) h1];rfl
 |tup xs=>exact h
section
variable {R:Type} {P:Program} {O:aj} {d:Option Nat} {s:S} {κ kp:S->Option R} {r:R}
theorem GR{bor:Bool}{a:Arg×X}{v:V}(hw:a.2.wf=true)(h:AD s bor [] a=some v)(hd:v.isD=true):∃p,((enc s).get a.2.er).bind (ir (enc s).hp bor)=some p/\AV.p p=aE v:=by
 obtain⟨a,x⟩:=a
 simp only[AD]at h
 split at h
 ·rename_i t id hx
  obtain⟨h1,h2⟩:=aB h
  simp only[a_,y_]at h1
  split at h2
  ·rename_i e u xs ho
   split at h2
   ·rename_i ys hy
    cases h2
    obtain⟨e1,e2⟩:=aU hy
    refine⟨ao (.list t) ys,?_,rfl⟩
    rw[ak hw hx,J_]
    show(if bor=true then Cv (enc s).hp id else none)=_
    rw[h1.1,if_pos rfl,Cv,aY,ho]
    show some (ao (.list u) xs)=some (ao (.list t) ys)
    rw[e1]
   ·cases h2
  ·rename_i e kk u xs ho
   split at h2
   ·rename_i ys hy
    cases h2
    obtain⟨e1,e2⟩:=aU hy
    refine⟨ao (.list t) ys,?_,rfl⟩
    rw[ak hw hx,J_]
    show(if bor=true then Cv (enc s).hp id else none)=_
    rw[h1.1,if_pos rfl,Cv,aY,ho]
    show some (ao (.list u) xs)=some (ao (.list t) ys)
    rw[e1]
   ·cases h2
  ·cases h2
 ·rename_i t v' _ hx
  split at h
  ·rename_i y hy
   cases h
   exact⟨ao t y,by rw[ak hw hx,J_];exact AH (cw hy),rfl⟩
  ·cases h
 ·rename_i v' hx
  have key:∀p:PV,aE v'=AV.p p->v'=v->∃p,((enc s).get x.er).bind (ir (enc s).hp bor)=some p/\AV.p p=aE v:=λp hp e=>by
   subst e
   exact⟨p,by rw[ak hw hx,J_,hp];exact AH rfl,hp.symm⟩
  split at h
  ·cases h
  ·cases h
  ·cases h
  ·cases h
  ·rename_i vs
   obtain⟨h1,h2⟩:=aB h
   cases h2
   cases hd
  ·cases h
   cases v<;>first|(cases hd;done)|skip
   ·exact key _ rfl rfl
   ·exact key _ rfl rfl
   ·exact key _ rfl rfl
 ·cases h
theorem rU{bor:Bool}:∀(l:List (Arg×X)) (vs:List V),fL l=true->iY s bor [] l=some vs->vs.all V.isD=true->∃ps,(l.map λa=>a.2.er).mapM (λx=>((enc s).get x).bind (ir (enc s).hp bor))=some ps/\ps.map AV.p=vs.map aE
 |[],vs,_,h,_=>by cases h;exact⟨[],rfl,rfl⟩
 |a::l,vs,hw,h,hd=>by
  simp only[fL,W_,a_]at hw
  simp only[iY]at h
  split at h
  ·rename_i v hv
   split at h
   ·rename_i us hu
    cases h
    simp only[W_,a_]at hd
    obtain⟨p,h1,h2⟩:=GR hw.1 hv hd.1
    obtain⟨ps,h3,h4⟩:=rU l us hw.2 hu hd.2
    refine⟨p::ps,?_,by rw[m_,m_,h2,h4]⟩
    rw[m_,E_,h1,h3];rfl
   ·cases h
  ·cases h
theorem EU(hO:OracleOk P O){bor:Bool}{f:FuncId}{args:List (Arg×X)}{sh:Sh}(hw:fL args=true/\sh.wfB=true)(h:evOp O d (.call bor f args sh) s κ kp=some r):
 Pu P s (.call bor (f%10000) (args.map λa=>a.2.er)) d κ r:=by
 simp only[evOp]at h
 split at h
 ·rename_i ars ha
  obtain⟨h1,h2⟩:=aB h
  simp only[a_,z_,y_]at h1
  obtain⟨c,hc,hk⟩:=bo h2
  obtain⟨ps,h3,h4⟩:=rU args ars hw.1 ha h1.1.1
  obtain⟨q1,q2⟩:=nE hO hw.2 hc
  rw[<-h4]at q1
  refine⟨_,⟨ps,h3,q1.mono λo ho=>⟨_,_,ho,?_,λhb=>(q2 ?_).1,rfl⟩⟩,hk⟩
  ·rw[<-kh]
   refine Fc (ev _ _ _ λk v hv=>?_)
   rw[base_nil]at hv
   have:=aL_.1 h1.1.2
   rw[this]at hv;cases hv
  ·rcases h1.2 with hh|hh
   ·rw[hb]at hh;cases hh
   ·exact hh
 ·cases h
theorem BN(hO:OracleOk P O){bor:Bool}{num:Nat}{x:X}{args:List (Arg×X)}{sh:Sh}(hw:x.wf=true/\fL args=true/\cd P (num%10000)=true/\sh.wfB=true)(h:evOp O d (.callp bor num x args sh) s κ kp=some r):
 Pu P s (.callp bor x.er (args.map λa=>a.2.er)) d κ r:=by
 simp only[evOp]at h
 split at h
 ·rename_i f cs ars hx ha
  obtain⟨h1,h2⟩:=aB h
  simp only[a_,z_,y_]at h1
  obtain⟨c,hc,hk⟩:=bo h2
  have hf:=b_ h1.1.1.1
  subst hf
  obtain⟨ps,h3,h4⟩:=rU args ars hw.2.1 ha h1.1.1.2
  obtain⟨q1,q2⟩:=nE hO hw.2.2.2 hc
  have hcs:(ars++cs.map λc=>V.dp c.1 c.2).map aE=(ps++cs.map λc=>PV.pto (ao c.1 c.2)).map AV.p:=by
   rw[q_,q_,h4,L_,L_];rfl
  rw[hcs]at q1
  refine⟨_,⟨_,ak hw.1 hx,num%10000,cs.map λc=>PV.pto (ao c.1 c.2),rfl,hw.2.2.1,ps,h3,q1.mono λo ho=>⟨_,_,ho,?_,λhb=>(q2 ?_).1,rfl⟩⟩,hk⟩
  ·rw[<-kh]
   refine Fc (ev _ _ _ λk v hv=>?_)
   rw[base_nil]at hv
   have:=aL_.1 h1.1.2
   rw[this]at hv;cases hv
  ·rcases h1.2 with hh|hh
   ·rw[hb]at hh;cases hh
   ·exact hh
 ·cases h
theorem LeS.refl(a:St):LeS a a:=⟨λ_ y hk=>⟨y,hk,.refl y⟩,rfl,λi x y hx hy=>by rw[hx]at hy;cases hy;exact .refl x⟩
def Cu(P:Program)(s:S)(op:SOp)(d:Option Nat)(κ kp:S->Option R)(r:R):Prop:=
 sexec P d op (enc s) (λst'=>∃s',LeS st' (enc s')/\Keeps (dc d) s s'/\κ s'=some r) (λst'=>∃s',st'=enc s'/\Keeps (dc d) s s'/\kp s'=some r)
def Ox(P:Program)(s:S)(op:SOp)(d:Option Nat)(κ kp:S->Option R)(r:R):Prop:=
 sexec P d op (enc s) (λst'=>∃s',st'=enc s'/\Keeps (dc d) s s'/\κ s'=some r) (λst'=>∃s',st'=enc s'/\Keeps (dc d) s s'/\kp s'=some r)
theorem Ox.ob{op:SOp}(h:Ox P s op d κ kp r):Cu P s op d κ kp r:=gO h (λ_ ⟨s',h1,h2,h3⟩=>⟨s',by rw[h1];exact .refl _,h2,h3⟩) λ_ h=>h
theorem jZ{st:St}{op:SOp}{x:AV}{K KP:St->Prop}(hs:eM P st op λy=>y=x)(hk:K (st.putO d x)):sexec P d op st K KP:=by
 have h1:eM P st op λy=>K (st.putO d y):=rA hs λy hy=>by rw[hy];exact hk
 unfold sexec
 split<;>first|exact h1|exact hs.elim
theorem Pu.ox{op:SOp}(h:Pu P s op d κ r):Ox P s op d κ kp r:=by
 obtain⟨v,h1,h2⟩:=h
 exact jZ h1 ⟨_,(dA _ _ _).symm,Keeps.put s d v,h2⟩
theorem Pu.ob{op:SOp}(h:Pu P s op d κ r):Cu P s op d κ kp r:=by
 obtain⟨v,h1,h2⟩:=h
 exact jZ h1 ⟨_,by rw[dA];exact .refl _,Keeps.put s d v,h2⟩
theorem nQ(s:S)(o:Ob):enc ⟨s.fr,s.hp++[o]⟩={enc s with hp:=(enc s).hp++[aV o]}:=by simp[enc]
theorem dL(s:S)(id:Nat)(o:Ob):enc ⟨s.fr,setAt s.hp id o⟩={enc s with hp:=(enc s).hp.set id (aV o)}:=by simp[enc,cz,M_]
theorem i7(s:S):(enc s).hp.length=s.hp.length:=by simp[enc]
theorem oP{o:Ob}{o':AObj}{x:BV}{v:V}(ho:aV o=o')(hv:aE v= .b x)(h:κ (S.putO ⟨s.fr,s.hp++[o]⟩ d v)=some r):
 ∃s',LeS (({enc s with hp:=(enc s).hp++[o']}:St).putO d (.b x)) (enc s')/\Keeps (dc d) s s'/\κ s'=some r:=by
 refine⟨_,?_,(Keeps.fr (s':=⟨s.fr,s.hp++[o]⟩) rfl).trans (Keeps.put _ d v),h⟩
 rw[dA,nQ,ho,hv]
 exact .refl _
theorem EQ{o:Ob}{o':AObj}{x:BV}{v:V}(ho:aV o=o')(hv:aE v= .b x)(h:κ (S.putO ⟨s.fr,s.hp++[o]⟩ d v)=some r):
 ∃s',(({enc s with hp:=(enc s).hp++[o']}:St).putO d (.b x))=enc s'/\Keeps (dc d) s s'/\κ s'=some r:=by
 refine⟨_,?_,(Keeps.fr (s':=⟨s.fr,s.hp++[o]⟩) rfl).trans (Keeps.put _ d v),h⟩
 rw[dA,nQ,ho,hv]
theorem HK{tid:TypeId}{zero:List V}(hw:zero.all V.konst=true)(h:evOp O d (.alloc tid zero) s κ kp=some r):Cu P s (.alloc tid (zero.map rp)) d κ kp r:=by
 simp only[evOp]at h
 refine oP (o:=.box tid zero) ?_ ?_ h
 ·show AObj.box tid (zero.map aC)=AObj.box tid ((zero.map rp).map λv=>aQ v)
  rw[L_]
  congr 1
  exact V_ λv hv=>(oO (j_.1 hw v hv)).symm
 ·rw[i7];rfl
theorem KG{tid:TypeId}{x:X}(hw:x.wf=true)(h:evOp O d (.box tid x) s κ kp=some r):Cu P s (.box tid x.er) d κ kp r:=by
 simp only[evOp]at h
 split at h
 ·rename_i v hx
  obtain⟨h1,h2⟩:=aB h
  obtain⟨h3,h4⟩:=mG h1
  refine⟨_,ak hw hx,h3,oP (o:=.box tid (bA v)) ?_ ?_ h2⟩
  ·show AObj.box tid _=_
   rw[h4]
  ·rw[i7];rfl
 ·cases h
theorem F3{tid:TypeId}{t:Ty}{len:Nat}{parts:List X}(hw:parts.all X.wf=true)(h:evOp O d (.bslice true tid t len parts) s κ kp=some r):Cu P s (.bslice true tid t.sz len (parts.map X.er)) d κ kp r:=by
 simp only[evOp]at h
 obtain⟨h1,h2⟩:=aB h
 simp only[a_]at h1
 obtain⟨xs,h3,h4,h5⟩:=iF parts _ hw h2
 refine⟨_,h3,?_,g_ h1.1.2,g_ h1.2,eS xs,oP (o:=.vec tid t xs) rfl ?_ h5⟩
 ·rw[e_,h4]
  exact b_ h1.1.1
 ·rw[i7];rfl
theorem F5{tid:TypeId}{t:Ty}{bytes:Nat}{l c:X}(hw:l.wf=true/\c.wf=true/\t≠.rx)(h:evOp O d (.mslice tid t bytes l c) s κ kp=some r):Cu P s (.mslice tid t.sz bytes (j0 t) l.er c.er) d κ kp r:=by
 simp only[evOp]at h
 obtain⟨h1,h2⟩:=aB h
 obtain⟨k1,l',hl,h3⟩:=cM h2
 obtain⟨k2,c',hc,h4⟩:=cM h3
 obtain⟨h5,h6⟩:=aT h4
 simp only[a_,decide_eq_true_eq]at h5
 obtain⟨z1,z2⟩:=Ct t hw.2.2
 refine⟨_,ak hw.1 hl,_,ak hw.2.1 hc,_,rfl,_,rfl,_,_,rfl,_,_,rfl,h5.1.1.1,h5.1.1.2,h5.1.2,h5.2,z2,g_ h1,_,z1,p8 t _,oP (o:=.vec tid t (O_ l'.toNat t.zero)) ?_ ?_ h6⟩
 ·show AObj.vec tid t.sz _=_
  rw[an_]
 ·rw[i7];rfl
theorem Dk{tid:TypeId}{k:Av.K}{u:Ty}{bytes:Nat}{l c:X}(hw:l.wf=true/\c.wf=true)(h:evOp O d (.msliceT tid k u bytes l c) s κ kp=some r):Cu P s (.msliceT k tid 1 bytes (.slice none 0 0) l.er c.er) d κ kp r:=by
 simp only[evOp]at h
 obtain⟨h1,h2⟩:=aB h
 obtain⟨k1,l',hl,h3⟩:=cM h2
 obtain⟨k2,c',hc,h4⟩:=cM h3
 obtain⟨h5,h6⟩:=aT h4
 simp only[a_,decide_eq_true_eq]at h5
 have hn:k.nilsB nilP.cells=true:=by
  simp only[Av.K.nilsB,nilP,PV.cells,H_,av_,j_,I_]
  intro j hj
  obtain rfl:j=0:=by omega
  split<;>rfl
 refine⟨_,ak hw.1 hl,_,ak hw.2 hc,_,rfl,_,rfl,_,_,rfl,_,_,rfl,h5.1.1.1,h5.1.1.2,h5.1.2,h5.2,rfl,Nat.one_pos,nilP,rfl,rfl,hn,oP (o:=.tree tid k (.list u) (O_ l'.toNat []) none) ?_ ?_ h6⟩
 ·show AObj.tree tid 1 k _ none=_
  rw[an_]
  have:k.unnil nilP= .list 0 []:=by simp[Av.K.unnil,nilP,h1]
  rw[this];rfl
 ·rw[i7];rfl
theorem D8{k:Av.K}{t:Ty}{y:t.den}(h:KJ k (dv t y)=true):k.unnil (nP k t y)=ao t y:=by
 have key:∀(j:Nat) (p:PV),(ao t y).cells[j]? =some p->(k.at j).isSome=true->p= .list 0 []:=by
  intro j p hp hk
  obtain⟨h1,h2⟩:=bU t y
  have hj:j<(dv t y).length:=by rw[h2,<-ar t y];exact(i_.1 hp).1
  simp only[KJ,j_,I_]at h
  have h3:=h j hj
  obtain⟨q,hq⟩:=ao_.1 hk
  rw[hq]at h3
  simp only[ab_,d_ hj,aq_]at h3
  have h4:((dv t y).map aC)[j]? =some (.pv p):=by rw[h1,h_,hp];rfl
  rw[h_,d_ hj]at h4
  split at h3
  ·rename_i u l hv
   rw[hv]at h4
   have hl:l=[]:=by simpa using h3
   subst hl
   have h5:=w_ h4
   have h6:(BV.pv (ao (.list u) []))= .pv p:=h5
   cases h6;rfl
  ·cases h3
 unfold nP
 cases he:ao t y with
 |agg cs=>
  simp only[Av.K.unnil,PV.agg.injEq]
  apply aI_
  intro j
  simp only[az_]
  cases hc:cs[j]? with
  |none=>rfl
  |some p=>
   simp only[Y_]
   cases hk:(k.at j).isSome
   ·rfl
   ·rw[key j p (by rw[he];exact hc) hk];rfl
 |_=>
  have h0:=key 0 _ (by rw[he];rfl)
  simp only[]
  cases hk:(k.at 0).isSome
  ·simp[Av.K.unnil,hk]
  ·simp only[if_true,Av.K.unnil,nilP,hk]
   exact(h0 hk).symm
theorem F1(k:Av.K)(t:Ty)(y:t.den):k.nilsB (nP k t y).cells=true:=by
 simp only[Av.K.nilsB,j_,I_]
 intro j hj
 split
 ·rename_i q hq
  rw[uT]at hj⊢
  simp only[List.length_mapIdx]at hj
  simp only[ab_,az_,d_ hj,Y_,aq_,hq,Option.isSome_some,if_true,nilP]
 ·rfl
theorem Jr{tid:TypeId}{k:Av.K}{t:Ty}{bytes:Nat}{x y:X}(hw:x.wf=true/\y.wf=true)(h:evOp O d (.appT tid k t bytes x y) s κ kp=some r):Ox P s (.appT k tid t.sz bytes x.er y.er) d κ kp r:=by
 simp only[evOp]at h
 split at h
 ·rename_i k' u ys0 hy
  obtain⟨hk,hA⟩:=aB h
  clear h
  have hk':k=k':=by simpa using hk
  subst hk'
  split at hA
  ·rename_i ys hc
   obtain⟨c1,c2⟩:=aW hc
   have c3:=Ty.list.inj c1
   subst c3
   have c4:ys=ys0:=c2
   subst c4
   obtain⟨hown,h1⟩:=aB hA
   clear hA
   simp only[j_]at hown
   have hel:∀p∈ys.map (nP k u),p.ok=true/\k.nilsB p.cells=true:=λp hp=>⟨(xH ys p hp).2,by
    obtain⟨z,_,rfl⟩:=Q_.1 hp;exact F1 k u z⟩
   have hun:(ys.map (nP k u)).map k.unnil=ys.map (ao u):=by
    rw[L_]
    exact V_ λz hz=>D8 (hown z hz)
   split at h1
   ·rename_i id hx
    split at h1
    ·rename_i e k2 u2 xs0 ho
     split at h1
     ·rename_i xs hz
      obtain⟨e2,e3⟩:=aW hz
      have e4:=Ty.list.inj e2
      subst e4
      have e5:xs=xs0:=e3
      subst e5
      obtain⟨g1,g2⟩:=aB h1
      simp only[a_,decide_eq_true_eq]at g1
      obtain⟨g1,rfl⟩:=g1
      obtain⟨g3,g4⟩:=aT g2
      have g5:=b_ g1
      subst g5
      refine⟨_,ak hw.1 hx,_,ak hw.2 hy,.inr (.inl ⟨ys.map (nP k u2),rfl,hel,.inl ⟨id,rfl,_,by rw[aY,ho];rfl,_,rfl,by rw[e_,e_];simpa using g3,_,?_,(Keeps.map (dc d) s (s.moved id (.tree e k u2 (xs++ys) none)) (V.kill1 id) (λv hv=>by cases v<;>first|rfl|cases hv) rfl).trans (Keeps.put _ d _),g4⟩⟩)⟩
      rw[dA,sd,hun]
      have:aV (.tree e k u2 (xs++ys) none)= .tree e u2.sz k (xs.map (ao u2)++ys.map (ao u2)) none:=by
       show AObj.tree e u2.sz k ((xs++ys).map (ao u2)) none=_
       rw[q_]
      rw[this]
      rfl
     ·cases h1
    ·cases h1
   ·rename_i v hx
    obtain⟨h3,h4⟩:=aT h1
    refine⟨_,ak hw.1 hx,_,ak hw.2 hy,.inr (.inl ⟨ys.map (nP k u),rfl,hel,.inr ⟨rfl,by rw[e_];simpa using h3,EQ (o:=.tree tid k u ys none) ?_ ?_ h4⟩⟩)⟩
    ·rw[hun];rfl
    ·rw[i7];rfl
   ·cases h1
  ·cases hA
 ·cases h
theorem HO{k e:TypeId}{a b:Ty}(h:evOp O d (.mkmap k e a b) s κ kp=some r):Cu P s (.mkmap k e) d κ kp r:=by
 simp only[evOp]at h
 refine oP (o:=.map k e a b []) rfl ?_ h
 rw[i7];rfl
theorem yc{tid:TypeId}{t:Ty}{bytes:Nat}{x y:X}(hw:x.wf=true/\y.wf=true)(h:evOp O d (.append tid t bytes x y) s κ kp=some r):Ox P s (.append tid t.sz bytes x.er y.er) d κ kp r:=by
 simp only[evOp]at h
 obtain⟨vy,ys,hy,h1,h2⟩:=fY h
 have hnew:∀v:V,s.get x=some v->aE v= .b .nils\/aE v= .b (.full (.list 0 []))->aR (decide (ys.length*bytes<=140737488355328)) (κ (S.putO ⟨s.fr,s.hp++[.vec tid t ys]⟩ d (.sl s.hp.length)))=some r->Ox P s (.append tid t.sz bytes x.er y.er) d κ kp r:=by
  intro v hx hv hh
  obtain⟨h3,h4⟩:=aT hh
  refine⟨_,ak hw.1 hx,_,ak hw.2 hy,h2 _ ⟨λp hp=>(eS ys p hp).2,.inr ⟨hv,by rw[e_];simpa using h3,EQ (o:=.vec tid t ys) rfl ?_ h4⟩⟩⟩
  rw[i7];rfl
 split at h1
 ·rename_i id hx
  split at h1
  ·rename_i e u xs ho
   split at h1
   ·rename_i zs hz
    obtain⟨e2,e3⟩:=aW hz
    have e4:=Ty.list.inj e2
    subst e4
    have e5:zs=xs:=e3
    subst e5
    obtain⟨g1,g2⟩:=aB h1
    obtain⟨g3,g4⟩:=aT g2
    have g5:=b_ g1
    subst g5
    refine⟨_,ak hw.1 hx,_,ak hw.2 hy,h2 _ ⟨λp hp=>(eS ys p hp).2,.inl ⟨id,rfl,_,by rw[aY,ho];rfl,_,rfl,by rw[e_,e_];simpa using g3,_,?_,(Keeps.map (dc d) s (s.moved id (.vec e u (zs++ys))) (V.kill1 id) (λv hv=>by cases v<;>first|rfl|cases hv) rfl).trans (Keeps.put _ d _),g4⟩⟩⟩
    rw[dA,sd]
    have:aV (.vec e u (zs++ys))= .vec e u.sz (zs.map (ao u)++ys.map (ao u)):=by
     show AObj.vec e u.sz ((zs++ys).map (ao u))=_
     rw[q_]
    rw[this]
    rfl
   ·cases h1
  ·cases h1
 ·rename_i u hx
  exact hnew _ hx (.inl rfl) h1
 ·rename_i u hx
  exact hnew _ hx (.inr rfl) h1
 ·cases h1
theorem F2{tid:TypeId}{t:Ty}{bytes:Nat}{x y:X}(hw:x.wf=true/\y.wf=true)(h:evOp O d (.append tid t bytes x y) s κ kp=some r):Cu P s (.append tid t.sz bytes x.er y.er) d κ kp r:=
 (yc hw h).ob
theorem Jp{tid:TypeId}{t:Ty}{x y:X}(hw:x.wf=true/\y.wf=true)(h:evOp O d (.copy tid t x y) s κ kp=some r):Cu P s (.copy tid t.sz x.er y.er) d κ kp r:=by
 simp only[evOp]at h
 split at h
 ·rename_i id v hx hy
  obtain⟨h0,h1⟩:=aB h
  obtain⟨vy,ys,hvy,h3,h2⟩:=fY h1
  cases hvy
  split at h3
  ·rename_i e u xs ho
   split at h3
   ·rename_i zs hz
    obtain⟨e2,e3⟩:=aW hz
    have e4:=Ty.list.inj e2
    subst e4
    have e5:zs=xs:=e3
    subst e5
    obtain⟨g1,g2⟩:=aB h3
    have g5:=b_ g1
    subst g5
    refine⟨_,ak hw.1 hx,_,ak hw.2 hy,h2 _ ⟨λp hp=>(eS ys p hp).2,id,rfl,λhe=>?_,_,by rw[aY,ho];rfl,_,rfl,_,?_,(Keeps.fr (s':=⟨s.fr,setAt s.hp id (.vec e u (ys.take zs.length++zs.drop ys.length))⟩) rfl).trans (Keeps.put _ d _),g2⟩⟩
    ·cases hv:v.isA
     ·rw[gH hv]at he
      cases v<;>simp only[aE,aC]at he<;>first|(cases he;done)|skip
      ·rename_i j
       cases he
       simp[R_]at h0
      ·rename_i vv
       unfold aQ at he
       split at he<;>cases he
     ·cases v<;>first|(cases hv;done)|cases he
    ·rw[dA,dL]
     have:aV (.vec e u (ys.take zs.length++zs.drop ys.length))= .vec e u.sz ((ys.map (ao u)).take (zs.map (ao u)).length++(zs.map (ao u)).drop (ys.map (ao u)).length):=by
      show AObj.vec e u.sz _=_
      rw[q_,ah_,aF_,e_,e_]
     rw[this,e_,e_]
     exact .refl _
   ·cases h3
  ·cases h3
 ·cases h
theorem HP{x:X}(hw:x.wf=true)(h:evOp O d (.panic x) s κ kp=some r):Cu P s (.panic x.er) d κ kp r:=by
 simp only[evOp]at h
 split at h
 ·rename_i hx
  exact⟨_,ak hw hx,rfl,s,rfl,Keeps.refl _ _,h⟩
 ·cases h
theorem BJ(hO:OracleOk P O){pan bor:Bool}{B:List Nat}{f:FuncId}{args:List (Arg×X)}{sh:Sh}(hw:fL args=true/\sh.wfB=true)(h:evOp O d (.callA pan bor B f args sh) s κ kp=some r):
 Ox P s (.callA bor B (f%10000) (args.map λa=>a.2.er)) d κ kp r:=by
 simp only[evOp]at h
 split at h
 ·rename_i ars ha
  obtain⟨os,_,h1,h2,h3⟩:=qM hO hw.2 h
  refine⟨_,mi args ars hw.1 ha h2,_,h1,?_⟩
  obtain⟨g1,g2,g3,g4⟩:=h3
  refine⟨g1,g2,g3,g4.mono λo ho=>?_⟩
  match o,ho with
  |some (_,_),ho=>exact⟨ho.1,let⟨s',e1,e2,e3⟩:=ho.2;⟨s',by rw[e1],e2,e3⟩⟩
  |none,ho=>exact ho
 ·cases h
theorem HM(hO:OracleOk P O){pan bor:Bool}{B:List Nat}{f:FuncId}{args:List (Arg×X)}{sh:Sh}(hw:fL args=true/\sh.wfB=true)(h:evOp O d (.callA pan bor B f args sh) s κ kp=some r):
 Cu P s (.callA bor B (f%10000) (args.map λa=>a.2.er)) d κ kp r:=
 (BJ hO hw h).ob
theorem BK(hO:OracleOk P O){pan bor:Bool}{B:List Nat}{num:Nat}{x:X}{args:List (Arg×X)}{sh:Sh}(hw:x.wf=true/\fL args=true/\cd P (num%10000)=true/\sh.wfB=true)(h:evOp O d (.callv pan bor B num x args sh) s κ kp=some r):
 Ox P s (.callv bor B x.er (args.map λa=>a.2.er)) d κ kp r:=by
 have fin:∀(f:FuncId) (ars caps:List V),o_ (num%10000) f=true->iY s bor B args=some ars->pY pan O s d bor B num (ars++caps) sh κ kp=some r->
  cd P f=true/\aw ((args.map λa=>a.2.er).mapM λx=>((enc s).get x).bind (mV (enc s).hp bor B)) λav=>aw (B.mapM ((enc s).hp[·]?)) λos=>sexec.callK P (enc s) d bor B f (av++caps.map aE) os (λst'=>∃s',st'=enc s'/\Keeps (dc d) s s'/\κ s'=some r) (λst'=>∃s',st'=enc s'/\Keeps (dc d) s s'/\kp s'=some r):=by
  intro f ars caps hf ha hc
  have hf':=b_ hf
  subst hf'
  obtain⟨os,_,h1,h2,h3⟩:=qM hO hw.2.2.2 hc
  refine⟨hw.2.2.1,_,mi args ars hw.2.1 ha λv hv=>h2 v (by simp[hv]),_,h1,?_⟩
  obtain⟨g1,g2,g3,g4⟩:=h3
  rw[q_]at g2 g4
  refine⟨g1,g2,g3,g4.mono λo ho=>?_⟩
  match o,ho with
  |some (_,_),ho=>exact⟨ho.1,let⟨s',e1,e2,e3⟩:=ho.2;⟨s',by rw[e1],e2,e3⟩⟩
  |none,ho=>exact ho
 simp only[evOp]at h
 split at h
 ·rename_i f ids ars hx ha
  obtain⟨h1,h2⟩:=aB h
  obtain⟨g1,g2⟩:=fin f ars _ h1 ha h2
  refine⟨_,ak hw.1 hx,f,_,.inl ⟨ids,rfl,rfl⟩,g1,?_⟩
  rw[L_]at g2
  exact g2
 ·rename_i f cs ars hx ha
  obtain⟨h1,h2⟩:=aB h
  obtain⟨g1,g2⟩:=fin f ars _ h1 ha h2
  refine⟨_,ak hw.1 hx,f,_,.inr ⟨cs.map λc=>PV.pto (ao c.1 c.2),rfl,rfl⟩,g1,?_⟩
  rw[L_]at g2⊢
  exact g2
 ·cases h
theorem HN(hO:OracleOk P O){pan bor:Bool}{B:List Nat}{num:Nat}{x:X}{args:List (Arg×X)}{sh:Sh}(hw:x.wf=true/\fL args=true/\cd P (num%10000)=true/\sh.wfB=true)(h:evOp O d (.callv pan bor B num x args sh) s κ kp=some r):
 Cu P s (.callv bor B x.er (args.map λa=>a.2.er)) d κ kp r:=
 (BK hO hw h).ob
theorem F9:∀(t:Ty) (x:t.den),t.eqOk=true->(ao t x).plain=true:=by
 have hc:∀(t:Ty) (x:t.den),t.eqOk=true->(ap t x).all (λx=>match x with
  | .sc (.int _ _)=>true
  | .sc (.bool _)=>true
  | .sc (.string _)=>true
  |_=>false)=true:=by
  intro t
  induction t with
  |pair a b iha ihb=>
   intro x h
   simp only[Ty.eqOk,a_]at h
   have e:ap (.pair a b) x=ap a x.1++ap b x.2:=rfl
   rw[e,List.all_append,iha x.1 h.1,ihb x.2 h.2];rfl
  |int k=>intro x _;rfl
  |bool=>intro x _;rfl
  |str=>intro x _;rfl
  |unit=>intro x _;rfl
  |list t _=>intro x h;cases h
  |rx=>intro x h;cases h
 intro t x h
 cases t with
 |pair a b=>exact hc (.pair a b) x h
 |int k=>rfl
 |bool=>rfl
 |str=>rfl
 |unit=>rfl
 |list t=>cases h
 |rx=>cases h
theorem xU{a b:Ty}(y:a.den)(z:b.den):∀(kvs:List (a.den×b.den)),(du a b kvs y=none->eT a b kvs y z=kvs++[(y,z)])/\
 (∀j k' v,kvs[j]? =some (k',v)->j3 a y k'=true->(∀i' kv,i'<j->kvs[i']? =some kv->j3 a y kv.1=false)->eT a b kvs y z=kvs.set j (y,z))
 |[]=>⟨λ_=>rfl,λj k' v h=>by simp at h⟩
 |(k,v)::l=>by
  obtain⟨h1,h2⟩:=xU y z l
  refine⟨λh=>?_,λj k' v' hj he hlt=>?_⟩
  ·simp only[du]at h
   cases hb:j3 a y k
   ·rw[hb]at h
    simp only[eT,hb,cond_false,h1 h,List.cons_append]
   ·rw[hb]at h;cases h
  ·cases j with
   |zero=>
    simp at hj
    obtain⟨rfl,rfl⟩:=hj
    simp[eT,he]
   |succ j=>
    have hb:=hlt 0 (k,v) (by omega) rfl
    simp only[eT,hb,cond_false,List.set_cons_succ]
    rw[h2 j k' v' (by simpa using hj) he λi' kv hi' hkv=>hlt (i'+1) kv (by omega) (by simpa using hkv)]
theorem F4{k e:TypeId}{a b:Ty}{m x v:X}(hw:m.wf=true/\x.wf=true/\v.wf=true/\p9 P 64 k a=true)(h:evOp O d (.mapset k e a b m x v) s κ kp=some r):Cu P s (.mapset k e m.er x.er v.er) d κ kp r:=by
 simp only[evOp]at h
 split at h
 ·rename_i id u w hm hx hv
  split at h
  ·rename_i k' e' a' b' kvs y z ho hy hz
   split at h
   ·rename_i kvs2 hkv
    obtain⟨h1,h2⟩:=aB h
    simp only[a_]at h1
    have e1:=b_ h1.1.1.1
    have e2:=b_ h1.1.1.2
    have heq:=h1.1.2
    obtain⟨e3,e4⟩:=aW hkv
    have e5:=Ty.list.inj e3
    injection e5 with e6 e7
    clear h h1
    subst e1;subst e2;subst e6;subst e7
    have e8:kvs2=kvs:=e4
    subst e8
    obtain⟨_,h3⟩:=aT h2
    obtain⟨g1,g2⟩:=u4 (P:=P) (b:=b') hw.2.2.2 y kvs2 0
    obtain⟨q1,q2⟩:=xU y z kvs2
    have fin:∀l:List (PV×PV),(eT a' b' kvs2 y z).map (λp=>(ao a' p.1,ao b' p.2))=l->∃s',LeS {enc s with hp:=(enc s).hp.set id (.map k e l)} (enc s')/\Keeps (dc none) s s'/\κ s'=some r:=by
     rintro l rfl
     refine⟨⟨s.fr,setAt s.hp id (.map k e a' b' (eT a' b' kvs2 y z))⟩,?_,Keeps.fr rfl,h3⟩
     rw[dL]
     exact .refl _
    refine⟨_,ak hw.1 hm,_,ak hw.2.1 hx,_,ak hw.2.2.1 hv,id,_,rfl,by rw[aY,ho];rfl,_,cw hy,_,cw hz,rfl,F9 a' y heq,(zr P 64 k a' hw.2.2.2 y y).2,Br hw.2.2.2,g1,?_⟩
    rcases g2 with⟨g3,g4⟩|⟨j,u',k'',g3,g4,g5,g7,g6⟩
    ·refine⟨_,g4,λi u hh=>(by cases hh),fin _ ?_⟩
     rw[q1 g3,q_];rfl
    ·have hk:=zh a' y k'' heq g5
     subst hk
     rw[S_]at g6
     refine⟨_,g6,λi u hh=>?_,fin _ ?_⟩
     ·cases hh
      exact⟨ao b' u',by rw[h_,g4];rfl⟩
     ·rw[q2 j _ _ g4 g5 g7,M_]
   ·cases h
  ·cases h
 ·cases h
end
theorem iS{α:Type}(xs ys:List α)(h:xs.length=ys.length):splice xs 0 ys=ys:=by
 simp[splice,<-h]
theorem dQ:∀(u:Ty) (off:Nat) (t:Ty) (x:u.den) (y:t.den) (z:u.den),gh u off t x y=some z->off+t.sz<=u.sz/\ap u z=splice (ap u x) off (ap t y)/\(u.ag=false->t=u)
 | .pair a b,off,t,x,y,z,h=>by
  have hl1:=ar a x.1
  have hl2:=ar b x.2
  have hly:=ar t y
  have hc:∀x:(Ty.pair a b).den,ap (.pair a b) x=ap a x.1++ap b x.2:=λ_=>rfl
  unfold gh at h
  cases hcond:(decide (Ty.pair a b=t)&&o_ off 0)
  ·rw[hcond]at h
   simp only[cond_false]at h
   cases hle:aC_ (off+1) a.sz
   ·rw[hle]at h
    simp only[cond_false]at h
    have hge:a.sz<=off:=by
     have:=Nat.not_le_of_not_ble_eq_true (by rw[hle];simp)
     omega
    split at h
    ·rename_i z2 h2
     cases h
     obtain⟨g1,g2,_⟩:=dQ b (off - a.sz) t x.2 y z2 h2
     refine⟨by simp only[Ty.sz];omega,?_,λh=>by cases h⟩
     rw[hc,hc,g2]
     simp only[splice]
     rw[aN_,as_ (l:=ap a x.1) (by omega),hl1,aK_,ar_ (show(ap a x.1).length<=off+(ap t y).length by omega),hl1]
     simp only[aw_,D_]
     rw[show off+(ap t y).length - a.sz=off - a.sz+(ap t y).length by omega]
    ·cases h
   ·rw[hle]at h
    simp only[cond_true]at h
    have hlt:=g_ hle
    split at h
    ·rename_i z1 h1
     cases h
     obtain⟨g1,g2,_⟩:=dQ a off t x.1 y z1 h1
     refine⟨by simp only[Ty.sz];omega,?_,λh=>by cases h⟩
     rw[hc,hc,g2]
     simp only[splice]
     rw[List.take_append_of_le_length (by omega),List.drop_append_of_le_length (by omega)]
     simp only[D_]
    ·cases h
  ·rw[hcond]at h
   simp only[cond_true]at h
   simp only[a_,decide_eq_true_eq]at hcond
   have h0:off=0:=b_ hcond.2
   subst h0
   obtain⟨e1,rfl⟩:=aU h
   refine⟨by omega,?_,λh=>by cases h⟩
   rw[iS _ _ (by rw[ar,ar])]
   simp only[ap,e1]
 | .rx,off,t,x,y,z,h=>by
  unfold gh at h
  obtain⟨h1,h2⟩:=aB h
  simp only[a_,decide_eq_true_eq]at h1
  have h0:off=0:=b_ h1.1
  subst h0
  obtain⟨e1,rfl⟩:=aU h2
  refine⟨by omega,?_,λ_=>rfl⟩
  rw[iS _ _ (by rw[ar,ar])]
  simp only[ap,e1]
 | .int k,off,t,x,y,z,h=>leafC (.int k) off t x y z h
 | .bool,off,t,x,y,z,h=>leafC .bool off t x y z h
 | .str,off,t,x,y,z,h=>leafC .str off t x y z h
 | .list a,off,t,x,y,z,h=>leafC (.list a) off t x y z h
 | .unit,off,t,x,y,z,h=>leafC .unit off t x y z h
where
 leafC (u:Ty) (off:Nat) (t:Ty) (x:u.den) (y:t.den) (z:u.den) (h:(bif o_ off 0 then bc t u y else none)=some z):off+t.sz<=u.sz/\ap u z=splice (ap u x) off (ap t y)/\(u.ag=false->t=u):=by
  obtain⟨h1,h2⟩:=aB h
  have h0:off=0:=b_ h1
  subst h0
  obtain⟨e1,rfl⟩:=aU h2
  refine⟨by omega,?_,λ_=>rfl⟩
  rw[iS _ _ (by rw[ar,ar])]
  simp only[ap,e1]
theorem qX{t:Ty}{x y:t.den}(h:ap t x=ap t y):ao t x=ao t y:=by
 cases ht:t.ag
 ·rw[bZ x ht,bZ y ht]at h
  exact List.cons.inj h |>.1
 ·rw[ce x ht,ce y ht,h]
theorem CY{t:Ty}{v:V}{x:t.den}(h:bQ t v=some x):(aE v).cells.length=t.sz/\∀(i:Nat) (a b:BV),(aE v).cells[i]? =some a->((ap t x).map BV.pv)[i]? =some b->LeB a b:=by
 have hd:=cw h
 have one:∀(z:BV),(∀p,z≠.pv p)->z.toPV=some (ao t x)->t.ag=false->([z]:List BV).length=t.sz/\∀(i:Nat) (a b:BV),([z]:List BV)[i]? =some a->((ap t x).map BV.pv)[i]? =some b->LeB a b:=by
  intro z _ hz ht
  refine⟨by rw[cE ht];rfl,λi a b ha hb=>?_⟩
  rw[bZ x ht]at hb
  cases i with
  |zero=>simp at ha hb;subst ha;subst hb;exact .data _ _ hz
  |succ i=>simp at ha
 cases v with
 |d u y=>
  obtain⟨e1,rfl⟩:=aU (show bc u t y=some x from h)
  refine⟨?_,λi a b ha hb=>?_⟩
  ·show((ap u y).map BV.pv).length=_
   rw[e_,ar]
  ·have ha':((ap u y).map BV.pv)[i]? =some a:=ha
   have:ap u y=ap u x:=by simp only[ap,e1]
   rw[this,hb]at ha'
   cases ha'
   exact .refl _
 |agg vs=>
  have hd':((vs.map aC).mapM BV.toPV).map PV.agg=some (ao t x):=hd
  obtain⟨cs,h1,h2⟩:=f_.1 hd'
  have hag:t.ag=true:=by rw[<-gZ t x,<-h2];rfl
  have hcs:cs=ap t x:=by rw[ce x hag]at h2;exact PV.agg.inj h2
  subst hcs
  have hl:=mapM_len h1
  refine⟨by show(vs.map aC).length=_;rw[<-hl,ar],λi a b ha hb=>?_⟩
  have ha':(vs.map aC)[i]? =some a:=ha
  rw[h_]at hb
  obtain⟨p,hp,rfl⟩:=f_.1 hb
  exact .data _ _ (rf h1 ha' hp)
 |nil u=>
  obtain⟨e1,rfl⟩:=aU (show bc (.list u) t []=some x from h)
  exact one .nils (λp e=>by cases e) hd rfl
 |full u y=>
  obtain⟨e1,rfl⟩:=aU (show bc (.list u) t y=some x from h)
  exact one (.full _) (λp e=>by cases e) hd rfl
 |_=>simp[bQ,ec]at h
where
 rf {l:List BV} {m:List PV} (h:l.mapM BV.toPV=some m) {i:Nat} {a:BV} {p:PV} (ha:l[i]? =some a) (hp:m[i]? =some p):a.toPV=some p:=by
  induction l generalizing m i with
  |nil=>simp at ha
  |cons x l ih=>
   simp only[E_,G_,Z_,t_,k_]at h
   obtain⟨q,h1,ms,h2,rfl⟩:=h
   cases i with
   |zero=>simp at ha hp;subst ha;subst hp;exact h1
   |succ i=>exact ih h2 (by simpa using ha) (by simpa using hp)
theorem FW{l:List BV}{m:List PV}(h:l.mapM BV.toPV=some m){i:Nat}{a:BV}{p:PV}(ha:l[i]? =some a)(hp:m[i]? =some p):a.toPV=some p:=by
 induction l generalizing m i with
 |nil=>simp at ha
 |cons x l ih=>
  simp only[E_,G_,Z_,t_,k_]at h
  obtain⟨q,h1,ms,h2,rfl⟩:=h
  cases i with
  |zero=>simp at ha hp;subst ha;subst hp;exact h1
  |succ i=>exact ih h2 (by simpa using ha) (by simpa using hp)
def LeL(xs ys:List BV):Prop:=xs.length=ys.length/\∀(i:Nat) (a b:BV),xs[i]? =some a->ys[i]? =some b->LeB a b
theorem LeL.refl(xs:List BV):LeL xs xs:=⟨rfl,λi a b ha hb=>by rw[ha]at hb;cases hb;exact .refl _⟩
theorem LeL.append{a b c e:List BV}(h:LeL a b)(k:LeL c e):LeL (a++c) (b++e):=by
 refine⟨by simp[h.1,k.1],λi x y hx hy=>?_⟩
 rcases aj_ i a.length with h1|h1
 ·rw[l_ h1]at hx
  rw[l_ (by rw[<-h.1];exact h1)]at hy
  exact h.2 i x y hx hy
 ·rw[r_ h1]at hx
  rw[r_ (by rw[<-h.1];exact h1),<-h.1]at hy
  exact k.2 _ x y hx hy
theorem GU{t:Ty}{l:List V}{x:t.den}{m:List V}(h:Ei t l=some (x,m)):∃l0,l=l0++m/\l0.length=t.sz/\LeL (l0.map aC) ((dv t x).map aC):=by
 obtain⟨l0,h1,h2⟩:=oz t l x m h
 have hl:=mapM_len h2
 rw[e_,ar]at hl
 refine⟨l0,h1,hl.symm,by rw[(bU t x).1,e_,e_,ar,<-hl],λi a b ha hb=>?_⟩
 rw[(bU t x).1,h_]at hb
 obtain⟨p,hp,rfl⟩:=f_.1 hb
 exact .data _ _ (FW h2 ha hp)
theorem vJ{t:Ty}{y:t.den}:∀(n:Nat) (vs:List V) (m:Int) (r:List V),(m<0\/(n:Int)<=m)->qj t y n vs m=some r->LeL (vs.map aC) (r.map aC)
 |0,vs,m,r,_,h=>by
  simp only[qj,k_]at h
  subst h;exact .refl _
 |n+1,vs,m,r,hm,h=>by
  simp only[qj]at h
  split at h
  ·rename_i x l hx
   split at h
   ·rename_i r' hr
    cases h
    obtain⟨l0,rfl,h1,h2⟩:=GU hx
    rw[decide_eq_false (by omega:¬m=0)]
    simp only[cond_false,q_]
    exact h2.append (vJ n l (m - 1) r' (by omega) hr)
   ·cases h
  ·cases h
theorem yl{t:Ty}{y:t.den}{cs:List BV}(hcs:LeL cs ((dv t y).map aC)):∀(n:Nat) (vs:List V) (j:Nat) (r:List V),j<n->qj t y n vs (j:Int)=some r->
 j*t.sz+t.sz<=vs.length/\LeL (splice (vs.map aC) (j*t.sz) cs) (r.map aC)
 |0,_,_,_,hj,_=>absurd hj (by omega)
 |n+1,vs,j,r,hj,h=>by
  have hcl:cs.length=t.sz:=by rw[hcs.1,e_,(bU t y).2]
  simp only[qj]at h
  split at h
  ·rename_i x l hx
   split at h
   ·rename_i r' hr
    cases h
    obtain⟨l0,rfl,h1,h2⟩:=GU hx
    cases j with
    |zero=>
     refine⟨by simp[h1],?_⟩
     have e:(decide (((0:Nat):Int)=0))=true:=rfl
     rw[e]
     simp only[cond_true,q_]
     have:=vJ n l _ r' (.inl (by simp)) hr
     have e2:splice (l0.map aC++l.map aC) (0*t.sz) cs=cs++l.map aC:=by
      simp only[splice,aX_,aU_,aw_,S_]
      rw[hcl,List.drop_left' (by simpa using h1)]
     rw[e2]
     exact hcs.append this
    |succ j=>
     have e:(decide (((j+1:Nat):Int)=0))=false:=decide_eq_false (by omega)
     rw[e]
     rw[show(((j+1:Nat):Int) - 1)=(j:Int) by omega]at hr
     obtain⟨h3,h4⟩:=yl hcs n l j r' (by omega) hr
     refine⟨by rw[aa_,h1,au_];omega,?_⟩
     simp only[cond_false,q_]
     have hl0:(l0.map aC).length=t.sz:=by simpa using h1
     have e2:splice (l0.map aC++l.map aC) ((j+1)*t.sz) cs=l0.map aC++splice (l.map aC) (j*t.sz) cs:=by
      simp only[splice,au_]
      rw[aN_,as_ (l:=l0.map aC) (by omega),hl0,aK_,ar_ (show(l0.map aC).length<=j*t.sz+t.sz+cs.length by omega),hl0]
      simp only[aw_,D_]
      rw[show j*t.sz+t.sz - t.sz=j*t.sz by omega,show j*t.sz+t.sz+cs.length - t.sz=j*t.sz+cs.length by omega]
     rw[e2]
     exact h2.append h4
   ·cases h
  ·cases h
theorem Gq{α:Type}(cs:List α)(off n k:Nat)(ys:List α)(h:off+n<=cs.length)(hk:k+ys.length<=n):splice cs (off+k) ys=splice cs off (splice ((cs.drop off).take n) k ys):=by
 have hl:(((cs.drop off).take n).take k++ys++((cs.drop off).take n).drop (k+ys.length)).length=n:=by
  simp only[aa_,af_,List.length_drop]
  omega
 simp only[splice]
 rw[hl,List.take_take,Nat.min_eq_left (show k<=n by omega),List.drop_take,aT_,List.take_add]
 simp only[D_]
 congr 3
 rw[show off+k+ys.length=off+(k+ys.length) by omega]
 conv=>lhs;rw[<-List.take_append_drop (n - (k+ys.length)) (cs.drop (off+(k+ys.length)))]
 rw[aT_,show off+(k+ys.length)+(n - (k+ys.length))=off+n by omega]
section
variable {R:Type} {P:Program} {O:aj} {d:Option Nat} {s:S} {κ kp:S->Option R} {r:R}
theorem Jl{a:St}{id:Nat}{o o':AObj}(h:LeO o o'):LeS {a with hp:=a.hp.set id o} {a with hp:=a.hp.set id o'}:=by
 refine⟨λ_ y hk=>⟨y,hk,.refl y⟩,by simp,λi x y hx hy=>?_⟩
 simp only[aJ_]at hx hy
 split at hx
 ·rename_i hi
  rw[if_pos hi]at hy
  split at hx
  ·rename_i hl
   rw[if_pos hl]at hy
   cases hx;cases hy;exact h
  ·cases hx
 ·rename_i hi
  rw[if_neg hi,hx]at hy
  cases hy;exact .refl _
theorem HQ{t:Ty}{x v:X}(hw:x.wf=true/\v.wf=true)(h:evOp O d (.store t x v) s κ kp=some r):Cu P s (.store t.sz x.er v.er) d κ kp r:=by
 simp only[evOp]at h
 cases d with
 |some _=>cases h
 |none=>
  simp only at h
  unfold storeT at h
  split at h
  ·rename_i id off v' hx hv
   split at h
   ·rename_i tid cs ho
    obtain⟨h1,h2⟩:=aB h
    simp only[a_]at h1
    obtain⟨h3,h4⟩:=mG h1.2
    have h5:=b_ h1.1.1
    have h6:=g_ h1.1.2
    refine⟨_,ak hw.1 hx,_,ak hw.2 hv,rfl,_,by rw[aY,ho];rfl,tid,_,rfl,by rw[<-h4,e_,h5],by simpa using h6,h3,⟨s.fr,setAt s.hp id (.box tid (eK cs off (bA v')))⟩,?_,Keeps.fr rfl,h2⟩
    rw[dL]
    have:aV (.box tid (eK cs off (bA v')))= .box tid (splice (cs.map aC) off (aE v').cells):=by
     show AObj.box tid _=_
     rw[ly,h4]
    rw[this]
    exact .refl _
   ·cases h
  ·rename_i id off n u m v' hx hv
   split at h
   ·rename_i tid cs y ho hy
    obtain⟨h1,h2⟩:=aB h
    simp only[a_,decide_eq_true_eq]at h1
    obtain⟨⟨h1,rfl⟩,hsz⟩:=h1
    have h6:=g_ h1
    split at h2
    ·rename_i vs hvs
     obtain⟨h3,h4⟩:=aT h2
     simp only[a_,decide_eq_true_eq]at h3
     obtain⟨j,rfl⟩:=Int.eq_ofNat_of_zero_le h3.1
     have hj:j<n:=by omega
     obtain⟨d1,d2⟩:=CY hy
     have hok:=M3 hy
     have hoe:=mG hok
     have hcs:LeL (aE v').cells ((dv u y).map aC):=⟨by rw[d1,e_,(bU u y).2],λi a b ha hb=>d2 i a b ha (by rw[<-(bU u y).1];exact hb)⟩
     obtain⟨r1,r2⟩:=yl hcs n _ j vs hj hvs
     have hjn:j*u.sz+u.sz<=n*u.sz:=by
      have:=Nat.mul_le_mul_right u.sz (show j+1<=n from hj)
      rw[au_]at this;exact this
     refine⟨_,ak hw.1 hx,_,ak hw.2 hv,rfl,_,by rw[aY,ho];rfl,tid,_,rfl,d1,?_,hoe.1,⟨s.fr,setAt s.hp id (.box tid (eK cs off vs))⟩,?_,Keeps.fr rfl,h4⟩
     ·simp only[e_]
      show off+(j:Int).toNat*u.sz+u.sz<=cs.length
      rw[aG_];omega
     ·rw[dL]
      refine Jl ?_
      have e1:splice (cs.map aC) (off+(j:Int).toNat*u.sz) (aE v').cells=splice (cs.map aC) off (splice (((cs.drop off).take (n*u.sz)).map aC) (j*u.sz) (aE v').cells):=by
       rw[aG_,ah_,aF_]
       exact Gq _ off (n*u.sz) _ _ (by simpa using h6) (by rw[d1];exact hjn)
      show LeO (AObj.box tid (splice (cs.map aC) (off+(j:Int).toNat*u.sz) (aE v').cells)) (AObj.box tid ((eK cs off vs).map aC))
      rw[e1,ly]
      have key:LeL (splice (cs.map aC) off (splice (((cs.drop off).take (n*u.sz)).map aC) (j*u.sz) (aE v').cells)) (splice (cs.map aC) off (vs.map aC)):=by
       unfold splice at r2⊢
       rw[r2.1]
       exact((LeL.refl _).append r2).append (LeL.refl _)
      exact .box tid _ _ key.1 key.2
    ·cases h2
   ·cases h
  ·rename_i id i off v' hx hv
   split at h
   ·rename_i e u xs y ho hy
    obtain⟨h1,h2⟩:=aB h
    obtain⟨x0,hx0,h3⟩:=bo h2
    split at h3
    ·rename_i z hz
     obtain⟨p1,p2,p3⟩:=dQ u off t x0 y z hz
     have hlt:=(i_.1 hx0).1
     have hget:(xs.map (ao u)).getD i .any=ao u x0:=by simp[ab_,hx0]
     have fin:∀p,p=ao u z->∃s',LeS {enc s with hp:=(enc s).hp.set id (.vec e u.sz ((xs.map (ao u)).set i p))} (enc s')/\Keeps (dc none) s s'/\κ s'=some r:=by
      rintro p rfl
      refine⟨⟨s.fr,setAt s.hp id (.vec e u (xs.set i z))⟩,?_,Keeps.fr rfl,h3⟩
      rw[dL]
      have:aV (.vec e u (xs.set i z))= .vec e u.sz ((xs.map (ao u)).set i (ao u z)):=by
       show AObj.vec e u.sz _=_
       rw[M_]
      rw[this]
      exact .refl _
     refine⟨_,ak hw.1 hx,_,ak hw.2 hv,rfl,_,by rw[aY,ho];rfl,.inl ⟨e,_,_,rfl,by simpa using hlt,_,cw hy,ar t y,p8 t y,?_⟩⟩
     by_cases hs:t.sz=u.sz
     ·have hut:u=t:=by
       simp only[z_,decide_eq_true_eq,y_]at h1
       rcases h1 with h1|h1
       ·exact h1
       ·rw[hs,R_]at h1;cases h1
      subst hut
      have h0:off=0:=by omega
      subst h0
      refine .inl ⟨rfl,rfl,fin _ (qX ?_)⟩
      rw[p2,iS _ _ (by rw[ar,ar])]
     ·refine .inr ⟨hs,p1,fin _ ?_⟩
      have hag:u.ag=true:=by
       cases hu:u.ag
       ·exact absurd (by rw[p3 hu]) hs
       ·rfl
      rw[hget,ce z hag,p2]
    ·cases h3
   ·rename_i e k u xs hole y ho hy
    obtain⟨h1,h2⟩:=aB h
    simp only[a_]at h1
    obtain⟨x0,hx0,h3⟩:=bo h2
    split at h3
    ·rename_i z hz
     obtain⟨p1,p2,p3⟩:=dQ u off t x0 y z hz
     have hlt:=(i_.1 hx0).1
     have hget:(xs.map (ao u)).getD i .any=ao u x0:=by simp[ab_,hx0]
     refine⟨_,ak hw.1 hx,_,ak hw.2 hv,rfl,_,by rw[aY,ho];rfl,.inr ⟨e,_,k,_,_,rfl,by simpa using hlt,p1,.inl ⟨h1.1,by rw[hget,gZ];exact h1.2,_,cw hy,ar t y,p8 t y,⟨s.fr,setAt s.hp id (.tree e k u (xs.set i z) hole)⟩,?_,Keeps.fr rfl,h3⟩⟩⟩
     rw[dL,hget]
     have:aV (.tree e k u (xs.set i z) hole)= .tree e u.sz k ((xs.map (ao u)).set i (.agg (splice (ao u x0).cells off (ao t y).cells))) (Lr hole):=by
      show AObj.tree e u.sz k _ _=_
      rw[M_,ce z h1.2,p2]
     rw[this]
     exact .refl _
    ·cases h3
   ·rename_i e k u xs hi hj w ho hy
    split at h
    ·rename_i kid
     obtain⟨h1,h2⟩:=aB h
     simp only[a_]at h1
     obtain⟨x0,hx0,h3⟩:=bo h2
     obtain⟨h4,h5⟩:=aT h3
     have hlt:=(i_.1 hx0).1
     have e1:=b_ h1.1.1
     have e2:=b_ h1.1.2
     have e3:=g_ h1.2
     have e4:=b_ h4
     clear h h1 h2 h3 h4
     subst e1;subst e4
     refine⟨_,ak hw.1 hx,_,ak hw.2 hv,rfl,_,by rw[aY,ho];rfl,.inr ⟨e,_,k,_,_,rfl,by simpa using hlt,by rw[e2];exact e3,.inr ⟨_,_,rfl,e2,rfl,rfl,⟨s.fr,setAt s.hp id (.tree e k u xs (some (hi,hj,.sl kid)))⟩,?_,Keeps.fr rfl,h5⟩⟩⟩
     rw[dL]
     exact .refl _
    ·cases h
   ·cases h
  ·cases h
theorem HX{t:Ty}{x v:X}(hw:x.wf=true/\v.wf=true)(hp:Gr s (.store t x v)=true)(h:evOp O d (.store t x v) s κ kp=some r):Ox P s (.store t.sz x.er v.er) d κ kp r:=by
 simp only[evOp]at h
 cases d with
 |some _=>cases h
 |none=>
  simp only at h
  unfold storeT at h
  split at h
  ·rename_i id off v' hx hv
   split at h
   ·rename_i tid cs ho
    obtain⟨h1,h2⟩:=aB h
    simp only[a_]at h1
    obtain⟨h3,h4⟩:=mG h1.2
    have h5:=b_ h1.1.1
    have h6:=g_ h1.1.2
    refine⟨_,ak hw.1 hx,_,ak hw.2 hv,rfl,_,by rw[aY,ho];rfl,tid,_,rfl,by rw[<-h4,e_,h5],by simpa using h6,h3,⟨s.fr,setAt s.hp id (.box tid (eK cs off (bA v')))⟩,?_,Keeps.fr rfl,h2⟩
    rw[dL]
    have:aV (.box tid (eK cs off (bA v')))= .box tid (splice (cs.map aC) off (aE v').cells):=by
     show AObj.box tid _=_
     rw[ly,h4]
    rw[this]
   ·cases h
  ·rename_i id off n u m v' hx hv
   simp only[Gr,hx]at hp
   cases hp
  ·rename_i id i off v' hx hv
   split at h
   ·rename_i e u xs y ho hy
    obtain⟨h1,h2⟩:=aB h
    obtain⟨x0,hx0,h3⟩:=bo h2
    split at h3
    ·rename_i z hz
     obtain⟨p1,p2,p3⟩:=dQ u off t x0 y z hz
     have hlt:=(i_.1 hx0).1
     have hget:(xs.map (ao u)).getD i .any=ao u x0:=by simp[ab_,hx0]
     have fin:∀p,p=ao u z->∃s',{enc s with hp:=(enc s).hp.set id (.vec e u.sz ((xs.map (ao u)).set i p))}=enc s'/\Keeps (dc none) s s'/\κ s'=some r:=by
      rintro p rfl
      refine⟨⟨s.fr,setAt s.hp id (.vec e u (xs.set i z))⟩,?_,Keeps.fr rfl,h3⟩
      rw[dL]
      have:aV (.vec e u (xs.set i z))= .vec e u.sz ((xs.map (ao u)).set i (ao u z)):=by
       show AObj.vec e u.sz _=_
       rw[M_]
      rw[this]
     refine⟨_,ak hw.1 hx,_,ak hw.2 hv,rfl,_,by rw[aY,ho];rfl,.inl ⟨e,_,_,rfl,by simpa using hlt,_,cw hy,ar t y,p8 t y,?_⟩⟩
     by_cases hs:t.sz=u.sz
     ·have hut:u=t:=by
       simp only[z_,decide_eq_true_eq,y_]at h1
       rcases h1 with h1|h1
       ·exact h1
       ·rw[hs,R_]at h1;cases h1
      subst hut
      have h0:off=0:=by omega
      subst h0
      refine .inl ⟨rfl,rfl,fin _ (qX ?_)⟩
      rw[p2,iS _ _ (by rw[ar,ar])]
     ·refine .inr ⟨hs,p1,fin _ ?_⟩
      have hag:u.ag=true:=by
       cases hu:u.ag
       ·exact absurd (by rw[p3 hu]) hs
       ·rfl
      rw[hget,ce z hag,p2]
    ·cases h3
   ·rename_i e k u xs hole y ho hy
    simp only[Gr,hx,ho]at hp
    cases hp
   ·rename_i e k u xs hi hj w ho hy
    simp only[Gr,hx,ho]at hp
    cases hp
   ·cases h
  ·cases h
theorem FY{op:TOp}(hw:op.wf P=true){κ':Ob->(Nat->V)->Option R}(h:evOp.mkT s op κ'=some r):∃o v,κ' o v=some r/\wW (enc s) op.er λob mk=>ob=aV o/\∀n,aE (v n)= .b (mk n):=by
 unfold evOp.mkT at h
 split at h
 ·rename_i tid zero
  refine⟨_,_,h,?_,λn=>rfl⟩
  show AObj.box tid ((zero.map rp).map λv=>aQ v)=AObj.box tid (zero.map aC)
  rw[L_]
  congr 1
  exact V_ λv hv=>oO (j_.1 hw v hv)
 ·rename_i tid x
  split at h
  ·rename_i v hx
   obtain⟨h1,h2⟩:=aB h
   obtain⟨h3,h4⟩:=mG h1
   refine⟨_,_,h2,_,ak hw hx,h3,?_,λn=>rfl⟩
   show AObj.box tid _=AObj.box tid _
   rw[h4]
  ·cases h
 ·rename_i tid t len parts
  obtain⟨h1,h2⟩:=aB h
  simp only[a_]at h1
  obtain⟨xs,h3,h4,h5⟩:=iF parts _ hw h2
  refine⟨_,_,h5,_,h3,?_,g_ h1.1.2,g_ h1.2,eS xs,rfl,λn=>rfl⟩
  rw[e_,h4]
  exact b_ h1.1.1
 ·rename_i tid t bytes l c
  simp only[TOp.wf,a_,decide_eq_true_eq,ne_eq]at hw
  obtain⟨h1,h2⟩:=aB h
  obtain⟨k1,n1,hl,h3⟩:=cM h2
  obtain⟨k2,n2,hc,h4⟩:=cM h3
  obtain⟨h5,h6⟩:=aT h4
  simp only[a_,decide_eq_true_eq]at h5
  obtain⟨z1,z2⟩:=Ct t hw.2
  refine⟨_,_,h6,_,ak hw.1.1 hl,_,ak hw.1.2 hc,_,rfl,_,rfl,_,_,rfl,_,_,rfl,h5.1.1.1,h5.1.1.2,h5.1.2,h5.2,z2,g_ h1,_,z1,p8 t t.zero,?_,λn=>rfl⟩
  show AObj.vec tid t.sz _=AObj.vec tid t.sz _
  rw[an_]
 ·rename_i tid t bytes x y
  simp only[TOp.wf,a_]at hw
  obtain⟨vy,ys,hy,h1,h2⟩:=fY h
  have key:∀v:V,s.get x=some v->(aE v= .b .nils\/aE v= .b (.full (.list 0 [])))->aR (decide (ys.length*bytes<=140737488355328)) (κ' (.vec tid t ys) .sl)=some r->∃o v,κ' o v=some r/\wW (enc s) (TOp.append tid t bytes x y).er λob mk=>ob=aV o/\∀n,aE (v n)= .b (mk n):=by
   intro v hx hv hh
   obtain⟨h3,h4⟩:=aT hh
   exact⟨_,_,h4,_,ak hw.1 hx,_,ak hw.2 hy,h2 _ ⟨λp hp=>(eS ys p hp).2,hv,by rw[e_];simpa using h3,rfl,λn=>rfl⟩⟩
  split at h1
  ·rename_i u hx
   exact key _ hx (.inl rfl) h1
  ·rename_i u hx
   exact key _ hx (.inr rfl) h1
  ·cases h1
 ·rename_i k e a b
  exact⟨_,_,h,rfl,λn=>rfl⟩
 ·cases h
theorem Ej{k:Nat}{op:TOp}(hw:op.wf P=true)(h:evOp O d (.atq k op) s κ kp=some r):
 ∃o v,nb P ⟨d,.atq k op.er,none⟩ (enc s) ⟨aE v,some (k,aV o)⟩/\κ (S.putO ⟨s.fr,setAt s.hp k o⟩ d v)=some r:=by
 simp only[evOp]at h
 split at h
 ·rename_i hf
  obtain⟨o,v,h1,h2⟩:=FY hw h
  refine⟨o,v k,⟨rfl,op.er,rfl,l6 h2 λob mk ⟨e1,e2⟩=>⟨e1,e2 k,?_⟩⟩,h1⟩
  rw[aY,hf];rfl
 ·cases h
theorem LE{k:Nat}{op:TOp}(hw:op.wf P=true)(h:evOp O d (.atq k op) s κ kp=some r):Ox P s (.atq k op.er) d κ kp r:=by
 obtain⟨o,v,h1,h2⟩:=Ej hw h
 obtain⟨_,q,e,h3⟩:=h1
 cases e
 show wW (enc s) op.er λob mk=>rj (enc s) (some k)/\∃s',((enc s).new (some k) ob).putO d (.b (mk k))=enc s'/\Keeps (dc d) s s'/\κ s'=some r
 refine l6 h3 λob mk ⟨e1,e2,e3⟩=>⟨e3,_,?_,(Keeps.fr (s':=⟨s.fr,setAt s.hp k o⟩) rfl).trans (Keeps.put _ d v),h2⟩
 rw[dA,dL,e1,<-e2]
 rfl
theorem uX(hO:OracleOk P O){op:TOp}(hw:op.wf P=true)(h:evOp O d op s κ kp=some r):Cu P s op.er d κ kp r:=by
 cases op<;>simp only[TOp.wf,a_,decide_eq_true_eq,ne_eq]at hw
 case mv x=>exact(J3 hw h).ob
 case pick c a b=>exact(E6 ⟨hw.1.1,hw.1.2,hw.2⟩ h).ob
 case bin op x y=>exact(H2 hw h).ob
 case eqB neg x y=>exact(H3 hw h).ob
 case eqT neg tid t x y=>exact(H4 ⟨hw.1.1,hw.1.2,hw.2⟩ h).ob
 case un op x=>exact(J4 hw h).ob
 case len b x=>exact(H7 hw h).ob
 case lenM k e x=>exact(E1 hw h).ob
 case idxS x i=>exact(EZ hw h).ob
 case idxV n t x i=>exact(E0 hw h).ob
 case idxA t x i=>exact(EX hw h).ob
 case idxP n t x i=>exact(EY hw h).ob
 case fldA off t x=>exact(EW hw h).ob
 case fld off t x=>exact(H6 hw h).ob
 case load t x=>exact(E2 hw h).ob
 case store t x v=>exact HQ hw h
 case alloc tid zero=>exact HK hw h
 case box tid x=>exact KG hw h
 case boxD tid t x=>exact(ET hw h).ob
 case build zero parts=>exact(BM hw h).ob
 case bslice own tid t len parts=>
  cases own
  ·exact(yf hw h).ob
  ·exact F3 hw h
 case mslice tid t b l c=>exact F5 ⟨hw.1.1,hw.1.2,hw.2⟩ h
 case append tid t b x y=>exact F2 hw h
 case cvtI k x=>exact(EV hw h).ob
 case slc full t x lo hi mx=>exact(H8 ⟨hw.1.1.1,hw.1.1.2,hw.1.2,hw.2⟩ h).ob
 case slcS x lo hi=>exact(E7 ⟨hw.1.1,hw.1.2,hw.2⟩ h).ob
 case ext x i=>exact(H5 hw h).ob
 case nilc x=>exact(E5 hw h).ob
 case call bor f args sh=>exact(EU hO hw h).ob
 case callA pan bor B f args sh=>exact HM hO hw h
 case callv pan bor B num x args sh=>exact HN hO ⟨hw.1.1.1,hw.1.1.2,hw.1.2,hw.2⟩ h
 case callp bor num x args sh=>exact(BN hO ⟨hw.1.1.1,hw.1.1.2,hw.1.2,hw.2⟩ h).ob
 case b2s x=>exact(H1 hw h).ob
 case mkfn f caps=>exact(E3 hw h).ob
 case mkmap k e a b=>exact HO h
 case lookup k e ok a b m x=>exact(yg ⟨hw.1.1.1,hw.1.1.2,hw.1.2,hw.2⟩ h).ob
 case mapset k e a b m x v=>exact F4 ⟨hw.1.1.1,hw.1.1.2,hw.1.2,hw.2⟩ h
 case copy tid t x y=>exact Jp hw h
 case mnmx mx k x ys=>exact(E4 hw h).ob
 case panic x=>exact HP hw h
 case iface tid x=>exact(BO hw h).ob
 case bsliceF tid t len parts=>exact(vB hw h).ob
 case appD tid t b x y=>exact(ES hw h).ob
 case bsliceN tid k t len parts=>exact(vC hw h).ob
 case msliceT tid k u b l c=>exact Dk hw h
 case appT tid k t b x y=>exact(Jr hw h).ob
 case atq k op=>exact(LE hw h).ob
theorem lS(hO:OracleOk P O){op:TOp}(hw:op.wf P=true)(hp:op.pureB=true)(h:evOp O d op s κ kp=some r):Pu P s op.er d κ r:=by
 cases op<;>simp only[TOp.wf,a_,decide_eq_true_eq,ne_eq]at hw<;>simp only[TOp.pureB]at hp<;>try (cases hp;done)
 case mv x=>exact J3 hw h
 case pick c a b=>exact E6 ⟨hw.1.1,hw.1.2,hw.2⟩ h
 case bin op x y=>exact H2 hw h
 case eqB neg x y=>exact H3 hw h
 case eqT neg tid t x y=>exact H4 ⟨hw.1.1,hw.1.2,hw.2⟩ h
 case un op x=>exact J4 hw h
 case len b x=>exact H7 hw h
 case lenM k e x=>exact E1 hw h
 case idxS x i=>exact EZ hw h
 case idxV n t x i=>exact E0 hw h
 case idxA t x i=>exact EX hw h
 case idxP n t x i=>exact EY hw h
 case fldA off t x=>exact EW hw h
 case fld off t x=>exact H6 hw h
 case load t x=>exact E2 hw h
 case boxD tid t x=>exact ET hw h
 case build zero parts=>exact BM hw h
 case bslice own tid t len parts=>
  cases own
  ·exact yf hw h
  ·cases hp
 case cvtI k x=>exact EV hw h
 case slc full t x lo hi mx=>exact H8 ⟨hw.1.1.1,hw.1.1.2,hw.1.2,hw.2⟩ h
 case slcS x lo hi=>exact E7 ⟨hw.1.1,hw.1.2,hw.2⟩ h
 case ext x i=>exact H5 hw h
 case nilc x=>exact E5 hw h
 case call bor f args sh=>exact EU hO hw h
 case callp bor num x args sh=>exact BN hO ⟨hw.1.1.1,hw.1.1.2,hw.1.2,hw.2⟩ h
 case b2s x=>exact H1 hw h
 case mkfn f caps=>exact E3 hw h
 case lookup k e ok a b m x=>exact yg ⟨hw.1.1.1,hw.1.1.2,hw.1.2,hw.2⟩ h
 case mnmx mx k x ys=>exact E4 hw h
 case iface tid x=>exact BO hw h
 case bsliceF tid t len parts=>exact vB hw h
 case appD tid t b x y=>exact ES hw h
 case bsliceN tid k t len parts=>exact vC hw h
theorem C9(hO:OracleOk P O){op:TOp}(hw:op.wf P=true)(hp:op.exB=true)(hst:Gr s op=true)(h:evOp O d op s κ kp=some r):Ox P s op.er d κ kp r:=by
 by_cases hpu:op.pureB=true
 ·exact(lS hO hw hpu h).ox
 ·cases op<;>simp only[TOp.exB]at hp<;>try exact absurd hp hpu
  case append tid t b x y=>simp only[TOp.wf,a_]at hw;exact yc hw h
  case callA pan bor B f args sh=>simp only[TOp.wf,a_]at hw;exact BJ hO hw h
  case callv pan bor B num x args sh=>simp only[TOp.wf,a_]at hw;exact BK hO ⟨hw.1.1.1,hw.1.1.2,hw.1.2,hw.2⟩ h
  case store t x v=>simp only[TOp.wf,a_]at hw;exact HX hw hst h
end
theorem Jf{θ:List Av.Loc}{D D':Nat->Prop}{w:World}{id:Nat}{t:Ty}{xs:List t.den}{l:Av.Loc}(hl:θ[id]? =some l)(hD:∀b,D b->D' b)(hb:∀g,l≠.blk g)(hmp:∀g,l≠.mp g)
 (hh:∀v,l.head v->RelP D' w v (fk t.sz (xs.map (ao t)))) {v:Value} {u:V} (h:RelB θ D w v (aC u)):RelB (θ.set id .no) D' w v (aC (GG id t xs u)):=by
 have ne:∀(k:Nat) (l':Av.Loc),k≠id->θ[k]? =some l'->(θ.set id .no)[k]? =some l':=λk l' hk h=>by rw[x_ (Ne.symm hk)];exact h
 have stay:∀(x:BV),RelB θ D w v x->(∀i∈x.ids,i≠id)->RelB (θ.set id .no) D' w v x:=by
  intro x hx hi
  cases x<;>simp only[RelB]at hx⊢
  ·exact hx.mono hD λ_ _=>rfl
  ·exact hx
  ·obtain⟨l',h1,h2⟩:=hx;exact⟨l',ne _ _ (hi _ (by simp[BV.ids])) h1,h2⟩
  ·obtain⟨g,h1,h2⟩:=hx;exact⟨g,ne _ _ (hi _ (by simp[BV.ids])) h1,h2⟩
  ·obtain⟨g,n,cap,sz,O,h1,h2⟩:=hx;exact⟨g,n,cap,sz,O,ne _ _ (hi _ (by simp[BV.ids])) h1,h2⟩
  ·obtain⟨gs,h1,h2,h3⟩:=hx
   exact⟨gs,h1,λk i g e1 e2=>ne _ _ (hi _ (by simp only[BV.ids];exact u_ e1)) (h2 k i g e1 e2),h3⟩
  ·obtain⟨g,h1,h2⟩:=hx;exact⟨g,ne _ _ (hi _ (by simp[BV.ids])) h1,h2⟩
  ·exact⟨hx.1.mono hD λ_ _=>rfl,hx.2⟩
  ·exact hx
 cases u with
 |sl k=>
  show RelB _ _ _ _ (aC (bif o_ k id then .d (.list t) xs else .sl k))
  rw[c9]
  by_cases hk:k=id
  ·subst hk
   rw[decide_eq_true rfl]
   obtain⟨l',h1,h2⟩:=h
   rw[hl]at h1;cases h1
   exact hh v h2
  ·rw[decide_eq_false hk]
   exact stay (aC (.sl k)) h λi hi=>by rw[p_.1 (show i∈[k]from hi)];exact hk
 |elt k i o=>
  show RelB _ _ _ _ (aC (bif o_ k id then .any else .elt k i o))
  rw[c9]
  by_cases hk:k=id
  ·rw[decide_eq_true hk];exact RelP.any v
  ·rw[decide_eq_false hk]
   exact stay (aC (.elt k i o)) h λj hj=>by rw[p_.1 (show j∈[k]from hj)];exact hk
 |ptr k off=>
  refine stay (aC (.ptr k off)) h λi hi e=>?_
  have hi':=p_.1 (show i∈[k]from hi)
  subst hi';subst e
  obtain⟨g,h1,_⟩:=h
  rw[hl]at h1;cases h1;exact hb g rfl
 |pel k off n t' m=>
  refine stay (aC (.pel k off n t' m)) h λi hi e=>?_
  have hi':=p_.1 (show i∈[k]from hi)
  subst hi';subst e
  obtain⟨g,h1,_⟩:=h
  rw[hl]at h1;cases h1;exact hb g rfl
 |mp k=>
  refine stay (aC (.mp k)) h λi hi e=>?_
  have hi':=p_.1 (show i∈[k]from hi)
  subst hi';subst e
  obtain⟨g,h1,_⟩:=h
  rw[hl]at h1;cases h1;exact hmp g rfl
 |clo f ids=>
  refine stay (aC (.clo f ids)) h λi hi e=>?_
  subst e
  obtain⟨gs,h1,h2,_⟩:=h
  obtain⟨k,hk⟩:=aA_ (show i∈ids from hi)
  obtain⟨g,hg⟩:=aM h1 hk
  have:=h2 k i g hk hg
  rw[hl]at this;cases this;exact hb g rfl
 |raw c=>exact stay (aC (.raw c)) h λi hi=>by rw[show(aC (.raw c)).ids=[]from pZ c]at hi;cases hi
 |d a b=>exact stay (aC (.d a b)) h λi hi=>by cases hi
 |nil a=>exact stay (aC (.nil a)) h λi hi=>by cases hi
 |agg a=>exact stay (aC (.agg a)) h λi hi=>by cases hi
 |tup a=>exact stay (aC (.tup a)) h λi hi=>by cases hi
 |dp a b=>exact stay (aC (.dp a b)) h λi hi=>by cases hi
 |fnD a b=>exact stay (aC (.fnD a b)) h λi hi=>by cases hi
 |full a b=>exact stay (aC (.full a b)) h λi hi=>by cases hi
 |any=>exact stay (aC .any) h λi hi=>by cases hi
 |lit a b c=>exact stay (aC (.lit a b c)) h λi hi=>by cases hi
 |ifc=>exact stay (aC .ifc) h λi hi=>by cases hi
theorem Je{id:Nat}{t:Ty}{xs:List t.den}(v:V)(h:v.isA=false):(GG id t xs v).isA=false:=by
 cases v<;>first|rfl|(simp only[GG];cases o_ _ id<;>rfl)|cases h
theorem Io{θ θ':List Av.Loc}{D D':Nat->Prop}{w:World}{g:V->V}(ha:∀v,v.isA=false->(g v).isA=false)(hg:∀v u,RelB θ D w v (aC u)->RelB θ' D' w v (aC (g u))){v:Value}{u:V}(h:RelA θ D w v (aE u)):RelA θ' D' w v (aE (gJ g u)):=by
 have many:∀(vs:List V) (a:Array Value),a.size=(vs.map aC).length->(∀(i:Nat) (y:Value) (x:BV),a[i]? =some y->(vs.map aC)[i]? =some x->RelB θ D w y x)->
  a.size=((vs.map g).map aC).length/\∀(i:Nat) (y:Value) (x:BV),a[i]? =some y->((vs.map g).map aC)[i]? =some x->RelB θ' D' w y x:=by
  intro vs a h1 h2
  refine⟨by simpa using h1,λi y x hy hx=>?_⟩
  simp only[h_,f_]at hx
  obtain⟨_,⟨u,hu,rfl⟩,rfl⟩:=hx
  exact hg y u (h2 i y _ hy (by simp[hu]))
 cases hv:u.isA
 ·rw[HB hv,gH (ha u hv)]
  rw[gH hv]at h
  exact hg v u h
 ·cases u with
  |agg vs=>obtain⟨a,h1,h2,h3⟩:=h;obtain⟨h4,h5⟩:=many vs a h2 h3;exact⟨a,h1,h4,h5⟩
  |tup vs=>obtain⟨a,h1,h2,h3⟩:=h;obtain⟨h4,h5⟩:=many vs a h2 h3;exact⟨a,h1,h4,h5⟩
  |_=>cases hv
theorem Im{θ θ':List Av.Loc}{D D':Nat->Prop}{w:World}{g:V->V}(hD:∀b,D b->D' b)(hg:∀v u,RelB θ D w v (aC u)->RelB θ' D' w v (aC (g u))){l:Av.Loc}{o:Ob}(h:RelO θ D w l (aV o)):RelO θ' D' w l (aV (nX g o)):=by
 cases o with
 |box t cs=>
  cases l<;>simp only[aV,nX,RelO]at h⊢<;>try exact h
  obtain⟨c,h1,h2,h3⟩:=h
  refine⟨c,h1,by simpa using h2,λi y x hy hx=>?_⟩
  simp only[h_,f_]at hx
  obtain⟨_,⟨u,hu,rfl⟩,rfl⟩:=hx
  exact hg y u (h3 i y _ hy (by simp[hu]))
 |gone=>cases l<;>trivial
 |free=>cases l<;>exact h
 |tree e k t xs hole=>
  cases l<;>try exact h
  case nil=>
   refine⟨h.1,?_⟩
   cases hole with
   |none=>rfl
   |some q=>obtain⟨i,j,v⟩:=q;cases h.2
  case hdr=>
   cases hole with
   |none=>exact j5 (θ':=θ') (hole:=none) (f:=λx=>x) (λu i j b hb _=>nomatch hb) hD h
   |some q=>
    obtain⟨i,j,v⟩:=q
    exact j5 (hole:=some (i,j,aC v)) (f:=λ_=>aC (g v)) (λu i' j' b hb hr=>by cases hb;exact hg u v hr) hD h
 |vec e t xs=>
  have h1:=h.mono (D':=D') (w':=w) hD (λ_ _=>rfl) λ_ _=>rfl
  cases l<;>exact h1
 |map k e a b kvs=>
  have h1:=h.mono (D':=D') (w':=w) hD (λ_ _=>rfl) λ_ _=>rfl
  cases l<;>exact h1
theorem tt{m:Nat}{s:S}{id:Nat}{o:Ob}{t:Ty}{xs:List t.den}(ho:s.hp[id]? =some o)(hsl:Cv (enc s).hp id=some (fk t.sz (xs.map (ao t))))(hv:o.vary=true):Weak m (enc s) (enc ⟨(s.map (GG id t xs)).fr,setAt (s.map (GG id t xs)).hp id .gone⟩):=by
 rintro c a w _ ⟨θ,D,hI⟩
 have ho':(enc s).hp[id]? =some (aV o):=by rw[aY,ho];rfl
 have hlt:id<θ.length:=by rw[hI.ok.len];exact(i_.1 ho').1
 obtain⟨l,hl⟩:∃l,θ[id]? =some l:=⟨θ[id],d_ hlt⟩
 have hro:=hI.ok.objs id l _ hl ho'
 have hfx:l.fixed=false:=by
  unfold Cv at hsl
  rw[ho']at hsl
  cases o<;>first|cases hsl|skip
  all_goals (cases l<;>first|rfl|exact hro.elim)
 have hb:∀g,l≠.blk g:=λg e=>by subst e;cases hfx
 have hmp:∀g,l≠.mp g:=λg e=>by subst e;cases hfx
 obtain⟨D',hD,hD2,hh⟩:∃D':Nat->Prop,(∀b,D b->D' b)/\(∀b,D' b->D b\/l.has b)/\(∀v,l.head v->RelP D' w v (fk t.sz (xs.map (ao t)))):=by
  refine⟨λb=>D b\/l.has b,λ_ h=>.inl h,λ_ h=>h,λv hv=>?_⟩
  obtain⟨l',h1,h2⟩:=Ff hI.ok (show RelB θ D w v (.sl id)from⟨l,hl,hv⟩) hsl
  rw[hl]at h1;cases h1
  exact h2 _ (λ_ h=>.inl h) (λ_ h=>.inr h)
 have hB:=λv u=>Jf (w:=w) (v:=v) (u:=u) (id:=id) (t:=t) (xs:=xs) hl hD hb hmp hh
 have old:∀(i:Nat) (l':Av.Loc),(θ.set id .no)[i]? =some l'->(i=id/\l'= .no)\/(i≠id/\θ[i]? =some l'):=λi l' hi=>by
  by_cases hii:i=id
  ·subst hii
   rw[K_ hlt]at hi
   cases hi;exact .inl ⟨rfl,rfl⟩
  ·rw[x_ (Ne.symm hii)]at hi
   exact .inr ⟨hii,hi⟩
 refine⟨θ.set id .no,D',hI.size,hI.defers,⟨?_,λb hb'=>?_,λi j li lj g hi hj hgi hgj=>?_,λi li g hi hg=>?_,λi li o hi hoi=>?_⟩,hI.keep,λb hb'=>hD b (hI.dsub b hb'),λb hb'=>?_,λi li g hi hg=>?_,λk x hk=>?_,λk l' hk hf=>?_⟩
 ·simp[enc,S.map,cz,hI.ok.len]
 ·rcases hD2 b hb' with h1|h1
  ·exact hI.ok.dlt b h1
  ·exact(hI.ok.olt id l b hl h1).1
 ·rcases old i li hi with⟨_,rfl⟩|⟨_,h1⟩
  ·cases hgi
  ·rcases old j lj hj with⟨_,rfl⟩|⟨_,h2⟩
   ·cases hgj
   ·exact hI.ok.inj i j li lj g h1 h2 hgi hgj
 ·rcases old i li hi with⟨_,rfl⟩|⟨hne,h1⟩
  ·cases hg
  ·obtain⟨h2,h3⟩:=hI.ok.olt i li g h1 hg
   refine⟨h2,λhd=>?_⟩
   rcases hD2 g hd with h4|h4
   ·exact h3 h4
   ·exact hne (hI.ok.inj i id li l g h1 hl hg h4)
 ·have hoi':((setAt (s.hp.map (nX (GG id t xs))) id .gone).map aV)[i]? =some o:=hoi
  rw[cz,h_]at hoi'
  obtain⟨o1,h1,rfl⟩:=f_.1 hoi'
  rcases old i li hi with⟨rfl,rfl⟩|⟨hne,h2⟩
  ·rw[K_ (by rw[e_];exact(i_.1 ho).1)]at h1
   cases h1;trivial
  ·rw[x_ (Ne.symm hne),h_]at h1
   obtain⟨o2,h3,rfl⟩:=f_.1 h1
   exact Im hD hB (hI.ok.objs i li (aV o2) h2 (by rw[aY,h3];rfl))
 ·rcases hD2 b hb' with h1|h1
  ·exact hI.dnew b h1
  ·exact .inr (hI.onew id l b hl h1)
 ·rcases old i li hi with⟨_,rfl⟩|⟨_,h1⟩
  ·cases hg
  ·exact hI.onew i li g h1 hg
 ·have hk':Av.look ((s.fr.map λx=>(x.1,gJ (GG id t xs) x.2)).map λx=>(x.1,aE x.2)) k=some x:=hk
  rw[jU,vi]at hk'
  obtain⟨v1,h1,rfl⟩:=f_.1 hk'
  obtain⟨v2,h2,rfl⟩:=f_.1 h1
  exact Io Je hB (hI.fr k (aE v2) (by show Av.look (s.fr.map λx=>(x.1,aE x.2)) k=_;rw[jU,h2];rfl))
 ·have h1:=hI.fix k l' hk hf
  by_cases hki:k=id
  ·subst hki
   rw[hl]at h1;cases h1
   rw[hfx]at hf;cases hf
  ·rw[x_ (Ne.symm hki)];exact h1
def Ob.empt(o:Ob):Prop:=∀θ D w,RelO θ D w (.nil none) (aV o)
theorem A8(e:TypeId)(t:Ty):(Ob.vec e t []).empt:=λ_ _ _=>rfl
theorem xI(e:TypeId)(k:Av.K)(t:Ty):(Ob.tree e k t [] none).empt:=λ_ _ _=>⟨rfl,rfl⟩
theorem q9{c:Ctx}{θ:List Av.Loc}{D:Nat->Prop}{st:St}{a:Act}{w:World}(hI:Inv c θ D st a w){o:Ob}(ho:o.empt):Inv c (θ++[.nil none]) D {st with hp:=st.hp++[aV o]} a w:=
 hI.push (l:=.nil none) (o:=aV o) (ho _ _ _) (λg hg=>by cases hg)
theorem wb{m:Nat}{s:S}{k:Nat}{u:Ty}{o:Ob}(ho:o.empt)(h:lk s.fr k=some (.nil u)):Weak m (enc s) (enc ⟨(k,.sl s.hp.length)::s.fr,s.hp++[o]⟩):=by
 rintro c a w _ ⟨θ,D,hI⟩
 have hJ:=q9 hI ho
 rw[<-nQ]at hJ
 refine⟨_,D,hJ.size,hJ.defers,hJ.ok,hJ.keep,hJ.dsub,hJ.dnew,hJ.onew,λj x hj=>?_,hJ.fix⟩
 have hj':Av.look ((k,aE (.sl s.hp.length))::s.fr.map λx=>(x.1,aE x.2)) j=some x:=hj
 simp only[Av.look]at hj'
 split at hj'
 ·rename_i e1
  subst e1
  cases hj'
  have hv:=hI.fr j (aE (.nil u)) (by show Av.look (s.fr.map λx=>(x.1,aE x.2)) j=_;rw[jU,h];rfl)
  refine⟨.nil none,?_,hv⟩
  rw[<-i7,<-hI.ok.len]
  simp
 ·exact hJ.fr j x hj'
theorem tq{m:Nat}{s:S}{id j:Nat}{u:TypeId}{t':Ty}{cs:List V}{o0:Ob}(ho0:o0.empt)(ho:s.hp[id]? =some (.box u cs))(hj:cs[j]? =some (.nil t')):
 Weak m (enc s) (enc ⟨s.fr,setAt s.hp id (.box u (setAt cs j (.sl s.hp.length)))++[o0]⟩):=by
 rintro c a w _ ⟨θ,D,hI⟩
 have hJ:=q9 hI ho0
 rw[<-nQ]at hJ
 have hid:=(i_.1 ho).1
 refine⟨_,D,hJ.size,hJ.defers,⟨by rw[hJ.ok.len];simp[enc,cz],hJ.ok.dlt,hJ.ok.inj,hJ.ok.olt,λi l o hi hoi=>?_⟩,hJ.keep,hJ.dsub,hJ.dnew,hJ.onew,hJ.fr,hJ.fix⟩
 have hoi':((setAt s.hp id (.box u (setAt cs j (.sl s.hp.length)))++[o0]).map aV)[i]? =some o:=hoi
 rw[cz,cz]at hoi'
 by_cases hii:i=id
 ·subst hii
  rw[h_,l_ (by simpa using hid),K_ hid]at hoi'
  cases hoi'
  have hr:=hJ.ok.objs i l (aV (.box u cs)) hi (by rw[aY,l_ hid,ho];rfl)
  cases l<;>simp only[aV,RelO]at hr⊢<;>try exact hr
  obtain⟨cv,h1,h2,h3⟩:=hr
  refine⟨cv,h1,by simpa using h2,λq y x hy hx=>?_⟩
  rw[M_]at hx
  by_cases hq:q=j
  ·subst hq
   rw[aJ_]at hx
   simp only[if_true]at hx
   split at hx
   ·cases hx
    have:=h3 q y (aC (.nil t')) hy (by rw[h_,hj];rfl)
    refine⟨.nil none,?_,this⟩
    rw[<-i7,<-hI.ok.len]
    simp
   ·cases hx
  ·rw[x_ (Ne.symm hq)]at hx
   exact h3 q y x hy hx
 ·refine hJ.ok.objs i l o hi ?_
  show((s.hp++[o0]).map aV)[i]? =some o
  rw[<-hoi']
  simp only[h_]
  congr 1
  rcases aj_ i s.hp.length with h1|h1
  ·rw[l_ h1,l_ (by simpa using h1),x_ (Ne.symm hii)]
  ·rw[r_ h1,r_ (by simpa using h1)]
   simp
theorem kZ{ids:List Nat}{i:Nat}(h:i∈ids):ids[ids.idxOf i]? =some i:=by
 have h1:=List.idxOf_lt_length_of_mem h
 rw[d_ h1]
 simp
theorem ud{θ:List Av.Loc}{ids:List Nat}{D:Nat->Prop}{w:World}{v:Value}{x:BV}(hin:∀i∈x.ids,i∈ids)(h:RelB θ D w v x):RelB (ids.map λi=>θ.getD i .no) D w v (x.ren (ids.idxOf ·)):=by
 have key:∀(i:Nat) (l:Av.Loc),i∈ids->θ[i]? =some l->(ids.map λi=>θ.getD i .no)[ids.idxOf i]? =some l:=λi l hi hl=>by
  rw[h_,kZ hi]
  simp[ab_,hl]
 cases x<;>simp only[RelB,BV.ren]at h⊢<;>simp only[BV.ids,p_,forall_eq]at hin
 ·exact h
 ·exact h
 ·obtain⟨l,h1,h2⟩:=h;exact⟨l,key _ _ hin h1,h2⟩
 ·obtain⟨g,h1,h2⟩:=h;exact⟨g,key _ _ hin h1,h2⟩
 ·obtain⟨g,n,cap,sz,O,h1,h2⟩:=h;exact⟨g,n,cap,sz,O,key _ _ hin h1,h2⟩
 ·obtain⟨gs,h1,h2,h3⟩:=h
  refine⟨gs,by simpa using h1,λk i g e1 e2=>?_,h3⟩
  rw[h_]at e1
  obtain⟨i',e3,rfl⟩:=f_.1 e1
  exact key _ _ (hin i' (u_ e3)) (h2 k i' g e3 e2)
 ·obtain⟨g,h1,h2⟩:=h;exact⟨g,key _ _ hin h1,h2⟩
 ·exact h
 ·exact h
theorem Iw{θ:List Av.Loc}{ids:List Nat}{D:Nat->Prop}{w:World}{v:Value}{x:AV}(hin:∀i∈x.ids,i∈ids)(h:RelA θ D w v x):RelA (ids.map λi=>θ.getD i .no) D w v (x.ren (ids.idxOf ·)):=by
 have many:∀(xs:List BV) (a:Array Value),(∀i∈xs.flatMap BV.ids,i∈ids)->a.size=xs.length->(∀(i:Nat) (y:Value) (x:BV),a[i]? =some y->xs[i]? =some x->RelB θ D w y x)->
  a.size=(xs.map (BV.ren (ids.idxOf ·))).length/\∀(i:Nat) (y:Value) (x:BV),a[i]? =some y->(xs.map (BV.ren (ids.idxOf ·)))[i]? =some x->RelB (ids.map λi=>θ.getD i .no) D w y x:=by
  intro xs a h0 h1 h2
  refine⟨by simpa using h1,λi y x hy hx=>?_⟩
  rw[h_]at hx
  obtain⟨x0,hx0,rfl⟩:=f_.1 hx
  exact ud (λj hj=>h0 j (s_.2 ⟨x0,u_ hx0,hj⟩)) (h2 i y x0 hy hx0)
 cases x with
 |b x=>exact ud hin h
 |agg xs=>obtain⟨a,h1,h2,h3⟩:=h;obtain⟨h4,h5⟩:=many xs a hin h2 h3;exact⟨a,h1,h4,h5⟩
 |tup xs=>obtain⟨a,h1,h2,h3⟩:=h;obtain⟨h4,h5⟩:=many xs a hin h2 h3;exact⟨a,h1,h4,h5⟩
theorem Ck{m:Nat}{a b:St}(ids:List Nat)(hnd:ids.Nodup)(hm:∀k,k<m->ids[k]? =some k)
 (hfr:∀k y,Av.look b.fr k=some y->∃x,Av.look a.fr k=some x/\(∀i∈x.ids,i∈ids)/\y=x.ren (ids.idxOf ·))
 (hlen:b.hp.length=ids.length) (hhp:∀(j:Nat) (o':AObj),b.hp[j]? =some o'->∃(i:Nat) (o:AObj),ids[j]? =some i/\a.hp[i]? =some o/\(∀i∈o.ids,i∈ids)/\o'=o.ren (ids.idxOf ·)):Weak m a b:=by
 rintro c ac w hcm ⟨θ,D,hI⟩
 have hin:∀(j:Nat) (i:Nat),ids[j]? =some i->i<θ.length:=λj i hj=>by
  have hj2:j<b.hp.length:=by rw[hlen];exact(i_.1 hj).1
  obtain⟨i',o,h1,h2,_⟩:=hhp j _ (d_ hj2)
  rw[hj]at h1;cases h1
  rw[hI.ok.len]
  exact(i_.1 h2).1
 have back:∀(j:Nat) (l:Av.Loc),(ids.map λi=>θ.getD i .no)[j]? =some l->∃i,ids[j]? =some i/\θ[i]? =some l:=λj l hj=>by
  rw[h_]at hj
  obtain⟨i,h1,h2⟩:=f_.1 hj
  refine⟨i,h1,?_⟩
  have:=hin j i h1
  rw[<-h2]
  simp[ab_,d_ this]
 refine⟨ids.map λi=>θ.getD i .no,D,hI.size,hI.defers,⟨by rw[e_,hlen],hI.ok.dlt,λi j li lj g hi hj hgi hgj=>?_,λi l g hi hg=>?_,λj l o' hj hoj=>?_⟩,hI.keep,hI.dsub,hI.dnew,λi l g hi hg=>?_,λk y hk=>?_,λk l hk hf=>?_⟩
 ·obtain⟨i',h1,h2⟩:=back i li hi
  obtain⟨j',h3,h4⟩:=back j lj hj
  have:=hI.ok.inj i' j' li lj g h2 h4 hgi hgj
  subst this
  have hi2:=(i_.1 h1).1
  exact(List.getElem?_inj hi2 hnd).1 (by rw[h1,h3])
 ·obtain⟨i',h1,h2⟩:=back i l hi
  exact hI.ok.olt i' l g h2 hg
 ·obtain⟨i,h1,h2⟩:=back j l hj
  obtain⟨i',o,h3,h4,h5,rfl⟩:=hhp j o' hoj
  rw[h1]at h3;cases h3
  have hr:=hI.ok.objs i l o h2 h4
  cases o with
  |box t cs=>
   cases l<;>simp only[AObj.ren,RelO]at hr⊢<;>try exact hr
   obtain⟨cv,e1,e2,e3⟩:=hr
   refine⟨cv,e1,by simpa using e2,λq y x hy hx=>?_⟩
   rw[h_]at hx
   obtain⟨x0,hx0,rfl⟩:=f_.1 hx
   exact ud (λp hp=>h5 p (s_.2 ⟨x0,u_ hx0,hp⟩)) (e3 q y x0 hy hx0)
  |gone=>cases l<;>trivial
  |free=>cases l<;>exact hr
  |vec e sz xs=>cases l<;>exact hr
  |map k e kvs=>cases l<;>exact hr
  |tree e sz k xs hole=>
   cases l<;>try exact hr
   case nil=>exact⟨hr.1,by have:=hr.2;subst this;rfl⟩
   case hdr=>exact j5 (λu i j b hb hr=>ud (λp hp=>h5 p (by rw[hb];exact hp)) hr) (λ_ h=>h) hr
 ·obtain⟨i',h1,h2⟩:=back i l hi
  exact hI.onew i' l g h2 hg
 ·obtain⟨x,h1,h2,rfl⟩:=hfr k y hk
  exact Iw h2 (hI.fr k x h1)
 ·have h1:=hI.fix k l hk hf
  have hk2:k<m:=Nat.lt_of_lt_of_le (i_.1 hk).1 hcm
  rw[h_,hm k hk2]
  simp[ab_,h1]
def Adj.wfB(m:Nat):Adj->Bool
 | .sel ids _=>(N_ m).all λk=>match ids[k]? with
  |some i=>o_ i k
  |none=>false
 |_=>true
def uv(m:Nat)(l:List Adj):Bool:=l.all (Adj.wfB m)
theorem Keeps.of_map{A:List Nat}{s s':S}(g:V->V)(hg:∀v,v.isD=true->g v=v)(hfr:∀k,lk s'.fr k=(lk s.fr k).map g\/lk s'.fr k=none):Keeps A s s':=λk _=>by
 rcases hfr k with h|h
 ·rw[h]
  exact⟨λv hv hd=>.inl (by rw[hv];simp[hg v hd]),λhn=>by rw[hn];rfl⟩
 ·rw[h];exact⟨λ_ _ _=>.inr rfl,λ_=>rfl⟩
theorem EE{id:Nat}{t:Ty}{xs:List t.den}{v:V}(h:v.isD=true):gJ (GG id t xs) v=v:=by cases v<;>first|rfl|cases h
theorem Jk{ρ:Nat->Nat}{v:V}(h:v.isD=true):gJ (V.ren ρ) v=v:=by cases v<;>first|rfl|cases h
theorem rf{α β:Type}{f:α->Option β}:∀{l:List α} {m:List β},l.mapM f=some m->m.length=l.length/\∀(i:Nat) (y:β),m[i]? =some y->∃x,l[i]? =some x/\f x=some y
 |[],m,h=>by simp at h;subst h;exact⟨rfl,λi y h=>by simp at h⟩
 |x::l,m,h=>by
  simp only[E_,G_,Z_,t_,k_]at h
  obtain⟨z,h1,m',h2,rfl⟩:=h
  obtain⟨h3,h4⟩:=rf h2
  refine⟨by simp[h3],λi y hy=>?_⟩
  cases i with
  |zero=>simp at hy;subst hy;exact⟨x,rfl,h1⟩
  |succ i=>simpa using h4 i y (by simpa using hy)
theorem Dh{s:S}:∀{ks:List Nat} {fr:List (Nat×V)},ks.mapM (λk=>(lk s.fr k).map λv=>(k,v))=some fr->∀k,lk fr k=lk s.fr k\/lk fr k=none
 |[],fr,h,k=>by simp at h;subst h;exact .inr rfl
 |j::ks,fr,h,k=>by
  simp only[E_,G_,Z_,t_,k_,f_]at h
  obtain⟨x,⟨v,hv,rfl⟩,m',h2,rfl⟩:=h
  simp only[lk,c9]
  by_cases hk:k=j
  ·subst hk
   rw[decide_eq_true rfl]
   exact .inl hv.symm
  ·rw[decide_eq_false hk]
   exact Dh h2 k
theorem Bi{m:Nat}{id k j:Nat}{u:Ty}{s s':S}(h:adj (.focus id k j u) s=some s'):Weak m (enc s) (enc s')/\∀A,Keeps A s s':=by
 simp only[adj]at h
 split at h
 ·rename_i kk n e k0 t xs hk ho
  split at h
  ·rename_i e' sz' k' hat
   obtain⟨h1,h2⟩:=aB h
   simp only[a_,decide_eq_true_eq]at h1
   obtain⟨x,hx,h3⟩:=bo h2
   split at h3
   ·rename_i L hL
    cases h3
    have hsz:=b_ h1.1
    obtain⟨p1,p2⟩:=kw t j (.list u) x L hL
    have hj:j<(ap t x).length:=by rw[ar];simp only[Ty.sz]at p1;omega
    have hy:(ao t x).cells[j]? =some (ao (.list u) L):=by
     have:((ap t x).drop j).take 1=[ao (.list u) L]:=by
      have:=p2;rw[bZ (t:=.list u) L rfl]at this;exact this
     have h5:(((ap t x).drop j).take 1)[0]? =some (ao (.list u) L):=by rw[this];rfl
     rw[List.getElem?_take,if_pos (by omega),am_]at h5
     exact h5
    refine⟨?_,λA=>Keeps.fr rfl⟩
    have hw:=Ea (m:=m) (st:=enc s) (id:=id) (i:=n.toNat) (j:=j) (k:=k0) (q:=(e',sz',k')) (L:=L.map (ao u)) (by rw[aY,ho];rfl) (by rw[h_,hx];rfl) hy hat (by rw[hsz];rfl)
    have hin:fX (e',sz',k') (L.map (ao u))=aV (oM e' k' u L):=by
     unfold fX oM
     cases hf:k'.allF
     ·rw[hsz];rfl
     ·rw[hsz];rfl
    rw[hin]at hw
    have he:enc ⟨s.fr,setAt s.hp id (.tree e k0 t xs (some (n.toNat,j,.sl s.hp.length)))++[oM e' k' u L]⟩=⟨(enc s).fr,(enc s).hp.set id (.tree e t.sz k0 (xs.map (ao t)) (some (n.toNat,j,.sl (enc s).hp.length)))++[aV (oM e' k' u L)]⟩:=by
     simp only[enc,cz,q_,M_,m_,aW_,e_]
     rfl
    rw[he]
    exact hw
   ·cases h3
  ·cases h
 ·cases h
theorem BI{e:TypeId}{k:Av.K}{u:Ty}{o:Ob}{L:List u.den}(h:ub e k u o=some L):aV o=fX (e,u.sz,k) (L.map (ao u)):=by
 unfold ub at h
 split at h
 ·rename_i e' t xs
  obtain⟨h1,h2⟩:=aB h
  simp only[a_]at h1
  obtain⟨e2,e3⟩:=aW h2
  have e4:=Ty.list.inj e2
  subst e4
  have e5:L=xs:=e3
  subst e5
  have:=b_ h1.2
  subst this
  simp only[fX,h1.1,if_true]
  rfl
 ·rename_i e' k' t xs
  obtain⟨h1,h2⟩:=aB h
  simp only[a_,y_,decide_eq_true_eq]at h1
  obtain⟨e2,e3⟩:=aW h2
  have e4:=Ty.list.inj e2
  subst e4
  have e5:L=xs:=e3
  subst e5
  have:=b_ h1.1.2
  subst this
  obtain⟨⟨h3,_⟩,rfl⟩:=h1
  simp only[fX,h3,al_,if_false]
  rfl
 ·cases h
theorem AQ{m:Nat}{id:Nat}{s s':S}(h:adj (.close id) s=some s'):Weak m (enc s) (enc s')/\∀A,Keeps A s s':=by
 simp only[adj]at h
 split at h
 ·rename_i e kk t xs i j kid ho
  cases hb:o_ kid id
  ·rw[hb]at h
   simp only[cond_false]at h
   split at h
   ·rename_i e' sz' k' o u hat hkid hel
    split at h
    ·rename_i L hL
     obtain⟨h1,h2⟩:=aB h
     obtain⟨x,hx,h3⟩:=bo h2
     split at h3
     ·rename_i y hy
      cases h3
      have hsz:=b_ h1
      have hne:kid≠id:=λe=>by rw[e,R_]at hb;cases hb
      obtain⟨p1,p2,p3⟩:=dQ t j (.list u) x L y hy
      have hj:j<(ao t x).cells.length:=by
       have:(ao t x).cells.length=t.sz:=ar t x
       rw[this];simp only[Ty.sz]at p1;omega
      refine⟨?_,λA=>Keeps.map A s _ (V.kill1 kid) (λv hv=>by cases v<;>first|rfl|cases hv) rfl⟩
      have hin:=BI hL
      have hw:=D9 (m:=m) (st:=enc s) (id:=id) (kid:=kid) (i:=i) (j:=j) (k:=kk) (x:=ao t x) (q:=(e',sz',k')) (L:=L.map (ao u)) (by rw[aY,ho];rfl) (by rw[h_,hx];rfl) hj hat (by rw[aY,hkid,hsz,<-hin];rfl) hne
      have hyc:(ao t x).setc j (fk sz' (L.map (ao u)))=ao t y:=by
       have hc1:=ql (x:=ao t x) (y:=fk sz' (L.map (ao u))) hj (su _ _)
       have hl:ap (.list u) L=[fk sz' (L.map (ao u))]:=by rw[hsz];exact(zz u L).1
       have hc2:ap t y=(ap t x).set j (fk sz' (L.map (ao u))):=by
        rw[p2,hl]
        apply aI_
        intro q
        rw[gP _ _ _ (by simp only[H_,av_];show j+1<=(ao t x).cells.length;omega)]
        by_cases hq:q=j
        ·subst hq
         rw[if_pos (by simp),K_ hj]
         simp
        ·rw[if_neg (by simp;omega),x_ (Ne.symm hq)]
       cases hag:t.ag
       ·have h6:(ao t x).isAgg=false:=by rw[gZ];exact hag
        have h7:j=0:=by
         have:(ao t x).cells.length=t.sz:=ar t x
         rw[this,cE hag]at hj;omega
        subst h7
        have h8:(ao t x).setc 0 (fk sz' (L.map (ao u)))=fk sz' (L.map (ao u)):=by
         cases hq:ao t x<;>first|rfl|(rw[hq]at h6;cases h6)
        rw[h8]
        have h9:=hc2
        rw[bZ y hag,bZ x hag]at h9
        simp at h9
        exact h9.symm
       ·rw[ce x hag,ce y hag]
        show PV.agg ((ap t x).set j _)=PV.agg (ap t y)
        rw[hc2]
      rw[hyc]at hw
      have he:enc ⟨(s.moved kid .gone).fr,setAt (s.moved kid .gone).hp id (.tree e kk t (xs.set i y) none)⟩=⟨(enc s).fr.map λx=>(x.1,x.2.kill kid),(((enc s).hp.map (AObj.kill kid)).set kid .gone).set id (.tree e t.sz kk ((xs.map (ao t)).set i (ao t y)) none)⟩:=by
       rw[dL,sd]
       simp only[St.moved]
       congr 2
       show AObj.tree e t.sz kk _ _=_
       rw[M_];rfl
      rw[he]
      exact hw
     ·cases h3
    ·cases h
   ·cases h
  ·rw[hb]at h;cases h
 ·cases h
theorem Fu{m:Nat}{l:Adj}{s s':S}(hw:l.wfB m=true)(h:adj l s=some s'):Weak m (enc s) (enc s')/\∀A,Keeps A s s':=by
 cases l with
 |freeze id=>
  simp only[adj]at h
  split at h
  ·rename_i e t xs ho
   cases h
   refine⟨tt ho (by rw[Cv,aY,ho];rfl) rfl,λA=>Keeps.map A s _ (GG id t xs) (λv hv=>EE hv) rfl⟩
  ·rename_i e k t xs ho
   cases h
   refine⟨tt ho (by rw[Cv,aY,ho];rfl) rfl,λA=>Keeps.map A s _ (GG id t xs) (λv hv=>EE hv) rfl⟩
  ·cases h
 |focus id k j u=>exact Bi h
 |close id=>exact AQ h
 |adopt k e t=>
  simp only[adj]at h
  split at h
  ·rename_i u hk
   cases h
   refine⟨wb (A8 e t) hk,λA j _=>?_⟩
   simp only[lk,c9]
   by_cases hj:j=k
   ·subst hj
    rw[decide_eq_true rfl,hk]
    exact⟨λv hv hd=>(by cases hv;cases hd),λhn=>(by cases hn)⟩
   ·rw[decide_eq_false hj]
    exact⟨λ_ h _=>.inl h,λh=>h⟩
  ·cases h
 |adoptC id j e t=>
  simp only[adj]at h
  split at h
  ·rename_i u cs ho
   split at h
   ·rename_i t' hj
    cases h
    exact⟨tq (A8 e t) ho hj,λA=>Keeps.fr rfl⟩
   ·cases h
  ·cases h
 |adoptT k e kk t=>
  simp only[adj]at h
  split at h
  ·rename_i u hk
   cases h
   refine⟨wb (xI e kk t) hk,λA j _=>?_⟩
   simp only[lk,c9]
   by_cases hj:j=k
   ·subst hj
    rw[decide_eq_true rfl,hk]
    exact⟨λv hv hd=>(by cases hv;cases hd),λhn=>(by cases hn)⟩
   ·rw[decide_eq_false hj]
    exact⟨λ_ h _=>.inl h,λh=>h⟩
  ·cases h
 |adoptCT id j e kk t=>
  simp only[adj]at h
  split at h
  ·rename_i u cs ho
   split at h
   ·rename_i t' hj
    cases h
    exact⟨tq (xI e kk t) ho hj,λA=>Keeps.fr rfl⟩
   ·cases h
  ·cases h
 |sel ids ks=>
  simp only[adj]at h
  split at h
  ·rename_i os fr hos hfr
   obtain⟨h1,h2⟩:=aB h
   cases h2
   simp only[a_,decide_eq_true_eq,j_]at h1
   obtain⟨⟨hnd,hoi⟩,hfi⟩:=h1
   simp only[Adj.wfB,j_,I_]at hw
   obtain⟨q1,q2⟩:=rf hos
   refine⟨Ck ids hnd (λk hk=>?_) (λk y hk=>?_) (by simp[enc,q1]) λj o' hj=>?_,λA=>Keeps.of_map (gJ (V.ren (Bl ids))) (λv hv=>Jk hv) λk=>?_⟩
   ·have:=hw k hk
    split at this
    ·rename_i i hi
     rw[hi,b_ this]
    ·cases this
   ·have hk':Av.look ((fr.map λx=>(x.1,gJ (V.ren (Bl ids)) x.2)).map λx=>(x.1,aE x.2)) k=some y:=hk
    rw[jU,vi]at hk'
    obtain⟨v1,e1,rfl⟩:=f_.1 hk'
    obtain⟨v2,e2,rfl⟩:=f_.1 e1
    refine⟨aE v2,?_,λi hi=>?_,uR _ v2⟩
    ·show Av.look (s.fr.map λx=>(x.1,aE x.2)) k=_
     rw[jU]
     rcases Dh hfr k with e3|e3
     ·rw[<-e3,e2];rfl
     ·rw[e3]at e2;cases e2
    ·rw[<-kh]at hi
     exact allIn_mem.1 (hfi _ (vj e2)) i hi
   ·have hj':((os.map (nX (V.ren (Bl ids)))).map aV)[j]? =some o':=hj
    simp only[h_,f_]at hj'
    obtain⟨_,⟨o,ho,rfl⟩,rfl⟩:=hj'
    obtain⟨i,e1,e2⟩:=q2 j o ho
    refine⟨i,aV o,e1,by rw[aY,e2];rfl,λp hp=>?_,qW _ o⟩
    rw[<-uU]at hp
    exact allIn_mem.1 (hoi o (u_ ho)) p hp
   ·show lk (fr.map λx=>(x.1,gJ (V.ren (Bl ids)) x.2)) k=_\/lk (fr.map λx=>(x.1,gJ (V.ren (Bl ids)) x.2)) k=none
    rw[vi]
    rcases Dh hfr k with e3|e3
    ·exact .inl (by rw[e3])
    ·exact .inr (by rw[e3];rfl)
  ·cases h
 |drop ks=>
  simp only[adj,k_]at h
  subst h
  have hlk:∀(fr:List (Nat×V)) (k:Nat),lk (fr.filter λx=> !gB ks x.1) k=lk fr k\/lk (fr.filter λx=> !gB ks x.1) k=none:=by
   intro fr k
   induction fr with
   |nil=>exact .inl rfl
   |cons x fr ih=>
    obtain⟨j,v⟩:=x
    simp only[A_]
    cases hin:gB ks j
    ·simp only[aS_,if_true,lk,c9]
     by_cases hk:k=j
     ·subst hk;rw[decide_eq_true rfl];exact .inl rfl
     ·rw[decide_eq_false hk];exact ih
    ·simp only[ag_,al_,if_false,lk,c9]
     by_cases hk:k=j
     ·subst hk
      right
      have:∀(l:List (Nat×V)),lk (l.filter λx=> !gB ks x.1) k=none:=by
       intro l
       induction l with
       |nil=>rfl
       |cons y l ihl=>
        obtain⟨i,u⟩:=y
        simp only[A_]
        cases hi:gB ks i
        ·simp only[aS_,if_true,lk,c9]
         by_cases hki:k=i
         ·subst hki;rw[hin]at hi;cases hi
         ·rw[decide_eq_false hki];exact ihl
        ·simp only[ag_,al_,if_false];exact ihl
      exact this fr
     ·rw[decide_eq_false hk];exact ih
  refine⟨(LeS.frame (fr:=s.fr.map λx=>(x.1,aE x.2)) (fr':=(s.fr.filter λx=> !gB ks x.1).map λx=>(x.1,aE x.2)) λk y hk=>?_).weak,λA=>Keeps.of_map (λv=>v) (λ_ _=>rfl) λk=>?_⟩
  ·rw[jU]at hk⊢
   rcases hlk s.fr k with e|e
   ·rw[<-e];exact hk
   ·rw[e]at hk;cases hk
  ·rcases hlk s.fr k with e|e
   ·exact .inl (by show lk (s.fr.filter _) k=_;rw[e];simp)
   ·exact .inr e
theorem IW{R:Type}{a:Adj}{s:S}{κ:S->Option R}{r:R}(h:GN a s κ=some r):∃s',adj a s=some s'/\κ s'=some r:=by
 cases a with
 |focus id k j u=>
  simp only[GN]at h
  split at h
  ·rename_i kk n e k0 t xs hk ho
   split at h
   ·rename_i e' sz' k' hat
    obtain⟨h1,h2⟩:=aB h
    obtain⟨h3,h4⟩:=aT h2
    obtain⟨x,hx,h5⟩:=bo h4
    split at h5
    ·rename_i L hL
     refine⟨_,?_,h5⟩
     simp only[adj,hk,ho,hat,h1,h3,Bool.and_self,cond_true,hx,J_,hL]
    ·cases h5
   ·cases h
  ·cases h
 |close id=>
  simp only[GN]at h
  split at h
  ·rename_i e kk t xs i j kid ho
   cases hb:o_ kid id
   ·rw[hb]at h
    simp only[cond_false]at h
    split at h
    ·rename_i e' sz' k' o u hat hkid hel
     split at h
     ·rename_i L hL
      obtain⟨h1,h2⟩:=aB h
      obtain⟨x,hx,h3⟩:=bo h2
      split at h3
      ·rename_i y hy
       refine⟨_,?_,h3⟩
       simp only[adj,ho,hb,cond_false,hat,hkid,hel,hL,h1,cond_true,hx,J_,hy]
      ·cases h3
     ·cases h
    ·cases h
   ·rw[hb]at h;cases h
  ·cases h
 |_=>
  simp only[GN]at h
  split at h
  ·rename_i s1 h1;exact⟨s1,h1,h⟩
  ·cases h
theorem qH{R:Type}:∀{l:List Adj} {s:S} {κ:S->Option R} {r:R},pJ l s κ=some r->∃s',GP l s=some s'/\κ s'=some r
 |[],s,κ,r,h=>⟨s,rfl,h⟩
 |a::l,s,κ,r,h=>by
  obtain⟨s1,h1,h2⟩:=IW h
  obtain⟨s2,h3,h4⟩:=qH h2
  exact⟨s2,by simp only[GP,h1];exact h3,h4⟩
theorem mg{m:Nat}:∀{l:List Adj} {s s':S},uv m l=true->GP l s=some s'->Weak m (enc s) (enc s')/\∀A,Keeps A s s'
 |[],s,s',_,h=>by cases h;exact⟨Weak.refl _ _,λA=>Keeps.refl A s⟩
 |a::l,s,s',hw,h=>by
  simp only[uv,W_,a_]at hw
  simp only[GP]at h
  split at h
  ·rename_i s1 h1
   obtain⟨e1,e2⟩:=Fu hw.1 h1
   obtain⟨e3,e4⟩:=mg hw.2 h
   exact⟨e1.trans e3,λA=>(e2 A).trans (e4 A)⟩
  ·cases h
structure Ext(a b:St):Prop where
 hp:a.hp=b.hp
 fr:∀k y,Av.look b.fr k=some y->Av.look a.fr k=some y
theorem Ext.refl(a:St):Ext a a:=⟨rfl,λ_ _ h=>h⟩
theorem Ext.weak{m:Nat}{a b:St}(h:Ext a b):Weak m a b:=by
 obtain⟨af,ah⟩:=a
 obtain⟨bf,bh⟩:=b
 obtain⟨h1,h2⟩:=h
 cases h1
 exact(LeS.frame h2).weak
theorem Ext.put{a b:St}(h:Ext a b)(d:Option Nat)(x:AV):Ext (a.putO d x) (b.putO d x):=by
 refine⟨by cases d<;>exact h.hp,λk y hk=>?_⟩
 rw[cF]at hk⊢
 by_cases hd:d=some k
 ·rw[if_pos hd]at hk⊢;exact hk
 ·rw[if_neg hd]at hk⊢;exact h.fr k y hk
theorem Ext.get{a b:St}(h:Ext a b){x:SX}{y:AV}(hx:b.get x=some y):a.get x=some y:=by
 cases x<;>simp only[St.get]at hx⊢
 ·exact h.fr _ _ hx
 all_goals exact hx
theorem Bu{α β:Type}{f g:α->Option β}(h:∀x y,f x=some y->g x=some y):∀{l:List α} {m:List β},l.mapM f=some m->l.mapM g=some m
 |[],m,hm=>hm
 |x::l,m,hm=>by
  simp only[E_,G_,Z_,t_,k_]at hm⊢
  obtain⟨z,h1,m',h2,rfl⟩:=hm
  exact⟨z,h _ _ h1,m',Bu h h2,rfl⟩
theorem Ext.bind{a b:St}(h:Ext a b){x:SX}{K:AV->Prop}(hx:aw (b.get x) K):aw (a.get x) K:=let⟨y,h1,h2⟩:=hx;⟨y,h.get h1,h2⟩
theorem Ext.bnd{a b:St}(h:Ext a b){x:Option SX}{d:Nat}{K:Nat->Prop}(hx:bnd b x d K):bnd a x d K:=by
 cases x with
 |none=>exact hx
 |some x=>exact h.bind hx
theorem Ext.bindM{a b:St}{α β:Type}{f:St->α->Option β}(hf:∀x y,f b x=some y->f a x=some y){l:List α}{K:List β->Prop}(hx:aw (l.mapM (f b)) K):aw (l.mapM (f a)) K:=let⟨y,h1,h2⟩:=hx;⟨y,Bu hf h1,h2⟩
theorem Fe{P:Program}{a b:St}(h:Ext a b){op:SOp}{K:AV->Prop}(hs:eM P b op K):eM P a op K:=by
 have hh:=h.hp
 have getB:∀{β:Type} (g:AV->Option β) (x:SX) (y:β),(b.get x).bind g=some y->(a.get x).bind g=some y:=λg x y hx=>by
  obtain⟨u,h1,h2⟩:=t_.1 hx
  rw[h.get h1];exact h2
 cases op<;>simp only[eM]at hs⊢<;>try rw[hh]
 case mv=>exact h.bind hs
 case pick=>exact ae (h.bind hs) λ_ h1=>aO h1 λ_ h2=>iC h2 λ_ h3=>⟨λe=>h.bind (h3.1 e),λe=>h.bind (h3.2 e)⟩
 case bin=>exact ae (h.bind hs) λ_ h1=>h.bind h1
 case eqB=>exact ae (h.bind hs) λ_ h1=>h.bind h1
 case un=>exact h.bind hs
 case len=>exact h.bind hs
 case lenM=>exact h.bind hs
 case idxS=>exact ae (h.bind hs) λ_ h1=>h.bind h1
 case idxV=>exact ae (h.bind hs) λ_ h1=>h.bind h1
 case idxA=>exact ae (h.bind hs) λ_ h1=>h.bind h1
 case idxP=>exact ae (h.bind hs) λ_ h1=>h.bind h1
 case fldA=>exact h.bind hs
 case fld=>exact h.bind hs
 case load=>exact h.bind hs
 case cvtI=>exact h.bind hs
 case slc=>
  exact ae (h.bind hs) λ_ h1=>ae h1 λ_ ⟨L,h2,h3⟩=>⟨L,h2,iv (h.bnd h3) λ_ h4=>iv (h.bnd h4) λ_ h5=>h.bnd h5⟩
 case slcS=>exact ae (h.bind hs) λ_ h1=>aO h1 λ_ h1=>km h1 λ_ h1=>iv (h.bnd h1) λ_ h1=>h.bnd h1
 case ext=>exact h.bind hs
 case nilc=>exact h.bind hs
 case build=>exact Ext.bindM (f:=λst (q:Nat×Nat×SX)=>(st.get q.2.2).map λa=>(q.1,q.2.1,a)) (λq y hq=>by
  obtain⟨u,h1,h2⟩:=f_.1 hq
  rw[h.get h1,<-h2];rfl) hs
 case call=>exact Ext.bindM (f:=λst x=>(St.get st x).bind (ir b.hp _)) (λq y hq=>getB _ q y hq) hs
 case callp=>exact ae (h.bind hs) λ_ ⟨f,cs,h1,h2,h3⟩=>⟨f,cs,h1,h2,Ext.bindM (f:=λst x=>(St.get st x).bind (ir b.hp _)) (λq y hq=>getB _ q y hq) h3⟩
 case boxD=>exact h.bind hs
 case b2s=>exact h.bind hs
 case bslice own e sz len ps=>
  cases own
  ·exact Ext.bindM (f:=λst x=>(St.get st x).bind AV.toPV) (λq y hq=>getB _ q y hq) hs
  ·exact hs
 case bsliceN=>exact Ext.bindM (f:=λst x=>(St.get st x).bind AV.toPVn) (λq y hq=>getB _ q y hq) hs
 case mkfn=>exact Ext.bindM (f:=λst x=>St.get st x) (λq y hq=>h.get hq) hs
 case lookup=>exact ae (h.bind hs) λ_ h1=>h.bind h1
 case eqT=>exact ae (h.bind hs) λ_ h1=>h.bind h1
 case appD=>exact ae (h.bind hs) λ_ h1=>h.bind h1
 case mnmx=>exact ae (h.bind hs) λ_ h1=>aO h1 λ_ h1=>aX h1 λ_ _ h1=>Ext.bindM (f:=λst x=>St.get st x) (λq y hq=>h.get hq) h1
 case iface=>exact h.bind hs
inductive Sys(P:Program):List SOper->St->St->Prop
 |nil (st:St):Sys P [] st st
 |cons (o:SOper) (l:List SOper) (st st':St) (x:AV) (h:cT P o st x) (k:Sys P l (st.putO o.dst x) st'):Sys P (o::l) st st'
theorem Sys.app{P:Program}{l l':List SOper}{a b c:St}(h:Sys P l a b)(k:Sys P l' b c):Sys P (l++l') a c:=by
 induction h with
 |nil=>exact k
 |cons o l st st' x h _ ih=>exact .cons o _ st c x h (ih k)
theorem Sys.sops{P:Program}{m:Nat}{l L:List SOper}{a b:St}{K KP:St->Prop}(h:Sys P l a b)(k:sops P m L b K KP):sops P m (l++L) a K KP:=by
 induction h with
 |nil=>exact k
 |cons o l st st' x h _ ih=>exact W.mk (jb h (ih k))
theorem Sys.sdraw{P:Program}{m n:Nat}{l L:List SOper}{a b:St}{K KP:St->Prop}(h:Sys P l a b)(k:sdraw P m n L b K KP):sdraw P m (l.length+n) (l++L) a K KP:=by
 induction h with
 |nil=>rw[av_,S_];exact k
 |cons o l st st' x h _ ih=>
  rw[show(o::l).length+n=(l.length+n)+1 by simp only[H_];omega]
  exact⟨x,h,ih k⟩
theorem eJ{P:Program}{m:Nat}{l:List SOper}{a b:St}{K KP:St->Prop}(h:Weak m a b)(k:sops P m l b K KP):sops P m l a K KP:=by
 cases l with
 |nil=>exact W.from h k
 |cons o l=>exact W.from h k
def RC.offB:List Nat->RC->Bool
 |_,.nil=>true
 |A,.op d _ rest=>rest.offB (dc d++A)
 |_,.adj _ _=>false
 |A,.gb t _ blk ty _ _ dst rest=>gB A t&& !gB blk.asg t&&ty.sc&&blk.offB A&&rest.offB (dst::(blk.asg++A))
def RC.gbB:RC->Bool
 | .nil=>true
 | .op _ _ rest=>rest.gbB
 | .adj _ rest=>rest.gbB
 | .gb _ _ blk ty _ _ _ rest=>ty.sc&&blk.offB []&&blk.gbB&&rest.gbB
def Off(st:St)(g:Nat×Bool):Prop:=∃v,Av.look st.fr g.1=some (.v v)/\yv v≠some g.2
theorem vR{P:Program}{st:St}{g:Nat×Bool}(h:Off st g)(d:Option Nat)(op:SOp):cT P ⟨d,op,some g⟩ st (.v undef):=by
 obtain⟨v,h1,h2⟩:=h
 exact⟨_,h1,v,rfl,λe=>absurd e h2,λ_=>rfl⟩
theorem mj(d:Option Nat):(match d with|some d=>[d]|none=>[])=dc d:=by cases d<;>rfl
theorem ua{P:Program}:∀(rc:RC) (g:Nat×Bool) (A:List Nat) (st:St),rc.offB A=true->Off st g->(∀k∈A,Av.look st.fr k=some (.v undef))->g.1∉rc.asg->
 ∃st',Sys P (rc.er (some g)) st st'/\st'.hp=st.hp/\(∀k,k∉rc.asg->Av.look st'.fr k=Av.look st.fr k)/\∀k,(k∈rc.asg\/k∈A)->Av.look st'.fr k=some (.v undef)
 | .nil,g,A,st,_,_,hA,_=>⟨st,.nil st,rfl,λ_ _=>rfl,λk hk=>hA k (hk.resolve_left (by simp[RC.asg]))⟩
 | .op d o rest,g,A,st,hw,hg,hA,hd=>by
  simp only[RC.offB]at hw
  simp only[RC.asg,mj,c_,not_or]at hd
  have hlk:∀k,Av.look (st.putO d (.v undef)).fr k=if d=some k then some (.v undef)else Av.look st.fr k:=λk=>cF st d _ k
  have hmem:∀k,d=some k↔k∈dc d:=λk=>by
   cases d with
   |none=>simp[dc]
   |some j=>simp only[dc,k_,p_];exact eq_comm
  obtain⟨st',h1,h2,h3,h4⟩:=ua rest g (dc d++A) (st.putO d (.v undef)) hw (by
   obtain⟨v,e1,e2⟩:=hg
   refine⟨v,?_,e2⟩
   rw[hlk,if_neg λe=>hd.1 ((hmem _).1 e)];exact e1) (λk hk=>by
   rw[hlk]
   by_cases hdk:d=some k
   ·rw[if_pos hdk]
   ·rw[if_neg hdk]
    exact hA k ((c_.1 hk).resolve_left λe=>hdk ((hmem k).2 e))) hd.2
  refine⟨st',.cons _ _ st st' (.v undef) (vR hg d o.er) h1,by rw[h2];cases d<;>rfl,λk hk=>?_,λk hk=>?_⟩
  ·simp only[RC.asg,mj,c_,not_or]at hk
   rw[h3 k hk.2,hlk,if_neg λe=>hk.1 ((hmem _).1 e)]
  ·simp only[RC.asg,mj,c_]at hk
   refine h4 k ?_
   simp only[c_]
   rcases hk with(hk|hk)|hk
   ·exact .inr (.inl hk)
   ·exact .inl hk
   ·exact .inr (.inr hk)
 | .adj _ _,_,_,_,hw,_,_,_=>by cases hw
 | .gb t want blk ty r alt dst rest,g,A,st,hw,hg,hA,hd=>by
  simp only[RC.offB,a_,y_]at hw
  obtain⟨⟨⟨⟨w1,w2⟩,w3⟩,w4⟩,w5⟩:=hw
  have ht:t∈A:=inL_mem.1 w1
  have ht2:t∉blk.asg:=λe=>by rw[inL_mem.2 e]at w2;cases w2
  simp only[RC.asg,c_,v_,not_or]at hd
  obtain⟨st1,h1,h2,h3,h4⟩:=ua blk (t,want) A st w4 ⟨undef,hA t ht,by intro e;cases e⟩ hA ht2
  have hg1:Off st1 g:=by
   obtain⟨v,e1,e2⟩:=hg
   exact⟨v,by rw[h3 _ hd.1];exact e1,e2⟩
  have hlk:∀k,Av.look (st1.putO (some dst) (.v undef)).fr k=if some dst=some k then some (.v undef)else Av.look st1.fr k:=λk=>cF st1 (some dst) _ k
  obtain⟨st',k1,k2,k3,k4⟩:=ua rest g (dst::(blk.asg++A)) (st1.putO (some dst) (.v undef)) w5 (by
   obtain⟨v,e1,e2⟩:=hg1
   refine⟨v,?_,e2⟩
   rw[hlk,if_neg λe=>hd.2.1 (w_ e).symm];exact e1) (λk hk=>by
   rw[hlk]
   by_cases hdk:some dst=some k
   ·rw[if_pos hdk]
   ·rw[if_neg hdk]
    refine h4 k ?_
    rcases v_.1 hk with rfl|hk
    ·exact absurd rfl hdk
    ·exact(c_.1 hk)) hd.2.2
  refine⟨st',h1.app (.cons _ _ _ st' (.v undef) (vR hg1 _ _) k1),by rw[k2];exact h2,λk hk=>?_,λk hk=>?_⟩
  ·simp only[RC.asg,c_,v_,not_or]at hk
   rw[k3 k hk.2.2,hlk,if_neg λe=>hk.2.1 (w_ e).symm,h3 k hk.1]
  ·simp only[RC.asg,c_,v_]at hk
   refine k4 k ?_
   simp only[c_,v_]
   rcases hk with(hk|rfl|hk)|hk
   ·exact .inr (.inr (.inl hk))
   ·exact .inr (.inl rfl)
   ·exact .inl hk
   ·exact .inr (.inr (.inr hk))
theorem Er{t:Ty}{v:V}{x:t.den}(ht:t.sc=true)(h:bQ t v=some x):v= .d t x:=by
 cases v with
 |d u y=>obtain⟨rfl,rfl⟩:=aW (show bc u t y=some x from h);rfl
 |nil u=>obtain⟨rfl,_⟩:=aW (show bc (.list u) t []=some x from h);cases ht
 |full u y=>obtain⟨rfl,_⟩:=aW (show bc (.list u) t y=some x from h);cases ht
 |agg vs=>unfold bQ at h;cases t<;>first|(cases ht;done)|cases h
 |_=>simp[bQ,ec]at h
section
variable {P:Program} {O:aj}
def MG(g:Option (Nat×Bool))(s:S)(A:List Nat):Prop:=match g with
 |none=>True
 |some (t,want)=>lk s.fr t=some (.d .bool want)/\t∉A
theorem bk(s:S)(k:Nat):Av.look (enc s).fr k=(lk s.fr k).map aE:=jU s.fr k
theorem Gt{g:Option (Nat×Bool)}{s:S}{A:List Nat}{st:St}(hg:MG g s A)(he:Ext st (enc s)){d:Option Nat}{op:SOp}{x:AV}(h:eM P st op λy=>y=x):cT P ⟨d,op,g⟩ st x:=by
 cases g with
 |none=>exact h
 |some g=>
  obtain⟨t,want⟩:=g
  have:Av.look st.fr t=some (.v (.bool want)):=he.fr t _ (by rw[bk,hg.1];rfl)
  exact⟨_,this,_,rfl,λ_=>h,λe=>absurd rfl e⟩
theorem qd(s:S)(d:Option Nat)(v:V)(k:Nat):lk (s.putO d v).fr k=if d=some k then some v else lk s.fr k:=by
 cases d with
 |none=>simp[S.putO]
 |some j=>
  show(bif o_ k j then some v else lk s.fr k)=_
  rw[c9]
  by_cases h:k=j
  ·subst h;simp
  ·rw[decide_eq_false h,if_neg λe=>h (w_ e).symm];rfl
theorem mem_dstL{d:Option Nat}{k:Nat}:d=some k↔k∈dc d:=by
 cases d with
 |none=>simp[dc]
 |some j=>simp only[dc,k_,p_];exact eq_comm
theorem zD(hO:OracleOk P O):∀(rc:RC) (R:Type) (s:S) (κ kp:S->Option R) (r:R) (g:Option (Nat×Bool)) (st:St),rc.wf P=true->rc.pureB=true->rc.gbB=true->tU O R rc s κ kp=some r->Ext st (enc s)->MG g s rc.asg->
 ∃s' st',Sys P (rc.er g) st st'/\Ext st' (enc s')/\κ s'=some r/\s'.hp=s.hp/\∀k,k∉rc.asg->lk s'.fr k=lk s.fr k
 | .nil,R,s,κ,kp,r,g,st,_,_,_,h,he,_=>⟨s,st,.nil st,he,h,rfl,λ_ _=>rfl⟩
 | .adj _ _,_,_,_,_,_,_,_,_,hp,_,_,_,_=>by cases hp
 | .op d o rest,R,s,κ,kp,r,g,st,hw,hp,hb,h,he,hg=>by
  simp only[RC.wf,a_]at hw
  simp only[RC.pureB,a_]at hp
  simp only[RC.gbB]at hb
  obtain⟨v,h1,h2⟩:=lS hO hw.1 hp.1 h
  obtain⟨s',st',k1,k2,k3,k4,k5⟩:=zD hO rest R (s.putO d v) κ kp r g (st.putO d (aE v)) hw.2 hp.2 hb h2 (by rw[dA];exact he.put d _) (by
   cases g with
   |none=>trivial
   |some g=>
    obtain⟨t,want⟩:=g
    obtain⟨g1,g2⟩:=hg
    simp only[RC.asg,mj,c_,not_or]at g2
    exact⟨by rw[qd,if_neg λe=>g2.1 (mem_dstL.1 e)];exact g1,g2.2⟩)
  refine⟨s',st',.cons _ _ st st' _ (Gt hg he (Fe he h1)) k1,k2,k3,by rw[k4];cases d<;>rfl,λk hk=>?_⟩
  simp only[RC.asg,mj,c_,not_or]at hk
  rw[k5 k hk.2,qd,if_neg λe=>hk.1 (mem_dstL.1 e)]
 | .gb t want blk ty rr alt dst rest,R,s,κ,kp,r,g,st,hw,hp,hb,h,he,hg=>by
  simp only[RC.wf,a_]at hw
  obtain⟨⟨⟨⟨w1,w2⟩,w3⟩,w4⟩,w5⟩:=hw
  simp only[RC.pureB,a_]at hp
  simp only[RC.gbB,a_]at hb
  obtain⟨⟨⟨b1,b2⟩,b3⟩,b4⟩:=hb
  simp only[tU]at h
  split at h
  ·rename_i b va hlt halt
   split at h
   ·rename_i av hav
    obtain⟨hnone,hav⟩:=aB hav
    have hva:=Er b1 hav
    subst hva
    simp only[j_,T_]at hnone
    have ht:t∉blk.asg:=λe=>by rw[hnone t e]at hlt;cases hlt
    obtain⟨c,hc,h2⟩:=bo h
    have hgt:Av.look st.fr t=some (.v (.bool b)):=he.fr t _ (by rw[bk,hlt];rfl)
    have blkS:∃st1,Sys P (blk.er (some (t,want))) st st1/\st1.hp=st.hp/\(∀k,lk s.fr k≠none->∀y,Av.look (enc s).fr k=some y->Av.look st1.fr k=some y)/\
     eM P st1 (vz t want rr.er alt.er) λy=>y=aE (.d ty c):=by
     have pickS:∀(st1:St) (x y:SX),Av.look st1.fr t=some (.v (.bool b))->(b=true->st1.get x=some (aE (.d ty c)))->(b=false->st1.get y=some (aE (.d ty c)))->eM P st1 (.pick (.tm t) x y) λy=>y=aE (.d ty c):=
      λst1 x y e1 e2 e3=>⟨_,e1,_,rfl,b,rfl,λe=>⟨_,e2 e,rfl⟩,λe=>⟨_,e3 e,rfl⟩⟩
     have on:b=want->tU O ty.den blk s (λs'=>match s'.get rr with|some v=>bQ ty v|none=>none) (λ_=>none)=some c->(∃st1,Sys P (blk.er (some (t,want))) st st1/\st1.hp=st.hp/\(∀k,lk s.fr k≠none->∀y,Av.look (enc s).fr k=some y->Av.look st1.fr k=some y)/\
      eM P st1 (vz t want rr.er alt.er) λy=>y=aE (.d ty c)):=λhbw hev=>by
      obtain⟨s1,st1,k1,k2,k3,k4,k5⟩:=zD hO blk ty.den s _ _ c (some (t,want)) st w1 w2 b3 hev he ⟨by rw[<-hbw];exact hlt,ht⟩
      split at k3
      ·rename_i v hv
       have:=Er b1 k3
       subst this
       have e1:Av.look st1.fr t=some (.v (.bool b)):=k2.fr t _ (by rw[bk,k5 t ht,hlt];rfl)
       have e2:st1.get rr.er=some (aE (.d ty c)):=k2.get (ak w3 hv)
       refine⟨st1,k1,by rw[k2.hp,he.hp];simp only[enc,k4],λk hk y hy=>k2.fr k y ?_,?_⟩
       ·rw[bk,k5 k λe=>hk (hnone k e),<-bk];exact hy
       ·cases want with
        |true=>exact pickS st1 _ _ e1 (λ_=>e2) λe=>by rw[hbw]at e;cases e
        |false=>exact pickS st1 _ _ e1 (λe=>by rw[hbw]at e;cases e) λ_=>e2
      ·cases k3
     have off:b≠want->av=c->(∃st1,Sys P (blk.er (some (t,want))) st st1/\st1.hp=st.hp/\(∀k,lk s.fr k≠none->∀y,Av.look (enc s).fr k=some y->Av.look st1.fr k=some y)/\
      eM P st1 (vz t want rr.er alt.er) λy=>y=aE (.d ty c)):=λhbw hac=>by
      subst hac
      obtain⟨st1,k1,k2,k3,_⟩:=ua (P:=P) blk (t,want) [] st b2 ⟨_,hgt,λe=>hbw (w_ e)⟩ (λk hk=>by cases hk) ht
      have e1:Av.look st1.fr t=some (.v (.bool b)):=by rw[k3 t ht];exact hgt
      have keepk:∀k,lk s.fr k≠none->∀y,Av.look (enc s).fr k=some y->Av.look st1.fr k=some y:=λk hk y hy=>by
       rw[k3 k λe=>hk (hnone k e)];exact he.fr k y hy
      have e2:st1.get alt.er=some (aE (.d ty av)):=by
       have:=ak w4 halt
       cases alt with
       |tm k=>
        have h0:lk s.fr k=some (.d ty av):=halt
        exact keepk k (by rw[h0];simp) _ this
       |_=>exact this
      refine⟨st1,k1,k2,keepk,?_⟩
      cases want with
      |true=>exact pickS st1 _ _ e1 (λe=>absurd e hbw) λ_=>e2
      |false=>exact pickS st1 _ _ e1 (λ_=>e2) λe=>absurd e hbw
     cases want with
     |true=>
      cases b with
      |true=>exact on rfl hc
      |false=>exact off (by simp) (w_ hc)
     |false=>
      cases b with
      |true=>exact off (by simp) (w_ hc)
      |false=>exact on rfl hc
    obtain⟨st1,q1,q2,q3,q4⟩:=blkS
    have hgdst:∀t' want',g=some (t',want')->lk s.fr t'=some (.d .bool want')/\t'∉blk.asg/\t'≠dst/\t'∉rest.asg:=λt' want' e=>by
     subst e
     obtain⟨g1,g2⟩:=hg
     simp only[RC.asg,c_,v_,not_or]at g2
     exact⟨g1,g2.1,g2.2.1,g2.2.2⟩
    have hyd:cT P ⟨some dst,(vz t want rr.er alt.er),g⟩ st1 (aE (.d ty c)):=by
     cases g with
     |none=>exact q4
     |some g=>
      obtain⟨t',want'⟩:=g
      obtain⟨e1,_⟩:=hgdst t' want' rfl
      have:Av.look st1.fr t'=some (.v (.bool want')):=q3 t' (by rw[e1];simp) _ (by rw[bk,e1];rfl)
      exact⟨_,this,_,rfl,λ_=>q4,λe=>absurd rfl e⟩
    have hext:Ext (st1.putO (some dst) (aE (.d ty c))) (enc (s.put dst (.d ty c))):=by
     refine⟨by show st1.hp=(enc s).hp;rw[q2,he.hp],λk y hk=>?_⟩
     rw[cF]
     rw[bk]at hk
     have e:=qd s (some dst) (.d ty c) k
     rw[show s.putO (some dst) (.d ty c)=s.put dst (.d ty c)from rfl]at e
     rw[e]at hk
     by_cases hd:some dst=some k
     ·rw[if_pos hd]at hk⊢;exact hk
     ·rw[if_neg hd]at hk⊢
      refine q3 k (λe0=>by rw[e0]at hk;cases hk) y ?_
      rw[bk];exact hk
    have hlkp:∀k,lk (s.put dst (.d ty c)).fr k=if some dst=some k then some (.d ty c)else lk s.fr k:=λk=>qd s (some dst) (.d ty c) k
    obtain⟨s',st',k1,k2,k3,k4,k5⟩:=zD hO rest R (s.put dst (.d ty c)) κ kp r g _ w5 hp.2 b4 h2 hext (by
     cases g with
     |none=>trivial
     |some g=>
      obtain⟨t',want'⟩:=g
      obtain⟨e1,e2,e3,e4⟩:=hgdst t' want' rfl
      exact⟨by rw[hlkp,if_neg λe=>e3 (w_ e).symm];exact e1,e4⟩)
    refine⟨s',st',q1.app (.cons _ _ _ st' _ hyd k1),k2,k3,k4,λk hk=>?_⟩
    simp only[RC.asg,c_,v_,not_or]at hk
    rw[k5 k hk.2.2,hlkp,if_neg λe=>hk.2.1 (w_ e).symm]
   ·cases h
  ·cases h
def RC.adjW(m:Nat):RC->Bool
 | .nil=>true
 | .op _ _ rest=>rest.adjW m
 | .adj l rest=>uv m l&&rest.adjW m
 | .gb _ _ _ _ _ _ _ rest=>rest.adjW m
theorem zy{A:List Nat}{s s':S}(h:∀k,k∉A->lk s'.fr k=lk s.fr k):Keeps A s s':=λk hk=>by
 rw[h k hk];exact⟨λ_ h _=>.inl h,λh=>h⟩
theorem zj:∀(rc:RC) (g g':Option (Nat×Bool)),(rc.er g).length=(rc.er g').length
 | .nil,_,_=>rfl
 | .op d o rest,g,g'=>by simp only[RC.er,H_,zj rest g g']
 | .adj _ rest,g,g'=>by simp only[RC.er,zj rest g g']
 | .gb t want blk ty r alt dst rest,g,g'=>by simp only[RC.er,aa_,H_,zj rest g g']
theorem Hn(hO:OracleOk P O){t:Nat}{want:Bool}{blk rest:RC}{ty:Ty}{rr alt:X}{dst:Nat}{R:Type}{s:S}{κ kp:S->Option R}{r:R}{st:St}(hw:(RC.gb t want blk ty rr alt dst rest).wf P=true)(hb:(RC.gb t want blk ty rr alt dst rest).gbB=true)
 (h:tU O R (.gb t want blk ty rr alt dst rest) s κ kp=some r) (he:Ext st (enc s)):∃s' st',Sys P (blk.er (some (t,want))++[⟨some dst,(vz t want rr.er alt.er),none⟩]) st st'/\
  Ext st' (enc s')/\tU O R rest s' κ kp=some r/\Keeps (blk.asg++[dst]) s s':=by
 simp only[RC.wf,a_]at hw
 simp only[RC.gbB,a_]at hb
 obtain⟨s',st',k1,k2,k3,k4,k5⟩:=zD hO (.gb t want blk ty rr alt dst .nil) R s (λs'=>tU O R rest s' κ kp) kp r none st
  (by simp only[RC.wf,hw.1.1.1.1,hw.1.1.1.2,hw.1.1.2,hw.1.2];rfl) (by simp only[RC.pureB,hw.1.1.1.2];rfl) (by simp only[RC.gbB,hb.1.1.1,hb.1.1.2,hb.1.2];rfl) h he trivial
 exact⟨s',st',k1,k2,k3,zy k5⟩
theorem ey(hO:OracleOk P O){m:Nat}:∀(rc:RC) (R:Type) (s:S) (κ kp:S->Option R) (r:R) (K KP:St->Prop),rc.wf P=true->rc.gbB=true->rc.adjW m=true->tU O R rc s κ kp=some r->
 (∀s',Keeps rc.asg s s'->κ s'=some r->W m K (enc s'))->(∀s',Keeps rc.asg s s'->kp s'=some r->KP (enc s'))->sops P m (rc.er none) (enc s) K KP
 | .nil,R,s,κ,kp,r,K,KP,_,_,_,h,hκ,_=>hκ s (Keeps.refl _ _) h
 | .adj l rest,R,s,κ,kp,r,K,KP,hw,hb,ha,h,hκ,hkp=>by
  simp only[tU]at h
  simp only[RC.adjW,a_]at ha
  obtain⟨s1,hs1,h⟩:=qH h
  ·obtain⟨e1,e2⟩:=mg ha.1 hs1
   exact eJ e1 (ey hO rest R s1 κ kp r K KP hw hb ha.2 h (λs' hk hh=>hκ s' ((e2 _).trans hk) hh) λs' hk hh=>hkp s' ((e2 _).trans hk) hh)
 | .op d o rest,R,s,κ,kp,r,K,KP,hw,hb,ha,h,hκ,hkp=>by
  simp only[RC.wf,a_]at hw
  refine W.mk ?_
  simp only[et]
  have hasg:∀k,k∈dc d\/k∈rest.asg->k∈(RC.op d o rest).asg:=λk hk=>by
   simp only[RC.asg,mj,c_];exact hk
  refine gO (uX hO hw.1 h) (λst' ⟨s1,h1,h2,h3⟩=>?_) λst' ⟨s1,h1,h2,h3⟩=>?_
  ·have h2':=h2.sub (B:=(RC.op d o rest).asg) λk hk=>hasg k (.inl hk)
   exact eJ h1.weak (ey hO rest R s1 κ kp r K KP hw.2 hb ha h3 (λs' hk hh=>hκ s' (h2'.trans (hk.sub λk hk=>hasg k (.inr hk))) hh) λs' hk hh=>hkp s' (h2'.trans (hk.sub λk hk=>hasg k (.inr hk))) hh)
  ·rw[h1]
   exact hkp s1 (h2.sub λk hk=>hasg k (.inl hk)) h3
 | .gb t want blk ty rr alt dst rest,R,s,κ,kp,r,K,KP,hw,hb,ha,h,hκ,hkp=>by
  obtain⟨s1,st1,k1,k2,k3,k4⟩:=Hn hO hw hb h (Ext.refl _)
  simp only[RC.wf,a_]at hw
  simp only[RC.gbB,a_]at hb
  have hasg:∀k,k∈blk.asg++[dst]\/k∈rest.asg->k∈(RC.gb t want blk ty rr alt dst rest).asg:=λk hk=>by
   simp only[RC.asg,c_,v_,aM_,or_false]at hk⊢
   rcases hk with(hk|hk)|hk
   ·exact .inl hk
   ·exact .inr (.inl hk)
   ·exact .inr (.inr hk)
  have k4':=k4.sub (B:=(RC.gb t want blk ty rr alt dst rest).asg) λk hk=>hasg k (.inl hk)
  have:=k1.sops (L:=rest.er none) (eJ k2.weak (ey hO rest R s1 κ kp r K KP hw.2 hb.2 ha k3 (λs' hk hh=>hκ s' (k4'.trans (hk.sub λk hk=>hasg k (.inr hk))) hh) λs' hk hh=>hkp s' (k4'.trans (hk.sub λk hk=>hasg k (.inr hk))) hh))
  rw[D_]at this
  exact this
def RC.drB:Nat->RC->Bool
 |0,_=>true
 |k+1,.op _ o rest=>o.pureB&&rest.drB k
 |k+1,.gb _ _ blk _ _ _ _ rest=>aC_ (blk.er none).length k&&rest.drB (k - (blk.er none).length)
 |_,_=>false
theorem FK(hO:OracleOk P O){m:Nat}:∀(rc:RC) (k:Nat) (R:Type) (s:S) (κ kp:S->Option R) (r:R) (K KP:St->Prop) (st:St),rc.drB k=true->rc.wf P=true->rc.gbB=true->rc.adjW m=true->tU O R rc s κ kp=some r->Ext st (enc s)->
 (∀s',Keeps rc.asg s s'->κ s'=some r->W m K (enc s'))->(∀s',Keeps rc.asg s s'->kp s'=some r->KP (enc s'))->sdraw P m k (rc.er none) st K KP:=by
 intro rc
 induction rc with
 |nil=>
  intro k R s κ kp r K KP st hd hw hb ha h he hκ hkp
  cases k with
  |zero=>exact eJ he.weak (ey hO .nil R s κ kp r K KP hw hb ha h hκ hkp)
  |succ k=>cases hd
 |adj l rest _=>
  intro k R s κ kp r K KP st hd hw hb ha h he hκ hkp
  cases k with
  |zero=>
   have:=eJ he.weak (ey hO (.adj l rest) R s κ kp r K KP hw hb ha h hκ hkp)
   generalize RC.er none (RC.adj l rest)=L at this⊢
   cases L<;>exact this
  |succ k=>cases hd
 |op d o rest ih=>
  intro k R s κ kp r K KP st hd hw hb ha h he hκ hkp
  cases k with
  |zero=>exact eJ he.weak (ey hO (.op d o rest) R s κ kp r K KP hw hb ha h hκ hkp)
  |succ k=>
   simp only[RC.drB,a_]at hd
   simp only[RC.wf,a_]at hw
   have hasg:∀k,k∈dc d\/k∈rest.asg->k∈(RC.op d o rest).asg:=λk hk=>by
    simp only[RC.asg,mj,c_];exact hk
   obtain⟨v,h1,h2⟩:=lS hO hw.1 hd.1 h
   have hk0:=(Keeps.put s d v).sub (B:=(RC.op d o rest).asg) λk hk=>hasg k (.inl hk)
   exact⟨aE v,Fe he h1,ih k R (s.putO d v) κ kp r K KP _ hd.2 hw.2 hb ha h2 (by rw[dA];exact he.put d _) (λs' hk hh=>hκ s' (hk0.trans (hk.sub λk hk=>hasg k (.inr hk))) hh) λs' hk hh=>hkp s' (hk0.trans (hk.sub λk hk=>hasg k (.inr hk))) hh⟩
 |gb t want blk ty rr alt dst rest _ ih=>
  intro k R s κ kp r K KP st hd hw hb ha h he hκ hkp
  cases k with
  |zero=>
   have:=eJ he.weak (ey hO (.gb t want blk ty rr alt dst rest) R s κ kp r K KP hw hb ha h hκ hkp)
   generalize RC.er none (RC.gb t want blk ty rr alt dst rest)=L at this⊢
   cases L<;>exact this
  |succ k=>
   simp only[RC.drB,a_]at hd
   have hle:=g_ hd.1
   obtain⟨s1,st1,k1,k2,k3,k4⟩:=Hn hO hw hb h he
   simp only[RC.wf,a_]at hw
   simp only[RC.gbB,a_]at hb
   have hasg:∀k,k∈blk.asg++[dst]\/k∈rest.asg->k∈(RC.gb t want blk ty rr alt dst rest).asg:=λk hk=>by
    simp only[RC.asg,c_,v_,aM_,or_false]at hk⊢
    rcases hk with(hk|hk)|hk
    ·exact .inl hk
    ·exact .inr (.inl hk)
    ·exact .inr (.inr hk)
   have k4':=k4.sub (B:=(RC.gb t want blk ty rr alt dst rest).asg) λk hk=>hasg k (.inl hk)
   have hl:=zj blk (some (t,want)) none
   have:=k1.sdraw (L:=rest.er none) (n:=k - (blk.er none).length) (ih _ R s1 κ kp r K KP st1 hd.2 hw.2 hb.2 ha k3 k2 (λs' hk hh=>hκ s' (k4'.trans (hk.sub λk hk=>hasg k (.inr hk))) hh) λs' hk hh=>hkp s' (k4'.trans (hk.sub λk hk=>hasg k (.inr hk))) hh)
   rw[D_]at this
   rw[show(blk.er (some (t,want))++[(⟨some dst,vz t want rr.er alt.er,none⟩:SOper)]).length+(k - (blk.er none).length)=k+1 by
    rw[aa_,hl,List.length_singleton];omega]at this
   exact this
end
theorem inL_iff{l:List Nat}{x:Nat}:gB l x=true↔x∈l:=by
 unfold gB
 simp only[List.any_eq_true]
 exact⟨fun⟨y,h1,h2⟩=>(b_ h2)▸h1,λh=>⟨x,h,R_ x⟩⟩
theorem sx{l:List Nat}{x:Nat}(h:(!gB l x)=true):x∉l:=λhx=>by
 rw[inL_iff.2 hx]at h;cases h
theorem r9(v:V):v.kids1=(aC v).kids:=by
 cases v<;>try rfl
 rename_i c
 have h0:∀i,i∉(aC (.raw c)).kids:=λi hi=>by
  have:=BV.kids_ids hi
  rw[show(aC (.raw c)).ids=[]from pZ c]at this
  cases this
 exact(List.eq_nil_iff_forall_not_mem.2 h0).symm
theorem vf(vs:List V):vs.flatMap V.kids1=(vs.map aC).flatMap BV.kids:=by
 induction vs with
 |nil=>rfl
 |cons v vs ih=>simp only[ad_,m_,ih,r9]
theorem oI(v:V):v.kids=(aE v).kids:=by
 cases hv:v.isA
 ·rw[gH hv]
  have:v.kids=v.kids1:=by cases v<;>first|rfl|cases hv
  rw[this]
  exact r9 v
 ·cases v with
  |agg vs=>exact vf vs
  |tup vs=>exact vf vs
  |_=>cases hv
theorem sb(o:Ob):o.kids=(aV o).kids:=by
 cases o with
 |box t cs=>exact vf cs
 |tree e k t xs h=>
  cases h with
  |none=>rfl
  |some q=>obtain⟨i,j,v⟩:=q;exact r9 v
 |_=>rfl
theorem oT(s:S)(p:PO):touch (enc s) p.so=Ac s p.so.rd p.o.er.lent:=by
 unfold touch Ac
 congr 1
 refine nW λk _=>?_
 rw[bk]
 cases lk s.fr k with
 |none=>rfl
 |some v=>exact(kh v).symm
theorem er_hf{o:TOp}:o.er.hf=true↔∃x,o= .mv x:=by
 cases o<;>simp[TOp.er,SOp.hf]
theorem vY(s:S)(p:PO)(h2:p.rd=p.so.rd)(h3:p.lent=p.o.er.lent):kD s p=(match p.b with|true=>b9 (enc s) p.so|false=>touch (enc s) p.so):=by
 unfold kD
 cases hb:p.b with
 |false=>simp only;rw[oT,h2,h3]
 |true=>
  simp only[b9]
  by_cases hm:(∃x,p.o= .mv x)/\p.g=none
  ·obtain⟨⟨x,hx⟩,hg⟩:=hm
   rw[hx,hg]
   have:p.so.op.hf=true/\p.so.gd=none:=⟨by show p.o.er.hf=true;rw[hx];rfl,hg⟩
   rw[if_pos this]
  ·have:¬(p.so.op.hf=true/\p.so.gd=none):=λh=>hm ⟨er_hf.1 h.1,h.2⟩
   rw[if_neg this,oT,h2,h3]
   split
   ·rename_i x _ hx hg;exact absurd ⟨⟨x,hx⟩,hg⟩ hm
   ·rfl
theorem Ep{r:Av.Rec}{T:List Nat}{p:PO}(h:G7 r T p.so.rd p.o.er.lent p.d p.b=true):comm r T p.so p.b:=by
 unfold G7 at h
 simp only[a_]at h
 obtain⟨⟨⟨h1,h2⟩,h3⟩,h4⟩:=h
 refine⟨λt ht=>?_,λt ht=>?_,λt ht=>?_,λhb t ht=>?_,λhb=>?_⟩
 ·rw[ht]at h1
  simp only[a_]at h1
  refine⟨sx h1.1,λe=>?_⟩
  have e':p.d=some t:=e
  rw[e']at h1
  have:=h1.2
  simp only[R_]at this
  cases this
 ·have e':p.d=some t:=ht
  rw[e']at h2
  exact sx h2
 ·rw[ht]at h3
  exact sx h3
 ·rw[hb]at h4
  exact sx (j_.1 h4 t ht)
 ·rw[hb]at h4
  simp only[a_]at h4
  exact⟨T_.1 h4.1,λi hi=>sx (j_.1 h4.2 i hi)⟩
def PO.wf(P:Program)(p:PO):Bool:=p.o.wf P&&decide (p.rd=p.so.rd)&&decide (p.lent=p.o.er.lent)&&(match p.b with
 |true=>p.d.isSome&&(p.o.pureB||(p.o.isAt&&p.g.isNone))
 |false=>p.o.exB)
def JN(anc:List (List Nat)):List PO->Bool
 |[]=>true
 |p::l=>l.all (λq=>(anc.getD q.j []).contains p.j||gB q.us p.j)&&JN anc l
def ke(l:List PO):List Nat:=l.flatMap λp=>match p.d with|some d=>[d]|none=>[]
section
variable {R:Type} {P:Program} {O:aj}
theorem od{s:S}{t:Nat}{v:V}(h:lk s.fr t=some v)(k:Nat):lk (s.put t v).fr k=lk s.fr k:=by
 show lk ((t,v)::s.fr) k=_
 simp only[lk]
 cases hb:o_ k t
 ·rfl
 ·have:=b_ hb
  subst this
  exact h.symm
theorem uc{s:S}{t:Nat}{v:V}(h:lk s.fr t=some v):Eqs (enc (s.put t v)) (enc s):=⟨rfl,λk=>by rw[bk,bk,od h]⟩
theorem j4{s:S}{t:Nat}{v:V}(h:lk s.fr t=some v)(A:List Nat):Keeps A s (s.put t v):=λk _=>by
 rw[od h]
 exact⟨λv hv _=>.inl hv,λhn=>hn⟩
def L6(F:List Nat)(ld:Option (Ty×Nat×Nat×V))(hp:List AObj):Prop:=∃t id off v,ld=some (t,id,off,v)/\∃s':S,hp=s'.hp.map aV/\(∀j∈xP s' id,j∈F)/\BP s'.hp t id off=some v
def Dr(a:RecV):Av.Rec×(List AObj->Prop):=(a.r,L6 a.r.F a.ld)
theorem Iu{k:Option R}{r:R}{v v':V}(h:It k v v'=some r):v=v'/\k=some r:=by
 unfold It at h
 split at h
 ·rename_i t x u y
  split at h
  ·rename_i z hz
   obtain⟨h1,h2⟩:=aB h
   obtain⟨h3,h4⟩:=aB h2
   have:=zh t x z h1 h3
   subst this
   unfold bc at hz
   split at hz
   ·rename_i e
    subst e
    cases hz
    exact⟨rfl,h4⟩
   ·cases hz
  ·cases h
 ·rename_i i o j q
  obtain⟨h1,h2⟩:=aB h
  simp only[a_]at h1
  rw[b_ h1.1,b_ h1.2]
  exact⟨rfl,h2⟩
 ·cases h
theorem oQ{T us:List Nat}{s':S}{k:Option R}{r:R}:∀{A:List RecV},LP T us s' k A=some r->k=some r/\∀a∈A,gB us a.r.i=true->(∀i∈T,i∉a.r.F)\/L6 a.r.F a.ld (s'.hp.map aV)
 |[],h=>⟨h,λa ha=>by cases ha⟩
 |a::A,h=>by
  unfold LP at h
  cases hc:(!gB us a.r.i||T.all (λt=> !gB a.r.F t))
  ·rw[hc]at h
   simp only[cond_false]at h
   split at h
   ·rename_i t id off v hl
    split at h
    ·rename_i v' hv
     obtain⟨h1,h2⟩:=aB h
     obtain⟨rfl,h3⟩:=Iu h2
     obtain⟨h4,h5⟩:=oQ h3
     refine⟨h4,λb hb hu=>?_⟩
     rcases v_.1 hb with rfl|hb
     ·exact .inr ⟨t,id,off,v,hl,s',rfl,λj hj=>inL_iff.1 (j_.1 h1 j hj),hv⟩
     ·exact h5 b hb hu
    ·cases h
   ·cases h
  ·rw[hc]at h
   simp only[cond_true]at h
   obtain⟨h4,h5⟩:=oQ h
   refine⟨h4,λb hb hu=>?_⟩
   rcases v_.1 hb with rfl|hb
   ·simp only[hu,ag_,aE_]at hc
    exact .inl λi hi=>sx (j_.1 hc i hi)
   ·exact h5 b hb hu
theorem Ky(s:S)(hp:List Ob)(x:X):S.get ⟨s.fr,hp⟩ x=s.get x:=by cases x<;>rfl
theorem Dp{d:Option Nat}{t:Ty}{x:X}{s:S}{hp:List Ob}{id off:Nat}{v:V}{kp:S->Option S}(hx:s.get x=some (.ptr id off))(hv:BP hp t id off=some v):
 evOp O d (.load t x) ⟨s.fr,hp⟩ (λs=>some s) kp=some (S.putO ⟨s.fr,hp⟩ d v):=by
 simp only[evOp,Ky,hx,loadT]
 unfold BP at hv
 split at hv
 ·rename_i tid cs ho
  obtain⟨h1,h2⟩:=aB hv
  cases h2
  simp only[ho,h1,cond_true]
 ·cases hv
theorem FN(hO:OracleOk P O){anc:List (List Nat)}{K:St->Prop}{KC:Prop}:∀(l:List PO) (A:List RecV) (s:S) (κ kp:S->Option R) (r:R),l.all (PO.wf P)=true->JN anc l=true->(∀a∈A,∀q∈l,(anc.getD q.j []).contains a.r.i=true\/gB q.us a.r.i=true)->
 FL O A l s κ kp=some r->(∀s',Keeps (ke l) s s'->κ s'=some r->K (enc s'))->(∀s',Keeps (ke l) s s'->kp s'=some r->KC)->
 mJ P (λi j=> !(anc.getD j []).contains i) K KC (A.map Dr) (l.map λp=>(p.j,p.b,p.so)) (enc s):=by
 intro l
 induction l with
 |nil=>
  intro A s κ kp r _ _ _ h hκ _
  exact⟨_,Eqs.refl _,hκ s (Keeps.refl _ _) h⟩
 |cons p l ih=>
  intro A s0 κ kp r hw hu hA h hκ0 hkp0
  simp only[W_,a_]at hw
  obtain⟨hwp,hwl⟩:=hw
  simp only[JN,a_,j_,z_]at hu
  obtain⟨hup,hul⟩:=hu
  simp only[PO.wf,a_,decide_eq_true_eq]at hwp
  obtain⟨⟨⟨w1,w2⟩,w3⟩,w4⟩:=hwp
  have hasg:∀k,k∈dc p.d\/k∈ke l->k∈ke (p::l):=λk hk=>by
   unfold ke at hk⊢
   rw[ad_,c_]
   refine hk.imp (λh=>?_) id
   cases hd:p.d<;>rw[hd]at h<;>exact h
  have hAl:∀a∈A,∀q∈l,(anc.getD q.j []).contains a.r.i=true\/gB q.us a.r.i=true:=λa ha q hq=>hA a ha q (n_ _ hq)
  have hmap:∀{X:Av.Rec×(List AObj->Prop)->Prop},(∀a∈A,X (Dr a))->∀r∈A.map Dr,X r:=λh r hr=>by
   obtain⟨a,ha,rfl⟩:=Q_.1 hr
   exact h a ha
  have hus:∀a∈A,(!(anc.getD p.j []).contains a.r.i)=true->gB p.us a.r.i=true:=λa ha hun=>by
   rcases hA a ha p (B_ ..)with h3|h3
   ·rw[h3]at hun;cases hun
   ·exact h3
  have hrun:∀s:S,(p.g=none\/∃t want,p.g=some (t,want)/\lk s.fr t=some (.d .bool want))->rW A s p=true->evOp O p.d p.o s (λs'=>Ge A s s' p (FL O (sC A s s' p) l s' κ kp)) kp=some r->(∀s',Keeps (ke (p::l)) s s'->κ s'=some r->K (enc s'))->(∀s',Keeps (ke (p::l)) s s'->kp s'=some r->KC)->mJ P (λi j=> !(anc.getD j []).contains i) K KC (A.map Dr) ((p::l).map λp=>(p.j,p.b,p.so)) (enc s):=by
   intro s hg h1 h2 hκ hkp
   simp only[rW,a_]at h1
   obtain⟨⟨c1,c2⟩,c3⟩:=h1
   rw[w2,w3]at c1
   simp only[sC,Ge,w2,w3]at h2
   have hT:=vY s p w2 w3
   have hchk:∀a∈A,(!(anc.getD p.j []).contains a.r.i)=true->comm a.r (match p.b with|true=>b9 (enc s) p.so|false=>touch (enc s) p.so) p.so p.b:=λa ha hun=>by
    have:=j_.1 c1 a ha
    simp only[z_]at this
    rcases hA a ha p (B_ ..)with h3|h3
    ·rw[h3]at hun;cases hun
    ·rw[h3]at this
     rcases this with h4|h4
     ·cases h4
     ·rw[<-hT];exact Ep h4
   have hst:∀{X X':St->Prop},sexec P p.d p.o.er (enc s) X X'->et P p.so (enc s) X X':=fun{X X'} hx=>by
    unfold et
    rcases hg with hg|⟨t,want,hg,hl⟩
    ·rw[show p.so.gd=none from hg];exact hx
    ·rw[show p.so.gd=some (t,want)from hg]
     exact⟨_,by rw[bk,hl];rfl,_,rfl,λ_=>hx,λhne=>absurd rfl hne⟩
   have hsy:∀{x:AV},eM P (enc s) p.o.er (λy=>y=x)->cT P p.so (enc s) x:=fun{x} hx=>by
    unfold cT
    rcases hg with hg|⟨t,want,hg,hl⟩
    ·rw[show p.so.gd=none from hg];exact hx
    ·rw[show p.so.gd=some (t,want)from hg]
     exact⟨_,by rw[bk,hl];rfl,_,rfl,λ_=>hx,λhne=>absurd rfl hne⟩
   cases hb:p.b with
   |false=>
    rw[hb]at w4 h2 hchk
    simp only[cond_false]at h2
    simp only[m_,hb]
    refine⟨hmap hchk,?_⟩
    have hx:=C9 hO w1 w4 c3 h2
    refine hst (gO hx (λst' ⟨s',e1,e2,e3⟩=>?_) λst' ⟨s',e1,e2,e3⟩=>hkp s' (e2.sub λk hk=>hasg k (.inl hk)) e3)
    rw[e1]
    obtain⟨e3,e9⟩:=oQ e3
    refine⟨hmap λa ha hun=>?_,?_⟩
    ·rw[oT]
     exact e9 a ha (hus a ha hun)
    exact ih A s' κ kp r hwl hul hAl e3 (λs2 hk hh=>hκ s2 ((e2.sub λk hk=>hasg k (.inl hk)).trans (hk.sub λk hk=>hasg k (.inr hk))) hh) λs2 hk hh=>hkp s2 ((e2.sub λk hk=>hasg k (.inl hk)).trans (hk.sub λk hk=>hasg k (.inr hk))) hh
   |true=>
    rw[hb]at w4 h2 hchk c2 hT
    simp only at hchk hT
    simp only[a_]at w4
    obtain⟨hds,hpa⟩:=w4
    obtain⟨dk,hdk⟩:=ao_.1 hds
    simp only[cond_true]at h2
    simp only[ag_,aE_]at c2
    simp only[m_,hb]
    have hle:∃E v s',nb P p.so (enc s) E/\E.x=aE v/\E.slot.map (·.1)=vN p.o/\enc s'=(enc s).app p.d E/\lk s'.fr dk=some v/\Keeps (dc p.d) s s'/\FL O (A++[⟨⟨p.j,p.d,p.so.rd,vN p.o,Dq s s' p.d (kD s p),JD s s' p.so.rd p.d⟩,Df s s' p⟩]) l s' κ kp=some r:=by
     rcases aD_.1 hpa with hpu|hat
     ·obtain⟨v,e1,e2⟩:=lS hO w1 hpu h2
      have hsl:vN p.o=none:=by cases hq:p.o<;>first|rfl|(rw[hq]at hpu;cases hpu)
      refine⟨⟨aE v,none⟩,v,s.putO p.d v,hsy e1,rfl,by rw[hsl];rfl,dA _ _ _,?_,Keeps.put _ _ _,e2⟩
      rw[hdk]
      simp only[qd,if_true]
     ·simp only[a_]at hat
      obtain⟨hat,hgn⟩:=hat
      have hgn:=T_.1 hgn
      cases hq:p.o<;>(try (rw[hq]at hat;cases hat;done))
      rename_i k op
      rw[hq]at h2 w1
      obtain⟨ob,v,e1,e2⟩:=Ej (P:=P) (k:=k) (op:=op) w1 h2
      refine⟨⟨aE v,some (k,aV ob)⟩,v,_,?_,rfl,rfl,?_,?_,(Keeps.fr (s':=⟨s.fr,setAt s.hp k ob⟩) rfl).trans (Keeps.put _ p.d v),e2⟩
      ·have:p.so=⟨p.d,.atq k op.er,none⟩:=by unfold PO.so;rw[hq,hgn];rfl
       rw[this];exact e1
      ·rw[dA,dL];rfl
      ·rw[hdk]
       simp only[qd,if_true]
    obtain⟨E,v,s',e1,e2,e3,e4,e5,e6,e7⟩:=hle
    have e5':EB s' p.d=v.kids:=by unfold EB;rw[hdk];simp only[e5]
    have hkF:∀i∈E.x.kids,i∈Dq s s' p.d (kD s p):=λi hi=>by
     rw[e2,<-oI]at hi
     exact c_.2 (.inr (by rw[e5'];exact hi))
    refine⟨hmap hchk,E,Dq s s' p.d (kD s p),JD s s' p.so.rd p.d,L6 (Dq s s' p.d (kD s p)) (Df s s' p),e1,⟨λi hi=>?_,hkF⟩,⟨λi hi=>?_,λt ht y hy i hi=>?_⟩,λst2 hS hfr=>?_,?_⟩
    ·rw[<-hT]at hi
     have hlt:=j_.1 c2 i hi
     have hlt':i<s.hp.length:=g_ hlt
     refine⟨c_.2 (.inl (c_.2 (.inl hi))),_,by rw[aY,d_ hlt'];rfl,λj hj=>?_⟩
     rw[<-sb]at hj
     refine c_.2 (.inl (c_.2 (.inr (s_.2 ⟨i,hi,?_⟩))))
     unfold xP
     rw[d_ hlt']
     exact hj
    ·rw[e2,<-oI]at hi
     exact c_.2 (.inr (by rw[e5'];exact hi))
    ·rw[bk]at hy
     refine c_.2 (.inl (s_.2 ⟨t,ht,?_⟩))
     cases hl:lk s.fr t with
     |none=>rw[hl]at hy;cases hy
     |some w=>
      rw[hl]at hy
      simp only[Y_,k_]at hy
      rw[<-hy,<-oI]at hi
      exact hi
    ·obtain⟨t,id,off,v2,hl,s2,hhp,hkid,hrd⟩:=hS
     unfold Df at hl
     split at hl
     case h_2=>cases hl
     rename_i t' x d ho hgn hd
     split at hl
     case h_2=>cases hl
     rename_i id' off' v2' hx hv2
     cases hl
     rw[hdk]at hd
     cases hd
     rw[e5]at hv2
     cases hv2
     have hsl:E.slot=none:=by
      rw[ho]at e3
      cases hs:E.slot with
      |none=>rfl
      |some q=>rw[hs]at e3;cases e3
     have hso:p.so=⟨some dk,.load t.sz t.ag x.er,none⟩:=by unfold PO.so;rw[ho,hgn,hdk];rfl
     rw[ho]at w1
     obtain⟨v3,g1,g2⟩:=lS (P:=P) (O:=O) hO w1 (by rfl) (Dp (O:=O) (d:=some dk) (t:=t) (kp:=λ_=>none) hx hrd)
     have hv3:v3=v:=by
      have:=congrArg (λs:S=>lk s.fr dk) (w_ g2)
      simpa only[qd,if_true,k_]using this
     subst hv3
     have hin:∀i∈b9 st2 p.so,i=id:=λi hi=>by
      rw[hso]at hi
      unfold b9 at hi
      rw[if_neg (λh=>by cases h.1)]at hi
      unfold touch at hi
      simp only[SOp.lent,aP_]at hi
      obtain⟨k,hk,h0⟩:=s_.1 hi
      have hk':k∈x.er.rd:=by simpa[SOper.rd,SOp.rd]using hk
      rw[hfr k (by rw[hso];exact hk),bk]at h0
      cases x with
      |tm k0=>
       have:k=k0:=by simpa[X.er,SX.rd]using hk'
       subst this
       rw[show lk s.fr k=some (.ptr id off)from hx]at h0
       exact p_.1 h0
      |_=>cases hk'
     refine⟨?_,λi hi=>?_,hkF⟩
     ·unfold nb
      rw[hsl,hso,e2]
      refine rz ⟨λk hk y hy=>?_,λk hk y hy i hi ob hob=>by rw[hhp];exact hob⟩ g1
      rw[hfr k (by rw[hso];exact c_.2 (.inl hk))]
      exact hy
     ·have h1:=hi
      rw[l8 hfr,<-hT]at h1
      have:=hin i hi
      subst this
      refine⟨c_.2 (.inl (c_.2 (.inl h1))),?_⟩
      unfold BP at hrd
      split at hrd
      case h_2=>cases hrd
      rename_i tid cs hob
      refine⟨aV (.box tid cs),by rw[hhp,h_,hob];rfl,λj hj=>hkid j ?_⟩
      rw[<-sb]at hj
      unfold xP
      rw[hob]
      exact hj
    ·rw[e3]
     have:=ih _ s' κ kp r hwl hul (λa ha q hq=>?_) e7 (λs2 hk hh=>hκ s2 ((e6.sub λk hk=>hasg k (.inl hk)).trans (hk.sub λk hk=>hasg k (.inr hk))) hh) λs2 hk hh=>hkp s2 ((e6.sub λk hk=>hasg k (.inl hk)).trans (hk.sub λk hk=>hasg k (.inr hk))) hh
     ·rw[q_,e4]at this
      exact this
     rcases c_.1 ha with h|h
     ·exact hAl a h q hq
     ·simp only[p_]at h
      subst h
      exact hup q hq
  have hskip:∀(s:S) t want b,p.g=some (t,want)->lk s.fr t=some (.d .bool b)->(want==b)=false->rW A s p=true->Ge A s (s.putO p.d (.raw Go.undef)) p (FL O (sC A s (s.putO p.d (.raw Go.undef)) p) l (s.putO p.d (.raw Go.undef)) κ kp)=some r->(∀s',Keeps (ke (p::l)) s s'->κ s'=some r->K (enc s'))->(∀s',Keeps (ke (p::l)) s s'->kp s'=some r->KC)->mJ P (λi j=> !(anc.getD j []).contains i) K KC (A.map Dr) ((p::l).map λp=>(p.j,p.b,p.so)) (enc s):=by
   intro s t want b hg hl hne h1 h2 hκ hkp
   simp only[rW,a_]at h1
   obtain⟨⟨c1,c2⟩,c3⟩:=h1
   rw[w2,w3]at c1
   simp only[sC,Ge,w2,w3]at h2
   have hT:=vY s p w2 w3
   have hchk:∀a∈A,(!(anc.getD p.j []).contains a.r.i)=true->comm a.r (match p.b with|true=>b9 (enc s) p.so|false=>touch (enc s) p.so) p.so p.b:=λa ha hun=>by
    have:=j_.1 c1 a ha
    simp only[z_]at this
    rcases hA a ha p (B_ ..)with h3|h3
    ·rw[h3]at hun;cases hun
    ·rw[h3]at this
     rcases this with h4|h4
     ·cases h4
     ·rw[<-hT];exact Ep h4
   have hyv:yv (.bool b)≠some want:=λe=>by
    have:b=want:=by simpa[yv]using e
    subst this;simp at hne
   have e4:enc (s.putO p.d (.raw Go.undef))=(enc s).putO p.d (.v Go.undef):=dA _ _ _
   have e6:Keeps (dc p.d) s (s.putO p.d (.raw Go.undef)):=Keeps.put _ _ _
   cases hb:p.b with
   |false=>
    rw[hb]at h2 hchk
    simp only[cond_false]at h2
    simp only[m_,hb]
    refine⟨hmap hchk,?_⟩
    unfold et
    rw[show p.so.gd=some (t,want)from hg]
    obtain⟨h2,e9⟩:=oQ h2
    refine⟨_,by rw[bk,hl];rfl,_,rfl,λhe=>absurd he hyv,λ_=>?_⟩
    show GK _ _ _ _ ((enc s).putO p.d (.v Go.undef)).hp/\mJ P _ K KC (A.map Dr) _ ((enc s).putO p.d (.v Go.undef))
    rw[<-e4]
    refine⟨hmap λa ha hun=>?_,?_⟩
    ·rw[oT]
     exact e9 a ha (hus a ha hun)
    exact ih A _ κ kp r hwl hul hAl h2 (λs2 hk hh=>hκ s2 ((e6.sub λk hk=>hasg k (.inl hk)).trans (hk.sub λk hk=>hasg k (.inr hk))) hh) λs2 hk hh=>hkp s2 ((e6.sub λk hk=>hasg k (.inl hk)).trans (hk.sub λk hk=>hasg k (.inr hk))) hh
   |true=>
    rw[hb]at w4 h2 hchk c2 hT
    simp only at hchk hT
    simp only[a_]at w4
    simp only[cond_true]at h2
    simp only[ag_,aE_]at c2
    simp only[m_,hb]
    have hsl:vN p.o=none:=by
     have hpu:p.o.pureB=true:=by
      rcases aD_.1 w4.2 with h|h
      ·exact h
      ·rw[hg]at h;simp at h
     cases hq:p.o<;>first|rfl|(rw[hq]at hpu;cases hpu)
    have hld:Df s (s.putO p.d (.raw Go.undef)) p=none:=by
     unfold Df
     rw[hg]
     cases p.o<;>cases p.d<;>rfl
    refine⟨hmap hchk,⟨.v Go.undef,none⟩,Dq s (s.putO p.d (.raw Go.undef)) p.d (kD s p),JD s (s.putO p.d (.raw Go.undef)) p.so.rd p.d,L6 (Dq s (s.putO p.d (.raw Go.undef)) p.d (kD s p)) (Df s (s.putO p.d (.raw Go.undef)) p),?_,⟨λi hi=>?_,λi hi=>?_⟩,⟨λi hi=>(by cases hi),λt ht y hy i hi=>?_⟩,λst2 hS=>?_,?_⟩
    ·show cT P p.so (enc s) (.v Go.undef)
     unfold cT
     rw[show p.so.gd=some (t,want)from hg]
     exact⟨_,by rw[bk,hl];rfl,_,rfl,λhe=>absurd he hyv,λ_=>rfl⟩
    ·rw[<-hT]at hi
     have hlt:=j_.1 c2 i hi
     have hlt':i<s.hp.length:=g_ hlt
     refine⟨c_.2 (.inl (c_.2 (.inl hi))),_,by rw[aY,d_ hlt'];rfl,λj hj=>?_⟩
     rw[<-sb]at hj
     refine c_.2 (.inl (c_.2 (.inr (s_.2 ⟨i,hi,?_⟩))))
     unfold xP
     rw[d_ hlt']
     exact hj
    ·cases hi
    ·rw[bk]at hy
     refine c_.2 (.inl (s_.2 ⟨t,ht,?_⟩))
     cases hl:lk s.fr t with
     |none=>rw[hl]at hy;cases hy
     |some w=>
      rw[hl]at hy
      simp only[Y_,k_]at hy
      rw[<-hy,<-oI]at hi
      exact hi
    ·obtain⟨_,_,_,_,hl,_⟩:=hS
     rw[hld]at hl
     cases hl
    ·have:=ih _ _ κ kp r hwl hul (λa ha q hq=>?_) h2 (λs2 hk hh=>hκ s2 ((e6.sub λk hk=>hasg k (.inl hk)).trans (hk.sub λk hk=>hasg k (.inr hk))) hh) λs2 hk hh=>hkp s2 ((e6.sub λk hk=>hasg k (.inl hk)).trans (hk.sub λk hk=>hasg k (.inr hk))) hh
     ·rw[q_,e4]at this
      show mJ P _ K KC (A.map Dr++[(⟨p.j,p.d,p.so.rd,none,_,_⟩,_)]) _ ((enc s).putO p.d (.v Go.undef))
      rw[<-hsl]
      exact this
     rcases c_.1 ha with h|h
     ·exact hAl a h q hq
     ·simp only[p_]at h
      subst h
      exact hup q hq
  simp only[FL]at h
  cases hg:p.g with
  |none=>
   rw[hg]at h
   obtain⟨h1,h2⟩:=aB h
   exact hrun s0 (.inl hg) h1 h2 hκ0 hkp0
  |some q=>
   obtain⟨t,want⟩:=q
   rw[hg]at h
   simp only at h
   split at h
   ·rename_i b hl
    rcases hwb:(want==b)with _|_
    ·rw[hwb]at h
     have hb:b= !want:=by cases b<;>cases want<;>first|rfl|cases hwb
     subst hb
     obtain⟨h1,h2⟩:=aB h
     refine l7 _ _ _ _ (uc hl) ?_
     exact hskip _ t want _ hg (by rw[od hl];exact hl) hwb h1 h2 (λs' hk=>hκ0 s' ((j4 hl _).trans hk)) λs' hk=>hkp0 s' ((j4 hl _).trans hk)
    ·rw[hwb]at h
     have:want=b:=by simpa using hwb
     subst this
     obtain⟨h1,h2⟩:=aB h
     refine l7 _ _ _ _ (uc hl) ?_
     exact hrun _ (.inr ⟨t,want,hg,by rw[od hl];exact hl⟩) h1 h2 (λs' hk=>hκ0 s' ((j4 hl _).trans hk)) λs' hk=>hkp0 s' ((j4 hl _).trans hk)
   ·cases h
theorem se(hO:OracleOk P O){m:Nat}{K KP:St->Prop}:∀(l:List PO) (s:S) (κ kp:S->Option R) (r:R),l.all (λp=>p.o.wf P)=true->GE O l s κ kp=some r->
 (∀s',Keeps (ke l) s s'->κ s'=some r->W m K (enc s'))->(∀s',Keeps (ke l) s s'->kp s'=some r->KP (enc s'))->sops P m (l.map PO.so) (enc s) K KP
 |[],s,κ,kp,r,_,h,hκ,_=>hκ s (Keeps.refl _ _) h
 |p::l,s0,κ,kp,r,hw,h,hκ0,hkp0=>by
  rw[W_,a_]at hw
  have hasg:∀k,k∈dc p.d\/k∈ke l->k∈ke (p::l):=λk hk=>by
   simp only[ke,ad_,c_];exact hk
  have go:∀(s:S),(∀s',Keeps (ke (p::l)) s s'->κ s'=some r->W m K (enc s'))->(∀s',Keeps (ke (p::l)) s s'->kp s'=some r->KP (enc s'))->evOp O p.d p.o s (λs'=>GE O l s' κ kp) kp=some r->
   sexec P p.d p.o.er (enc s) (λst=>sops P m (l.map PO.so) st K KP) KP:=by
   intro s hκ hkp h
   refine gO (uX hO hw.1 h) (λst' ⟨s1,h1,h2,h3⟩=>?_) λst' ⟨s1,h1,h2,h3⟩=>?_
   ·have h2':=h2.sub (B:=ke (p::l)) λk hk=>hasg k (.inl hk)
    exact eJ h1.weak (se hO l s1 κ kp r hw.2 h3 (λs' hk hh=>hκ s' (h2'.trans (hk.sub λk hk=>hasg k (.inr hk))) hh) λs' hk hh=>hkp s' (h2'.trans (hk.sub λk hk=>hasg k (.inr hk))) hh)
   ·rw[h1]
    exact hkp s1 (h2.sub λk hk=>hasg k (.inl hk)) h3
  have skip:∀(s:S),(∀s',Keeps (ke (p::l)) s s'->κ s'=some r->W m K (enc s'))->(∀s',Keeps (ke (p::l)) s s'->kp s'=some r->KP (enc s'))->GE O l (s.putO p.d (.raw Go.undef)) κ kp=some r->
   sops P m (l.map PO.so) ((enc s).putO p.d (.v Go.undef)) K KP:=by
   intro s hκ hkp h
   have e4:enc (s.putO p.d (.raw Go.undef))=(enc s).putO p.d (.v Go.undef):=dA _ _ _
   have e6:Keeps (dc p.d) s (s.putO p.d (.raw Go.undef)):=Keeps.put _ _ _
   have h2':=e6.sub (B:=ke (p::l)) λk hk=>hasg k (.inl hk)
   rw[<-e4]
   exact se hO l _ κ kp r hw.2 h (λs' hk hh=>hκ s' (h2'.trans (hk.sub λk hk=>hasg k (.inr hk))) hh) λs' hk hh=>hkp s' (h2'.trans (hk.sub λk hk=>hasg k (.inr hk))) hh
  show W m (λst=>et P p.so st (λst'=>sops P m (l.map PO.so) st' K KP) KP) (enc s0)
  simp only[GE]at h
  split at h
  ·rename_i hg
   refine W.mk ?_
   unfold et
   rw[show p.so.gd=none from hg]
   exact go s0 hκ0 hkp0 h
  ·rename_i t want hg
   split at h
   ·rename_i b hl
    have e:Weak m (enc s0) (enc (s0.put t (.d .bool b))):=λc a w _ hr=>Rel.congr (uc hl).1 (uc hl).2 hr
    refine W.to _ e ?_
    unfold et
    rw[show p.so.gd=some (t,want)from hg]
    have hl2:Av.look (enc (s0.put t (.d .bool b))).fr t=some (.b (.pv (.sc (.bool b)))):=by
     rw[bk,od hl,hl];rfl
    have k1:∀s',Keeps (ke (p::l)) (s0.put t (.d .bool b)) s'->κ s'=some r->W m K (enc s'):=λs' hk=>hκ0 s' ((j4 hl _).trans hk)
    have k2:∀s',Keeps (ke (p::l)) (s0.put t (.d .bool b)) s'->kp s'=some r->KP (enc s'):=λs' hk=>hkp0 s' ((j4 hl _).trans hk)
    refine⟨_,hl2,.bool b,rfl,λhe=>?_,λhe=>?_⟩
    ·cases b<;>cases want<;>first|(exact go _ k1 k2 h)|(exact absurd he (by decide))
    ·cases b<;>cases want<;>first|(exact skip _ k1 k2 h)|(exact absurd rfl he)
   ·cases h
theorem yw{m:Nat}{s:S}:∀(r:Nat),Weak m (enc s) (enc ⟨s.fr,s.hp++O_ r .free⟩)
 |0=>by rw[List.replicate_zero,aP_];exact Weak.refl _ _
 |r+1=>by
  refine(yw r).trans ?_
  rintro c a w _ ⟨θ,D,hI⟩
  refine⟨θ++[.no],D,?_⟩
  have:=hI.push (l:=.no) (o:=.free) trivial λg hg=>by cases hg
  rw[List.replicate_succ',<-D_]
  have e:=nQ ⟨s.fr,s.hp++O_ r .free⟩ .free
  simp only at e
  rw[e]
  exact this
theorem Hw{pre:List PO}(hn:(pre.map (·.j)).Nodup){p:PO}(hp:p∈pre)(hj:p.j<pre.length)(tl:List SOper):(wO pre++tl).getD p.j default=p.so:=by
 have hl:(wO pre).length=pre.length:=by simp[wO]
 have hf:pre.find? (λq=>o_ q.j p.j)=some p:=by
  clear hl hj
  induction pre with
  |nil=>cases hp
  |cons q pre ih=>
   rw[m_,List.nodup_cons]at hn
   rw[List.find?_cons]
   rcases v_.1 hp with rfl|hp
   ·rw[R_]
   ·have:o_ q.j p.j=false:=by
     cases hb:o_ q.j p.j with
     |false=>rfl
     |true=>exact absurd (Q_.2 ⟨p,hp,(b_ hb).symm⟩) hn.1
    rw[this]
    exact ih hn.2 hp
 rw[ab_,l_ (by omega)]
 unfold wO
 rw[h_,U_ hj]
 simp only[Y_,aq_,hf]
end
def Lc(xs:List (Nat×Sh)):Bool:=xs.all λx=>x.2.wfB
def TC.wf(P:Program)(m:Nat):TC->Bool
 | .region ops=>ops.wf P&&ops.gbB&&ops.adjW m
 | .draw k ops _=>ops.wf P&&ops.gbB&&ops.adjW m&&ops.drB k
 | .draw2 _ pre tl af=>tl.wf P&&tl.gbB&&tl.adjW m&&pre.all (PO.wf P)&&JN (c8 [] af) pre&&decide (pre.map (·.j)).Nodup&&pre.all (λp=>decide (p.j<pre.length))
 | .regL pre=>pre.all λp=>p.o.wf P
 | .seq a b=>a.wf P m&&b.wf P m
 | .cond x a b=>x.wf&&a.wf P m&&b.wf P m
 | .block _ a=>a.wf P m
 | .loop sh xs a=>sh.wfB&&Lc xs&&a.wf P m
 | .adj l a=>uv m l&&a.wf P m
 | .after a l=>uv m l&&a.wf P m
 | .cut xs a=>Lc xs&&a.wf P m
 |_=>true
section
variable {P:Program} {O:aj} {n m:Nat}
theorem GX{x:AC}{Q:AE->St->Prop}:∀{a b:St},Weak m a b->Aj P m x Q b->Aj P m x Q a:=by
 induction x generalizing Q with
 |skip=>exact λh k=>W.from h k
 |region ss=>exact λh k=>eJ h k
 |draw k ss af=>exact λh k=>W.from h k
 |draw2 ord ss af=>exact λh k=>W.from h k
 |seq a b iha ihb=>exact λh k=>iha h k
 |cond c a b iha ihb=>exact λh k=>W.from h k
 |block id a iha=>exact λh k=>iha h k
 |loop a iha=>exact λh k=>W.from h k
 |exit id=>exact λh k=>W.from h k
 |ret=>exact λh k=>W.from h k
theorem fx{fr:List (Nat×V)}:∀{l:List Nat} {k:Nat} {v:V},lk (bT fr l) k=some v->k∈l/\lk fr k=some v/\v.isD=true
 |[],k,v,h=>by cases h
 |j::l,k,v,h=>by
  simp only[bT]at h
  split at h
  ·rename_i u hu
   cases hd:u.isD
   ·rw[hd]at h
    obtain⟨h1,h2⟩:=fx h
    exact⟨n_ _ h1,h2⟩
   ·rw[hd]at h
    simp only[cond_true,lk,c9]at h
    by_cases hk:k=j
    ·subst hk
     rw[decide_eq_true rfl]at h
     simp only[cond_true,k_]at h
     subst h
     exact⟨B_ ..,hu,hd⟩
    ·rw[decide_eq_false hk]at h
     obtain⟨h1,h2⟩:=fx h
     exact⟨n_ _ h1,h2⟩
  ·obtain⟨h1,h2⟩:=fx h
   exact⟨n_ _ h1,h2⟩
theorem gR:∀(l:List Slot) (c:HL l) (b:S) (k:Nat),(∀t,Slot.tm k t∉l)->lk (unpack l c b).fr k=lk b.fr k
 |[],_,_,_,_=>rfl
 | .tm j t::l,c,b,k,h=>by
  have:=gR l c.2 ⟨(j,.d t c.1)::b.fr,b.hp⟩ k λt ht=>h t (n_ _ ht)
  show lk (unpack l c.2 ⟨(j,.d t c.1)::b.fr,b.hp⟩).fr k=_
  rw[this]
  simp only[lk,c9]
  rw[decide_eq_false]
  ·rfl
  ·rintro rfl
   exact h t (B_ ..)
 | .cell _ _ _::l,c,b,k,h=>gR l c.2 _ k λt ht=>h t (n_ _ ht)
 | .vec _ _ _::l,c,b,k,h=>gR l c.2 _ k λt ht=>h t (n_ _ ht)
 | .map _ _ _ _ _::l,c,b,k,h=>gR l c.2 _ k λt ht=>h t (n_ _ ht)
 | .tree _ _ _ _::l,c,b,k,h=>gR l c.2 _ k λt ht=>h t (n_ _ ht)
 | .treeH _ _ _ _ _ _::l,c,b,k,h=>gR l c.2 _ k λt ht=>h t (n_ _ ht)
theorem Dj{A:List Nat}{fr:List (Nat×V)}{k:Nat}(h:jW A fr k=true):k∈A\/∃v,lk fr k=some v/\v.isD=false:=by
 simp only[jW,z_]at h
 rcases h with h|h
 ·exact .inl (inL_mem.1 h)
 ·split at h
  ·rename_i v hv;exact .inr ⟨v,hv,by simpa using h⟩
  ·cases h
theorem K9{fr:List (Nat×V)}{k:Nat}(h:lk fr k≠none):∃v,(k,v)∈fr:=by
 cases hv:lk fr k with
 |none=>exact absurd hv h
 |some v=>exact⟨v,vj hv⟩
structure OkAt(sh:Sh)(A:List Nat)(s:S):Prop where
 keep:∀k∈sh.keep,k∉A
 tm:∀k t,Slot.tm k t∈sh.sl->jW A s.fr k=true
 sk:∀x∈sh.sk.fr,jW A s.fr x.1=true
theorem EO{sh:Sh}{A:List Nat}{s:S}(h:sh.okAt A s=true):OkAt sh A s:=by
 simp only[Sh.okAt,a_,j_,y_]at h
 refine⟨λk hk e=>?_,λk t hk=>h.1.2 _ hk,h.2⟩
 have:=h.1.1 k hk
 rw[inL_mem.2 e]at this;cases this
theorem GY{sh:Sh}{A:List Nat}{s:S}(ho:OkAt sh A s)(c:HL sh.sl){k:Nat}(hk:k∉A):
 (∀v,lk s.fr k=some v->v.isD=true->lk (unpack sh.sl c (sh.base s)).fr k=lk (bT s.fr sh.keep) k)/\(lk s.fr k=none->lk (unpack sh.sl c (sh.base s)).fr k=none):=by
 have hnt:(∀v,lk s.fr k=some v->v.isD=true)->jW A s.fr k≠true:=λhd e=>by
  rcases Dj e with h|⟨v,h1,h2⟩
  ·exact hk h
  ·rw[hd v h1]at h2;cases h2
 have step:(∀v,lk s.fr k=some v->v.isD=true)->lk (unpack sh.sl c (sh.base s)).fr k=lk (bT s.fr sh.keep) k:=λhd=>by
  rw[gR _ _ _ _ λt ht=>hnt hd (ho.tm k t ht)]
  show lk (bT s.fr sh.keep++sh.sk.fr) k=_
  rw[xY]
  have:lk sh.sk.fr k=none:=aV_ λe=>by
   obtain⟨v,hv⟩:=K9 e
   exact hnt hd (ho.sk _ hv)
  rw[this]
  cases lk (bT s.fr sh.keep) k<;>rfl
 refine⟨λv hv hd=>step λu hu=>by rw[hv]at hu;cases hu;exact hd,λhn=>?_⟩
 rw[step λu hu=>by rw[hn]at hu;cases hu]
 cases hkf:lk (bT s.fr sh.keep) k with
 |none=>rfl
 |some v=>
  have:=(fx hkf).2.1
  rw[hn]at this;cases this
theorem uB{sh:Sh}{A:List Nat}{s:S}(ho:OkAt sh A s)(c:HL sh.sl):Keeps A s (unpack sh.sl c (sh.base s)):=λk hk=>by
 obtain⟨h1,h2⟩:=GY ho c hk
 refine⟨λv hv hd=>?_,h2⟩
 rw[h1 v hv hd]
 cases hkf:lk (bT s.fr sh.keep) k with
 |none=>exact .inr rfl
 |some u=>
  have:=(fx hkf).2.1
  rw[hv]at this
  exact .inl this.symm
theorem kept{sh:Sh}{A:List Nat}{s s':S}{c:HL sh.sl}(ho:OkAt sh A s)(hk:Keeps A s s')(hp:pack sh s'=some c):∀k v,lk (bT s.fr sh.keep) k=some v->lk s'.fr k=some v:=λk v h=>by
 obtain⟨h1,h2,h3⟩:=fx h
 rcases(hk k (ho.keep k h1)).1 v h2 h3 with h4|h4
 ·exact h4
 ·unfold pack at hp
  split at hp
  ·rename_i hf
   simp only[a_,j_]at hf
   have:=hf.2 k h1
   simp only[Hq,h4]at this
   cases this
  ·cases hp
theorem q7{R:Type}{s s':S}{κ:Nat->S->Option R}{r:R}:∀{xs:List (Nat×Sh)} {key:Nat} {c:XT xs},inj xs key s'=some c->eR s κ xs c=some r->∃sh,(key,sh)∈xs/\∃c':HL sh.sl,pack sh s'=some c'/\κ key (unpack sh.sl c' (sh.base s))=some r
 |[],key,c,h,_=>by cases h
 |[(k,sh)],key,c,h,hd=>by
  simp only[inj,c9]at h
  by_cases hk:k=key
  ·subst hk
   rw[decide_eq_true rfl]at h
   exact⟨sh,B_ ..,c,h,hd⟩
  ·rw[decide_eq_false hk]at h;cases h
 |(k,sh)::a::l,key,c,h,hd=>by
  simp only[inj,c9]at h
  by_cases hk:k=key
  ·subst hk
   rw[decide_eq_true rfl]at h
   simp only[cond_true]at h
   split at h
   ·rename_i c' hc'
    cases h
    exact⟨sh,B_ ..,c',hc',hd⟩
   ·cases h
  ·rw[decide_eq_false hk]at h
   simp only[cond_false]at h
   split at h
   ·rename_i c' hc'
    cases h
    obtain⟨sh2,h1,h2⟩:=q7 (xs:=a::l) hc' hd
    exact⟨sh2,n_ _ h1,h2⟩
   ·cases h
structure Post(D2:Prop)(m:Nat)(A:List Nat)(s:S){R:Type}(Q:AE->St->Prop)(kn:S->Option R)(kx:Nat->S->Option R)(kr kp:S->Option R)(r:R):Prop where
 n:∀s',Keeps A s s'->kn s'=some r->W m (Q .normal) (enc s')
 x:∀i s',Keeps A s s'->kx i s'=some r->W m (Q (.exit i)) (enc s')
 rt:∀s',Keeps A s s'->kr s'=some r->W m (Q .ret) (enc s')
 p:∀s',Keeps A s s'->kp s'=some r->Q .pan (enc s')
 c:∀st,W m (Q .pan) st->Q .pan st
 d:D2->∀st st',Q .pan st->Q .pan st'
theorem Post.sub{D2:Prop}{A B:List Nat}{s:S}{R:Type}{Q:AE->St->Prop}{kn:S->Option R}{kx:Nat->S->Option R}{kr kp:S->Option R}{r:R}(h:Post D2 m A s Q kn kx kr kp r)(hs:∀k∈B,k∈A):Post D2 m B s Q kn kx kr kp r:=
 ⟨λs' hk=>h.n s' (hk.sub hs),λi s' hk=>h.x i s' (hk.sub hs),λs' hk=>h.rt s' (hk.sub hs),λs' hk=>h.p s' (hk.sub hs),h.c,h.d⟩
theorem Post.from{D2:Prop}{A:List Nat}{s s1:S}{R:Type}{Q:AE->St->Prop}{kn:S->Option R}{kx:Nat->S->Option R}{kr kp:S->Option R}{r:R}(h:Post D2 m A s Q kn kx kr kp r)(hk0:Keeps A s s1):Post D2 m A s1 Q kn kx kr kp r:=
 ⟨λs' hk=>h.n s' (hk0.trans hk),λi s' hk=>h.x i s' (hk0.trans hk),λs' hk=>h.rt s' (hk0.trans hk),λs' hk=>h.p s' (hk0.trans hk),h.c,h.d⟩
theorem CZ{D2:Prop}{A:List Nat}{s s':S}{R:Type}{Q:AE->St->Prop}{kn:S->Option R}{kx:Nat->S->Option R}{kr kp:S->Option R}{r:R}{xs:List (Nat×Sh)}{c:XT xs}{key:Nat}(hpost:Post D2 m A s Q kn kx kr kp r)(hwf:Lc xs=true)(hok:xs.all (λx=>x.2.okAt A s)=true)
 (hk:Keeps A s s') (hi:inj xs key s'=some c) (hd:eR s (λkey s=>match key with|0=>kn s|1=>kr s|2=>kp s|i+3=>kx i s) xs c=some r):
 match key with
 |0=>W m (Q .normal) (enc s')
 |1=>W m (Q .ret) (enc s')
 |2=>Q .pan (enc s')
 |i+3=>W m (Q (.exit i)) (enc s'):=by
 obtain⟨sh,h1,c',h2,h3⟩:=q7 hi hd
 have hokx:=EO (j_.1 hok _ h1)
 have hwfx:sh.wfB=true:=j_.1 hwf _ h1
 have hle:=(zF (s0:=s) hwfx h2 (kept hokx hk h2)).weak (m:=m)
 have hkb:=uB hokx c'
 match key,h3 with
 |0,h3=>exact W.from hle (hpost.n _ hkb h3)
 |1,h3=>exact W.from hle (hpost.rt _ hkb h3)
 |2,h3=>exact hpost.c _ (W.to _ hle (hpost.p _ hkb h3))
 |i+3,h3=>exact W.from hle (hpost.x i _ hkb h3)
theorem oJ{D2:Prop}(hO:OracleOk P O):∀(tc:TC) (R:Type) (s:S) (kn:S->Option R) (kx:Nat->S->Option R) (kr kp:S->Option R) (r:R) (Q:AE->St->Prop),tc.wf P m=true->(tc.noD2=false->D2)->tF O n R tc s kn kx kr kp=some r->Post D2 m tc.asg s Q kn kx kr kp r->Aj P m tc.er Q (enc s):=by
 intro tc
 induction tc with
 |skip=>intro R s kn kx kr kp r Q _ _ h hp;exact hp.n s (Keeps.refl _ _) h
 |region ops=>
  intro R s kn kx kr kp r Q hw hz h hp
  simp only[TC.wf,a_]at hw
  exact ey hO ops R s kn kp r _ _ hw.1.1 hw.1.2 hw.2 h (λs' hk hh=>hp.n s' hk hh) λs' hk hh=>hp.p s' hk hh
 |draw k ops af=>
  intro R s kn kx kr kp r Q hw hz h hp
  simp only[TC.wf,a_]at hw
  exact W.mk (FK hO ops k R s kn kp r _ _ _ hw.2 hw.1.1.1 hw.1.1.2 hw.1.2 h (Ext.refl _) (λs' hk hh=>hp.n s' hk hh) λs' hk hh=>hp.p s' hk hh)
 |draw2 r0 pre tl af=>
  intro R s kn kx kr kp r Q hw hz h hp
  simp only[TC.wf,a_,decide_eq_true_eq]at hw
  obtain⟨⟨⟨⟨⟨⟨w1,w2⟩,w3⟩,w4⟩,w5⟩,w6⟩,w7⟩:=hw
  have ha:∀k,k∈ke pre\/k∈tl.asg->k∈(TC.draw2 r0 pre tl af).asg:=λk hk=>c_.2 hk
  refine W.to _ (yw (s:=s) r0) ?_
  have hl:(wO pre).length=pre.length:=by simp[wO]
  have hd:(wO pre++tl.er none).drop (pre.map λp=>(p.j,p.b)).length=tl.er none:=by
   rw[e_,<-hl];exact List.drop_left
  have hm:((pre.map λp=>(p.j,p.b)).map λu=>(u.1,u.2,(wO pre++tl.er none).getD u.1 default))=pre.map λp=>(p.j,p.b,p.so):=by
   rw[L_]
   refine V_ λp hp'=>?_
   simp only[Function.comp]
   rw[Hw w6 hp' (by simpa using j_.1 w7 p hp')]
  show mJ P _ (λst=>sops P m ((wO pre++tl.er none).drop (pre.map λp=>(p.j,p.b)).length) st (Q .normal) (Q .pan)) _ [] _ _
  rw[hm,hd]
  have k0:∀{A:List Nat} {s':S},Keeps A ⟨s.fr,s.hp++O_ r0 .free⟩ s'->Keeps A s s':=λhk=>(Keeps.fr (s':=⟨s.fr,s.hp++O_ r0 .free⟩) rfl).trans hk
  refine FN hO pre [] _ _ kp r w4 w5 (λa ha'=>by cases ha') h (λs' hk hh=>?_) λs' hk hh=>?_
  ·exact ey hO tl R s' kn kp r _ _ w1 w2 w3 hh (λs2 hk2 hh2=>hp.n s2 (((k0 hk).sub λk hk=>ha k (.inl hk)).trans (hk2.sub λk hk=>ha k (.inr hk))) hh2) λs2 hk2 hh2=>hp.p s2 (((k0 hk).sub λk hk=>ha k (.inl hk)).trans (hk2.sub λk hk=>ha k (.inr hk))) hh2
  ·exact λst=>hp.d (hz rfl) _ _ (hp.p s' ((k0 hk).sub λk hk=>ha k (.inl hk)) hh)
 |regL pre=>
  intro R s kn kx kr kp r Q hw hz h hp
  exact se hO pre s kn kp r hw h (λs' hk hh=>hp.n s' hk hh) λs' hk hh=>hp.p s' hk hh
 |seq a b iha ihb=>
  intro R s kn kx kr kp r Q hw hz h hp
  simp only[TC.wf,a_]at hw
  have ha:∀k∈a.asg,k∈(TC.seq a b).asg:=λk hk=>C_ _ hk
  have hb:∀k∈b.asg,k∈(TC.seq a b).asg:=λk hk=>F_ _ hk
  refine iha R s _ kx kr kp r (AE.then m (Aj P m b.er Q) Q) hw.1 (λe=>hz (by rw[TC.noD2,e];rfl)) h ⟨λs' hk hh=>?_,λi s' hk hh=>hp.x i s' (hk.sub ha) hh,λs' hk hh=>hp.rt s' (hk.sub ha) hh,λs' hk hh=>hp.p s' (hk.sub ha) hh,hp.c,hp.d⟩
  exact W.mk (W.mk (ihb R s' kn kx kr kp r Q hw.2 (λe=>hz (by rw[TC.noD2,e,aR_])) hh ((hp.from (hk.sub ha)).sub hb)))
 |cond x a b iha ihb=>
  intro R s kn kx kr kp r Q hw hz h hp
  simp only[TC.wf,a_]at hw
  have ha:∀k∈a.asg,k∈(TC.cond x a b).asg:=λk hk=>C_ _ hk
  have hb:∀k∈b.asg,k∈(TC.cond x a b).asg:=λk hk=>F_ _ hk
  simp only[tF]at h
  split at h
  ·rename_i t hx
   refine W.mk ⟨_,ak hw.1.1 hx,_,rfl,t,rfl,λe=>?_,λe=>?_⟩
   ·subst e;exact iha R s kn kx kr kp r Q hw.1.2 (λe=>hz (by rw[TC.noD2,e];rfl)) h (hp.sub ha)
   ·subst e;exact ihb R s kn kx kr kp r Q hw.2 (λe=>hz (by rw[TC.noD2,e,aR_])) h (hp.sub hb)
  ·cases h
 |block id a iha=>
  intro R s kn kx kr kp r Q hw hz h hp
  refine iha R s kn _ kr kp r (AE.inBlock id Q) hw hz h ⟨hp.n,λi s' hk hh=>?_,hp.rt,hp.p,hp.c,hp.d⟩
  have hh':(bif o_ i id then kn s' else kx i s')=some r:=hh
  rw[c9]at hh'
  show W m (λst=>if i=id then Q .normal st else Q (.exit i) st) (enc s')
  by_cases hi:i=id
  ·subst hi
   rw[decide_eq_true rfl]at hh'
   simp only[if_true]
   exact hp.n s' hk hh'
  ·rw[decide_eq_false hi]at hh'
   simp only[if_neg hi]
   exact hp.x i s' hk hh'
 |loop sh xs a iha=>
  intro R s kn kx kr kp r Q hw hz h hp
  simp only[TC.wf,a_]at hw
  obtain⟨⟨hw1,hw2⟩,hw3⟩:=hw
  simp only[tF]at h
  split at h
  ·rename_i c hc
   obtain⟨hok,h2⟩:=aB h
   simp only[a_]at hok
   have hoks:=EO hok.1
   obtain⟨t,ht,hd⟩:=bo h2
   have hle0:Weak m (enc s) (enc (unpack sh.sl c (sh.base s))):=(zF (s0:=s) hw1 hc λk v hk=>(fx hk).2.1).weak
   refine W.to _ hle0 ⟨n,?_⟩
   have key:∀(N:Nat) (c:HL sh.sl),bR N (λc=>tF O n (HL sh.sl⊕XT xs) a (unpack sh.sl c (sh.base s)) (λs=>match pack sh s with|some c=>some (.inl c)|none=>none)
    (λi s=>match inj xs (i+3) s with|some c=>some (.inr c)|none=>none) (λs=>match inj xs 1 s with|some c=>some (.inr c)|none=>none) (λs=>match inj xs 2 s with|some c=>some (.inr c)|none=>none)) c=some t->AA m (Aj P m a.er) Q N (enc (unpack sh.sl c (sh.base s))):=by
    intro N
    induction N with
    |zero=>intro c h;cases h
    |succ N ihN=>
     intro c h
     simp only[bR]at h
     obtain⟨o,ho,h1⟩:=bo h
     have hk0:=uB hoks c
     refine iha _ (unpack sh.sl c (sh.base s)) _ _ _ _ o (AE.then m (AA m (Aj P m a.er) Q N) Q) hw3 hz ho ⟨λs' hk hh=>?_,λi s' hk hh=>?_,λs' hk hh=>?_,λs' hk hh=>?_,hp.c,hp.d⟩
     ·split at hh
      ·rename_i c' hc'
       cases hh
       exact W.mk (W.to _ (zF (s0:=s) hw1 hc' (kept hoks (hk0.trans hk) hc')).weak (ihN c' h1))
      ·cases hh
     ·split at hh
      ·rename_i c' hc'
       cases hh
       cases h1
       exact CZ hp hw2 hok.2 (hk0.trans hk) hc' hd
      ·cases hh
     ·split at hh
      ·rename_i c' hc'
       cases hh
       cases h1
       exact CZ hp hw2 hok.2 (hk0.trans hk) hc' hd
      ·cases hh
     ·split at hh
      ·rename_i c' hc'
       cases hh
       cases h1
       exact CZ hp hw2 hok.2 (hk0.trans hk) hc' hd
      ·cases hh
   exact key n c ht
  ·cases h
 |exit id=>intro R s kn kx kr kp r Q _ _ h hp;exact hp.x id s (Keeps.refl _ _) h
 |ret=>intro R s kn kx kr kp r Q _ _ h hp;exact hp.rt s (Keeps.refl _ _) h
 |adj l a iha=>
  intro R s kn kx kr kp r Q hw hz h hp
  simp only[TC.wf,a_]at hw
  simp only[tF]at h
  obtain⟨s1,hs1,h⟩:=qH h
  obtain⟨e1,e2⟩:=mg hw.1 hs1
  exact GX e1 (iha R s1 kn kx kr kp r Q hw.2 hz h (hp.from (e2 _)))
 |after a l iha=>
  intro R s kn kx kr kp r Q hw hz h hp
  simp only[TC.wf,a_]at hw
  refine iha R s _ kx kr kp r Q hw.2 hz h ⟨λs' hk hh=>?_,hp.x,hp.rt,hp.p,hp.c,hp.d⟩
  obtain⟨s1,hs1,hh⟩:=qH hh
  obtain⟨e1,e2⟩:=mg hw.1 hs1
  exact W.from e1 (hp.n s1 (hk.trans (e2 _)) hh)
 |cut xs a iha=>
  intro R s kn kx kr kp r Q hw hz h hp
  simp only[TC.wf,a_]at hw
  simp only[tF]at h
  obtain⟨hok,h2⟩:=aB h
  obtain⟨t,ht,hd⟩:=bo h2
  exact iha _ s _ _ _ _ t Q hw.2 hz ht ⟨λs' hk hh=>CZ hp hw.1 hok hk hh hd,λi s' hk hh=>CZ hp hw.1 hok hk hh hd,λs' hk hh=>CZ hp hw.1 hok hk hh hd,λs' hk hh=>CZ hp hw.1 hok hk hh hd,hp.c,hp.d⟩
end
def Wp{α:Type}(m:Nat->Option α)(Q:α->Prop):Prop:=∃a,Q a/\∃n0,∀n,n0<=n->m n=some a
def Conv(tbl:Nat->Option Fun')(f:Nat)(ars:List V)(os:List Ob)(Q:Option S->Prop):Prop:=Wp (λn=>wm tbl n f ars os) Q
section
variable {α β:Type}
theorem aa{a:α}{Q:α->Prop}(h:Q a):Wp (λ_=>some a) Q:=⟨a,h,0,λ_ _=>rfl⟩
theorem an{m:Nat->Option α}{f:Nat->α->Option β}{Q:β->Prop}(h:Wp m λa=>Wp (λn=>f n a) Q):Wp (λn=>ai_ (m n) (f n)) Q:=by
 obtain⟨a,⟨b,hb,n1,h1⟩,n0,h0⟩:=h
 refine⟨b,hb,max n0 n1,λn hn=>?_⟩
 have e:=h0 n (by omega)
 show ai_ (m n) (f n)=_
 rw[e]
 exact h1 n (by omega)
theorem wp_mono{m:Nat->Option α}{Q Q':α->Prop}(h:Wp m Q)(hq:∀a,Q a->Q' a):Wp m Q':=let⟨a,ha,r⟩:=h;⟨a,hq a ha,r⟩
theorem cA{b:Bool}{m:Nat->Option α}{Q:α->Prop}(hb:b=true)(h:Wp m Q):Wp (λn=>aR b (m n)) Q:=by subst hb;exact h
theorem aF{b:Bool}{m k:Nat->Option α}{Q:α->Prop}(ht:b=true->Wp m Q)(hf:b=false->Wp k Q):Wp (λn=>bif b then m n else k n) Q:=by
 cases b
 ·exact hf rfl
 ·exact ht rfl
theorem IF{xs:List α}{i:Int}{f:Nat->α->Option β}{Q:β->Prop}{x:α}(h0:0<=i)(hx:xs[i.toNat]? =some x)(h:Wp (λn=>f n x) Q):Wp (λn=>ai_ (b6 xs i) (f n)) Q:=by
 have:b6 xs i=some x:=by simp[b6,h0,hx]
 rw[show(λn=>ai_ (b6 xs i) (f n))=λn=>f n x by funext n;rw[this];rfl]
 exact h
end
section
variable {tbl:Nat->Option Fun'}
theorem aK{f:Nat}{c:TF}{ars:List V}{os:List Ob}{G:aj->Nat->Option (Option S)}{Q:Option S->Prop}(ht:tbl f=some (.code c))(hl:(o_ os.length c.m&&aC_ ars.length c.ntmps)=true)(hx:∀O n,ca O n c ars os=G O n)(h:Wp (λn=>G (wm tbl n) n) Q):Conv tbl f ars os Q:=by
 obtain⟨a,ha,n0,hn⟩:=h
 refine⟨a,ha,n0+1,λn h1=>?_⟩
 obtain⟨m,rfl⟩:∃m,n=m+1:=⟨n - 1,by omega⟩
 simp only[wm,ht,hl,cond_true]
 rw[hx]
 exact hn m (by omega)
def J1(sh:Sh)(s:S):Option (HL sh.sl):=bif o_ s.fr.length sh.n&&BE sh.n s.fr then pack sh s else none
def aL(tbl:Nat->Option Fun')(f:Nat)(ars:List V)(os:List Ob)(sh:Sh)(c:HL sh.sl):Prop:=∃n0,∀n,n0<=n->aG (wm tbl n) f ars os sh=some c
theorem aH{f:Nat}{ars:List V}{os:List Ob}{sh:Sh}{c:HL sh.sl}(hp:J1 sh (kE sh c)=some c)(h:Conv tbl f ars os (·=some (kE sh c))):aL tbl f ars os sh c:=by
 obtain⟨o,rfl,n0,hn⟩:=h
 refine⟨n0,λn h1=>?_⟩
 have e:wm tbl n f ars os=some (some (kE sh c)):=hn n h1
 unfold aG
 rw[e]
 exact hp
theorem aA{f:Nat}{ars:List V}{os:List Ob}{sh:Sh}{β:Type}{k:Nat->HL sh.sl->Option β}{Q:β->Prop}{c:HL sh.sl}(h:aL tbl f ars os sh c)(hk:Wp (λn=>k n c) Q):Wp (λn=>ai_ (aG (wm tbl n) f ars os sh) (k n)) Q:=by
 obtain⟨n0,hn⟩:=h
 exact an ⟨c,hk,n0,hn⟩
end
def RX.er:RX->RV
 | .tm t=>.tm t
 | .cell a t=>.cell a t.sz t.ag
structure Entry(P:Program)(f:Nat)(c:TF):Prop where
 body:∃fn,P.funcs[f]? =some fn/\fn.ntmps=c.ntmps/\fn.body.bind (bg P fn.ntmps)=some c.code.er.canon/\fn.results.toList.mapM (fO P)=some (c.res.map RX.er)
 ok:(c.code.er.okB&&c.code.wf P c.m&&c.sh.wfB&&aC_ c.m c.sh.sk.hp.length)=true
theorem d5{P:Program}{f:Nat}{c:TF}{fn:Func}(h0:P.funcs[f]? =some fn)(h:(fn.ntmps,fn.body.bind (bg P fn.ntmps),fn.results.toList.mapM (fO P),(c.code.er.okB&&c.code.wf P c.m&&c.sh.wfB&&aC_ c.m c.sh.sk.hp.length))=(c.ntmps,some c.code.er.canon,some (c.res.map RX.er),true)):Entry P f c:=by
 simp only[aQ_.injEq]at h
 exact⟨⟨fn,h0,h.1,h.2.1,h.2.2.1⟩,h.2.2.2⟩
section
variable {P:Program} {O:aj} {n:Nat}
theorem oq{s:S}:∀{l:List RX} {vs:List V},yj s l=some vs->(l.map RX.er).mapM (wV (enc s))=some (vs.map aE)
 |[],vs,h=>by cases h;rfl
 | .tm t::l,vs,h=>by
  simp only[yj]at h
  split at h
  ·rename_i v hv
   split at h
   ·rename_i us hu
    cases h
    rw[m_,E_,oq hu]
    have:wV (enc s) (RX.tm t).er=some (aE v):=by show Av.look (enc s).fr t=_;rw[bk,hv];rfl
    rw[this];rfl
   ·cases h
  ·cases h
 | .cell a t::l,vs,h=>by
  simp only[yj]at h
  split at h
  ·rename_i id off hv
   split at h
   ·rename_i tid cs ho
    obtain⟨h1,h2⟩:=aB h
    have h3:=g_ h1
    split at h2
    ·rename_i us hu
     cases h2
     rw[m_,E_,oq hu]
     have:wV (enc s) (RX.cell a t).er=some (aE (whole t ((cs.drop off).take t.sz))):=by
      show(Av.look (enc s).fr a).bind _=_
      rw[bk,hv]
      show(match(enc s).hp[id]? with
       |some (.box _ cs)=>if off+t.sz<=cs.length/\(t.ag=false->t.sz=1)then some (ii t.ag ((cs.drop off).take t.sz))else none
       |_=>none)=_
      rw[aY,ho]
      show(if off+t.sz<=(cs.map aC).length/\(t.ag=false->t.sz=1)then some (ii t.ag (((cs.map aC).drop off).take t.sz))else none)=_
      rw[if_pos ⟨by simpa using h3,cE⟩,sN,ah_,aF_]
      intro hag
      exact sw h3 (cE hag)
     rw[this];rfl
    ·cases h2
   ·cases h
  ·cases h
theorem lF:∀(vs:List V) (k:Nat),(b7 k vs).map (λx=>(x.1,aE x.2))=nB k (vs.map aE)
 |[],_=>rfl
 |v::vs,k=>by
  simp only[b7,m_,nB,lF vs (k+1)]
theorem tf:∀(vs:List V) (k i:Nat),lk (b7 k vs) (k+i)=vs[i]?
 |[],_,_=>by simp[b7,lk]
 |v::vs,k,i=>by
  simp only[b7,lk,c9]
  cases i with
  |zero=>simp
  |succ i=>
   rw[decide_eq_false (by omega:¬k+(i+1)=k)]
   simp only[cond_false,List.getElem?_cons_succ]
   rw[show k+(i+1)=(k+1)+i by omega]
   exact tf vs (k+1) i
theorem fp:∀(l:List Slot) (c:HL l) (b:S),(unpack l c b).fr.length=b.fr.length+(l.filter λx=>match x with| .tm _ _=>true|_=>false).length
 |[],_,_=>rfl
 | .tm j t::l,c,b=>by
  show(unpack l c.2 ⟨(j,.d t c.1)::b.fr,b.hp⟩).fr.length=_
  rw[fp l]
  simp only[A_,if_true,H_]
  omega
 | .cell id j t::l,c,b=>by
  show(unpack l c.2 ⟨b.fr,_⟩).fr.length=_
  rw[fp l]
  simp[A_]
 | .vec _ _ _::l,c,b=>by
  show(unpack l c.2 ⟨b.fr,_⟩).fr.length=_
  rw[fp l]
  simp[A_]
 | .map _ _ _ _ _::l,c,b=>by
  show(unpack l c.2 ⟨b.fr,_⟩).fr.length=_
  rw[fp l]
  simp[A_]
 | .tree _ _ _ _::l,c,b=>by
  show(unpack l c.2 ⟨b.fr,_⟩).fr.length=_
  rw[fp l]
  simp[A_]
 | .treeH _ _ _ _ _ _::l,c,b=>by
  show(unpack l c.2 ⟨b.fr,_⟩).fr.length=_
  rw[fp l]
  simp[A_]
theorem HW(sh:Sh)(c:HL sh.sl):(kE sh c).fr.length=sh.n:=by
 unfold kE
 rw[fp,base_nil];rfl
def zE(v:V):BV:=match v with
 | .agg vs=>.pv ((aE (.agg vs)).toPV.getD .any)
 |v=>aC v
theorem EP{v:V}(h:v.one=true):aE v= .b (zE v)\/∃p,(aE v).toPV=some p/\zE v= .pv p:=by
 cases v with
 |agg vs=>
  obtain⟨cs,hcs⟩:=oG vs h
  have:(aE (.agg vs)).toPV=some (.agg cs):=by
   show((vs.map aC).mapM BV.toPV).map PV.agg=_
   rw[hcs];rfl
  exact .inr ⟨_,this,by simp only[zE,this];rfl⟩
 |tup vs=>cases h
 |_=>exact .inl rfl
theorem HV{v:V}(h:v.one=true):∀i∈(zE v).ids,i∈v.ids:=λi hi=>by
 rw[kh]
 rcases EP h with e|⟨p,_,e⟩
 ·rw[e];exact hi
 ·rw[e]at hi;cases hi
theorem KH{v v':V}(h:v.one=true)(hle:LeA (aE v) (aE v')):LeB (zE v) (aC v'):=by
 cases hv:v.isA
 ·have e:zE v=aC v:=by cases v<;>first|rfl|cases hv
  rw[gH hv]at hle
  rw[e]
  exact JZ hle
 ·cases v with
  |agg vs=>
   obtain⟨cs,hcs⟩:=oG vs h
   have ht:(AV.agg (vs.map aC)).toPV=some (.agg cs):=by
    show((vs.map aC).mapM BV.toPV).map PV.agg=_
    rw[hcs];rfl
   have e:zE (.agg vs)= .pv (.agg cs):=by
    show BV.pv ((AV.agg (vs.map aC)).toPV.getD .any)=_
    rw[ht];rfl
   rw[e]
   cases hv':v'.isA
   ·rw[gH hv']at hle
    generalize aC v'=z at hle⊢
    have hle':LeA (.agg (vs.map aC)) (.b z):=hle
    cases hle' with
    |data _ q hq=>
     rw[ht]at hq;cases hq;exact .refl _
    |any=>exact .any _
   ·cases v' with
    |agg vs=>exact .any _
    |tup vs=>exact .any _
    |_=>cases hv'
  |tup vs=>cases h
  |_=>cases hv
theorem sD{L:Nat}{x:BV}(h:∀i∈x.ids,i<L):x.ren ((N_ L).idxOf ·)=x:=by
 have key:∀i,i<L->(N_ L).idxOf i=i:=λi hi=>by
  have h1:=kZ (ids:=N_ L) (i:=i) (I_.2 hi)
  obtain⟨h2,h3⟩:=i_.1 h1
  rw[List.getElem_range]at h3
  exact h3
 cases x<;>simp only[BV.ren]<;>simp only[BV.ids,p_,forall_eq]at h<;>first
  |rfl
  |(rw[key _ h])
  |skip
 rename_i f ids
 congr 1
 have:∀l:List Nat,(∀i∈l,i<L)->l.map ((N_ L).idxOf ·)=l:=by
  intro l hl
  induction l with
  |nil=>rfl
  |cons a l ih=>rw[m_,key a (hl a (by simp)),ih λi hi=>hl i (by simp[hi])]
 exact this ids h
theorem mI{L:Nat}:∀{xs:List BV},(∀i∈xs.flatMap BV.ids,i<L)->xs.map (BV.ren ((N_ L).idxOf ·))=xs
 |[],_=>rfl
 |x::xs,h=>by
  rw[m_,sD λi hi=>h i (by simp[hi]),mI λi hi=>h i (by
   simp only[ad_,c_];exact .inr hi)]
theorem Dv{L:Nat}{x:AV}(h:∀i∈x.ids,i<L):x.ren ((N_ L).idxOf ·)=x:=by
 cases x with
 |b x=>simp only[AV.ren,sD h]
 |agg xs=>simp only[AV.ren,mI h]
 |tup xs=>simp only[AV.ren,mI h]
theorem Dw{L:Nat}{o:AObj}(h:∀i∈o.ids,i<L):o.ren ((N_ L).idxOf ·)=o:=by
 cases o with
 |box t cs=>simp only[AObj.ren,mI h]
 |tree e sz k xs hole=>
  cases hole with
  |none=>rfl
  |some q=>obtain⟨i,j,b⟩:=q;simp only[AObj.ren,zB,sD (show ∀i∈b.ids,i<L from h)]
 |_=>rfl
theorem Gx{m L T:Nat}{r:AV}{hp:List AObj}(hL:L<=hp.length)(hm:m<=L)(hr:∀i∈r.ids,i<L)(ho:∀o∈hp.take L,∀i∈o.ids,i<L):Weak m ⟨[(T,r)],hp⟩ ⟨[(T,r)],hp.take L⟩:=by
 refine Ck (N_ L) List.nodup_range (λk hk=>by rw[U_ (by omega)]) (λk y hk=>⟨y,hk,λi hi=>?_,?_⟩) (by simp;omega) λj o' hj=>?_
 ·simp only[Av.look]at hk
  split at hk
  ·cases hk;exact I_.2 (hr i hi)
  ·cases hk
 ·simp only[Av.look]at hk
  split at hk
  ·cases hk;rw[Dv hr]
  ·cases hk
 ·have hj':(hp.take L)[j]? =some o':=hj
  have hjl:=(i_.1 hj').1
  have hjL:j<L:=by rw[af_]at hjl;omega
  have hmem:=u_ hj'
  refine⟨j,o',by rw[U_ hjL],?_,λi hi=>I_.2 (ho o' hmem i hi),(Dw (ho o' hmem)).symm⟩
  rw[X_ hjL]at hj'
  exact hj'
def xz(o:Option S)(out:uu):Prop:=match o with
 |some s=>out=some (aE (res s.fr.length s.fr),s.hp.map aV)
 |none=>out=none
theorem gI{c:TF}{s:S}{o:Option S}{m:Nat}(hw:c.sh.wfB=true)(hm:m<=c.sh.sk.hp.length)(h:uZ c s=some o):W m (td m (c.res.map RX.er) (xz o) .normal) (enc s):=by
 unfold uZ at h
 split at h
 ·rename_i vs hvs
  obtain⟨h1,h2⟩:=aB h
  simp only[a_,j_,z_]at h1
  obtain⟨⟨⟨⟨g1,g2⟩,g3⟩,g4⟩,g5⟩:=h1
  have hL:=g_ g1
  have hn:=b_ g4
  generalize hLe:c.sh.sk.hp.length=L at*
  split at h2
  ·rename_i x hx
   unfold aJ at h2
   cases h2
   have hk0:∀k v,lk (bT (⟨[],[]⟩:S).fr c.sh.keep) k=some v->lk (b7 0 vs) k=some v:=by
    intro k v hv
    have:=(fx hv).2.1
    cases this
   have hP:=vw (s0:=⟨[],[]⟩) hw hx hk0
   have hS:=hP.le
   have hlk:∀i,lk (b7 0 vs) i=vs[i]? :=λi=>by have:=tf vs 0 i;rw[S_]at this;exact this
   have hlen:(kE c.sh x).hp.length=L:=by
    have:(s.hp.take L).length=(kE c.sh x).hp.length:=hP.len
    rw[<-this,af_];omega
   obtain⟨r,r1,r2,r3⟩:∃r:AV,xS (vs.map aE) r/\(∀i∈r.ids,i<L)/\LeA r (aE (res (kE c.sh x).fr.length (kE c.sh x).fr)):=by
    rw[HW,hn]
    have hids:∀v∈vs,∀i∈v.ids,i<L:=λv hv i hi=>g_ (g3 v hv i hi)
    have many:vs.length≠1->∃r:AV,(∃bs:List BV,r= .tup bs/\bs.length=(vs.map aE).length/\∀(i:Nat) (x:AV) (b:BV),(vs.map aE)[i]? =some x->bs[i]? =some b->x= .b b\/∃p,x.toPV=some p/\b= .pv p)/\(∀i∈r.ids,i<L)/\LeA r (aE (res vs.length (kE c.sh x).fr)):=by
     intro hne
     have hone:∀v∈vs,v.one=true:=λv hv=>by
      rcases g5 with g5|g5
      ·exact absurd (b_ g5) hne
      ·exact g5 v hv
     refine⟨.tup (vs.map zE),⟨_,rfl,by simp,λi y b hy hb=>?_⟩,λi hi=>?_,?_⟩
     ·simp only[h_,f_]at hy hb
      obtain⟨v,hv,rfl⟩:=hy
      obtain⟨v',hv',rfl⟩:=hb
      rw[hv]at hv';cases hv'
      exact EP (hone v (u_ hv))
     ·obtain⟨b,hb,hib⟩:=s_.1 (show i∈(vs.map zE).flatMap BV.ids from hi)
      obtain⟨v,hv,rfl⟩:=Q_.1 hb
      exact hids v hv i (HV (hone v hv) i hib)
     ·unfold res
      have:o_ vs.length 1=false:=by rw[c9];exact decide_eq_false hne
      rw[this]
      refine .tup _ _ (by simp[Gf]) λi a b ha hb=>?_
      simp only[Gf,h_,f_]at ha hb
      obtain⟨v,hv,rfl⟩:=ha
      obtain⟨w,⟨j,hj,rfl⟩,rfl⟩:=hb
      have hil:=(i_.1 hv).1
      rw[U_ hil]at hj
      cases hj
      cases hl:lk (kE c.sh x).fr i with
      |none=>exact .any _
      |some v'=>
       obtain⟨u,hu,hle⟩:=hP.fr i v' hl
       have hu':lk (b7 0 vs) i=some u:=hu
       rw[hlk,hv]at hu'
       cases hu'
       exact KH (hone v (u_ hv)) hle
    match vs,many with
    |[v0],_=>
     refine⟨aE v0,rfl,λi hi=>hids v0 (by simp) i (by rw[kh];exact hi),?_⟩
     show LeA _ (aE ((lk (kE c.sh x).fr 0).getD .any))
     cases hl:lk (kE c.sh x).fr 0 with
     |none=>exact .any _
     |some v'=>
      obtain⟨u,hu,hle⟩:=hP.fr 0 v' hl
      have hu':lk (b7 0 [v0]) 0=some u:=hu
      rw[hlk]at hu'
      cases hu'
      exact hle
    |[],many=>exact many (by simp)
    |_::_::_,many=>exact many (by simp)
   refine W.mk (W.mk ⟨_,r,oq hvs,r1,_,_,λT=>?_,rfl,by rw[e_,hlen];exact hm⟩)
   have hLh:L<=(enc s).hp.length:=by rw[i7];exact hL
   refine(Gx hLh hm r2 λo ho i hi=>?_).trans (LeS.weak ⟨λk y hk=>?_,?_,λi a b ha hb=>hS.hp i a b ?_ hb⟩)
   ·have ho':o∈(s.hp.map aV).take L:=ho
    rw[<-ah_]at ho'
    obtain⟨o1,h3,rfl⟩:=Q_.1 ho'
    rw[<-uU]at hi
    exact g_ (g2 o1 h3 i hi)
   ·simp only[Av.look]at hk⊢
    split at hk
    ·rename_i hkT
     cases hk
     exact⟨r,by rw[if_pos hkT],r3⟩
    ·cases hk
   ·show((s.hp.map aV).take L).length=((kE c.sh x).hp.map aV).length
    rw[e_,hlen,af_,e_];omega
   ·have ha':((s.hp.map aV).take L)[i]? =some a:=ha
    rw[<-ah_]at ha'
    exact ha'
  ·cases h2
 ·cases h
theorem C6(hm:P.follows .mixedOrders=true)(hO:OracleOk P O){f:Nat}{c:TF}{ars:List V}{os:List Ob}{o:Option S}(hE:Entry P f c)(hos:os.length=c.m)(hars:ars.length<=c.ntmps)(h:ca O n c ars os=some o):ACalls P f (ars.map aE) (os.map aV) (xz o):=by
 obtain⟨fn,h1,h3,h24,h5⟩:=hE.body
 obtain⟨code,h2,h4⟩:=t_.1 h24
 have hok:=hE.ok
 simp only[a_]at hok
 obtain⟨⟨⟨k1,k2⟩,k3⟩,k4⟩:=hok
 have k5:=g_ k4
 have hol:(os.map aV).length=c.m:=by rw[e_,hos]
 have henc:(⟨nB 0 (ars.map aE),os.map aV⟩:St)=enc ⟨b7 0 ars,os⟩:=by
  simp only[enc,lF]
 refine Ft hm h1 h2 h4 k1 h5 (by rw[e_,h3];exact hars) ?_
 rw[henc,hol]
 refine oJ (D2:=True) hO c.code (Option S) _ _ _ _ _ o _ k2 (λ_=>trivial) h ⟨λs' _ hh=>gI k3 k5 hh,λi s' _ hh=>(by cases hh),λs' _ hh=>gI k3 k5 hh,λs' _ hh=>?_,λ_ ⟨_,_,hk⟩=>hk,λ_ _ _ hk=>hk⟩
 cases hh;exact rfl
structure EntryD(P:Program)(f:Nat)(d:TD):Prop where
 body:∃fn CA CB CH h j y3 p3 a3 y4 p4 a4,P.funcs[f]? =some fn/\fn.ntmps=d.c.ntmps/\
  fn.body=some (.seq CA (.seq (.region j #[⟨some d.t8,.makeFunc (.func h) #[] #[.tmp d.ta,.tmp d.tb],y3,p3,a3,none⟩,⟨none,.defer {callee:=.value (.tmp d.t8),args:= #[],argTypes:= #[]},y4,p4,a4,none⟩] false) CB))/\
  bg P fn.ntmps CA=some d.a.er.canon/\bg P fn.ntmps CB=some d.c.code.er.canon/\Catch P h CH/\bg P 5 CH=some d.h.er.canon/\fn.results.toList.mapM (fO P)=some (d.c.res.map RX.er)
 ok:(d.a.er.okB&&d.a.wf P 0&&d.c.code.er.okB&&d.c.code.wf P 2&&d.h.er.okB&&d.h.wf P 2&&d.c.sh.wfB&&aC_ (d.t8+1) d.c.ntmps&&d.c.code.noD2)=true
theorem ra{s:S}{t i:Nat}(h:pN s t i=true):Av.look (enc s).fr t=some (.b (.ptr i 0)):=by
 unfold pN at h
 split at h
 ·rename_i j o hv
  rw[a_]at h
  rw[bk,hv,b_ h.1,b_ h.2];rfl
 ·cases h
theorem KF{s:S}{t:Nat}(h:L8 s t=true):Av.look (enc s).fr t=none:=by
 unfold L8 at h
 split at h
 ·cases h
 ·rename_i hv
  rw[bk,hv];rfl
theorem mz{rs:List RV}{K:uu->Prop}{st:St}(h:W 0 (td 0 rs K .normal) st):td 0 rs K .normal st:=let⟨_,e1,h1⟩:=h;W.from e1 h1
theorem C7(hm:P.follows .mixedOrders=true)(hO:OracleOk P O){f:Nat}{d:TD}{ars:List V}{o:Option S}(hE:EntryD P f d)(hars:ars.length<=d.c.ntmps)(h:Jb O n d ars=some o):ACalls P f (ars.map aE) [] (xz o):=by
 obtain⟨fn,CA,CB,CH,hh,j,y3,p3,a3,y4,p4,a4,h1,h2,h3,h4,h5,h6,h7,h8⟩:=hE.body
 have hok:=hE.ok
 simp only[a_]at hok
 obtain⟨⟨⟨⟨⟨⟨⟨⟨k1,k2⟩,k3⟩,k4⟩,k5⟩,k6⟩,k7⟩,k8⟩,k9⟩:=hok
 have henc:(⟨nB 0 (ars.map aE),[]⟩:St)=enc ⟨b7 0 ars,[]⟩:=by
  simp only[enc,lF,aW_]
 refine CE hm h1 h3 h4 k1 h5 k3 h7 k5 h6 h8 (by rw[e_,h2];exact hars) (by rw[h2];exact g_ k8) ?_
 rw[henc]
 refine oJ (D2:=True) hO d.a (Option S) _ _ _ _ _ o _ k2 (λ_=>trivial) h ⟨λs1 _ hh=>?_,λi s' _ hh=>(by cases hh),λs' _ hh=>(by cases hh),λs' _ hh=>(by cases hh),λ_ ⟨_,_,hk,_⟩=>(by cases hk),λ_ _ _ ⟨hk,_⟩=>(by cases hk)⟩
 obtain⟨g1,g2⟩:=aB hh
 simp only[a_]at g1
 obtain⟨⟨⟨b1,b2⟩,b3⟩,b4⟩:=g1
 refine W.mk ⟨rfl,⟨KF b3,ra b1,ra b2,by rw[i7];exact b_ b4⟩,?_⟩
 refine oJ (D2:=False) hO d.c.code (Option S) _ _ _ _ _ o _ k4 (λe=>by rw[k9]at e;cases e) g2 ⟨λs' _ hh=>?_,λi s' _ hh=>(by cases hh),λs' _ hh=>?_,λs2 _ hh=>?_,λst ⟨s1,e1,e2⟩=>W.from e1 e2,λh=>h.elim⟩
 ·exact W.mk (mz (gI k7 (ac_ _) hh))
 ·exact W.mk (mz (gI k7 (ac_ _) hh))
 ·obtain⟨g3,g4⟩:=aB hh
  simp only[a_]at g3
  refine W.mk ⟨ra g3.1,ra g3.2,?_⟩
  exact oJ (D2:=True) hO d.h (Option S) _ _ _ _ _ o _ k6 (λ_=>trivial) g4 ⟨λs' _ hh=>W.mk ⟨.inl rfl,mz (gI k7 (ac_ _) hh)⟩,λi s' _ hh=>(by cases hh),λs' _ hh=>W.mk ⟨.inr rfl,mz (gI k7 (ac_ _) hh)⟩,λs' _ hh=>(by cases hh),λ_ ⟨_,_,hk,_⟩=>(by rcases hk with hk|hk<;>cases hk),λ_ _ _ ⟨hk,_⟩=>(by rcases hk with hk|hk<;>cases hk)⟩
def ut(P:Program)(f:Nat)(g:List V->Option S):Prop:=∀ars s,g ars=some s->ACalls P f (ars.map aE) [] (xz (some s))
structure TblOk(P:Program)(tbl:Nat->Option Fun'):Prop where
 code:∀f c,tbl f=some (.code c)->Entry P (f%10000) c
 nat:∀f g,tbl f=some (.nat g)->ut P (f%10000) g
 dfr:∀f d,tbl f=some (.dfr d)->EntryD P (f%10000) d
theorem ya(hm:P.follows .mixedOrders=true){tbl:Nat->Option Fun'}(hT:TblOk P tbl):∀n,OracleOk P (wm tbl n):=by
 have key:∀n f ars os o,wm tbl n f ars os=some o->ACalls P (f%10000) (ars.map aE) (os.map aV) (xz o):=by
  intro n
  induction n with
  |zero=>intro f ars os o h;cases h
  |succ n ih=>
   intro f ars os o h
   have hO:OracleOk P (wm tbl n):=⟨λf ars os s hh=>ih f ars os (some s) hh,λf ars os hh=>ih f ars os none hh⟩
   simp only[wm]at h
   split at h
   ·rename_i c hc
    obtain⟨g1,g2⟩:=aB h
    rw[a_]at g1
    exact C6 hm hO (hT.code f c hc) (b_ g1.1) (g_ g1.2) g2
   ·rename_i d hd
    obtain⟨g1,g2⟩:=aB h
    rw[a_]at g1
    obtain rfl:=List.eq_nil_of_length_eq_zero (b_ g1.1)
    exact C7 hm hO (hT.dfr f d hd) (g_ g1.2) g2
   ·rename_i g hg
    split at h
    ·split at h
     ·rename_i s hs
      cases h
      exact hT.nat f g hg ars s hs
     ·cases h
    ·cases h
   ·cases h
 exact λn=>⟨λf ars os s hh=>key n f ars os (some s) hh,λf ars os hh=>key n f ars os none hh⟩
theorem s3(hm:P.follows .mixedOrders=true){tbl:Nat->Option Fun'}(hT:TblOk P tbl){f:Nat}{ars:List V}{os:List Ob}{Q:Option S->Prop}(h:Conv tbl f ars os Q):∃o,Q o/\ACalls P (f%10000) (ars.map aE) (os.map aV) (xz o):=by
 obtain⟨o,hQ,n0,hn⟩:=h
 have h1:=hn n0 (aB_ _)
 refine⟨o,hQ,?_⟩
 cases o with
 |some s=>exact(ya hm hT n0).ret f ars os s h1
 |none=>exact(ya hm hT n0).pan f ars os h1
def xZ:List (Nat×Fun')->Nat->Option Fun'
 |[],_=>none
 |(k,e)::l,f=>bif o_ f k then some e else xZ l f
def Kc(P:Program)(k:Nat):Fun'->Prop
 | .code c=>Entry P (k%10000) c
 | .dfr d=>EntryD P (k%10000) d
 | .nat g=>ut P (k%10000) g
def AllOk(P:Program):List (Nat×Fun')->Prop
 |[]=>True
 |(k,e)::l=>Kc P k e/\AllOk P l
theorem AllOk.get{l:List (Nat×Fun')}(h:AllOk P l){f:Nat}{e:Fun'}(he:xZ l f=some e):Kc P f e:=by
 induction l with
 |nil=>cases he
 |cons x l ih=>
  obtain⟨k,e'⟩:=x
  simp only[xZ,c9]at he
  by_cases hk:f=k
  ·subst hk
   rw[decide_eq_true rfl]at he
   cases he;exact h.1
  ·rw[decide_eq_false hk]at he
   exact ih h.2 he
theorem AllOk.tbl{l:List (Nat×Fun')}(h:AllOk P l):TblOk P (xZ l):=⟨λ_ _ he=>h.get he,λ_ _ he=>h.get he,λ_ _ he=>h.get he⟩
end
open Go Go.RowKit Go.Av Go.Deep Go.WideShapes
mutual
def HT:Rx->Prop
 | .mk k l h ks=>(IntKind.i64.min<=k/\k<=IntKind.i64.max)/\(IntKind.i64.min<=l/\l<=IntKind.i64.max)/\(IntKind.i64.min<=h/\h<=IntKind.i64.max)/\ks.length<=maxLen/\BD ks
def BD:List Rx->Prop
 |[]=>True
 |r::rs=>HT r/\BD rs
end
def okD:(t:Ty)->t.den->Prop
 | .int k,x=>k.min<=x/\x<=k.max
 | .bool,_=>True
 | .str,x=>aO_ x<=maxLen
 | .list t,x=>aO_ x<=maxLen/\∀y∈x,okD t y
 | .unit,_=>True
 | .pair a b,x=>okD a x.1/\okD b x.2
 | .rx,x=>HT x
theorem sB:∀(l:List Rx),BD l↔∀r∈l,HT r
 |[]=>by simp[BD]
 |r::rs=>by simp[BD,sB rs]
def fM:(t:Ty)->t.den->Nat
 | .int _,_=>1
 | .bool,_=>1
 | .str,x=>aO_ x+1
 | .list t,x=>(List.map (fM t) x).sum+1
 | .unit,_=>0
 | .pair a b,x=>fM a x.1+fM b x.2
 | .rx,_=>1
section
variable {H:Type}
mutual
def da:DataW H->Nat
 | .lit (.string bytes)=>bytes.length+1
 | .lit _=>1
 | .nil=>1
 | .ptr d=>da d+1
 | .slice elems spare=>iZ elems+iZ spare+1
 | .agg parts=>iZ parts+1
 | .iface _ d=>da d+1
 | .map entries=>GZ entries+1
 | .held _=>1
def iZ:List (DataW H)->Nat
 |[]=>0
 |d::r=>da d+iZ r
def GZ:List (Lit×DataW H)->Nat
 |[]=>0
 |x::r=>Kk x+GZ r
def Kk:Lit×DataW H->Nat
 |(.string bytes,d)=>bytes.length+da d+1
 |(_,d)=>da d+1
end
theorem oC(d:DataW H):1<=da d:=by
 cases d with
 |lit l=>cases l<;>simp[da]
 |nil=>simp[da]
 |ptr d=>simp[da]
 |slice elems spare=>simp[da]
 |agg parts=>simp[da]
 |iface t d=>simp[da]
 |map entries=>simp[da]
 |held h=>simp[da]
theorem AN{α β:Type}{f:α->Nat}{g:β->DataW H}:∀(xs:List α) (ds:List β),xs.length=ds.length->(∀(i:Nat) (x:α),xs[i]? =some x->∃d:β,ds[i]? =some d/\f x<=da (g d))->(xs.map f).sum<=iZ (ds.map g)
 |[],[],_,_=>aB_ _
 |x::xs,d::ds,hl,h=>by
  obtain⟨d',h1,h2⟩:=h 0 x rfl
  cases h1
  have:=AN xs ds (by simpa using hl) λi x hx=>h (i+1) x (by simpa using hx)
  simp only[m_,List.sum_cons,iZ]
  omega
 |[],_::_,h,_=>(by cases h)
 |_::_,[],h,_=>(by cases h)
end
def LR(P:Program)(t:TypeId):Bool:=match P.underlying t with
 |some (.struct fs)=>match fs.toList with
  |[f0,f1,f2,f3]=>(match P.underlying f0.type,P.underlying f1.type,P.underlying f2.type,P.underlying f3.type with
   |some (.int .i64),some (.int .i64),some (.int .i64),some (.slice e)=>o_ e t
   |_,_,_,_=>false)&&o_ f0.offset 0&&o_ f1.offset 1&&o_ f2.offset 2&&o_ f3.offset 3&&
    o_ (P.cellsOf f0.type) 1&&o_ (P.cellsOf f1.type) 1&&o_ (P.cellsOf f2.type) 1&&o_ (P.cellsOf f3.type) 1&&o_ (P.cellsOf t) 4
  |_=>false
 |_=>false
def Lg(P:Program)(go:TypeId->Ty->Bool):List Field->Nat->Ty->Bool
 |[],_,.unit=>true
 |f::l,off,.pair a b=>o_ f.offset off&&o_ (P.cellsOf f.type) a.sz&&go f.type a&&Lg P go l (off+a.sz) b
 |_,_,_=>false
def Lf(P:Program)(go:TypeId->Ty->Bool)(e:TypeId):Nat->Ty->Bool
 |0,.unit=>true
 |n+1,.pair a b=>o_ (P.cellsOf e) a.sz&&go e a&&Lf P go e n b
 |_,_=>false
def ki(P:Program):Nat->TypeId->Ty->Bool
 |0,_,_=>false
 |d+1,t,u=>match u with
  | .rx=>LR P t
  | .bool=>(match P.underlying t with|some .bool=>true|_=>false)
  | .int k=>(match P.underlying t with|some (.int k')=>decide (k=k')|_=>false)
  | .str=>(match P.underlying t with|some .string=>true|_=>false)
  | .list a=>(match P.underlying t with|some (.slice e)=>o_ (P.cellsOf e) a.sz&&aC_ 1 a.sz&&ki P d e a|_=>false)
  |u=>(match P.underlying t with
   |some (.struct fs)=>o_ (P.cellsOf t) u.sz&&Lg P (ki P d) fs.toList 0 u
   |some (.array n e)=>o_ (P.cellsOf t) u.sz&&Lf P (ki P d) e n u
   |_=>false)
theorem EI{α:Type}{p:Nat->α->Prop}:∀(n:Nat),(∀i,i<n->∃x,p i x)->∃xs:List α,xs.length=n/\∀i x,xs[i]? =some x->p i x
 |0,_=>⟨[],rfl,λi x h=>by simp at h⟩
 |n+1,h=>by
  obtain⟨xs,h1,h2⟩:=EI (p:=p) n λi hi=>h i (by omega)
  obtain⟨x,hx⟩:=h n (by omega)
  refine⟨xs++[x],by simp[h1],λi y hy=>?_⟩
  rcases aj_ i xs.length with hi|hi
  ·rw[l_ hi]at hy;exact h2 i y hy
  ·rw[r_ hi]at hy
   have:i - xs.length=0:=by
    rcases Nat.eq_zero_or_pos (i - xs.length)with h3|h3
    ·exact h3
    ·rw[List.getElem?_eq_none (show [x].length<=i - xs.length from h3)]at hy;cases hy
   rw[this]at hy
   simp at hy
   subst hy
   have:i=n:=by omega
   subst this;exact hx
section
variable {H:Type} {enc:TypeId×Value->H} {P:Program} {w:World}
abbrev Rd(w:World)(u:Ty)(cs:List Value)(x:u.den):Prop:=okD u x/\cs.length=u.sz/\∀(j:Nat) (y:PV),(ap u x)[j]? =some y->∃c,cs[j]? =some c/\RelP (λb=>b<w.heap.size) w c y
theorem zx{k:IntKind}{n:Int}(hw:(Lit.int k n).wf=true):Rd w (.int k) [.int k n] n:=by
 refine⟨?_,rfl,λj y hy=>?_⟩
 ·show k.min<=n/\n<=k.max
  simpa[Lit.wf]using hw
 ·match j,hy with
  |0,hy=>cases hy;exact⟨_,rfl,.sc _⟩
theorem BY{a:Ty}{e:TypeId}{n:Nat}{cs:List Value}{x:DataW H×List MemPlace}{t:TypeId}(ht:P.underlying t=some (.slice e))(hce:P.cellsOf e=a.sz)(hpos:1<=a.sz)
 (ih:∀(m:Nat) (cs:List Value) (d:DataW H) (ps:List MemPlace),m<n->DataW.trod enc P w 0 (λ_=>true) true m e cs=some (d,ps)->(∀p∈ps,p.block<w.heap.size)->∃x:a.den,Rd w a cs x/\fM a x<=da d)
 (h:DataW.trod enc P w 0 (λ_=>true) true n t cs=some x) (hlt:∀p∈x.2,p.block<w.heap.size):∃xs:List a.den,Rd w (.list a) cs xs/\fM (.list a) xs<=da x.1:=by
 have h':=DataW.trod_slice ht h
 obtain⟨X,hX⟩:∃X,X=x:=⟨_,rfl⟩
 rcases open_slice ht h with⟨rfl,_⟩|⟨ad,len,cap,m,n',D,Pl,rfl,_,hl,hm,hmm,rfl,hx⟩
 ·refine⟨[],⟨⟨ac_ _,λy hy=>by cases hy⟩,rfl,λj y hy=>?_⟩,oC _⟩
  match j,hy with
  |0,hy=>cases hy;exact⟨_,rfl,.nil none 0⟩
 ·simp only[if_true]at hmm
  subst hmm
  obtain⟨elems,rest,n3,hn3,hxx,hel,hget⟩:∃(elems rest:List (DataW H×List MemPlace)) (n3:Nat),n3<n/\X=(.slice (elems.map (·.1)) (rest.map (·.1)),MemPlace.row ad ((elems.length+rest.length)*P.cellsOf e)++(elems++rest).flatMap (·.2))/\elems.length=len/\
   ∀i,i<len->(w.cells? 0 (ad.add (i*P.cellsOf e)) (P.cellsOf e)).bind (DataW.trod enc P w 0 (λ_=>true) true n3 e)=elems[i]? :=by
   rcases h' with⟨hc,_⟩|⟨a',len',cap',elems,rest,n3,rfl,hc,hxx,_,_,_,hel,hget,_⟩
   ·simp at hc
   ·simp only[List.cons.injEq,Value.slice.injEq,k_,and_true]at hc
    obtain⟨rfl,rfl,rfl⟩:=hc
    exact⟨elems,rest,n3,by omega,hX.trans hxx,hel,hget⟩
  have step:∀i,i<len->∃x:a.den,(∃d,elems[i]? =some d/\fM a x<=da d.1)/\∃cs',w.cells? 0 (ad.add (i*a.sz)) a.sz=some cs'/\Rd w a cs' x:=by
   intro i hi
   have h4:=hget i hi
   rw[d_ (by omega)]at h4
   obtain⟨cs',h5,h6⟩:=t_.1 h4
   rw[hce]at h5
   obtain⟨y,hy,hb⟩:=ih n3 cs' _ _ hn3 h6 λp hp=>by
    have h8:(elems[i]:DataW H×List MemPlace)∈elems++rest:=C_ _ (ae_ _)
    have h9:p∈(elems++rest).flatMap (·.2):=s_.2 ⟨_,h8,hp⟩
    have h10:=congrArg Prod.snd (hX.symm.trans hxx)
    simp only at h10
    refine hlt p ?_
    simp only
    rw[h10]
    exact F_ _ h9
   exact⟨y,⟨_,d_ (by omega),hb⟩,cs',h5,hy⟩
  obtain⟨xs,hxl,hxs⟩:=EI len step
  have hbulk:fM (.list a) xs<=da (DataW.slice (H:=H) (elems.map (·.1)) (rest.map (·.1))):=by
   have:=AN (f:=fM a) (g:=λd:DataW H×List MemPlace=>d.1) xs elems (by omega) λi x hx=>(hxs i x hx).1
   simp only[fM,da]
   omega
  refine⟨xs,⟨⟨by rw[hxl];omega,λy hy=>?_⟩,rfl,λj y hy=>?_⟩,by have h1:=congrArg Prod.fst (hX.symm.trans hxx);simp only at h1⊢;rw[h1];exact hbulk⟩
  ·obtain⟨i,hi⟩:=aA_ hy
   obtain⟨_,cs',_,h2⟩:=hxs i y hi
   exact h2.1
  ·rw[bZ (t:=.list a) xs rfl]at hy
   match j,hy with
   |0,hy=>
    cases hy
    refine⟨_,rfl,?_⟩
    have hlen:(xs.map (ao a)).length=len:=by rw[e_,hxl]
    show RelP _ w (.slice (some ad) len m) (fk a.sz (xs.map (ao a)))
    rw[<-hlen]
    refine cq (by omega) λhp=>?_
    rw[hlen]at hp
    obtain⟨x0,hx0⟩:∃x0,xs[0]? =some x0:=⟨xs[0]'(by omega),d_ (by omega)⟩
    obtain⟨_,cs0,hc0,hr0⟩:=hxs 0 x0 hx0
    obtain⟨b,off,spot⟩:=ad
    have hspot:spot=none:=by
     obtain⟨_,hcl,hcg⟩:=World.cells?_some hc0
     have h1:=hcg 0 (by omega)
     rw[d_ (by omega)]at h1
     simpa[Addr.add]using World.cell?_spot h1
    subst hspot
    refine⟨b,off,rfl,?_,λp hp=>?_,λi j x y hx hy=>?_⟩
    ·refine hlt (.cell b off) (C_ _ (MemPlace.mem_row.2 ⟨0,?_,by simp⟩))
     rw[hce]
     exact Nat.mul_pos (by omega) hpos
    ·obtain⟨q,_,rfl⟩:=Q_.1 hp
     exact ar a q
    ·rw[h_]at hx
     obtain⟨q,hq,rfl⟩:=f_.1 hx
     obtain⟨_,cs',h1,h2,h3,h4⟩:=hxs i q hq
     obtain⟨c,h5,h6⟩:=h4 j y hy
     refine⟨c,?_,h6⟩
     have hj:j<a.sz:=by rw[<-h3];exact(i_.1 h5).1
     have h7:=(World.cells?_some h1).2.2 j hj
     rw[add_plain,add_plain]at h7
     rw[h7,h5]
theorem JX{n d:Nat}{cs:List Value}(ih:∀(t:TypeId) (u:Ty) (cs:List Value) (dd:DataW H) (ps:List MemPlace),ki P d t u=true->DataW.trod enc P w 0 (λ_=>true) true n t cs=some (dd,ps)->(∀p∈ps,p.block<w.heap.size)->∃x:u.den,Rd w u cs x/\fM u x<=da dd):
 ∀(l:List Field) (dl:List (DataW H×List MemPlace)) (off:Nat) (u:Ty),Lg P (ki P d) l off u=true->dl.length=l.length->(∀(i:Nat) (f:Field),l[i]? =some f->∃d:DataW H×List MemPlace,dl[i]? =some d/\DataW.trod enc P w 0 (λ_=>true) true n f.type ((cs.drop f.offset).take (P.cellsOf f.type))=some d/\∀p∈d.2,p.block<w.heap.size)->
  ∃x:u.den,okD u x/\fM u x<=iZ (dl.map (·.1))/\∀(j:Nat) (y:PV),(ap u x)[j]? =some y->∃c,cs[off+j]? =some c/\RelP (λb=>b<w.heap.size) w c y
 |[],_,off,u,hf,_,_=>by
  cases u<;>simp only[Lg]at hf<;>try cases hf
  exact⟨(),trivial,ac_ _,λj y hy=>by simp[ap,ao,PV.cells]at hy⟩
 |f::l,[],_,_,_,h,_=>by simp at h
 |f::l,d0::dl,off,u,hf,hdl,hl=>by
  cases u<;>simp only[Lg]at hf<;>try cases hf
  rename_i a b
  simp only[a_]at hf
  obtain⟨⟨⟨h1,h2⟩,h3⟩,h4⟩:=hf
  have e1:=b_ h1
  have e2:=b_ h2
  obtain⟨d1,hd1,h5,h6⟩:=hl 0 f rfl
  cases hd1
  rw[e1,e2]at h5
  obtain⟨x,⟨x1,x2,x3⟩,x4⟩:=ih f.type a _ d0.1 d0.2 h3 h5 h6
  obtain⟨z,z1,z3,z2⟩:=JX ih l dl (off+a.sz) b h4 (by simpa using hdl) λi g hg=>by simpa using hl (i+1) g (by simpa using hg)
  refine⟨(x,z),⟨x1,z1⟩,by simp only[fM,m_,iZ];omega,λj y hy=>?_⟩
  have hc:ap (.pair a b) (x,z)=ap a x++ap b z:=rfl
  rw[hc]at hy
  have hla:=ar a x
  rcases aj_ j a.sz with hj|hj
  ·rw[l_ (by omega)]at hy
   obtain⟨c,c1,c2⟩:=x3 j y hy
   rw[X_ hj,am_]at c1
   exact⟨c,c1,c2⟩
  ·rw[r_ (by omega),hla]at hy
   obtain⟨c,c1,c2⟩:=z2 _ y hy
   exact⟨c,by rw[<-c1];congr 1;omega,c2⟩
theorem JR{n d:Nat}{e:TypeId}{cs:List Value}(ih:∀(t:TypeId) (u:Ty) (cs:List Value) (dd:DataW H) (ps:List MemPlace),ki P d t u=true->DataW.trod enc P w 0 (λ_=>true) true n t cs=some (dd,ps)->(∀p∈ps,p.block<w.heap.size)->∃x:u.den,Rd w u cs x/\fM u x<=da dd):
 ∀(k i0:Nat) (dl:List (DataW H×List MemPlace)) (u:Ty),Lf P (ki P d) e k u=true->dl.length=k->(∀(i:Nat),i<k->∃d:DataW H×List MemPlace,dl[i]? =some d/\DataW.trod enc P w 0 (λ_=>true) true n e ((cs.drop ((i0+i)*P.cellsOf e)).take (P.cellsOf e))=some d/\∀p∈d.2,p.block<w.heap.size)->
  ∃x:u.den,okD u x/\fM u x<=iZ (dl.map (·.1))/\∀(j:Nat) (y:PV),(ap u x)[j]? =some y->∃c,cs[i0*P.cellsOf e+j]? =some c/\RelP (λb=>b<w.heap.size) w c y
 |0,i0,_,u,hf,_,_=>by
  cases u<;>simp only[Lf]at hf<;>try cases hf
  exact⟨(),trivial,ac_ _,λj y hy=>by simp[ap,ao,PV.cells]at hy⟩
 |k+1,_,[],_,_,h,_=>by simp at h
 |k+1,i0,d0::dl,u,hf,hdl,hl=>by
  cases u<;>simp only[Lf]at hf<;>try cases hf
  rename_i a b
  simp only[a_]at hf
  obtain⟨⟨h2,h3⟩,h4⟩:=hf
  have e2:=b_ h2
  obtain⟨d1,hd1,h5,h6⟩:=hl 0 (by omega)
  cases hd1
  rw[Nat.add_zero]at h5
  obtain⟨x,⟨x1,x2,x3⟩,x4⟩:=ih e a _ d0.1 d0.2 h3 h5 h6
  obtain⟨z,z1,z3,z2⟩:=JR ih k (i0+1) dl b h4 (by simpa using hdl) λi hi=>by
   have:=hl (i+1) (by omega)
   rw[show i0+(i+1)=i0+1+i by omega]at this
   simpa using this
  refine⟨(x,z),⟨x1,z1⟩,by simp only[fM,m_,iZ];omega,λj y hy=>?_⟩
  have hc:ap (.pair a b) (x,z)=ap a x++ap b z:=rfl
  rw[hc]at hy
  have hla:=ar a x
  rcases aj_ j a.sz with hj|hj
  ·rw[l_ (by omega)]at hy
   obtain⟨c,c1,c2⟩:=x3 j y hy
   rw[X_ (by omega),am_]at c1
   exact⟨c,c1,c2⟩
  ·rw[r_ (by omega),hla]at hy
   obtain⟨c,c1,c2⟩:=z2 _ y hy
   refine⟨c,?_,c2⟩
   rw[<-c1,au_,e2]
   congr 1
   omega
theorem JC:∀(n:Nat) (d:Nat) (t:TypeId) (u:Ty) (cs:List Value) (dd:DataW H) (ps:List MemPlace),ki P d t u=true->DataW.trod enc P w 0 (λ_=>true) true n t cs=some (dd,ps)->(∀p∈ps,p.block<w.heap.size)->∃x:u.den,Rd w u cs x/\fM u x<=da dd:=by
 intro n
 induction n using Nat.strongRecOn with
 |ind n ih=>
 intro d t u cs dd ps hf h hlt
 cases d with
 |zero=>cases hf
 |succ d=>
 have agg:(∀a b,u= .pair a b->True)->u.ag=true->u≠.rx->(match P.underlying t with
  |some (.struct fs)=>o_ (P.cellsOf t) u.sz&&Lg P (ki P d) fs.toList 0 u
  |some (.array n e)=>o_ (P.cellsOf t) u.sz&&Lf P (ki P d) e n u
  |_=>false)=true->∃x:u.den,Rd w u cs x/\fM u x<=da dd:=by
  intro _ _ _ hf
  split at hf
  ·rename_i fs ht
   rw[a_]at hf
   have e1:=b_ hf.1
   obtain⟨xs,m,rfl,hx,hcl,hxl,hel⟩:=DataW.trod_struct ht h
   simp only[aQ_.injEq]at hx
   obtain⟨rfl,rfl⟩:=hx
   obtain⟨x,x1,xb,x2⟩:=JX (n:=m) (cs:=cs) (λt u cs dd ps hf h hlt=>ih m (by omega) d t u cs dd ps hf h hlt) fs.toList xs 0 u hf.2 (by rw[hxl,Array.length_toList]) λi f hi=>by
    have hi':fs[i]? =some f:=by rw[<-ax_];exact hi
    have h1:=hel i f hi'
    have hil:i<xs.length:=by rw[hxl];exact(ak_.1 hi').1
    rw[d_ hil]at h1
    exact⟨_,d_ hil,h1,λp hp=>hlt p (s_.2 ⟨_,ae_ hil,hp⟩)⟩
   refine⟨x,⟨x1,by rw[hcl,e1],λj y hy=>?_⟩,by simp only[da];omega⟩
   have:=x2 j y hy
   rw[S_]at this
   exact this
  ·rename_i k e ht
   rw[a_]at hf
   have e1:=b_ hf.1
   obtain⟨xs,m,rfl,hx,hcl,hxl,hel⟩:=DataW.trod_array ht h
   simp only[aQ_.injEq]at hx
   obtain⟨rfl,rfl⟩:=hx
   obtain⟨x,x1,xb,x2⟩:=JR (n:=m) (cs:=cs) (e:=e) (λt u cs dd ps hf h hlt=>ih m (by omega) d t u cs dd ps hf h hlt) k 0 xs u hf.2 hxl λi hi=>by
    have h1:=hel i hi
    have hil:i<xs.length:=by omega
    rw[d_ hil]at h1
    rw[S_]
    exact⟨_,d_ hil,h1,λp hp=>hlt p (s_.2 ⟨_,ae_ hil,hp⟩)⟩
   refine⟨x,⟨x1,by rw[hcl,e1],λj y hy=>?_⟩,by simp only[da];omega⟩
   have:=x2 j y hy
   rw[aX_,S_]at this
   exact this
  ·cases hf
 cases u with
 |bool=>
  simp only[ki]at hf
  split at hf
  ·rename_i ht
   obtain⟨b,rfl,_⟩:=DataW.trod_bool ht h
   refine⟨b,⟨trivial,rfl,λj y hy=>?_⟩,oC _⟩
   match j,hy with
   |0,hy=>cases hy;exact⟨_,rfl,.sc _⟩
  ·cases hf
 |int k=>
  simp only[ki]at hf
  split at hf
  ·rename_i k' ht
   have:k=k':=by simpa using hf
   subst this
   obtain⟨z,rfl,_,hw⟩:=DataW.trod_int ht h
   exact⟨z,zx hw,oC _⟩
  ·cases hf
 |str=>
  simp only[ki]at hf
  split at hf
  ·rename_i ht
   obtain⟨s,rfl,hdd,hs⟩:=DataW.trod_string ht h
   refine⟨s.data.toList,⟨by simpa[okD]using hs,rfl,λj y hy=>?_⟩,by cases hdd;exact aB_ _⟩
   match j,hy with
   |0,hy=>
    cases hy
    refine⟨_,rfl,?_⟩
    show RelP _ w (.string s) (.sc (.string ⟨s.data.toList.toArray⟩))
    have:(⟨s.data.toList.toArray⟩:ByteArray)=s:=by simp
    rw[this]
    exact .sc _
  ·cases hf
 |list a=>
  simp only[ki]at hf
  split at hf
  ·rename_i e ht
   simp only[a_]at hf
   exact BY ht (b_ hf.1.1) (g_ hf.1.2) (λm cs d' ps hm h hl=>ih m hm d e a cs d' ps hf.2 h hl) h hlt
  ·cases hf
 |unit=>exact agg (λ_ _ h=>by cases h) rfl (by simp) hf
 |pair a b=>exact agg (λ_ _ _=>trivial) rfl (by simp) hf
 |rx=>
  have hf0:LR P t=true:=hf
  have hf':=hf0
  unfold LR at hf'
  split at hf'
  ·rename_i fs ht
   split at hf'
   ·rename_i f0 f1 f2 f3 hfs
    simp only[a_]at hf'
    obtain⟨⟨⟨⟨⟨⟨⟨⟨⟨hu,o0⟩,o1⟩,o2⟩,o3⟩,c0⟩,c1⟩,c2⟩,c3⟩,c4⟩:=hf'
    split at hu
    ·rename_i e u0 u1 u2 u3
     have het:=b_ hu
     subst het
     obtain⟨xs,m,rfl,hx,hcl,hxl,hel⟩:=DataW.trod_struct ht h
     simp only[aQ_.injEq]at hx
     obtain⟨rfl,rfl⟩:=hx
     have hfa:fs= #[f0,f1,f2,f3]:=by
      apply Array.toList_inj.1;rw[hfs]
     subst hfa
     have h4:xs.length=4:=hxl
     have e4:=b_ c4
     have get:∀(i:Nat) (f:Field),(#[f0,f1,f2,f3]:Array Field)[i]? =some f->P.cellsOf f.type=1->∃dd ps,DataW.trod enc P w 0 (λ_=>true) true m f.type ((cs.drop f.offset).take 1)=some (dd,ps)/\∀p∈ps,p.block<w.heap.size:=by
      intro i f hi hc1
      have h1:=hel i f hi
      have hil:i<xs.length:=by rw[h4];exact(ak_.1 hi).1
      rw[d_ hil,hc1]at h1
      exact⟨_,_,h1,λp hp=>hlt p (s_.2 ⟨_,ae_ hil,hp⟩)⟩
     obtain⟨d0,p0,g0,_⟩:=get 0 f0 rfl (b_ c0)
     obtain⟨d1,p1,g1,_⟩:=get 1 f1 rfl (b_ c1)
     obtain⟨d2,p2,g2,_⟩:=get 2 f2 rfl (b_ c2)
     obtain⟨d3,p3,g3,l3⟩:=get 3 f3 rfl (b_ c3)
     rw[b_ o0]at g0
     rw[b_ o1]at g1
     rw[b_ o2]at g2
     rw[b_ o3]at g3
     obtain⟨z0,hz0,_,w0⟩:=DataW.trod_int u0 g0
     obtain⟨z1,hz1,_,w1⟩:=DataW.trod_int u1 g1
     obtain⟨z2,hz2,_,w2⟩:=DataW.trod_int u2 g2
     obtain⟨ks,⟨k1,k2,k3⟩,_⟩:=BY (a:=.rx) u3 e4 (by decide) (λm' cs d' ps hm h hl=>ih m' (by omega) (d+1) e .rx cs d' ps hf h hl) g3 l3
     match cs,(show cs.length=4 by rw[hcl,e4])with
     |[q0,q1,q2,q3],_=>
      simp only[List.drop_zero,List.drop_succ_cons,List.take_succ_cons,aU_,List.cons.injEq,and_true]at hz0 hz1 hz2
      subst hz0;subst hz1;subst hz2
      have w0':=(zx (w:=w) w0).1
      have w1':=(zx (w:=w) w1).1
      have w2':=(zx (w:=w) w2).1
      refine⟨.mk z0 z1 z2 ks,⟨⟨w0',w1',w2',k1.1,(sB ks).2 k1.2⟩,rfl,λj y hy=>?_⟩,oC _⟩
      rw[l5]at hy
      match j,hy with
      |0,hy=>cases hy;exact⟨_,rfl,.sc _⟩
      |1,hy=>cases hy;exact⟨_,rfl,.sc _⟩
      |2,hy=>cases hy;exact⟨_,rfl,.sc _⟩
      |3,hy=>
       have hy':some (ao (.list .rx) ks)=some y:=hy
       cases hy'
       obtain⟨c,e1,e2⟩:=k3 0 (ao (.list .rx) ks) (by rw[bZ (t:=.list .rx) ks rfl];rfl)
       exact⟨c,by simpa using e1,e2⟩
    ·cases hu
   ·cases hf'
  ·cases hf'
end
open Go Go.RowKit Go.Av Go.WideShapes
@[reducible] def HD:List Ty->Type
 |[]=>Unit
 |t::l=>t.den×HD l
def pK:(us:List Ty)->HD us->List V
 |[],_=>[]
 |t::l,x=>.d t x.1::pK l x.2
def HR:(us:List Ty)->HD us->Prop
 |[],_=>True
 |t::l,x=>okD t x.1/\HR l x.2
def yV:(us:List Ty)->HD us->Nat
 |[],_=>0
 |t::l,x=>fM t x.1+yV l x.2
def fitAll(P:Program):List TypeId->List Ty->Bool
 |[],[]=>true
 |t::ts,u::us=>ki P 64 t u&&fitAll P ts us
 |_,_=>false
def J8(P:Program)(ts:List TypeId):Bool:=ts.all λt=>P.readableRec t&&decide (t<P.types.size)
section
variable {H:Type} {enc:TypeId×Value->H} {P:Program} {w:World}
theorem Ik{d:Nat}{t:TypeId}{u:Ty}{r:Reach}{b0:Nat}{v:Value}{dd:DataW H}{ps:List MemPlace}(hf:ki P d t u=true)(hv:Value.okWide P w r b0 t v)(h:DataW.Trod enc P w 0 (λ_=>true) true t v dd ps)(hlt:∀p∈ps,p.block<w.heap.size):
 ∃x:u.den,(okD u x/\RelP (λb=>b<w.heap.size) w v (ao u x))/\fM u x<=da dd:=by
 obtain⟨n,hn⟩:=h
 obtain⟨x,⟨x1,x2,x3⟩,x4⟩:=JC n d t u _ dd ps hf hn hlt
 refine⟨x,⟨x1,?_⟩,x4⟩
 have one:u.ag=false->v.cells= #[v]->RelP (λb=>b<w.heap.size) w v (ao u x):=λha hc=>by
  obtain⟨c,c1,c2⟩:=x3 0 (ao u x) (by rw[bZ x ha];rfl)
  rw[hc]at c1
  cases c1;exact c2
 have many:u.ag=true->(∃cs,v= .agg cs)->RelP (λb=>b<w.heap.size) w v (ao u x):=λha ⟨cs,hc⟩=>by
  subst hc
  rw[ce x ha]
  have e:(Value.agg cs).cells=cs:=rfl
  rw[e]at x2 x3
  refine .agg cs _ (by rw[ar,<-x2];simp) λi a y ha hy=>?_
  obtain⟨c,c1,c2⟩:=x3 i y hy
  rw[ax_,ha]at c1
  cases c1;exact c2
 cases d with
 |zero=>simp[ki]at hf
 |succ d=>
  cases u with
  |bool=>
   simp only[ki]at hf
   split at hf
   ·rename_i ht;obtain⟨b,rfl⟩:=okWide_bool ht hv;exact one rfl rfl
   ·cases hf
  |int k=>
   simp only[ki]at hf
   split at hf
   ·rename_i ht;obtain⟨b,rfl⟩:=okWide_int ht hv;exact one rfl rfl
   ·cases hf
  |str=>
   simp only[ki]at hf
   split at hf
   ·rename_i ht;obtain⟨b,rfl⟩:=okWide_string ht hv;exact one rfl rfl
   ·cases hf
  |list a=>
   simp only[ki]at hf
   split at hf
   ·rename_i ht;obtain⟨a,l,c,rfl⟩:=okWide_slice ht hv;exact one rfl rfl
   ·cases hf
  |unit=>
   simp only[ki]at hf
   refine many rfl ?_
   split at hf
   ·rename_i ht;simp only[Value.okWide,ht]at hv;obtain⟨cs,h1,_⟩:=hv;exact⟨cs,h1⟩
   ·rename_i ht;simp only[Value.okWide,ht]at hv;obtain⟨cs,h1,_⟩:=hv;exact⟨cs,h1⟩
   ·cases hf
  |pair a b=>
   simp only[ki]at hf
   refine many rfl ?_
   split at hf
   ·rename_i ht;simp only[Value.okWide,ht]at hv;obtain⟨cs,h1,_⟩:=hv;exact⟨cs,h1⟩
   ·rename_i ht;simp only[Value.okWide,ht]at hv;obtain⟨cs,h1,_⟩:=hv;exact⟨cs,h1⟩
   ·cases hf
  |rx=>
   have hf0:LR P t=true:=hf
   refine many rfl ?_
   unfold LR at hf0
   split at hf0
   ·rename_i ht;simp only[Value.okWide,ht]at hv;obtain⟨cs,h1,_⟩:=hv;exact⟨cs,h1⟩
   ·cases hf0
theorem BQ:∀(ts:List TypeId) (us:List Ty) (vs:List Value) (ds:List (DataW H)) (ps:List MemPlace),fitAll P ts us=true->DataW.TrodAll enc P w 0 (λ_=>true) true ts vs ds ps->(∀(j:Nat) (t:TypeId) (v:Value),ts[j]? =some t->vs[j]? =some v->∃r b0,Value.okWide P w r b0 t v)->(∀p∈ps,p.block<w.heap.size)->
 ∃xs:HD us,(HR us xs/\yV us xs<=iZ ds)/\vs.length=(pK us xs).length/\∀(i:Nat) (v:Value) (x:AV),vs[i]? =some v->((pK us xs).map aE)[i]? =some x->RelA [] (λb=>b<w.heap.size) w v x
 |[],[],[],[],ps,_,_,_,_=>⟨(),⟨trivial,aB_ _⟩,rfl,λi v x hv=>by simp at hv⟩
 |t::ts,u::us,v::vs,d::ds,ps,hf,hT,hv,hlt=>by
  simp only[fitAll,a_]at hf
  obtain⟨p,q,h1,h2,rfl⟩:=hT
  obtain⟨r,b0,hw⟩:=hv 0 t v rfl rfl
  obtain⟨x,⟨x1,x2⟩,x3⟩:=Ik hf.1 hw h1 λy hy=>hlt y (C_ _ hy)
  obtain⟨xs,⟨y1,y4⟩,y2,y3⟩:=BQ ts us vs ds q hf.2 h2 (λj t v ht hv'=>hv (j+1) t v (by simpa using ht) (by simpa using hv')) λy hy=>hlt y (F_ _ hy)
  refine⟨(x,xs),⟨⟨x1,y1⟩,by simp only[yV,iZ];omega⟩,by simp[pK,y2],λi v' y hv' hy=>?_⟩
  cases i with
  |zero=>
   simp only[ap_,k_]at hv'
   simp only[pK,m_,ap_,k_]at hy
   subst hv';subst hy
   exact x2
  |succ i=>exact y3 i v' y (by simpa using hv') (by simpa[pK]using hy)
 |[],[],_::_,_,_,_,h,_,_=>(by cases h)
 |[],[],[],_::_,_,_,h,_,_=>(by cases h)
 |_::_,_::_,[],_,_,_,h,_,_=>(by cases h)
 |_::_,_::_,_::_,[],_,_,h,_,_=>(by cases h)
 |[],_::_,_,_,_,h,_,_,_=>(by cases h)
 |_::_,[],_,_,_,h,_,_,_=>(by cases h)
theorem pQ(hl:laidOutB P=true){W W':World}(hb:Below W.heap.size W W'):∀(ts:List TypeId) (vs:List Value) (ds:List (DataW H)) (ps:List MemPlace),J8 P ts=true->DataW.TrodAll enc P W 0 (λ_=>true) true ts vs ds ps->(∀p∈ps,p.block<W.heap.size)->
 DataW.TrodAll enc P W' 0 (λb=>decide (b<W.heap.size)) true ts vs ds ps
 |[],[],[],_,_,h,_=>h
 |t::ts,v::vs,d::ds,ps,hr,h,hlt=>by
  simp only[J8,W_,a_,decide_eq_true_eq]at hr
  obtain⟨p,q,h1,h2,rfl⟩:=h
  exact⟨p,q,Below.trod hl hr.1.1 hr.1.2 h1 hb λy hy=>hlt y (C_ _ hy),pQ hl hb ts vs ds q hr.2 h2 λy hy=>hlt y (F_ _ hy),rfl⟩
 |[],_::_,_,_,_,h,_=>(by cases h)
 |[],[],_::_,_,_,h,_=>(by cases h)
 |_::_,[],_,_,_,h,_=>(by cases h)
 |_::_,_::_,[],_,_,h,_=>(by cases h)
theorem tp{base:Nat}{sp:Nat->Bool}{hd:Bool}:∀(ts:List TypeId) (vs:List Value) (ds:List (DataW H)) (ps:List MemPlace),DataW.TrodAll enc P w base sp hd ts vs ds ps->ds.length=ts.length
 |[],[],[],_,_=>rfl
 |_::ts,_::vs,_::ds,_,⟨_,_,_,h,_⟩=>by simp[tp ts vs ds _ h]
 |[],_::_,_,_,h=>(by cases h)
 |[],[],_::_,_,h=>(by cases h)
 |_::_,[],_,_,h=>(by cases h)
 |_::_,_::_,[],_,h=>(by cases h)
theorem FU(hm:P.follows .mixedOrders=true){tbl:Nat->Option Fun'}(hT:TblOk P tbl){W:World}(hG:GT W){N:Nat}{us:List Ty}{xs:HD us}{vs:List Value}(hl:vs.length=(pK us xs).length)
 (hrel:∀(i:Nat) (v:Value) (x:AV),vs[i]? =some v->((pK us xs).map aE)[i]? =some x->RelA [] (λb=>b<W.heap.size) W v x) {s:S} (hC:Conv tbl N (pK us xs) [] (·=some s)) (hs:aE (res s.fr.length s.fr)= .b (.pv (.sc (.bool true)))):
 Calls P (N%10000) vs.toArray W λe W'=>e= .returned (.bool true)/\Below W.heap.size W W':=by
 obtain⟨o,rfl,hA⟩:=s3 hm hT hC
 refine(hA W [] (λb=>b<W.heap.size) vs (GW.of hG) ⟨rfl,λb h=>h,λi j li lj g hi=>(by simp at hi),λi l g hi=>(by simp at hi),λi l o hi=>(by simp at hi)⟩ (by rw[e_,hl]) hrel).mono λe W' hb=>?_
 rcases hb with⟨v,r,os',θ',D',h1,h2,h3,_,h5,_⟩|⟨ch,_,_,h2,_⟩
 ·have h6:some (r,os')=some (aE (res s.fr.length s.fr),s.hp.map aV):=h2
  simp only[k_,aQ_.injEq]at h6
  rw[h6.1,hs]at h3
  have h7:RelP D' W' v (.sc (.bool true)):=h3
  cases h7
  refine⟨h1,h5.os,h5.tape,h5.output,h5.size,λk hk=>h5.block k hk ?_⟩
  rintro⟨i,l,hi,_⟩
  simp at hi
 ·cases h2
end
theorem wrap_i64{n:Int}(h0: -9223372036854775808<=n)(h1:n<=9223372036854775807):P_ .i64 n=n:=by
 simp only[P_,aH_,ay_]
 simp
 omega
theorem wrap_u32(n:Int):P_ .u32 n=n%4294967296:=by simp[P_,aH_,ay_]
theorem wrap_u64(n:Int):P_ .u64 n=n%18446744073709551616:=by simp[P_,aH_,ay_]
theorem a7{i:Nat}{n:Nat}(hi:i<n)(hn:n<=9223372036854775807):P_ .i64 ((i:Int)+1)=((i+1:Nat):Int):=by
 rw[wrap_i64 (by omega) (by omega)];rfl
section
variable {α β γ σ τ:Type}
theorem Ho{xs:List α}(i:Nat):b6 xs (i:Int)=xs[i]? :=by
 simp[b6]
theorem Wp.imp{m:Nat->Option α}{Q Q':α->Prop}(h:Wp m Q)(hk:∀r,Q r->Q' r):Wp m Q':=wp_mono h hk
theorem cP{N:Nat}{body:Nat->σ->Option (σ⊕τ)}{s0:σ}{Q:τ->Prop}(I:Nat->σ->Prop)(h0:I 0 s0)
 (hstep:∀i s,i<N->I i s->Wp (λn=>body n s) λr=>match r with| .inl s'=>I (i+1) s'| .inr t=>Q t)
 (hend:∀s,I N s->Wp (λn=>body n s) λr=>match r with| .inl _=>False| .inr t=>Q t):Wp (λn=>bR n (body n) s0) Q:=by
 have key:∀(k:Nat) (i:Nat) (s:σ),i+k=N->I i s->∃t,Q t/\∃n0,∀n m,n0<=n->k+1<=m->bR m (body n) s=some t:=by
  intro k
  induction k with
  |zero=>
   intro i s hi hs
   have:i=N:=by omega
   subst this
   obtain⟨r,hr,n0,hn⟩:=hend s hs
   cases r with
   |inl s'=>exact hr.elim
   |inr t=>
    refine⟨t,hr,n0,λn m h1 h2=>?_⟩
    obtain⟨m',rfl⟩:∃m',m=m'+1:=⟨m - 1,by omega⟩
    simp only[bR]
    have e:body n s=_:=hn n h1
    rw[e];rfl
  |succ k ih=>
   intro i s hi hs
   obtain⟨r,hr,n0,hn⟩:=hstep i s (by omega) hs
   cases r with
   |inl s'=>
    obtain⟨t,ht,n1,hn1⟩:=ih (i+1) s' (by omega) hr
    refine⟨t,ht,max n0 n1,λn m h1 h2=>?_⟩
    obtain⟨m',rfl⟩:∃m',m=m'+1:=⟨m - 1,by omega⟩
    simp only[bR]
    have e:body n s=_:=hn n (by omega)
    rw[e]
    exact hn1 n m' (by omega) (by omega)
   |inr t=>
    refine⟨t,hr,n0,λn m h1 h2=>?_⟩
    obtain⟨m',rfl⟩:∃m',m=m'+1:=⟨m - 1,by omega⟩
    simp only[bR]
    have e:body n s=_:=hn n h1
    rw[e];rfl
 obtain⟨t,ht,n0,hn⟩:=key N 0 s0 (by omega) h0
 exact⟨t,ht,max n0 (N+1),λn hn'=>hn n n (by omega) (by omega)⟩
end
section
variable {α β σ τ:Type}
theorem gl{b:Bool}{m k:Nat->Option α}{Q:α->Prop}(hb:b=true)(h:Wp m Q):Wp (λn=>bif b then m n else k n) Q:=by subst hb;exact h
theorem bi{b:Bool}{m k:Nat->Option α}{Q:α->Prop}(hb:b=false)(h:Wp k Q):Wp (λn=>bif b then m n else k n) Q:=by subst hb;exact h
theorem cU{a b:Bool}{m:Nat->Option Bool}{Q:Bool->Prop}(h:a=false->Wp m λr=>r=b)(hQ:Q (a||b)):Wp (λn=>bif a then some true else m n) Q:=by
 cases a
 ·exact wp_mono (h rfl) λr hr=>by subst hr;exact hQ
 ·exact aa hQ
theorem dj{a b:Bool}{m:Nat->Option Bool}{Q:Bool->Prop}(h:a=true->Wp m λr=>r=b)(hQ:Q (a&&b)):Wp (λn=>bif a then m n else some false) Q:=by
 cases a
 ·exact aa hQ
 ·exact wp_mono (h rfl) λr hr=>by subst hr;exact hQ
end
section
variable {tbl:Nat->Option Fun'}
theorem oF{f:Nat}{g:List V->Option S}{ars:List V}{sh:Sh}{c:HL sh.sl}(ht:tbl f=some (.nat g))(hg:g ars=some (kE sh c))(hp:J1 sh (kE sh c)=some c):aL tbl f ars [] sh c:=by
 refine aH hp ⟨_,rfl,1,λn hn=>?_⟩
 obtain⟨m,rfl⟩:∃m,n=m+1:=⟨n - 1,by omega⟩
 simp only[wm,ht,hg]
end
section
variable {α β γ σ τ:Type}
theorem Jh{xs:List α}{i:Nat}(h:i<xs.length):b6 xs (i:Int)=some xs[i]:=by rw[Ho];exact d_ h
theorem bj{xs:List α}{i:Nat}{f:Nat->α->Option β}{Q:β->Prop}(h:i<xs.length)(hk:Wp (λn=>f n xs[i]) Q):Wp (λn=>ai_ (b6 xs (i:Int)) (f n)) Q:=by
 rw[Jh h];exact hk
theorem eZ{i N:Nat}{m k:Nat->Option α}{Q:α->Prop}(h:i<N)(hk:Wp m Q):Wp (λn=>bif decide ((i:Int)<(N:Int))then m n else k n) Q:=by
 rw[show decide ((i:Int)<(N:Int))=true from decide_eq_true (by omega)];exact hk
theorem dm{N:Nat}{m k:Nat->Option α}{Q:α->Prop}(hk:Wp k Q):Wp (λn=>bif decide ((N:Int)<(N:Int))then m n else k n) Q:=by
 rw[show decide ((N:Int)<(N:Int))=false from decide_eq_false (by omega)];exact hk
end
section
variable {α β γ σ τ:Type}
end
end Go.Ev
