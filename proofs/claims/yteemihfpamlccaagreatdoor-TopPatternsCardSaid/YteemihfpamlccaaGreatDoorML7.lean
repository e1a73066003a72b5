import Derived.Test.YteemihfpamlccaaGreatDoorML5
import Derived.Test.YteemihfpamlccaaGreatDoorML3
import Derived.OpenShut
import Derived.Deep.Slices
import Derived.ChangeMaps5
import Derived.Carry
set_option linter.unusedVariables false
set_option linter.unusedSimpArgs false
open Array renaming getElem?_eq_some_iff->ak_,getElem?_toList->aC_
open Bool renaming and_eq_true->a_,not_eq_true'->y_,or_eq_true->z_,not_true->ag_,false_eq_true->al_,or_eq_true_iff->aF_,false_or->aG_,and_false->aT_,not_false->aU_
open Classical renaming byContradiction->ao_
open Int renaming eq_ofNat_of_zero_le->au_,toNat_natCast->aI_
open Go.IntKind renaming wrap->Q_,signed->aD_,bits->aJ_
open List renaming mem_append->c_,length_map->d_,getElem?_eq_getElem->e_,getElem?_map->h_,getElem?_eq_some_iff->i_,all_eq_true->j_,getElem?_append_left->l_,mem_cons_of_mem->n_,mem_singleton->o_,mem_of_getElem?->p_,map_cons->q_,map_append->r_,getElem?_append_right->s_,mem_flatMap->t_,mem_cons->v_,getElem?_set_ne->x_,filter_cons->A_,mem_cons_self->B_,mem_append_left->C_,append_assoc->D_,mapM_cons->E_,mem_append_right->F_,length_cons->I_,mem_range->J_,getElem?_set_self->L_,map_map->M_,map_set->N_,range->O_,replicate->P_,mem_map->R_,getElem?_range->V_,map_congr_left->W_,all_cons->X_,getElem?_take_of_lt->Y_,length_append->ab_,getD->ac_,flatMap_cons->ad_,getElem_mem->ae_,length_take->af_,map_take->ah_,getElem?_of_mem->ai_,getElem?_drop->am_,map_replicate->an_,drop_eq_getElem_cons->ap_,getElem?_cons_zero->av_,drop_eq_nil_of_le->ax_,take_of_length_le->ay_,length_nil->aA_,nil_append->aB_,getElem?_mapIdx->aE_,map_drop->aH_,ext_getElem?->aK_,getElem?_set->aL_,drop_append->aM_,drop_length->aN_,isEmpty_iff->aO_,not_mem_nil->aP_,take_append->aQ_,append_nil->aR_,drop_drop->aV_,take_zero->aW_,map_nil->aX_,length->aZ_
open Nat renaming eq_of_beq_eq_true->b_,le_of_ble_eq_true->g_,beq->m_,beq_refl->S_,zero_add->T_,lt_or_ge->aj_,ble->aq_,zero_le->ar_,succ_mul->az_,zero_mul->aY_,le_refl->ba_
open Option renaming map_eq_some_iff->f_,bind_eq_some_iff->u_,bind->G_,bind_eq_bind->H_,bind_some->K_,isNone_iff_eq_none->U_,map_some->Z_,pure_def->aa_,isSome_iff_exists->as_,getD_some->aw_
open Option.some renaming injEq->k_,inj->w_
open Prod renaming mk->aS_
namespace Go.Ev
open Go Go.RowKit Go.Av
theorem iX:∀(l:List Slot) (c:HL l) (b:S),(∀k v,lk b.fr k=some v->v.isD=true)->∀k v,lk (unpack l c b).fr k=some v->v.isD=true
 |[],_,_,h=>h
 | .tm j t::l,c,b,h=>iX l c.2 _ λk v hv=>by
  simp only[lk]at hv
  cases hb:m_ k j
  ·rw[hb]at hv;exact h k v hv
  ·rw[hb]at hv
   simp only[cond_true,k_]at hv
   subst hv;rfl
 | .cell _ _ _::l,c,b,h=>iX l c.2 _ h
 | .vec _ _ _::l,c,b,h=>iX l c.2 _ h
 | .map _ _ _ _ _::l,c,b,h=>iX l c.2 _ h
 | .tree _ _ _ _::l,c,b,h=>iX l c.2 _ h
 | .treeH _ _ _ _ _ _::l,c,b,h=>iX l c.2 _ h
theorem Vl{v:V}(h:v.isD=true):v.ids=[]/\v.ids1=[]:=by cases v<;>first|exact⟨rfl,rfl⟩|cases h
theorem Ql{n:Nat}{fr:List (Nat×V)}(h:∀k v,lk fr k=some v->v.isD=true):(res n fr).ids=[]:=by
 have one:∀k,((lk fr k).getD .any).ids=[]/\((lk fr k).getD .any).ids1=[]:=λk=>by
  cases hl:lk fr k with
  |none=>exact⟨rfl,rfl⟩
  |some v=>exact Vl (h k v hl)
 unfold res
 cases m_ n 1
 ·show(Rw fr n).flatMap V.ids1=[]
  rw[List.flatMap_eq_nil_iff]
  intro v hv
  obtain⟨i,_,rfl⟩:=R_.1 hv
  exact(one i).2
 ·exact(one 0).1
theorem Pe{hp:List AObj}{bor:Bool}{x:BV}{p:PV}(h:x.toPV=some p):Dr hp bor x=some p:=by
 cases x<;>first|exact h|cases h
theorem Lb{hp:List AObj}{bor:Bool}{x:AV}{p:PV}(h:x.toPV=some p):nv hp bor x=some p:=by
 cases x with
 |b x=>exact Pe h
 |agg xs=>
  have h':(xs.mapM BV.toPV).map PV.agg=some p:=h
  obtain⟨ps,h1,rfl⟩:=f_.1 h'
  show(xs.mapM (Dr hp bor)).map PV.agg=_
  rw[qv (λx _ y hy=>Pe hy) h1];rfl
 |tup xs=>exact h
section
variable {R:Type} {P:Program} {O:ak} {d:Option Nat} {s:S} {κ kp:S->Option R} {r:R}
theorem SF{bor:Bool}{a:Arg×X}{v:V}(hw:a.2.wf=true)(h:K8 s bor [] a=some v)(hd:v.isD=true):∃p,((enc s).get a.2.er).bind (nv (enc s).hp bor)=some p/\AV.p p=aT v:=by
 obtain⟨a,x⟩:=a
 simp only[K8]at h
 split at h
 ·rename_i t id hx
  obtain⟨h1,h2⟩:=aO h
  simp only[a_,y_]at h1
  split at h2
  ·rename_i e u xs ho
   split at h2
   ·rename_i ys hy
    cases h2
    obtain⟨e1,e2⟩:=bS hy
    refine⟨aG (.list t) ys,?_,rfl⟩
    rw[aA hw hx,K_]
    show(if bor=true then Nq (enc s).hp id else none)=_
    rw[h1.1,if_pos rfl,Nq,bY,ho]
    show some (aG (.list u) xs)=some (aG (.list t) ys)
    rw[e1]
   ·cases h2
  ·rename_i e kk u xs ho
   split at h2
   ·rename_i ys hy
    cases h2
    obtain⟨e1,e2⟩:=bS hy
    refine⟨aG (.list t) ys,?_,rfl⟩
    rw[aA hw hx,K_]
    show(if bor=true then Nq (enc s).hp id else none)=_
    rw[h1.1,if_pos rfl,Nq,bY,ho]
    show some (aG (.list u) xs)=some (aG (.list t) ys)
    rw[e1]
   ·cases h2
  ·cases h2
 ·rename_i t v' _ hx
  split at h
  ·rename_i y hy
   cases h
   exact⟨aG t y,by rw[aA hw hx,K_];exact Lb (eU hy),rfl⟩
  ·cases h
 ·rename_i v' hx
  have key:∀p:PV,aT v'=AV.p p->v'=v->∃p,((enc s).get x.er).bind (nv (enc s).hp bor)=some p/\AV.p p=aT v:=λp hp e=>by
   subst e
   exact⟨p,by rw[aA hw hx,K_,hp];exact Lb rfl,hp.symm⟩
  split at h
  ·cases h
  ·cases h
  ·cases h
  ·cases h
  ·rename_i vs
   obtain⟨h1,h2⟩:=aO h
   cases h2
   cases hd
  ·cases h
   cases v<;>first|(cases hd;done)|skip
   ·exact key _ rfl rfl
   ·exact key _ rfl rfl
   ·exact key _ rfl rfl
 ·cases h
theorem BI{bor:Bool}:∀(l:List (Arg×X)) (vs:List V),ly l=true->oy s bor [] l=some vs->vs.all V.isD=true->∃ps,(l.map λa=>a.2.er).mapM (λx=>((enc s).get x).bind (nv (enc s).hp bor))=some ps/\ps.map AV.p=vs.map aT
 |[],vs,_,h,_=>by cases h;exact⟨[],rfl,rfl⟩
 |a::l,vs,hw,h,hd=>by
  simp only[ly,X_,a_]at hw
  simp only[oy]at h
  split at h
  ·rename_i v hv
   split at h
   ·rename_i us hu
    cases h
    simp only[X_,a_]at hd
    obtain⟨p,h1,h2⟩:=SF hw.1 hv hd.1
    obtain⟨ps,h3,h4⟩:=BI l us hw.2 hu hd.2
    refine⟨p::ps,?_,by rw[q_,q_,h2,h4]⟩
    rw[q_,E_,h1,h3];rfl
   ·cases h
  ·cases h
theorem P4(hO:OracleOk P O){bor:Bool}{f:FuncId}{args:List (Arg×X)}{sh:Sh}(hw:ly args=true/\sh.wfB=true)(h:evOp O d (.call bor f args sh) s κ kp=some r):
 Pu P s (.call bor (f%10000) (args.map λa=>a.2.er)) d κ r:=by
 simp only[evOp]at h
 split at h
 ·rename_i ars ha
  obtain⟨h1,h2⟩:=aO h
  simp only[a_,z_,y_]at h1
  obtain⟨c,hc,hk⟩:=cA h2
  obtain⟨ps,h3,h4⟩:=BI args ars hw.1 ha h1.1.1
  obtain⟨q1,q2⟩:=vP hO hw.2 hc
  rw[<-h4]at q1
  refine⟨_,⟨ps,h3,q1.mono λo ho=>⟨_,_,ho,?_,λhb=>(q2 ?_).1,rfl⟩⟩,hk⟩
  ·rw[<-qg]
   refine Ql (iX _ _ _ λk v hv=>?_)
   rw[base_nil]at hv
   have:=aO_.1 h1.1.2
   rw[this]at hv;cases hv
  ·rcases h1.2 with hh|hh
   ·rw[hb]at hh;cases hh
   ·exact hh
 ·cases h
theorem Mt(hO:OracleOk P O){bor:Bool}{num:Nat}{x:X}{args:List (Arg×X)}{sh:Sh}(hw:x.wf=true/\ly args=true/\eu P (num%10000)=true/\sh.wfB=true)(h:evOp O d (.callp bor num x args sh) s κ kp=some r):
 Pu P s (.callp bor x.er (args.map λa=>a.2.er)) d κ r:=by
 simp only[evOp]at h
 split at h
 ·rename_i f cs ars hx ha
  obtain⟨h1,h2⟩:=aO h
  simp only[a_,z_,y_]at h1
  obtain⟨c,hc,hk⟩:=cA h2
  have hf:=b_ h1.1.1.1
  subst hf
  obtain⟨ps,h3,h4⟩:=BI args ars hw.2.1 ha h1.1.1.2
  obtain⟨q1,q2⟩:=vP hO hw.2.2.2 hc
  have hcs:(ars++cs.map λc=>V.dp c.1 c.2).map aT=(ps++cs.map λc=>PV.pto (aG c.1 c.2)).map AV.p:=by
   rw[r_,r_,h4,M_,M_];rfl
  rw[hcs]at q1
  refine⟨_,⟨_,aA hw.1 hx,num%10000,cs.map λc=>PV.pto (aG c.1 c.2),rfl,hw.2.2.1,ps,h3,q1.mono λo ho=>⟨_,_,ho,?_,λhb=>(q2 ?_).1,rfl⟩⟩,hk⟩
  ·rw[<-qg]
   refine Ql (iX _ _ _ λk v hv=>?_)
   rw[base_nil]at hv
   have:=aO_.1 h1.1.2
   rw[this]at hv;cases hv
  ·rcases h1.2 with hh|hh
   ·rw[hb]at hh;cases hh
   ·exact hh
 ·cases h
theorem LeS.refl(a:St):LeS a a:=⟨λ_ y hk=>⟨y,hk,.refl y⟩,rfl,λi x y hx hy=>by rw[hx]at hy;cases hy;exact .refl x⟩
def No(P:Program)(s:S)(op:SOp)(d:Option Nat)(κ kp:S->Option R)(r:R):Prop:=
 sexec P d op (enc s) (λst'=>∃s',LeS st' (enc s')/\Keeps (fV d) s s'/\κ s'=some r) (λst'=>∃s',st'=enc s'/\Keeps (fV d) s s'/\kp s'=some r)
def Ox(P:Program)(s:S)(op:SOp)(d:Option Nat)(κ kp:S->Option R)(r:R):Prop:=
 sexec P d op (enc s) (λst'=>∃s',st'=enc s'/\Keeps (fV d) s s'/\κ s'=some r) (λst'=>∃s',st'=enc s'/\Keeps (fV d) s s'/\kp s'=some r)
theorem Ox.ob{op:SOp}(h:Ox P s op d κ kp r):No P s op d κ kp r:=mK h (λ_ ⟨s',h1,h2,h3⟩=>⟨s',by rw[h1];exact .refl _,h2,h3⟩) λ_ h=>h
theorem pL{st:St}{op:SOp}{x:AV}{K KP:St->Prop}(hs:jp P st op λy=>y=x)(hk:K (st.putO d x)):sexec P d op st K KP:=by
 have h1:jp P st op λy=>K (st.putO d y):=Ba hs λy hy=>by rw[hy];exact hk
 unfold sexec
 split<;>first|exact h1|exact hs.elim
theorem Pu.ox{op:SOp}(h:Pu P s op d κ r):Ox P s op d κ kp r:=by
 obtain⟨v,h1,h2⟩:=h
 exact pL h1 ⟨_,(gB _ _ _).symm,Keeps.put s d v,h2⟩
theorem Pu.ob{op:SOp}(h:Pu P s op d κ r):No P s op d κ kp r:=by
 obtain⟨v,h1,h2⟩:=h
 exact pL h1 ⟨_,by rw[gB];exact .refl _,Keeps.put s d v,h2⟩
theorem we(s:S)(o:Ob):enc ⟨s.fr,s.hp++[o]⟩={enc s with hp:=(enc s).hp++[bU o]}:=by simp[enc]
theorem gL(s:S)(id:Nat)(o:Ob):enc ⟨s.fr,setAt s.hp id o⟩={enc s with hp:=(enc s).hp.set id (bU o)}:=by simp[enc,eX,N_]
theorem oA(s:S):(enc s).hp.length=s.hp.length:=by simp[enc]
theorem xr{o:Ob}{o':AObj}{x:BV}{v:V}(ho:bU o=o')(hv:aT v= .b x)(h:κ (S.putO ⟨s.fr,s.hp++[o]⟩ d v)=some r):
 ∃s',LeS (({enc s with hp:=(enc s).hp++[o']}:St).putO d (.b x)) (enc s')/\Keeps (fV d) s s'/\κ s'=some r:=by
 refine⟨_,?_,(Keeps.fr (s':=⟨s.fr,s.hp++[o]⟩) rfl).trans (Keeps.put _ d v),h⟩
 rw[gB,we,ho,hv]
 exact .refl _
theorem P0{o:Ob}{o':AObj}{x:BV}{v:V}(ho:bU o=o')(hv:aT v= .b x)(h:κ (S.putO ⟨s.fr,s.hp++[o]⟩ d v)=some r):
 ∃s',(({enc s with hp:=(enc s).hp++[o']}:St).putO d (.b x))=enc s'/\Keeps (fV d) s s'/\κ s'=some r:=by
 refine⟨_,?_,(Keeps.fr (s':=⟨s.fr,s.hp++[o]⟩) rfl).trans (Keeps.put _ d v),h⟩
 rw[gB,we,ho,hv]
theorem TI{tid:TypeId}{zero:List V}(hw:zero.all V.konst=true)(h:evOp O d (.alloc tid zero) s κ kp=some r):No P s (.alloc tid (zero.map AZ)) d κ kp r:=by
 simp only[evOp]at h
 refine xr (o:=.box tid zero) ?_ ?_ h
 ·show AObj.box tid (zero.map aM)=AObj.box tid ((zero.map AZ).map λv=>bI v)
  rw[M_]
  congr 1
  exact W_ λv hv=>(xo (j_.1 hw v hv)).symm
 ·rw[oA];rfl
theorem Wy{tid:TypeId}{x:X}(hw:x.wf=true)(h:evOp O d (.box tid x) s κ kp=some r):No P s (.box tid x.er) d κ kp r:=by
 simp only[evOp]at h
 split at h
 ·rename_i v hx
  obtain⟨h1,h2⟩:=aO h
  obtain⟨h3,h4⟩:=ug h1
  refine⟨_,aA hw hx,h3,xr (o:=.box tid (cS v)) ?_ ?_ h2⟩
  ·show AObj.box tid _=_
   rw[h4]
  ·rw[oA];rfl
 ·cases h
theorem Ri{tid:TypeId}{t:Ty}{len:Nat}{parts:List X}(hw:parts.all X.wf=true)(h:evOp O d (.bslice true tid t len parts) s κ kp=some r):No P s (.bslice true tid t.sz len (parts.map X.er)) d κ kp r:=by
 simp only[evOp]at h
 obtain⟨h1,h2⟩:=aO h
 simp only[a_]at h1
 obtain⟨xs,h3,h4,h5⟩:=nN parts _ hw h2
 refine⟨_,h3,?_,g_ h1.1.2,g_ h1.2,jD xs,xr (o:=.vec tid t xs) rfl ?_ h5⟩
 ·rw[d_,h4]
  exact b_ h1.1.1
 ·rw[oA];rfl
theorem Rk{tid:TypeId}{t:Ty}{bytes:Nat}{l c:X}(hw:l.wf=true/\c.wf=true/\t≠.rx)(h:evOp O d (.mslice tid t bytes l c) s κ kp=some r):No P s (.mslice tid t.sz bytes (pP t) l.er c.er) d κ kp r:=by
 simp only[evOp]at h
 obtain⟨h1,h2⟩:=aO h
 obtain⟨k1,l',hl,h3⟩:=fD h2
 obtain⟨k2,c',hc,h4⟩:=fD h3
 obtain⟨h5,h6⟩:=bO h4
 simp only[a_,decide_eq_true_eq]at h5
 obtain⟨z1,z2⟩:=Nn t hw.2.2
 refine⟨_,aA hw.1 hl,_,aA hw.2.1 hc,_,rfl,_,rfl,_,_,rfl,_,_,rfl,h5.1.1.1,h5.1.1.2,h5.1.2,h5.2,z2,g_ h1,_,z1,y9 t _,xr (o:=.vec tid t (P_ l'.toNat t.zero)) ?_ ?_ h6⟩
 ·show AObj.vec tid t.sz _=_
  rw[an_]
 ·rw[oA];rfl
theorem Oe{tid:TypeId}{k:Av.K}{u:Ty}{bytes:Nat}{l c:X}(hw:l.wf=true/\c.wf=true)(h:evOp O d (.msliceT tid k u bytes l c) s κ kp=some r):No P s (.msliceT k tid 1 bytes (.slice none 0 0) l.er c.er) d κ kp r:=by
 simp only[evOp]at h
 obtain⟨h1,h2⟩:=aO h
 obtain⟨k1,l',hl,h3⟩:=fD h2
 obtain⟨k2,c',hc,h4⟩:=fD h3
 obtain⟨h5,h6⟩:=bO h4
 simp only[a_,decide_eq_true_eq]at h5
 have hn:k.nilsB nilP.cells=true:=by
  simp only[Av.K.nilsB,nilP,PV.cells,I_,aA_,j_,J_]
  intro j hj
  obtain rfl:j=0:=by omega
  split<;>rfl
 refine⟨_,aA hw.1 hl,_,aA hw.2 hc,_,rfl,_,rfl,_,_,rfl,_,_,rfl,h5.1.1.1,h5.1.1.2,h5.1.2,h5.2,rfl,Nat.one_pos,nilP,rfl,rfl,hn,xr (o:=.tree tid k (.list u) (P_ l'.toNat []) none) ?_ ?_ h6⟩
 ·show AObj.tree tid 1 k _ none=_
  rw[an_]
  have:k.unnil nilP= .list 0 []:=by simp[Av.K.unnil,nilP,h1]
  rw[this];rfl
 ·rw[oA];rfl
theorem OZ{k:Av.K}{t:Ty}{y:t.den}(h:WA k (gr t y)=true):k.unnil (cQ k t y)=aG t y:=by
 have key:∀(j:Nat) (p:PV),(aG t y).cells[j]? =some p->(k.at j).isSome=true->p= .list 0 []:=by
  intro j p hp hk
  obtain⟨h1,h2⟩:=dH t y
  have hj:j<(gr t y).length:=by rw[h2,<-aD t y];exact(i_.1 hp).1
  simp only[WA,j_,J_]at h
  have h3:=h j hj
  obtain⟨q,hq⟩:=as_.1 hk
  rw[hq]at h3
  simp only[ac_,e_ hj,aw_]at h3
  have h4:((gr t y).map aM)[j]? =some (.pv p):=by rw[h1,h_,hp];rfl
  rw[h_,e_ hj]at h4
  split at h3
  ·rename_i u l hv
   rw[hv]at h4
   have hl:l=[]:=by simpa using h3
   subst hl
   have h5:=w_ h4
   have h6:(BV.pv (aG (.list u) []))= .pv p:=h5
   cases h6;rfl
  ·cases h3
 unfold cQ
 cases he:aG t y with
 |agg cs=>
  simp only[Av.K.unnil,PV.agg.injEq]
  apply aK_
  intro j
  simp only[aE_]
  cases hc:cs[j]? with
  |none=>rfl
  |some p=>
   simp only[Z_]
   cases hk:(k.at j).isSome
   ·rfl
   ·rw[key j p (by rw[he];exact hc) hk];rfl
 |_=>
  have h0:=key 0 _ (by rw[he];rfl)
  simp only[]
  cases hk:(k.at 0).isSome
  ·simp[Av.K.unnil,hk]
  ·simp only[if_true,Av.K.unnil,nilP,hk]
   exact(h0 hk).symm
theorem Re(k:Av.K)(t:Ty)(y:t.den):k.nilsB (cQ k t y).cells=true:=by
 simp only[Av.K.nilsB,j_,J_]
 intro j hj
 split
 ·rename_i q hq
  rw[Fp]at hj⊢
  simp only[List.length_mapIdx]at hj
  simp only[ac_,aE_,e_ hj,Z_,aw_,hq,Option.isSome_some,if_true,nilP]
 ·rfl
theorem Vz{tid:TypeId}{k:Av.K}{t:Ty}{bytes:Nat}{x y:X}(hw:x.wf=true/\y.wf=true)(h:evOp O d (.appT tid k t bytes x y) s κ kp=some r):Ox P s (.appT k tid t.sz bytes x.er y.er) d κ kp r:=by
 simp only[evOp]at h
 split at h
 ·rename_i k' u ys0 hy
  obtain⟨hk,hA⟩:=aO h
  clear h
  have hk':k=k':=by simpa using hk
  subst hk'
  split at hA
  ·rename_i ys hc
   obtain⟨c1,c2⟩:=bV hc
   have c3:=Ty.list.inj c1
   subst c3
   have c4:ys=ys0:=c2
   subst c4
   obtain⟨hown,h1⟩:=aO hA
   clear hA
   simp only[j_]at hown
   have hel:∀p∈ys.map (cQ k u),p.ok=true/\k.nilsB p.cells=true:=λp hp=>⟨(Iq ys p hp).2,by
    obtain⟨z,_,rfl⟩:=R_.1 hp;exact Re k u z⟩
   have hun:(ys.map (cQ k u)).map k.unnil=ys.map (aG u):=by
    rw[M_]
    exact W_ λz hz=>OZ (hown z hz)
   split at h1
   ·rename_i id hx
    split at h1
    ·rename_i e k2 u2 xs0 ho
     split at h1
     ·rename_i xs hz
      obtain⟨e2,e3⟩:=bV hz
      have e4:=Ty.list.inj e2
      subst e4
      have e5:xs=xs0:=e3
      subst e5
      obtain⟨g1,g2⟩:=aO h1
      simp only[a_,decide_eq_true_eq]at g1
      obtain⟨g1,rfl⟩:=g1
      obtain⟨g3,g4⟩:=bO g2
      have g5:=b_ g1
      subst g5
      refine⟨_,aA hw.1 hx,_,aA hw.2 hy,.inr (.inl ⟨ys.map (cQ k u2),rfl,hel,.inl ⟨id,rfl,_,by rw[bY,ho];rfl,_,rfl,by rw[d_,d_];simpa using g3,_,?_,(Keeps.map (fV d) s (s.moved id (.tree e k u2 (xs++ys) none)) (V.kill1 id) (λv hv=>by cases v<;>first|rfl|cases hv) rfl).trans (Keeps.put _ d _),g4⟩⟩)⟩
      rw[gB,BY,hun]
      have:bU (.tree e k u2 (xs++ys) none)= .tree e u2.sz k (xs.map (aG u2)++ys.map (aG u2)) none:=by
       show AObj.tree e u2.sz k ((xs++ys).map (aG u2)) none=_
       rw[r_]
      rw[this]
      rfl
     ·cases h1
    ·cases h1
   ·rename_i v hx
    obtain⟨h3,h4⟩:=bO h1
    refine⟨_,aA hw.1 hx,_,aA hw.2 hy,.inr (.inl ⟨ys.map (cQ k u),rfl,hel,.inr ⟨rfl,by rw[d_];simpa using h3,P0 (o:=.tree tid k u ys none) ?_ ?_ h4⟩⟩)⟩
    ·rw[hun];rfl
    ·rw[oA];rfl
   ·cases h1
  ·cases hA
 ·cases h
theorem TL{k e:TypeId}{a b:Ty}(h:evOp O d (.mkmap k e a b) s κ kp=some r):No P s (.mkmap k e) d κ kp r:=by
 simp only[evOp]at h
 refine xr (o:=.map k e a b []) rfl ?_ h
 rw[oA];rfl
theorem IP{tid:TypeId}{t:Ty}{bytes:Nat}{x y:X}(hw:x.wf=true/\y.wf=true)(h:evOp O d (.append tid t bytes x y) s κ kp=some r):Ox P s (.append tid t.sz bytes x.er y.er) d κ kp r:=by
 simp only[evOp]at h
 obtain⟨vy,ys,hy,h1,h2⟩:=lQ h
 have hnew:∀v:V,s.get x=some v->aT v= .b .nils\/aT v= .b (.full (.list 0 []))->aw (decide (ys.length*bytes<=140737488355328)) (κ (S.putO ⟨s.fr,s.hp++[.vec tid t ys]⟩ d (.sl s.hp.length)))=some r->Ox P s (.append tid t.sz bytes x.er y.er) d κ kp r:=by
  intro v hx hv hh
  obtain⟨h3,h4⟩:=bO hh
  refine⟨_,aA hw.1 hx,_,aA hw.2 hy,h2 _ ⟨λp hp=>(jD ys p hp).2,.inr ⟨hv,by rw[d_];simpa using h3,P0 (o:=.vec tid t ys) rfl ?_ h4⟩⟩⟩
  rw[oA];rfl
 split at h1
 ·rename_i id hx
  split at h1
  ·rename_i e u xs ho
   split at h1
   ·rename_i zs hz
    obtain⟨e2,e3⟩:=bV hz
    have e4:=Ty.list.inj e2
    subst e4
    have e5:zs=xs:=e3
    subst e5
    obtain⟨g1,g2⟩:=aO h1
    obtain⟨g3,g4⟩:=bO g2
    have g5:=b_ g1
    subst g5
    refine⟨_,aA hw.1 hx,_,aA hw.2 hy,h2 _ ⟨λp hp=>(jD ys p hp).2,.inl ⟨id,rfl,_,by rw[bY,ho];rfl,_,rfl,by rw[d_,d_];simpa using g3,_,?_,(Keeps.map (fV d) s (s.moved id (.vec e u (zs++ys))) (V.kill1 id) (λv hv=>by cases v<;>first|rfl|cases hv) rfl).trans (Keeps.put _ d _),g4⟩⟩⟩
    rw[gB,BY]
    have:bU (.vec e u (zs++ys))= .vec e u.sz (zs.map (aG u)++ys.map (aG u)):=by
     show AObj.vec e u.sz ((zs++ys).map (aG u))=_
     rw[r_]
    rw[this]
    rfl
   ·cases h1
  ·cases h1
 ·rename_i u hx
  exact hnew _ hx (.inl rfl) h1
 ·rename_i u hx
  exact hnew _ hx (.inr rfl) h1
 ·cases h1
theorem Rh{tid:TypeId}{t:Ty}{bytes:Nat}{x y:X}(hw:x.wf=true/\y.wf=true)(h:evOp O d (.append tid t bytes x y) s κ kp=some r):No P s (.append tid t.sz bytes x.er y.er) d κ kp r:=
 (IP hw h).ob
theorem Vx{tid:TypeId}{t:Ty}{x y:X}(hw:x.wf=true/\y.wf=true)(h:evOp O d (.copy tid t x y) s κ kp=some r):No P s (.copy tid t.sz x.er y.er) d κ kp r:=by
 simp only[evOp]at h
 split at h
 ·rename_i id v hx hy
  obtain⟨h0,h1⟩:=aO h
  obtain⟨vy,ys,hvy,h3,h2⟩:=lQ h1
  cases hvy
  split at h3
  ·rename_i e u xs ho
   split at h3
   ·rename_i zs hz
    obtain⟨e2,e3⟩:=bV hz
    have e4:=Ty.list.inj e2
    subst e4
    have e5:zs=xs:=e3
    subst e5
    obtain⟨g1,g2⟩:=aO h3
    have g5:=b_ g1
    subst g5
    refine⟨_,aA hw.1 hx,_,aA hw.2 hy,h2 _ ⟨λp hp=>(jD ys p hp).2,id,rfl,λhe=>?_,_,by rw[bY,ho];rfl,_,rfl,_,?_,(Keeps.fr (s':=⟨s.fr,setAt s.hp id (.vec e u (ys.take zs.length++zs.drop ys.length))⟩) rfl).trans (Keeps.put _ d _),g2⟩⟩
    ·cases hv:v.isA
     ·rw[mD hv]at he
      cases v<;>simp only[aT,aM]at he<;>first|(cases he;done)|skip
      ·rename_i j
       cases he
       simp[S_]at h0
      ·rename_i vv
       unfold bI at he
       split at he<;>cases he
     ·cases v<;>first|(cases hv;done)|cases he
    ·rw[gB,gL]
     have:bU (.vec e u (ys.take zs.length++zs.drop ys.length))= .vec e u.sz ((ys.map (aG u)).take (zs.map (aG u)).length++(zs.map (aG u)).drop (ys.map (aG u)).length):=by
      show AObj.vec e u.sz _=_
      rw[r_,ah_,aH_,d_,d_]
     rw[this,d_,d_]
     exact .refl _
   ·cases h3
  ·cases h3
 ·cases h
theorem TM{x:X}(hw:x.wf=true)(h:evOp O d (.panic x) s κ kp=some r):No P s (.panic x.er) d κ kp r:=by
 simp only[evOp]at h
 split at h
 ·rename_i hx
  exact⟨_,aA hw hx,rfl,s,rfl,Keeps.refl _ _,h⟩
 ·cases h
theorem Mm(hO:OracleOk P O){pan bor:Bool}{B:List Nat}{f:FuncId}{args:List (Arg×X)}{sh:Sh}(hw:ly args=true/\sh.wfB=true)(h:evOp O d (.callA pan bor B f args sh) s κ kp=some r):
 Ox P s (.callA bor B (f%10000) (args.map λa=>a.2.er)) d κ kp r:=by
 simp only[evOp]at h
 split at h
 ·rename_i ars ha
  obtain⟨os,_,h1,h2,h3⟩:=Aa hO hw.2 h
  refine⟨_,tM args ars hw.1 ha h2,_,h1,?_⟩
  obtain⟨g1,g2,g3,g4⟩:=h3
  refine⟨g1,g2,g3,g4.mono λo ho=>?_⟩
  match o,ho with
  |some (_,_),ho=>exact⟨ho.1,let⟨s',e1,e2,e3⟩:=ho.2;⟨s',by rw[e1],e2,e3⟩⟩
  |none,ho=>exact ho
 ·cases h
theorem TJ(hO:OracleOk P O){pan bor:Bool}{B:List Nat}{f:FuncId}{args:List (Arg×X)}{sh:Sh}(hw:ly args=true/\sh.wfB=true)(h:evOp O d (.callA pan bor B f args sh) s κ kp=some r):
 No P s (.callA bor B (f%10000) (args.map λa=>a.2.er)) d κ kp r:=
 (Mm hO hw h).ob
theorem Mn(hO:OracleOk P O){pan bor:Bool}{B:List Nat}{num:Nat}{x:X}{args:List (Arg×X)}{sh:Sh}(hw:x.wf=true/\ly args=true/\eu P (num%10000)=true/\sh.wfB=true)(h:evOp O d (.callv pan bor B num x args sh) s κ kp=some r):
 Ox P s (.callv bor B x.er (args.map λa=>a.2.er)) d κ kp r:=by
 have fin:∀(f:FuncId) (ars caps:List V),m_ (num%10000) f=true->oy s bor B args=some ars->yU pan O s d bor B num (ars++caps) sh κ kp=some r->
  eu P f=true/\aI ((args.map λa=>a.2.er).mapM λx=>((enc s).get x).bind (uL (enc s).hp bor B)) λav=>aI (B.mapM ((enc s).hp[·]?)) λos=>sexec.callK P (enc s) d bor B f (av++caps.map aT) os (λst'=>∃s',st'=enc s'/\Keeps (fV d) s s'/\κ s'=some r) (λst'=>∃s',st'=enc s'/\Keeps (fV d) s s'/\kp s'=some r):=by
  intro f ars caps hf ha hc
  have hf':=b_ hf
  subst hf'
  obtain⟨os,_,h1,h2,h3⟩:=Aa hO hw.2.2.2 hc
  refine⟨hw.2.2.1,_,tM args ars hw.2.1 ha λv hv=>h2 v (by simp[hv]),_,h1,?_⟩
  obtain⟨g1,g2,g3,g4⟩:=h3
  rw[r_]at g2 g4
  refine⟨g1,g2,g3,g4.mono λo ho=>?_⟩
  match o,ho with
  |some (_,_),ho=>exact⟨ho.1,let⟨s',e1,e2,e3⟩:=ho.2;⟨s',by rw[e1],e2,e3⟩⟩
  |none,ho=>exact ho
 simp only[evOp]at h
 split at h
 ·rename_i f ids ars hx ha
  obtain⟨h1,h2⟩:=aO h
  obtain⟨g1,g2⟩:=fin f ars _ h1 ha h2
  refine⟨_,aA hw.1 hx,f,_,.inl ⟨ids,rfl,rfl⟩,g1,?_⟩
  rw[M_]at g2
  exact g2
 ·rename_i f cs ars hx ha
  obtain⟨h1,h2⟩:=aO h
  obtain⟨g1,g2⟩:=fin f ars _ h1 ha h2
  refine⟨_,aA hw.1 hx,f,_,.inr ⟨cs.map λc=>PV.pto (aG c.1 c.2),rfl,rfl⟩,g1,?_⟩
  rw[M_]at g2⊢
  exact g2
 ·cases h
theorem TK(hO:OracleOk P O){pan bor:Bool}{B:List Nat}{num:Nat}{x:X}{args:List (Arg×X)}{sh:Sh}(hw:x.wf=true/\ly args=true/\eu P (num%10000)=true/\sh.wfB=true)(h:evOp O d (.callv pan bor B num x args sh) s κ kp=some r):
 No P s (.callv bor B x.er (args.map λa=>a.2.er)) d κ kp r:=
 (Mn hO hw h).ob
theorem Rp:∀(t:Ty) (x:t.den),t.eqOk=true->(aG t x).plain=true:=by
 have hc:∀(t:Ty) (x:t.den),t.eqOk=true->(aC t x).all (λx=>match x with
  | .sc (.int _ _)=>true
  | .sc (.bool _)=>true
  | .sc (.string _)=>true
  |_=>false)=true:=by
  intro t
  induction t with
  |pair a b iha ihb=>
   intro x h
   simp only[Ty.eqOk,a_]at h
   have e:aC (.pair a b) x=aC a x.1++aC b x.2:=rfl
   rw[e,List.all_append,iha x.1 h.1,ihb x.2 h.2];rfl
  |int k=>intro x _;rfl
  |bool=>intro x _;rfl
  |str=>intro x _;rfl
  |unit=>intro x _;rfl
  |list t _=>intro x h;cases h
  |rx=>intro x h;cases h
 intro t x h
 cases t with
 |pair a b=>exact hc (.pair a b) x h
 |int k=>rfl
 |bool=>rfl
 |str=>rfl
 |unit=>rfl
 |list t=>cases h
 |rx=>cases h
theorem ID{a b:Ty}(y:a.den)(z:b.den):∀(kvs:List (a.den×b.den)),(gN a b kvs y=none->mg a b kvs y z=kvs++[(y,z)])/\
 (∀j k' v,kvs[j]? =some (k',v)->CP a y k'=true->(∀i' kv,i'<j->kvs[i']? =some kv->CP a y kv.1=false)->mg a b kvs y z=kvs.set j (y,z))
 |[]=>⟨λ_=>rfl,λj k' v h=>by simp at h⟩
 |(k,v)::l=>by
  obtain⟨h1,h2⟩:=ID y z l
  refine⟨λh=>?_,λj k' v' hj he hlt=>?_⟩
  ·simp only[gN]at h
   cases hb:CP a y k
   ·rw[hb]at h
    simp only[mg,hb,cond_false,h1 h,List.cons_append]
   ·rw[hb]at h;cases h
  ·cases j with
   |zero=>
    simp at hj
    obtain⟨rfl,rfl⟩:=hj
    simp[mg,he]
   |succ j=>
    have hb:=hlt 0 (k,v) (by omega) rfl
    simp only[mg,hb,cond_false,List.set_cons_succ]
    rw[h2 j k' v' (by simpa using hj) he λi' kv hi' hkv=>hlt (i'+1) kv (by omega) (by simpa using hkv)]
theorem Rj{k e:TypeId}{a b:Ty}{m x v:X}(hw:m.wf=true/\x.wf=true/\v.wf=true/\za P 64 k a=true)(h:evOp O d (.mapset k e a b m x v) s κ kp=some r):No P s (.mapset k e m.er x.er v.er) d κ kp r:=by
 simp only[evOp]at h
 split at h
 ·rename_i id u w hm hx hv
  split at h
  ·rename_i k' e' a' b' kvs y z ho hy hz
   split at h
   ·rename_i kvs2 hkv
    obtain⟨h1,h2⟩:=aO h
    simp only[a_]at h1
    have e1:=b_ h1.1.1.1
    have e2:=b_ h1.1.1.2
    have heq:=h1.1.2
    obtain⟨e3,e4⟩:=bV hkv
    have e5:=Ty.list.inj e3
    injection e5 with e6 e7
    clear h h1
    subst e1;subst e2;subst e6;subst e7
    have e8:kvs2=kvs:=e4
    subst e8
    obtain⟨_,h3⟩:=bO h2
    obtain⟨g1,g2⟩:=FA (P:=P) (b:=b') hw.2.2.2 y kvs2 0
    obtain⟨q1,q2⟩:=ID y z kvs2
    have fin:∀l:List (PV×PV),(mg a' b' kvs2 y z).map (λp=>(aG a' p.1,aG b' p.2))=l->∃s',LeS {enc s with hp:=(enc s).hp.set id (.map k e l)} (enc s')/\Keeps (fV none) s s'/\κ s'=some r:=by
     rintro l rfl
     refine⟨⟨s.fr,setAt s.hp id (.map k e a' b' (mg a' b' kvs2 y z))⟩,?_,Keeps.fr rfl,h3⟩
     rw[gL]
     exact .refl _
    refine⟨_,aA hw.1 hm,_,aA hw.2.1 hx,_,aA hw.2.2.1 hv,id,_,rfl,by rw[bY,ho];rfl,_,eU hy,_,eU hz,rfl,Rp a' y heq,(JX P 64 k a' hw.2.2.2 y y).2,L3 hw.2.2.2,g1,?_⟩
    rcases g2 with⟨g3,g4⟩|⟨j,u',k'',g3,g4,g5,g7,g6⟩
    ·refine⟨_,g4,λi u hh=>(by cases hh),fin _ ?_⟩
     rw[q1 g3,r_];rfl
    ·have hk:=JR a' y k'' heq g5
     subst hk
     rw[T_]at g6
     refine⟨_,g6,λi u hh=>?_,fin _ ?_⟩
     ·cases hh
      exact⟨aG b' u',by rw[h_,g4];rfl⟩
     ·rw[q2 j _ _ g4 g5 g7,N_]
   ·cases h
  ·cases h
 ·cases h
end
theorem oa{α:Type}(xs ys:List α)(h:xs.length=ys.length):splice xs 0 ys=ys:=by
 simp[splice,<-h]
theorem g9:∀(u:Ty) (off:Nat) (t:Ty) (x:u.den) (y:t.den) (z:u.den),lY u off t x y=some z->off+t.sz<=u.sz/\aC u z=splice (aC u x) off (aC t y)/\(u.ag=false->t=u)
 | .pair a b,off,t,x,y,z,h=>by
  have hl1:=aD a x.1
  have hl2:=aD b x.2
  have hly:=aD t y
  have hc:∀x:(Ty.pair a b).den,aC (.pair a b) x=aC a x.1++aC b x.2:=λ_=>rfl
  unfold lY at h
  cases hcond:(decide (Ty.pair a b=t)&&m_ off 0)
  ·rw[hcond]at h
   simp only[cond_false]at h
   cases hle:aq_ (off+1) a.sz
   ·rw[hle]at h
    simp only[cond_false]at h
    have hge:a.sz<=off:=by
     have:=Nat.not_le_of_not_ble_eq_true (by rw[hle];simp)
     omega
    split at h
    ·rename_i z2 h2
     cases h
     obtain⟨g1,g2,_⟩:=g9 b (off - a.sz) t x.2 y z2 h2
     refine⟨by simp only[Ty.sz];omega,?_,λh=>by cases h⟩
     rw[hc,hc,g2]
     simp only[splice]
     rw[aQ_,ay_ (l:=aC a x.1) (by omega),hl1,aM_,ax_ (show(aC a x.1).length<=off+(aC t y).length by omega),hl1]
     simp only[aB_,D_]
     rw[show off+(aC t y).length - a.sz=off - a.sz+(aC t y).length by omega]
    ·cases h
   ·rw[hle]at h
    simp only[cond_true]at h
    have hlt:=g_ hle
    split at h
    ·rename_i z1 h1
     cases h
     obtain⟨g1,g2,_⟩:=g9 a off t x.1 y z1 h1
     refine⟨by simp only[Ty.sz];omega,?_,λh=>by cases h⟩
     rw[hc,hc,g2]
     simp only[splice]
     rw[List.take_append_of_le_length (by omega),List.drop_append_of_le_length (by omega)]
     simp only[D_]
    ·cases h
  ·rw[hcond]at h
   simp only[cond_true]at h
   simp only[a_,decide_eq_true_eq]at hcond
   have h0:off=0:=b_ hcond.2
   subst h0
   obtain⟨e1,rfl⟩:=bS h
   refine⟨by omega,?_,λh=>by cases h⟩
   rw[oa _ _ (by rw[aD,aD])]
   simp only[aC,e1]
 | .rx,off,t,x,y,z,h=>by
  unfold lY at h
  obtain⟨h1,h2⟩:=aO h
  simp only[a_,decide_eq_true_eq]at h1
  have h0:off=0:=b_ h1.1
  subst h0
  obtain⟨e1,rfl⟩:=bS h2
  refine⟨by omega,?_,λ_=>rfl⟩
  rw[oa _ _ (by rw[aD,aD])]
  simp only[aC,e1]
 | .int k,off,t,x,y,z,h=>leafC (.int k) off t x y z h
 | .bool,off,t,x,y,z,h=>leafC .bool off t x y z h
 | .str,off,t,x,y,z,h=>leafC .str off t x y z h
 | .list a,off,t,x,y,z,h=>leafC (.list a) off t x y z h
 | .unit,off,t,x,y,z,h=>leafC .unit off t x y z h
where
 leafC (u:Ty) (off:Nat) (t:Ty) (x:u.den) (y:t.den) (z:u.den) (h:(bif m_ off 0 then cf t u y else none)=some z):off+t.sz<=u.sz/\aC u z=splice (aC u x) off (aC t y)/\(u.ag=false->t=u):=by
  obtain⟨h1,h2⟩:=aO h
  have h0:off=0:=b_ h1
  subst h0
  obtain⟨e1,rfl⟩:=bS h2
  refine⟨by omega,?_,λ_=>rfl⟩
  rw[oa _ _ (by rw[aD,aD])]
  simp only[aC,e1]
theorem Ay{t:Ty}{x y:t.den}(h:aC t x=aC t y):aG t x=aG t y:=by
 cases ht:t.ag
 ·rw[dU x ht,dU y ht]at h
  exact List.cons.inj h |>.1
 ·rw[ev x ht,ev y ht,h]
theorem NP{t:Ty}{v:V}{x:t.den}(h:dD t v=some x):(aT v).cells.length=t.sz/\∀(i:Nat) (a b:BV),(aT v).cells[i]? =some a->((aC t x).map BV.pv)[i]? =some b->LeB a b:=by
 have hd:=eU h
 have one:∀(z:BV),(∀p,z≠.pv p)->z.toPV=some (aG t x)->t.ag=false->([z]:List BV).length=t.sz/\∀(i:Nat) (a b:BV),([z]:List BV)[i]? =some a->((aC t x).map BV.pv)[i]? =some b->LeB a b:=by
  intro z _ hz ht
  refine⟨by rw[fo ht];rfl,λi a b ha hb=>?_⟩
  rw[dU x ht]at hb
  cases i with
  |zero=>simp at ha hb;subst ha;subst hb;exact .data _ _ hz
  |succ i=>simp at ha
 cases v with
 |d u y=>
  obtain⟨e1,rfl⟩:=bS (show cf u t y=some x from h)
  refine⟨?_,λi a b ha hb=>?_⟩
  ·show((aC u y).map BV.pv).length=_
   rw[d_,aD]
  ·have ha':((aC u y).map BV.pv)[i]? =some a:=ha
   have:aC u y=aC u x:=by simp only[aC,e1]
   rw[this,hb]at ha'
   cases ha'
   exact .refl _
 |agg vs=>
  have hd':((vs.map aM).mapM BV.toPV).map PV.agg=some (aG t x):=hd
  obtain⟨cs,h1,h2⟩:=f_.1 hd'
  have hag:t.ag=true:=by rw[<-mV t x,<-h2];rfl
  have hcs:cs=aC t x:=by rw[ev x hag]at h2;exact PV.agg.inj h2
  subst hcs
  have hl:=mapM_len h1
  refine⟨by show(vs.map aM).length=_;rw[<-hl,aD],λi a b ha hb=>?_⟩
  have ha':(vs.map aM)[i]? =some a:=ha
  rw[h_]at hb
  obtain⟨p,hp,rfl⟩:=f_.1 hb
  exact .data _ _ (AO h1 ha' hp)
 |nil u=>
  obtain⟨e1,rfl⟩:=bS (show cf (.list u) t []=some x from h)
  exact one .nils (λp e=>by cases e) hd rfl
 |full u y=>
  obtain⟨e1,rfl⟩:=bS (show cf (.list u) t y=some x from h)
  exact one (.full _) (λp e=>by cases e) hd rfl
 |_=>simp[dD,iP]at h
where
 AO {l:List BV} {m:List PV} (h:l.mapM BV.toPV=some m) {i:Nat} {a:BV} {p:PV} (ha:l[i]? =some a) (hp:m[i]? =some p):a.toPV=some p:=by
  induction l generalizing m i with
  |nil=>simp at ha
  |cons x l ih=>
   simp only[E_,H_,aa_,u_,k_]at h
   obtain⟨q,h1,ms,h2,rfl⟩:=h
   cases i with
   |zero=>simp at ha hp;subst ha;subst hp;exact h1
   |succ i=>exact ih h2 (by simpa using ha) (by simpa using hp)
theorem Q4{l:List BV}{m:List PV}(h:l.mapM BV.toPV=some m){i:Nat}{a:BV}{p:PV}(ha:l[i]? =some a)(hp:m[i]? =some p):a.toPV=some p:=by
 induction l generalizing m i with
 |nil=>simp at ha
 |cons x l ih=>
  simp only[E_,H_,aa_,u_,k_]at h
  obtain⟨q,h1,ms,h2,rfl⟩:=h
  cases i with
  |zero=>simp at ha hp;subst ha;subst hp;exact h1
  |succ i=>exact ih h2 (by simpa using ha) (by simpa using hp)
def LeL(xs ys:List BV):Prop:=xs.length=ys.length/\∀(i:Nat) (a b:BV),xs[i]? =some a->ys[i]? =some b->LeB a b
theorem LeL.refl(xs:List BV):LeL xs xs:=⟨rfl,λi a b ha hb=>by rw[ha]at hb;cases hb;exact .refl _⟩
theorem LeL.append{a b c e:List BV}(h:LeL a b)(k:LeL c e):LeL (a++c) (b++e):=by
 refine⟨by simp[h.1,k.1],λi x y hx hy=>?_⟩
 rcases aj_ i a.length with h1|h1
 ·rw[l_ h1]at hx
  rw[l_ (by rw[<-h.1];exact h1)]at hy
  exact h.2 i x y hx hy
 ·rw[s_ h1]at hx
  rw[s_ (by rw[<-h.1];exact h1),<-h.1]at hy
  exact k.2 _ x y hx hy
theorem SG{t:Ty}{l:List V}{x:t.den}{m:List V}(h:Ph t l=some (x,m)):∃l0,l=l0++m/\l0.length=t.sz/\LeL (l0.map aM) ((gr t x).map aM):=by
 obtain⟨l0,h1,h2⟩:=wZ t l x m h
 have hl:=mapM_len h2
 rw[d_,aD]at hl
 refine⟨l0,h1,hl.symm,by rw[(dH t x).1,d_,d_,aD,<-hl],λi a b ha hb=>?_⟩
 rw[(dH t x).1,h_]at hb
 obtain⟨p,hp,rfl⟩:=f_.1 hb
 exact .data _ _ (Q4 h2 ha hp)
theorem Gd{t:Ty}{y:t.den}:∀(n:Nat) (vs:List V) (m:Int) (r:List V),(m<0\/(n:Int)<=m)->zq t y n vs m=some r->LeL (vs.map aM) (r.map aM)
 |0,vs,m,r,_,h=>by
  simp only[zq,k_]at h
  subst h;exact .refl _
 |n+1,vs,m,r,hm,h=>by
  simp only[zq]at h
  split at h
  ·rename_i x l hx
   split at h
   ·rename_i r' hr
    cases h
    obtain⟨l0,rfl,h1,h2⟩:=SG hx
    rw[decide_eq_false (by omega:¬m=0)]
    simp only[cond_false,r_]
    exact h2.append (Gd n l (m - 1) r' (by omega) hr)
   ·cases h
  ·cases h
theorem I1{t:Ty}{y:t.den}{cs:List BV}(hcs:LeL cs ((gr t y).map aM)):∀(n:Nat) (vs:List V) (j:Nat) (r:List V),j<n->zq t y n vs (j:Int)=some r->
 j*t.sz+t.sz<=vs.length/\LeL (splice (vs.map aM) (j*t.sz) cs) (r.map aM)
 |0,_,_,_,hj,_=>absurd hj (by omega)
 |n+1,vs,j,r,hj,h=>by
  have hcl:cs.length=t.sz:=by rw[hcs.1,d_,(dH t y).2]
  simp only[zq]at h
  split at h
  ·rename_i x l hx
   split at h
   ·rename_i r' hr
    cases h
    obtain⟨l0,rfl,h1,h2⟩:=SG hx
    cases j with
    |zero=>
     refine⟨by simp[h1],?_⟩
     have e:(decide (((0:Nat):Int)=0))=true:=rfl
     rw[e]
     simp only[cond_true,r_]
     have:=Gd n l _ r' (.inl (by simp)) hr
     have e2:splice (l0.map aM++l.map aM) (0*t.sz) cs=cs++l.map aM:=by
      simp only[splice,aY_,aW_,aB_,T_]
      rw[hcl,List.drop_left' (by simpa using h1)]
     rw[e2]
     exact hcs.append this
    |succ j=>
     have e:(decide (((j+1:Nat):Int)=0))=false:=decide_eq_false (by omega)
     rw[e]
     rw[show(((j+1:Nat):Int) - 1)=(j:Int) by omega]at hr
     obtain⟨h3,h4⟩:=I1 hcs n l j r' (by omega) hr
     refine⟨by rw[ab_,h1,az_];omega,?_⟩
     simp only[cond_false,r_]
     have hl0:(l0.map aM).length=t.sz:=by simpa using h1
     have e2:splice (l0.map aM++l.map aM) ((j+1)*t.sz) cs=l0.map aM++splice (l.map aM) (j*t.sz) cs:=by
      simp only[splice,az_]
      rw[aQ_,ay_ (l:=l0.map aM) (by omega),hl0,aM_,ax_ (show(l0.map aM).length<=j*t.sz+t.sz+cs.length by omega),hl0]
      simp only[aB_,D_]
      rw[show j*t.sz+t.sz - t.sz=j*t.sz by omega,show j*t.sz+t.sz+cs.length - t.sz=j*t.sz+cs.length by omega]
     rw[e2]
     exact h2.append h4
   ·cases h
  ·cases h
theorem RY{α:Type}(cs:List α)(off n k:Nat)(ys:List α)(h:off+n<=cs.length)(hk:k+ys.length<=n):splice cs (off+k) ys=splice cs off (splice ((cs.drop off).take n) k ys):=by
 have hl:(((cs.drop off).take n).take k++ys++((cs.drop off).take n).drop (k+ys.length)).length=n:=by
  simp only[ab_,af_,List.length_drop]
  omega
 simp only[splice]
 rw[hl,List.take_take,Nat.min_eq_left (show k<=n by omega),List.drop_take,aV_,List.take_add]
 simp only[D_]
 congr 3
 rw[show off+k+ys.length=off+(k+ys.length) by omega]
 conv=>lhs;rw[<-List.take_append_drop (n - (k+ys.length)) (cs.drop (off+(k+ys.length)))]
 rw[aV_,show off+(k+ys.length)+(n - (k+ys.length))=off+n by omega]
section
variable {R:Type} {P:Program} {O:ak} {d:Option Nat} {s:S} {κ kp:S->Option R} {r:R}
theorem Vo{a:St}{id:Nat}{o o':AObj}(h:LeO o o'):LeS {a with hp:=a.hp.set id o} {a with hp:=a.hp.set id o'}:=by
 refine⟨λ_ y hk=>⟨y,hk,.refl y⟩,by simp,λi x y hx hy=>?_⟩
 simp only[aL_]at hx hy
 split at hx
 ·rename_i hi
  rw[if_pos hi]at hy
  split at hx
  ·rename_i hl
   rw[if_pos hl]at hy
   cases hx;cases hy;exact h
  ·cases hx
 ·rename_i hi
  rw[if_neg hi,hx]at hy
  cases hy;exact .refl _
theorem TN{t:Ty}{x v:X}(hw:x.wf=true/\v.wf=true)(h:evOp O d (.store t x v) s κ kp=some r):No P s (.store t.sz x.er v.er) d κ kp r:=by
 simp only[evOp]at h
 cases d with
 |some _=>cases h
 |none=>
  simp only at h
  unfold storeT at h
  split at h
  ·rename_i id off v' hx hv
   split at h
   ·rename_i tid cs ho
    obtain⟨h1,h2⟩:=aO h
    simp only[a_]at h1
    obtain⟨h3,h4⟩:=ug h1.2
    have h5:=b_ h1.1.1
    have h6:=g_ h1.1.2
    refine⟨_,aA hw.1 hx,_,aA hw.2 hv,rfl,_,by rw[bY,ho];rfl,tid,_,rfl,by rw[<-h4,d_,h5],by simpa using h6,h3,⟨s.fr,setAt s.hp id (.box tid (jc cs off (cS v')))⟩,?_,Keeps.fr rfl,h2⟩
    rw[gL]
    have:bU (.box tid (jc cs off (cS v')))= .box tid (splice (cs.map aM) off (aT v').cells):=by
     show AObj.box tid _=_
     rw[r7,h4]
    rw[this]
    exact .refl _
   ·cases h
  ·rename_i id off n u m v' hx hv
   split at h
   ·rename_i tid cs y ho hy
    obtain⟨h1,h2⟩:=aO h
    simp only[a_,decide_eq_true_eq]at h1
    obtain⟨⟨h1,rfl⟩,hsz⟩:=h1
    have h6:=g_ h1
    split at h2
    ·rename_i vs hvs
     obtain⟨h3,h4⟩:=bO h2
     simp only[a_,decide_eq_true_eq]at h3
     obtain⟨j,rfl⟩:=au_ h3.1
     have hj:j<n:=by omega
     obtain⟨d1,d2⟩:=NP hy
     have hok:=Ps hy
     have hoe:=ug hok
     have hcs:LeL (aT v').cells ((gr u y).map aM):=⟨by rw[d1,d_,(dH u y).2],λi a b ha hb=>d2 i a b ha (by rw[<-(dH u y).1];exact hb)⟩
     obtain⟨r1,r2⟩:=I1 hcs n _ j vs hj hvs
     have hjn:j*u.sz+u.sz<=n*u.sz:=by
      have:=Nat.mul_le_mul_right u.sz (show j+1<=n from hj)
      rw[az_]at this;exact this
     refine⟨_,aA hw.1 hx,_,aA hw.2 hv,rfl,_,by rw[bY,ho];rfl,tid,_,rfl,d1,?_,hoe.1,⟨s.fr,setAt s.hp id (.box tid (jc cs off vs))⟩,?_,Keeps.fr rfl,h4⟩
     ·simp only[d_]
      show off+(j:Int).toNat*u.sz+u.sz<=cs.length
      rw[aI_];omega
     ·rw[gL]
      refine Vo ?_
      have e1:splice (cs.map aM) (off+(j:Int).toNat*u.sz) (aT v').cells=splice (cs.map aM) off (splice (((cs.drop off).take (n*u.sz)).map aM) (j*u.sz) (aT v').cells):=by
       rw[aI_,ah_,aH_]
       exact RY _ off (n*u.sz) _ _ (by simpa using h6) (by rw[d1];exact hjn)
      show LeO (AObj.box tid (splice (cs.map aM) (off+(j:Int).toNat*u.sz) (aT v').cells)) (AObj.box tid ((jc cs off vs).map aM))
      rw[e1,r7]
      have key:LeL (splice (cs.map aM) off (splice (((cs.drop off).take (n*u.sz)).map aM) (j*u.sz) (aT v').cells)) (splice (cs.map aM) off (vs.map aM)):=by
       unfold splice at r2⊢
       rw[r2.1]
       exact((LeL.refl _).append r2).append (LeL.refl _)
      exact .box tid _ _ key.1 key.2
    ·cases h2
   ·cases h
  ·rename_i id i off v' hx hv
   split at h
   ·rename_i e u xs y ho hy
    obtain⟨h1,h2⟩:=aO h
    obtain⟨x0,hx0,h3⟩:=cA h2
    split at h3
    ·rename_i z hz
     obtain⟨p1,p2,p3⟩:=g9 u off t x0 y z hz
     have hlt:=(i_.1 hx0).1
     have hget:(xs.map (aG u)).getD i .any=aG u x0:=by simp[ac_,hx0]
     have fin:∀p,p=aG u z->∃s',LeS {enc s with hp:=(enc s).hp.set id (.vec e u.sz ((xs.map (aG u)).set i p))} (enc s')/\Keeps (fV none) s s'/\κ s'=some r:=by
      rintro p rfl
      refine⟨⟨s.fr,setAt s.hp id (.vec e u (xs.set i z))⟩,?_,Keeps.fr rfl,h3⟩
      rw[gL]
      have:bU (.vec e u (xs.set i z))= .vec e u.sz ((xs.map (aG u)).set i (aG u z)):=by
       show AObj.vec e u.sz _=_
       rw[N_]
      rw[this]
      exact .refl _
     refine⟨_,aA hw.1 hx,_,aA hw.2 hv,rfl,_,by rw[bY,ho];rfl,.inl ⟨e,_,_,rfl,by simpa using hlt,_,eU hy,aD t y,y9 t y,?_⟩⟩
     by_cases hs:t.sz=u.sz
     ·have hut:u=t:=by
       simp only[z_,decide_eq_true_eq,y_]at h1
       rcases h1 with h1|h1
       ·exact h1
       ·rw[hs,S_]at h1;cases h1
      subst hut
      have h0:off=0:=by omega
      subst h0
      refine .inl ⟨rfl,rfl,fin _ (Ay ?_)⟩
      rw[p2,oa _ _ (by rw[aD,aD])]
     ·refine .inr ⟨hs,p1,fin _ ?_⟩
      have hag:u.ag=true:=by
       cases hu:u.ag
       ·exact absurd (by rw[p3 hu]) hs
       ·rfl
      rw[hget,ev z hag,p2]
    ·cases h3
   ·rename_i e k u xs hole y ho hy
    obtain⟨h1,h2⟩:=aO h
    simp only[a_]at h1
    obtain⟨x0,hx0,h3⟩:=cA h2
    split at h3
    ·rename_i z hz
     obtain⟨p1,p2,p3⟩:=g9 u off t x0 y z hz
     have hlt:=(i_.1 hx0).1
     have hget:(xs.map (aG u)).getD i .any=aG u x0:=by simp[ac_,hx0]
     refine⟨_,aA hw.1 hx,_,aA hw.2 hv,rfl,_,by rw[bY,ho];rfl,.inr ⟨e,_,k,_,_,rfl,by simpa using hlt,p1,.inl ⟨h1.1,by rw[hget,mV];exact h1.2,_,eU hy,aD t y,y9 t y,⟨s.fr,setAt s.hp id (.tree e k u (xs.set i z) hole)⟩,?_,Keeps.fr rfl,h3⟩⟩⟩
     rw[gL,hget]
     have:bU (.tree e k u (xs.set i z) hole)= .tree e u.sz k ((xs.map (aG u)).set i (.agg (splice (aG u x0).cells off (aG t y).cells))) (Xe hole):=by
      show AObj.tree e u.sz k _ _=_
      rw[N_,ev z h1.2,p2]
     rw[this]
     exact .refl _
    ·cases h3
   ·rename_i e k u xs hi hj w ho hy
    split at h
    ·rename_i kid
     obtain⟨h1,h2⟩:=aO h
     simp only[a_]at h1
     obtain⟨x0,hx0,h3⟩:=cA h2
     obtain⟨h4,h5⟩:=bO h3
     have hlt:=(i_.1 hx0).1
     have e1:=b_ h1.1.1
     have e2:=b_ h1.1.2
     have e3:=g_ h1.2
     have e4:=b_ h4
     clear h h1 h2 h3 h4
     subst e1;subst e4
     refine⟨_,aA hw.1 hx,_,aA hw.2 hv,rfl,_,by rw[bY,ho];rfl,.inr ⟨e,_,k,_,_,rfl,by simpa using hlt,by rw[e2];exact e3,.inr ⟨_,_,rfl,e2,rfl,rfl,⟨s.fr,setAt s.hp id (.tree e k u xs (some (hi,hj,.sl kid)))⟩,?_,Keeps.fr rfl,h5⟩⟩⟩
     rw[gL]
     exact .refl _
    ·cases h
   ·cases h
  ·cases h
theorem TU{t:Ty}{x v:X}(hw:x.wf=true/\v.wf=true)(hp:RZ s (.store t x v)=true)(h:evOp O d (.store t x v) s κ kp=some r):Ox P s (.store t.sz x.er v.er) d κ kp r:=by
 simp only[evOp]at h
 cases d with
 |some _=>cases h
 |none=>
  simp only at h
  unfold storeT at h
  split at h
  ·rename_i id off v' hx hv
   split at h
   ·rename_i tid cs ho
    obtain⟨h1,h2⟩:=aO h
    simp only[a_]at h1
    obtain⟨h3,h4⟩:=ug h1.2
    have h5:=b_ h1.1.1
    have h6:=g_ h1.1.2
    refine⟨_,aA hw.1 hx,_,aA hw.2 hv,rfl,_,by rw[bY,ho];rfl,tid,_,rfl,by rw[<-h4,d_,h5],by simpa using h6,h3,⟨s.fr,setAt s.hp id (.box tid (jc cs off (cS v')))⟩,?_,Keeps.fr rfl,h2⟩
    rw[gL]
    have:bU (.box tid (jc cs off (cS v')))= .box tid (splice (cs.map aM) off (aT v').cells):=by
     show AObj.box tid _=_
     rw[r7,h4]
    rw[this]
   ·cases h
  ·rename_i id off n u m v' hx hv
   simp only[RZ,hx]at hp
   cases hp
  ·rename_i id i off v' hx hv
   split at h
   ·rename_i e u xs y ho hy
    obtain⟨h1,h2⟩:=aO h
    obtain⟨x0,hx0,h3⟩:=cA h2
    split at h3
    ·rename_i z hz
     obtain⟨p1,p2,p3⟩:=g9 u off t x0 y z hz
     have hlt:=(i_.1 hx0).1
     have hget:(xs.map (aG u)).getD i .any=aG u x0:=by simp[ac_,hx0]
     have fin:∀p,p=aG u z->∃s',{enc s with hp:=(enc s).hp.set id (.vec e u.sz ((xs.map (aG u)).set i p))}=enc s'/\Keeps (fV none) s s'/\κ s'=some r:=by
      rintro p rfl
      refine⟨⟨s.fr,setAt s.hp id (.vec e u (xs.set i z))⟩,?_,Keeps.fr rfl,h3⟩
      rw[gL]
      have:bU (.vec e u (xs.set i z))= .vec e u.sz ((xs.map (aG u)).set i (aG u z)):=by
       show AObj.vec e u.sz _=_
       rw[N_]
      rw[this]
     refine⟨_,aA hw.1 hx,_,aA hw.2 hv,rfl,_,by rw[bY,ho];rfl,.inl ⟨e,_,_,rfl,by simpa using hlt,_,eU hy,aD t y,y9 t y,?_⟩⟩
     by_cases hs:t.sz=u.sz
     ·have hut:u=t:=by
       simp only[z_,decide_eq_true_eq,y_]at h1
       rcases h1 with h1|h1
       ·exact h1
       ·rw[hs,S_]at h1;cases h1
      subst hut
      have h0:off=0:=by omega
      subst h0
      refine .inl ⟨rfl,rfl,fin _ (Ay ?_)⟩
      rw[p2,oa _ _ (by rw[aD,aD])]
     ·refine .inr ⟨hs,p1,fin _ ?_⟩
      have hag:u.ag=true:=by
       cases hu:u.ag
       ·exact absurd (by rw[p3 hu]) hs
       ·rfl
      rw[hget,ev z hag,p2]
    ·cases h3
   ·rename_i e k u xs hole y ho hy
    simp only[RZ,hx,ho]at hp
    cases hp
   ·rename_i e k u xs hi hj w ho hy
    simp only[RZ,hx,ho]at hp
    cases hp
   ·cases h
  ·cases h
theorem Ra{op:TOp}(hw:op.wf P=true){κ':Ob->(Nat->V)->Option R}(h:evOp.mkT s op κ'=some r):∃o v,κ' o v=some r/\Hy (enc s) op.er λob mk=>ob=bU o/\∀n,aT (v n)= .b (mk n):=by
 unfold evOp.mkT at h
 split at h
 ·rename_i tid zero
  refine⟨_,_,h,?_,λn=>rfl⟩
  show AObj.box tid ((zero.map AZ).map λv=>bI v)=AObj.box tid (zero.map aM)
  rw[M_]
  congr 1
  exact W_ λv hv=>xo (j_.1 hw v hv)
 ·rename_i tid x
  split at h
  ·rename_i v hx
   obtain⟨h1,h2⟩:=aO h
   obtain⟨h3,h4⟩:=ug h1
   refine⟨_,_,h2,_,aA hw hx,h3,?_,λn=>rfl⟩
   show AObj.box tid _=AObj.box tid _
   rw[h4]
  ·cases h
 ·rename_i tid t len parts
  obtain⟨h1,h2⟩:=aO h
  simp only[a_]at h1
  obtain⟨xs,h3,h4,h5⟩:=nN parts _ hw h2
  refine⟨_,_,h5,_,h3,?_,g_ h1.1.2,g_ h1.2,jD xs,rfl,λn=>rfl⟩
  rw[d_,h4]
  exact b_ h1.1.1
 ·rename_i tid t bytes l c
  simp only[TOp.wf,a_,decide_eq_true_eq,ne_eq]at hw
  obtain⟨h1,h2⟩:=aO h
  obtain⟨k1,n1,hl,h3⟩:=fD h2
  obtain⟨k2,n2,hc,h4⟩:=fD h3
  obtain⟨h5,h6⟩:=bO h4
  simp only[a_,decide_eq_true_eq]at h5
  obtain⟨z1,z2⟩:=Nn t hw.2
  refine⟨_,_,h6,_,aA hw.1.1 hl,_,aA hw.1.2 hc,_,rfl,_,rfl,_,_,rfl,_,_,rfl,h5.1.1.1,h5.1.1.2,h5.1.2,h5.2,z2,g_ h1,_,z1,y9 t t.zero,?_,λn=>rfl⟩
  show AObj.vec tid t.sz _=AObj.vec tid t.sz _
  rw[an_]
 ·rename_i tid t bytes x y
  simp only[TOp.wf,a_]at hw
  obtain⟨vy,ys,hy,h1,h2⟩:=lQ h
  have key:∀v:V,s.get x=some v->(aT v= .b .nils\/aT v= .b (.full (.list 0 [])))->aw (decide (ys.length*bytes<=140737488355328)) (κ' (.vec tid t ys) .sl)=some r->∃o v,κ' o v=some r/\Hy (enc s) (TOp.append tid t bytes x y).er λob mk=>ob=bU o/\∀n,aT (v n)= .b (mk n):=by
   intro v hx hv hh
   obtain⟨h3,h4⟩:=bO hh
   exact⟨_,_,h4,_,aA hw.1 hx,_,aA hw.2 hy,h2 _ ⟨λp hp=>(jD ys p hp).2,hv,by rw[d_];simpa using h3,rfl,λn=>rfl⟩⟩
  split at h1
  ·rename_i u hx
   exact key _ hx (.inl rfl) h1
  ·rename_i u hx
   exact key _ hx (.inr rfl) h1
  ·cases h1
 ·rename_i k e a b
  exact⟨_,_,h,rfl,λn=>rfl⟩
 ·cases h
theorem Pi{k:Nat}{op:TOp}(hw:op.wf P=true)(h:evOp O d (.atq k op) s κ kp=some r):
 ∃o v,vl P ⟨d,.atq k op.er,none⟩ (enc s) ⟨aT v,some (k,bU o)⟩/\κ (S.putO ⟨s.fr,setAt s.hp k o⟩ d v)=some r:=by
 simp only[evOp]at h
 split at h
 ·rename_i hf
  obtain⟨o,v,h1,h2⟩:=Ra hw h
  refine⟨o,v k,⟨rfl,op.er,rfl,tk h2 λob mk ⟨e1,e2⟩=>⟨e1,e2 k,?_⟩⟩,h1⟩
  rw[bY,hf];rfl
 ·cases h
theorem Xo{k:Nat}{op:TOp}(hw:op.wf P=true)(h:evOp O d (.atq k op) s κ kp=some r):Ox P s (.atq k op.er) d κ kp r:=by
 obtain⟨o,v,h1,h2⟩:=Pi hw h
 obtain⟨_,q,e,h3⟩:=h1
 cases e
 show Hy (enc s) op.er λob mk=>AU (enc s) (some k)/\∃s',((enc s).new (some k) ob).putO d (.b (mk k))=enc s'/\Keeps (fV d) s s'/\κ s'=some r
 refine tk h3 λob mk ⟨e1,e2,e3⟩=>⟨e3,_,?_,(Keeps.fr (s':=⟨s.fr,setAt s.hp k o⟩) rfl).trans (Keeps.put _ d v),h2⟩
 rw[gB,gL,e1,<-e2]
 rfl
theorem Fu(hO:OracleOk P O){op:TOp}(hw:op.wf P=true)(h:evOp O d op s κ kp=some r):No P s op.er d κ kp r:=by
 cases op<;>simp only[TOp.wf,a_,decide_eq_true_eq,ne_eq]at hw
 case mv x=>exact(V3 hw h).ob
 case pick c a b=>exact(Qg ⟨hw.1.1,hw.1.2,hw.2⟩ h).ob
 case bin op x y=>exact(TX hw h).ob
 case eqB neg x y=>exact(TY hw h).ob
 case eqT neg tid t x y=>exact(TZ ⟨hw.1.1,hw.1.2,hw.2⟩ h).ob
 case un op x=>exact(V4 hw h).ob
 case len b x=>exact(T2 hw h).ob
 case lenM k e x=>exact(Qb hw h).ob
 case idxS x i=>exact(P9 hw h).ob
 case idxV n t x i=>exact(Qa hw h).ob
 case idxA t x i=>exact(P7 hw h).ob
 case idxP n t x i=>exact(P8 hw h).ob
 case fldA off t x=>exact(P6 hw h).ob
 case fld off t x=>exact(T1 hw h).ob
 case load t x=>exact(Qc hw h).ob
 case store t x v=>exact TN hw h
 case alloc tid zero=>exact TI hw h
 case box tid x=>exact Wy hw h
 case boxD tid t x=>exact(P3 hw h).ob
 case build zero parts=>exact(Ms hw h).ob
 case bslice own tid t len parts=>
  cases own
  ·exact(IT hw h).ob
  ·exact Ri hw h
 case mslice tid t b l c=>exact Rk ⟨hw.1.1,hw.1.2,hw.2⟩ h
 case append tid t b x y=>exact Rh hw h
 case cvtI k x=>exact(P5 hw h).ob
 case slc full t x lo hi mx=>exact(T3 ⟨hw.1.1.1,hw.1.1.2,hw.1.2,hw.2⟩ h).ob
 case slcS x lo hi=>exact(Qh ⟨hw.1.1,hw.1.2,hw.2⟩ h).ob
 case ext x i=>exact(T0 hw h).ob
 case nilc x=>exact(Qf hw h).ob
 case call bor f args sh=>exact(P4 hO hw h).ob
 case callA pan bor B f args sh=>exact TJ hO hw h
 case callv pan bor B num x args sh=>exact TK hO ⟨hw.1.1.1,hw.1.1.2,hw.1.2,hw.2⟩ h
 case callp bor num x args sh=>exact(Mt hO ⟨hw.1.1.1,hw.1.1.2,hw.1.2,hw.2⟩ h).ob
 case b2s x=>exact(TW hw h).ob
 case mkfn f caps=>exact(Qd hw h).ob
 case mkmap k e a b=>exact TL h
 case lookup k e ok a b m x=>exact(IU ⟨hw.1.1.1,hw.1.1.2,hw.1.2,hw.2⟩ h).ob
 case mapset k e a b m x v=>exact Rj ⟨hw.1.1.1,hw.1.1.2,hw.1.2,hw.2⟩ h
 case copy tid t x y=>exact Vx hw h
 case mnmx mx k x ys=>exact(Qe hw h).ob
 case panic x=>exact TM hw h
 case iface tid x=>exact(Mu hw h).ob
 case bsliceF tid t len parts=>exact(FZ hw h).ob
 case appD tid t b x y=>exact(P2 hw h).ob
 case bsliceN tid k t len parts=>exact(F0 hw h).ob
 case msliceT tid k u b l c=>exact Oe hw h
 case appT tid k t b x y=>exact(Vz hw h).ob
 case atq k op=>exact(Xo hw h).ob
theorem s4(hO:OracleOk P O){op:TOp}(hw:op.wf P=true)(hp:op.pureB=true)(h:evOp O d op s κ kp=some r):Pu P s op.er d κ r:=by
 cases op<;>simp only[TOp.wf,a_,decide_eq_true_eq,ne_eq]at hw<;>simp only[TOp.pureB]at hp<;>try (cases hp;done)
 case mv x=>exact V3 hw h
 case pick c a b=>exact Qg ⟨hw.1.1,hw.1.2,hw.2⟩ h
 case bin op x y=>exact TX hw h
 case eqB neg x y=>exact TY hw h
 case eqT neg tid t x y=>exact TZ ⟨hw.1.1,hw.1.2,hw.2⟩ h
 case un op x=>exact V4 hw h
 case len b x=>exact T2 hw h
 case lenM k e x=>exact Qb hw h
 case idxS x i=>exact P9 hw h
 case idxV n t x i=>exact Qa hw h
 case idxA t x i=>exact P7 hw h
 case idxP n t x i=>exact P8 hw h
 case fldA off t x=>exact P6 hw h
 case fld off t x=>exact T1 hw h
 case load t x=>exact Qc hw h
 case boxD tid t x=>exact P3 hw h
 case build zero parts=>exact Ms hw h
 case bslice own tid t len parts=>
  cases own
  ·exact IT hw h
  ·cases hp
 case cvtI k x=>exact P5 hw h
 case slc full t x lo hi mx=>exact T3 ⟨hw.1.1.1,hw.1.1.2,hw.1.2,hw.2⟩ h
 case slcS x lo hi=>exact Qh ⟨hw.1.1,hw.1.2,hw.2⟩ h
 case ext x i=>exact T0 hw h
 case nilc x=>exact Qf hw h
 case call bor f args sh=>exact P4 hO hw h
 case callp bor num x args sh=>exact Mt hO ⟨hw.1.1.1,hw.1.1.2,hw.1.2,hw.2⟩ h
 case b2s x=>exact TW hw h
 case mkfn f caps=>exact Qd hw h
 case lookup k e ok a b m x=>exact IU ⟨hw.1.1.1,hw.1.1.2,hw.1.2,hw.2⟩ h
 case mnmx mx k x ys=>exact Qe hw h
 case iface tid x=>exact Mu hw h
 case bsliceF tid t len parts=>exact FZ hw h
 case appD tid t b x y=>exact P2 hw h
 case bsliceN tid k t len parts=>exact F0 hw h
theorem N1(hO:OracleOk P O){op:TOp}(hw:op.wf P=true)(hp:op.exB=true)(hst:RZ s op=true)(h:evOp O d op s κ kp=some r):Ox P s op.er d κ kp r:=by
 by_cases hpu:op.pureB=true
 ·exact(s4 hO hw hpu h).ox
 ·cases op<;>simp only[TOp.exB]at hp<;>try exact absurd hp hpu
  case append tid t b x y=>simp only[TOp.wf,a_]at hw;exact IP hw h
  case callA pan bor B f args sh=>simp only[TOp.wf,a_]at hw;exact Mm hO hw h
  case callv pan bor B num x args sh=>simp only[TOp.wf,a_]at hw;exact Mn hO ⟨hw.1.1.1,hw.1.1.2,hw.1.2,hw.2⟩ h
  case store t x v=>simp only[TOp.wf,a_]at hw;exact TU hw hst h
end
theorem Vf{θ:List Av.Loc}{D D':Nat->Prop}{w:World}{id:Nat}{t:Ty}{xs:List t.den}{l:Av.Loc}(hl:θ[id]? =some l)(hD:∀b,D b->D' b)(hb:∀g,l≠.blk g)(hmp:∀g,l≠.mp g)
 (hh:∀v,l.head v->RelP D' w v (mF t.sz (xs.map (aG t)))) {v:Value} {u:V} (h:RelB θ D w v (aM u)):RelB (θ.set id .no) D' w v (aM (Sg id t xs u)):=by
 have ne:∀(k:Nat) (l':Av.Loc),k≠id->θ[k]? =some l'->(θ.set id .no)[k]? =some l':=λk l' hk h=>by rw[x_ (Ne.symm hk)];exact h
 have stay:∀(x:BV),RelB θ D w v x->(∀i∈x.ids,i≠id)->RelB (θ.set id .no) D' w v x:=by
  intro x hx hi
  cases x<;>simp only[RelB]at hx⊢
  ·exact hx.mono hD λ_ _=>rfl
  ·exact hx
  ·obtain⟨l',h1,h2⟩:=hx;exact⟨l',ne _ _ (hi _ (by simp[BV.ids])) h1,h2⟩
  ·obtain⟨g,h1,h2⟩:=hx;exact⟨g,ne _ _ (hi _ (by simp[BV.ids])) h1,h2⟩
  ·obtain⟨g,n,cap,sz,O,h1,h2⟩:=hx;exact⟨g,n,cap,sz,O,ne _ _ (hi _ (by simp[BV.ids])) h1,h2⟩
  ·obtain⟨gs,h1,h2,h3⟩:=hx
   exact⟨gs,h1,λk i g e1 e2=>ne _ _ (hi _ (by simp only[BV.ids];exact p_ e1)) (h2 k i g e1 e2),h3⟩
  ·obtain⟨g,h1,h2⟩:=hx;exact⟨g,ne _ _ (hi _ (by simp[BV.ids])) h1,h2⟩
  ·exact⟨hx.1.mono hD λ_ _=>rfl,hx.2⟩
  ·exact hx
 cases u with
 |sl k=>
  show RelB _ _ _ _ (aM (bif m_ k id then .d (.list t) xs else .sl k))
  rw[fS]
  by_cases hk:k=id
  ·subst hk
   rw[decide_eq_true rfl]
   obtain⟨l',h1,h2⟩:=h
   rw[hl]at h1;cases h1
   exact hh v h2
  ·rw[decide_eq_false hk]
   exact stay (aM (.sl k)) h λi hi=>by rw[o_.1 (show i∈[k]from hi)];exact hk
 |elt k i o=>
  show RelB _ _ _ _ (aM (bif m_ k id then .any else .elt k i o))
  rw[fS]
  by_cases hk:k=id
  ·rw[decide_eq_true hk];exact RelP.any v
  ·rw[decide_eq_false hk]
   exact stay (aM (.elt k i o)) h λj hj=>by rw[o_.1 (show j∈[k]from hj)];exact hk
 |ptr k off=>
  refine stay (aM (.ptr k off)) h λi hi e=>?_
  have hi':=o_.1 (show i∈[k]from hi)
  subst hi';subst e
  obtain⟨g,h1,_⟩:=h
  rw[hl]at h1;cases h1;exact hb g rfl
 |pel k off n t' m=>
  refine stay (aM (.pel k off n t' m)) h λi hi e=>?_
  have hi':=o_.1 (show i∈[k]from hi)
  subst hi';subst e
  obtain⟨g,h1,_⟩:=h
  rw[hl]at h1;cases h1;exact hb g rfl
 |mp k=>
  refine stay (aM (.mp k)) h λi hi e=>?_
  have hi':=o_.1 (show i∈[k]from hi)
  subst hi';subst e
  obtain⟨g,h1,_⟩:=h
  rw[hl]at h1;cases h1;exact hmp g rfl
 |clo f ids=>
  refine stay (aM (.clo f ids)) h λi hi e=>?_
  subst e
  obtain⟨gs,h1,h2,_⟩:=h
  obtain⟨k,hk⟩:=ai_ (show i∈ids from hi)
  obtain⟨g,hg⟩:=bw h1 hk
  have:=h2 k i g hk hg
  rw[hl]at this;cases this;exact hb g rfl
 |raw c=>exact stay (aM (.raw c)) h λi hi=>by rw[show(aM (.raw c)).ids=[]from yW c]at hi;cases hi
 |d a b=>exact stay (aM (.d a b)) h λi hi=>by cases hi
 |nil a=>exact stay (aM (.nil a)) h λi hi=>by cases hi
 |agg a=>exact stay (aM (.agg a)) h λi hi=>by cases hi
 |tup a=>exact stay (aM (.tup a)) h λi hi=>by cases hi
 |dp a b=>exact stay (aM (.dp a b)) h λi hi=>by cases hi
 |fnD a b=>exact stay (aM (.fnD a b)) h λi hi=>by cases hi
 |full a b=>exact stay (aM (.full a b)) h λi hi=>by cases hi
 |any=>exact stay (aM .any) h λi hi=>by cases hi
 |lit a b c=>exact stay (aM (.lit a b c)) h λi hi=>by cases hi
 |ifc=>exact stay (aM .ifc) h λi hi=>by cases hi
theorem Ve{id:Nat}{t:Ty}{xs:List t.den}(v:V)(h:v.isA=false):(Sg id t xs v).isA=false:=by
 cases v<;>first|rfl|(simp only[Sg];cases m_ _ id<;>rfl)|cases h
theorem Uj{θ θ':List Av.Loc}{D D':Nat->Prop}{w:World}{g:V->V}(ha:∀v,v.isA=false->(g v).isA=false)(hg:∀v u,RelB θ D w v (aM u)->RelB θ' D' w v (aM (g u))){v:Value}{u:V}(h:RelA θ D w v (aT u)):RelA θ' D' w v (aT (mG g u)):=by
 have many:∀(vs:List V) (a:Array Value),a.size=(vs.map aM).length->(∀(i:Nat) (y:Value) (x:BV),a[i]? =some y->(vs.map aM)[i]? =some x->RelB θ D w y x)->
  a.size=((vs.map g).map aM).length/\∀(i:Nat) (y:Value) (x:BV),a[i]? =some y->((vs.map g).map aM)[i]? =some x->RelB θ' D' w y x:=by
  intro vs a h1 h2
  refine⟨by simpa using h1,λi y x hy hx=>?_⟩
  simp only[h_,f_]at hx
  obtain⟨_,⟨u,hu,rfl⟩,rfl⟩:=hx
  exact hg y u (h2 i y _ hy (by simp[hu]))
 cases hv:u.isA
 ·rw[Tu hv,mD (ha u hv)]
  rw[mD hv]at h
  exact hg v u h
 ·cases u with
  |agg vs=>obtain⟨a,h1,h2,h3⟩:=h;obtain⟨h4,h5⟩:=many vs a h2 h3;exact⟨a,h1,h4,h5⟩
  |tup vs=>obtain⟨a,h1,h2,h3⟩:=h;obtain⟨h4,h5⟩:=many vs a h2 h3;exact⟨a,h1,h4,h5⟩
  |_=>cases hv
theorem Ui{θ θ':List Av.Loc}{D D':Nat->Prop}{w:World}{g:V->V}(hD:∀b,D b->D' b)(hg:∀v u,RelB θ D w v (aM u)->RelB θ' D' w v (aM (g u))){l:Av.Loc}{o:Ob}(h:RelO θ D w l (bU o)):RelO θ' D' w l (bU (wy g o)):=by
 cases o with
 |box t cs=>
  cases l<;>simp only[bU,wy,RelO]at h⊢<;>try exact h
  obtain⟨c,h1,h2,h3⟩:=h
  refine⟨c,h1,by simpa using h2,λi y x hy hx=>?_⟩
  simp only[h_,f_]at hx
  obtain⟨_,⟨u,hu,rfl⟩,rfl⟩:=hx
  exact hg y u (h3 i y _ hy (by simp[hu]))
 |gone=>cases l<;>trivial
 |free=>cases l<;>exact h
 |tree e k t xs hole=>
  cases l<;>try exact h
  case nil=>
   refine⟨h.1,?_⟩
   cases hole with
   |none=>rfl
   |some q=>obtain⟨i,j,v⟩:=q;cases h.2
  case hdr=>
   cases hole with
   |none=>exact pT (θ':=θ') (hole:=none) (f:=λx=>x) (λu i j b hb _=>nomatch hb) hD h
   |some q=>
    obtain⟨i,j,v⟩:=q
    exact pT (hole:=some (i,j,aM v)) (f:=λ_=>aM (g v)) (λu i' j' b hb hr=>by cases hb;exact hg u v hr) hD h
 |vec e t xs=>
  have h1:=h.mono (D':=D') (w':=w) hD (λ_ _=>rfl) λ_ _=>rfl
  cases l<;>exact h1
 |map k e a b kvs=>
  have h1:=h.mono (D':=D') (w':=w) hD (λ_ _=>rfl) λ_ _=>rfl
  cases l<;>exact h1
theorem Dc{m:Nat}{s:S}{id:Nat}{o:Ob}{t:Ty}{xs:List t.den}(ho:s.hp[id]? =some o)(hsl:Nq (enc s).hp id=some (mF t.sz (xs.map (aG t))))(hv:o.vary=true):Weak m (enc s) (enc ⟨(s.map (Sg id t xs)).fr,setAt (s.map (Sg id t xs)).hp id .gone⟩):=by
 rintro c a w _ ⟨θ,D,hI⟩
 have ho':(enc s).hp[id]? =some (bU o):=by rw[bY,ho];rfl
 have hlt:id<θ.length:=by rw[hI.ok.len];exact(i_.1 ho').1
 obtain⟨l,hl⟩:∃l,θ[id]? =some l:=⟨θ[id],e_ hlt⟩
 have hro:=hI.ok.objs id l _ hl ho'
 have hfx:l.fixed=false:=by
  unfold Nq at hsl
  rw[ho']at hsl
  cases o<;>first|cases hsl|skip
  all_goals (cases l<;>first|rfl|exact hro.elim)
 have hb:∀g,l≠.blk g:=λg e=>by subst e;cases hfx
 have hmp:∀g,l≠.mp g:=λg e=>by subst e;cases hfx
 obtain⟨D',hD,hD2,hh⟩:∃D':Nat->Prop,(∀b,D b->D' b)/\(∀b,D' b->D b\/l.has b)/\(∀v,l.head v->RelP D' w v (mF t.sz (xs.map (aG t)))):=by
  refine⟨λb=>D b\/l.has b,λ_ h=>.inl h,λ_ h=>h,λv hv=>?_⟩
  obtain⟨l',h1,h2⟩:=Qs hI.ok (show RelB θ D w v (.sl id)from⟨l,hl,hv⟩) hsl
  rw[hl]at h1;cases h1
  exact h2 _ (λ_ h=>.inl h) (λ_ h=>.inr h)
 have hB:=λv u=>Vf (w:=w) (v:=v) (u:=u) (id:=id) (t:=t) (xs:=xs) hl hD hb hmp hh
 have old:∀(i:Nat) (l':Av.Loc),(θ.set id .no)[i]? =some l'->(i=id/\l'= .no)\/(i≠id/\θ[i]? =some l'):=λi l' hi=>by
  by_cases hii:i=id
  ·subst hii
   rw[L_ hlt]at hi
   cases hi;exact .inl ⟨rfl,rfl⟩
  ·rw[x_ (Ne.symm hii)]at hi
   exact .inr ⟨hii,hi⟩
 refine⟨θ.set id .no,D',hI.size,hI.defers,⟨?_,λb hb'=>?_,λi j li lj g hi hj hgi hgj=>?_,λi li g hi hg=>?_,λi li o hi hoi=>?_⟩,hI.keep,λb hb'=>hD b (hI.dsub b hb'),λb hb'=>?_,λi li g hi hg=>?_,λk x hk=>?_,λk l' hk hf=>?_⟩
 ·simp[enc,S.map,eX,hI.ok.len]
 ·rcases hD2 b hb' with h1|h1
  ·exact hI.ok.dlt b h1
  ·exact(hI.ok.olt id l b hl h1).1
 ·rcases old i li hi with⟨_,rfl⟩|⟨_,h1⟩
  ·cases hgi
  ·rcases old j lj hj with⟨_,rfl⟩|⟨_,h2⟩
   ·cases hgj
   ·exact hI.ok.inj i j li lj g h1 h2 hgi hgj
 ·rcases old i li hi with⟨_,rfl⟩|⟨hne,h1⟩
  ·cases hg
  ·obtain⟨h2,h3⟩:=hI.ok.olt i li g h1 hg
   refine⟨h2,λhd=>?_⟩
   rcases hD2 g hd with h4|h4
   ·exact h3 h4
   ·exact hne (hI.ok.inj i id li l g h1 hl hg h4)
 ·have hoi':((setAt (s.hp.map (wy (Sg id t xs))) id .gone).map bU)[i]? =some o:=hoi
  rw[eX,h_]at hoi'
  obtain⟨o1,h1,rfl⟩:=f_.1 hoi'
  rcases old i li hi with⟨rfl,rfl⟩|⟨hne,h2⟩
  ·rw[L_ (by rw[d_];exact(i_.1 ho).1)]at h1
   cases h1;trivial
  ·rw[x_ (Ne.symm hne),h_]at h1
   obtain⟨o2,h3,rfl⟩:=f_.1 h1
   exact Ui hD hB (hI.ok.objs i li (bU o2) h2 (by rw[bY,h3];rfl))
 ·rcases hD2 b hb' with h1|h1
  ·exact hI.dnew b h1
  ·exact .inr (hI.onew id l b hl h1)
 ·rcases old i li hi with⟨_,rfl⟩|⟨_,h1⟩
  ·cases hg
  ·exact hI.onew i li g h1 hg
 ·have hk':Av.look ((s.fr.map λx=>(x.1,mG (Sg id t xs) x.2)).map λx=>(x.1,aT x.2)) k=some x:=hk
  rw[pH,FK]at hk'
  obtain⟨v1,h1,rfl⟩:=f_.1 hk'
  obtain⟨v2,h2,rfl⟩:=f_.1 h1
  exact Uj Ve hB (hI.fr k (aT v2) (by show Av.look (s.fr.map λx=>(x.1,aT x.2)) k=_;rw[pH,h2];rfl))
 ·have h1:=hI.fix k l' hk hf
  by_cases hki:k=id
  ·subst hki
   rw[hl]at h1;cases h1
   rw[hfx]at hf;cases hf
  ·rw[x_ (Ne.symm hki)];exact h1
def Ob.empt(o:Ob):Prop:=∀θ D w,RelO θ D w (.nil none) (bU o)
theorem LK(e:TypeId)(t:Ty):(Ob.vec e t []).empt:=λ_ _ _=>rfl
theorem Is(e:TypeId)(k:Av.K)(t:Ty):(Ob.tree e k t [] none).empt:=λ_ _ _=>⟨rfl,rfl⟩
theorem AJ{c:Ctx}{θ:List Av.Loc}{D:Nat->Prop}{st:St}{a:Act}{w:World}(hI:Inv c θ D st a w){o:Ob}(ho:o.empt):Inv c (θ++[.nil none]) D {st with hp:=st.hp++[bU o]} a w:=
 hI.push (l:=.nil none) (o:=bU o) (ho _ _ _) (λg hg=>by cases hg)
theorem GA{m:Nat}{s:S}{k:Nat}{u:Ty}{o:Ob}(ho:o.empt)(h:lk s.fr k=some (.nil u)):Weak m (enc s) (enc ⟨(k,.sl s.hp.length)::s.fr,s.hp++[o]⟩):=by
 rintro c a w _ ⟨θ,D,hI⟩
 have hJ:=AJ hI ho
 rw[<-we]at hJ
 refine⟨_,D,hJ.size,hJ.defers,hJ.ok,hJ.keep,hJ.dsub,hJ.dnew,hJ.onew,λj x hj=>?_,hJ.fix⟩
 have hj':Av.look ((k,aT (.sl s.hp.length))::s.fr.map λx=>(x.1,aT x.2)) j=some x:=hj
 simp only[Av.look]at hj'
 split at hj'
 ·rename_i e1
  subst e1
  cases hj'
  have hv:=hI.fr j (aT (.nil u)) (by show Av.look (s.fr.map λx=>(x.1,aT x.2)) j=_;rw[pH,h];rfl)
  refine⟨.nil none,?_,hv⟩
  rw[<-oA,<-hI.ok.len]
  simp
 ·exact hJ.fr j x hj'
theorem Db{m:Nat}{s:S}{id j:Nat}{u:TypeId}{t':Ty}{cs:List V}{o0:Ob}(ho0:o0.empt)(ho:s.hp[id]? =some (.box u cs))(hj:cs[j]? =some (.nil t')):
 Weak m (enc s) (enc ⟨s.fr,setAt s.hp id (.box u (setAt cs j (.sl s.hp.length)))++[o0]⟩):=by
 rintro c a w _ ⟨θ,D,hI⟩
 have hJ:=AJ hI ho0
 rw[<-we]at hJ
 have hid:=(i_.1 ho).1
 refine⟨_,D,hJ.size,hJ.defers,⟨by rw[hJ.ok.len];simp[enc,eX],hJ.ok.dlt,hJ.ok.inj,hJ.ok.olt,λi l o hi hoi=>?_⟩,hJ.keep,hJ.dsub,hJ.dnew,hJ.onew,hJ.fr,hJ.fix⟩
 have hoi':((setAt s.hp id (.box u (setAt cs j (.sl s.hp.length)))++[o0]).map bU)[i]? =some o:=hoi
 rw[eX,eX]at hoi'
 by_cases hii:i=id
 ·subst hii
  rw[h_,l_ (by simpa using hid),L_ hid]at hoi'
  cases hoi'
  have hr:=hJ.ok.objs i l (bU (.box u cs)) hi (by rw[bY,l_ hid,ho];rfl)
  cases l<;>simp only[bU,RelO]at hr⊢<;>try exact hr
  obtain⟨cv,h1,h2,h3⟩:=hr
  refine⟨cv,h1,by simpa using h2,λq y x hy hx=>?_⟩
  rw[N_]at hx
  by_cases hq:q=j
  ·subst hq
   rw[aL_]at hx
   simp only[if_true]at hx
   split at hx
   ·cases hx
    have:=h3 q y (aM (.nil t')) hy (by rw[h_,hj];rfl)
    refine⟨.nil none,?_,this⟩
    rw[<-oA,<-hI.ok.len]
    simp
   ·cases hx
  ·rw[x_ (Ne.symm hq)]at hx
   exact h3 q y x hy hx
 ·refine hJ.ok.objs i l o hi ?_
  show((s.hp++[o0]).map bU)[i]? =some o
  rw[<-hoi']
  simp only[h_]
  congr 1
  rcases aj_ i s.hp.length with h1|h1
  ·rw[l_ h1,l_ (by simpa using h1),x_ (Ne.symm hii)]
  ·rw[s_ h1,s_ (by simpa using h1)]
   simp
theorem rM{ids:List Nat}{i:Nat}(h:i∈ids):ids[ids.idxOf i]? =some i:=by
 have h1:=List.idxOf_lt_length_of_mem h
 rw[e_ h1]
 simp
theorem Ep{θ:List Av.Loc}{ids:List Nat}{D:Nat->Prop}{w:World}{v:Value}{x:BV}(hin:∀i∈x.ids,i∈ids)(h:RelB θ D w v x):RelB (ids.map λi=>θ.getD i .no) D w v (x.ren (ids.idxOf ·)):=by
 have key:∀(i:Nat) (l:Av.Loc),i∈ids->θ[i]? =some l->(ids.map λi=>θ.getD i .no)[ids.idxOf i]? =some l:=λi l hi hl=>by
  rw[h_,rM hi]
  simp[ac_,hl]
 cases x<;>simp only[RelB,BV.ren]at h⊢<;>simp only[BV.ids,o_,forall_eq]at hin
 ·exact h
 ·exact h
 ·obtain⟨l,h1,h2⟩:=h;exact⟨l,key _ _ hin h1,h2⟩
 ·obtain⟨g,h1,h2⟩:=h;exact⟨g,key _ _ hin h1,h2⟩
 ·obtain⟨g,n,cap,sz,O,h1,h2⟩:=h;exact⟨g,n,cap,sz,O,key _ _ hin h1,h2⟩
 ·obtain⟨gs,h1,h2,h3⟩:=h
  refine⟨gs,by simpa using h1,λk i g e1 e2=>?_,h3⟩
  rw[h_]at e1
  obtain⟨i',e3,rfl⟩:=f_.1 e1
  exact key _ _ (hin i' (p_ e3)) (h2 k i' g e3 e2)
 ·obtain⟨g,h1,h2⟩:=h;exact⟨g,key _ _ hin h1,h2⟩
 ·exact h
 ·exact h
theorem Uw{θ:List Av.Loc}{ids:List Nat}{D:Nat->Prop}{w:World}{v:Value}{x:AV}(hin:∀i∈x.ids,i∈ids)(h:RelA θ D w v x):RelA (ids.map λi=>θ.getD i .no) D w v (x.ren (ids.idxOf ·)):=by
 have many:∀(xs:List BV) (a:Array Value),(∀i∈xs.flatMap BV.ids,i∈ids)->a.size=xs.length->(∀(i:Nat) (y:Value) (x:BV),a[i]? =some y->xs[i]? =some x->RelB θ D w y x)->
  a.size=(xs.map (BV.ren (ids.idxOf ·))).length/\∀(i:Nat) (y:Value) (x:BV),a[i]? =some y->(xs.map (BV.ren (ids.idxOf ·)))[i]? =some x->RelB (ids.map λi=>θ.getD i .no) D w y x:=by
  intro xs a h0 h1 h2
  refine⟨by simpa using h1,λi y x hy hx=>?_⟩
  rw[h_]at hx
  obtain⟨x0,hx0,rfl⟩:=f_.1 hx
  exact Ep (λj hj=>h0 j (t_.2 ⟨x0,p_ hx0,hj⟩)) (h2 i y x0 hy hx0)
 cases x with
 |b x=>exact Ep hin h
 |agg xs=>obtain⟨a,h1,h2,h3⟩:=h;obtain⟨h4,h5⟩:=many xs a hin h2 h3;exact⟨a,h1,h4,h5⟩
 |tup xs=>obtain⟨a,h1,h2,h3⟩:=h;obtain⟨h4,h5⟩:=many xs a hin h2 h3;exact⟨a,h1,h4,h5⟩
theorem Nb{m:Nat}{a b:St}(ids:List Nat)(hnd:ids.Nodup)(hm:∀k,k<m->ids[k]? =some k)
 (hfr:∀k y,Av.look b.fr k=some y->∃x,Av.look a.fr k=some x/\(∀i∈x.ids,i∈ids)/\y=x.ren (ids.idxOf ·))
 (hlen:b.hp.length=ids.length) (hhp:∀(j:Nat) (o':AObj),b.hp[j]? =some o'->∃(i:Nat) (o:AObj),ids[j]? =some i/\a.hp[i]? =some o/\(∀i∈o.ids,i∈ids)/\o'=o.ren (ids.idxOf ·)):Weak m a b:=by
 rintro c ac w hcm ⟨θ,D,hI⟩
 have hin:∀(j:Nat) (i:Nat),ids[j]? =some i->i<θ.length:=λj i hj=>by
  have hj2:j<b.hp.length:=by rw[hlen];exact(i_.1 hj).1
  obtain⟨i',o,h1,h2,_⟩:=hhp j _ (e_ hj2)
  rw[hj]at h1;cases h1
  rw[hI.ok.len]
  exact(i_.1 h2).1
 have back:∀(j:Nat) (l:Av.Loc),(ids.map λi=>θ.getD i .no)[j]? =some l->∃i,ids[j]? =some i/\θ[i]? =some l:=λj l hj=>by
  rw[h_]at hj
  obtain⟨i,h1,h2⟩:=f_.1 hj
  refine⟨i,h1,?_⟩
  have:=hin j i h1
  rw[<-h2]
  simp[ac_,e_ this]
 refine⟨ids.map λi=>θ.getD i .no,D,hI.size,hI.defers,⟨by rw[d_,hlen],hI.ok.dlt,λi j li lj g hi hj hgi hgj=>?_,λi l g hi hg=>?_,λj l o' hj hoj=>?_⟩,hI.keep,hI.dsub,hI.dnew,λi l g hi hg=>?_,λk y hk=>?_,λk l hk hf=>?_⟩
 ·obtain⟨i',h1,h2⟩:=back i li hi
  obtain⟨j',h3,h4⟩:=back j lj hj
  have:=hI.ok.inj i' j' li lj g h2 h4 hgi hgj
  subst this
  have hi2:=(i_.1 h1).1
  exact(List.getElem?_inj hi2 hnd).1 (by rw[h1,h3])
 ·obtain⟨i',h1,h2⟩:=back i l hi
  exact hI.ok.olt i' l g h2 hg
 ·obtain⟨i,h1,h2⟩:=back j l hj
  obtain⟨i',o,h3,h4,h5,rfl⟩:=hhp j o' hoj
  rw[h1]at h3;cases h3
  have hr:=hI.ok.objs i l o h2 h4
  cases o with
  |box t cs=>
   cases l<;>simp only[AObj.ren,RelO]at hr⊢<;>try exact hr
   obtain⟨cv,e1,e2,e3⟩:=hr
   refine⟨cv,e1,by simpa using e2,λq y x hy hx=>?_⟩
   rw[h_]at hx
   obtain⟨x0,hx0,rfl⟩:=f_.1 hx
   exact Ep (λp hp=>h5 p (t_.2 ⟨x0,p_ hx0,hp⟩)) (e3 q y x0 hy hx0)
  |gone=>cases l<;>trivial
  |free=>cases l<;>exact hr
  |vec e sz xs=>cases l<;>exact hr
  |map k e kvs=>cases l<;>exact hr
  |tree e sz k xs hole=>
   cases l<;>try exact hr
   case nil=>exact⟨hr.1,by have:=hr.2;subst this;rfl⟩
   case hdr=>exact pT (λu i j b hb hr=>Ep (λp hp=>h5 p (by rw[hb];exact hp)) hr) (λ_ h=>h) hr
 ·obtain⟨i',h1,h2⟩:=back i l hi
  exact hI.onew i' l g h2 hg
 ·obtain⟨x,h1,h2,rfl⟩:=hfr k y hk
  exact Uw h2 (hI.fr k x h1)
 ·have h1:=hI.fix k l hk hf
  have hk2:k<m:=Nat.lt_of_lt_of_le (i_.1 hk).1 hcm
  rw[h_,hm k hk2]
  simp[ac_,h1]
def Adj.wfB(m:Nat):Adj->Bool
 | .sel ids _=>(O_ m).all λk=>match ids[k]? with
  |some i=>m_ i k
  |none=>false
 |_=>true
def EL(m:Nat)(l:List Adj):Bool:=l.all (Adj.wfB m)
theorem Keeps.of_map{A:List Nat}{s s':S}(g:V->V)(hg:∀v,v.isD=true->g v=v)(hfr:∀k,lk s'.fr k=(lk s.fr k).map g\/lk s'.fr k=none):Keeps A s s':=λk _=>by
 rcases hfr k with h|h
 ·rw[h]
  exact⟨λv hv hd=>.inl (by rw[hv];simp[hg v hd]),λhn=>by rw[hn];rfl⟩
 ·rw[h];exact⟨λ_ _ _=>.inr rfl,λ_=>rfl⟩
theorem PI{id:Nat}{t:Ty}{xs:List t.den}{v:V}(h:v.isD=true):mG (Sg id t xs) v=v:=by cases v<;>first|rfl|cases h
theorem Vm{ρ:Nat->Nat}{v:V}(h:v.isD=true):mG (V.ren ρ) v=v:=by cases v<;>first|rfl|cases h
theorem AO{α β:Type}{f:α->Option β}:∀{l:List α} {m:List β},l.mapM f=some m->m.length=l.length/\∀(i:Nat) (y:β),m[i]? =some y->∃x,l[i]? =some x/\f x=some y
 |[],m,h=>by simp at h;subst h;exact⟨rfl,λi y h=>by simp at h⟩
 |x::l,m,h=>by
  simp only[E_,H_,aa_,u_,k_]at h
  obtain⟨z,h1,m',h2,rfl⟩:=h
  obtain⟨h3,h4⟩:=AO h2
  refine⟨by simp[h3],λi y hy=>?_⟩
  cases i with
  |zero=>simp at hy;subst hy;exact⟨x,rfl,h1⟩
  |succ i=>simpa using h4 i y (by simpa using hy)
theorem N8{s:S}:∀{ks:List Nat} {fr:List (Nat×V)},ks.mapM (λk=>(lk s.fr k).map λv=>(k,v))=some fr->∀k,lk fr k=lk s.fr k\/lk fr k=none
 |[],fr,h,k=>by simp at h;subst h;exact .inr rfl
 |j::ks,fr,h,k=>by
  simp only[E_,H_,aa_,u_,k_,f_]at h
  obtain⟨x,⟨v,hv,rfl⟩,m',h2,rfl⟩:=h
  simp only[lk,fS]
  by_cases hk:k=j
  ·subst hk
   rw[decide_eq_true rfl]
   exact .inl hv.symm
  ·rw[decide_eq_false hk]
   exact N8 h2 k
theorem LP{m:Nat}{id k j:Nat}{u:Ty}{s s':S}(h:adj (.focus id k j u) s=some s'):Weak m (enc s) (enc s')/\∀A,Keeps A s s':=by
 simp only[adj]at h
 split at h
 ·rename_i kk n e k0 t xs hk ho
  split at h
  ·rename_i e' sz' k' hat
   obtain⟨h1,h2⟩:=aO h
   simp only[a_,decide_eq_true_eq]at h1
   obtain⟨x,hx,h3⟩:=cA h2
   split at h3
   ·rename_i L hL
    cases h3
    have hsz:=b_ h1.1
    obtain⟨p1,p2⟩:=qx t j (.list u) x L hL
    have hj:j<(aC t x).length:=by rw[aD];simp only[Ty.sz]at p1;omega
    have hy:(aG t x).cells[j]? =some (aG (.list u) L):=by
     have:((aC t x).drop j).take 1=[aG (.list u) L]:=by
      have:=p2;rw[dU (t:=.list u) L rfl]at this;exact this
     have h5:(((aC t x).drop j).take 1)[0]? =some (aG (.list u) L):=by rw[this];rfl
     rw[List.getElem?_take,if_pos (by omega),am_]at h5
     exact h5
    refine⟨?_,λA=>Keeps.fr rfl⟩
    have hw:=O4 (m:=m) (st:=enc s) (id:=id) (i:=n.toNat) (j:=j) (k:=k0) (q:=(e',sz',k')) (L:=L.map (aG u)) (by rw[bY,ho];rfl) (by rw[h_,hx];rfl) hy hat (by rw[hsz];rfl)
    have hin:lO (e',sz',k') (L.map (aG u))=bU (xn e' k' u L):=by
     unfold lO xn
     cases hf:k'.allF
     ·rw[hsz];rfl
     ·rw[hsz];rfl
    rw[hin]at hw
    have he:enc ⟨s.fr,setAt s.hp id (.tree e k0 t xs (some (n.toNat,j,.sl s.hp.length)))++[xn e' k' u L]⟩=⟨(enc s).fr,(enc s).hp.set id (.tree e t.sz k0 (xs.map (aG t)) (some (n.toNat,j,.sl (enc s).hp.length)))++[bU (xn e' k' u L)]⟩:=by
     simp only[enc,eX,r_,N_,q_,aX_,d_]
     rfl
    rw[he]
    exact hw
   ·cases h3
  ·cases h
 ·cases h
theorem Ml{e:TypeId}{k:Av.K}{u:Ty}{o:Ob}{L:List u.den}(h:El e k u o=some L):bU o=lO (e,u.sz,k) (L.map (aG u)):=by
 unfold El at h
 split at h
 ·rename_i e' t xs
  obtain⟨h1,h2⟩:=aO h
  simp only[a_]at h1
  obtain⟨e2,e3⟩:=bV h2
  have e4:=Ty.list.inj e2
  subst e4
  have e5:L=xs:=e3
  subst e5
  have:=b_ h1.2
  subst this
  simp only[lO,h1.1,if_true]
  rfl
 ·rename_i e' k' t xs
  obtain⟨h1,h2⟩:=aO h
  simp only[a_,y_,decide_eq_true_eq]at h1
  obtain⟨e2,e3⟩:=bV h2
  have e4:=Ty.list.inj e2
  subst e4
  have e5:L=xs:=e3
  subst e5
  have:=b_ h1.1.2
  subst this
  obtain⟨⟨h3,_⟩,rfl⟩:=h1
  simp only[lO,h3,al_,if_false]
  rfl
 ·cases h
theorem Ln{m:Nat}{id:Nat}{s s':S}(h:adj (.close id) s=some s'):Weak m (enc s) (enc s')/\∀A,Keeps A s s':=by
 simp only[adj]at h
 split at h
 ·rename_i e kk t xs i j kid ho
  cases hb:m_ kid id
  ·rw[hb]at h
   simp only[cond_false]at h
   split at h
   ·rename_i e' sz' k' o u hat hkid hel
    split at h
    ·rename_i L hL
     obtain⟨h1,h2⟩:=aO h
     obtain⟨x,hx,h3⟩:=cA h2
     split at h3
     ·rename_i y hy
      cases h3
      have hsz:=b_ h1
      have hne:kid≠id:=λe=>by rw[e,S_]at hb;cases hb
      obtain⟨p1,p2,p3⟩:=g9 t j (.list u) x L y hy
      have hj:j<(aG t x).cells.length:=by
       have:(aG t x).cells.length=t.sz:=aD t x
       rw[this];simp only[Ty.sz]at p1;omega
      refine⟨?_,λA=>Keeps.map A s _ (V.kill1 kid) (λv hv=>by cases v<;>first|rfl|cases hv) rfl⟩
      have hin:=Ml hL
      have hw:=O3 (m:=m) (st:=enc s) (id:=id) (kid:=kid) (i:=i) (j:=j) (k:=kk) (x:=aG t x) (q:=(e',sz',k')) (L:=L.map (aG u)) (by rw[bY,ho];rfl) (by rw[h_,hx];rfl) hj hat (by rw[bY,hkid,hsz,<-hin];rfl) hne
      have hyc:(aG t x).setc j (mF sz' (L.map (aG u)))=aG t y:=by
       have hc1:=zu (x:=aG t x) (y:=mF sz' (L.map (aG u))) hj (Ca _ _)
       have hl:aC (.list u) L=[mF sz' (L.map (aG u))]:=by rw[hsz];exact(J6 u L).1
       have hc2:aC t y=(aC t x).set j (mF sz' (L.map (aG u))):=by
        rw[p2,hl]
        apply aK_
        intro q
        rw[mL _ _ _ (by simp only[I_,aA_];show j+1<=(aG t x).cells.length;omega)]
        by_cases hq:q=j
        ·subst hq
         rw[if_pos (by simp),L_ hj]
         simp
        ·rw[if_neg (by simp;omega),x_ (Ne.symm hq)]
       cases hag:t.ag
       ·have h6:(aG t x).isAgg=false:=by rw[mV];exact hag
        have h7:j=0:=by
         have:(aG t x).cells.length=t.sz:=aD t x
         rw[this,fo hag]at hj;omega
        subst h7
        have h8:(aG t x).setc 0 (mF sz' (L.map (aG u)))=mF sz' (L.map (aG u)):=by
         cases hq:aG t x<;>first|rfl|(rw[hq]at h6;cases h6)
        rw[h8]
        have h9:=hc2
        rw[dU y hag,dU x hag]at h9
        simp at h9
        exact h9.symm
       ·rw[ev x hag,ev y hag]
        show PV.agg ((aC t x).set j _)=PV.agg (aC t y)
        rw[hc2]
      rw[hyc]at hw
      have he:enc ⟨(s.moved kid .gone).fr,setAt (s.moved kid .gone).hp id (.tree e kk t (xs.set i y) none)⟩=⟨(enc s).fr.map λx=>(x.1,x.2.kill kid),(((enc s).hp.map (AObj.kill kid)).set kid .gone).set id (.tree e t.sz kk ((xs.map (aG t)).set i (aG t y)) none)⟩:=by
       rw[gL,BY]
       simp only[St.moved]
       congr 2
       show AObj.tree e t.sz kk _ _=_
       rw[N_];rfl
      rw[he]
      exact hw
     ·cases h3
    ·cases h
   ·cases h
  ·rw[hb]at h;cases h
 ·cases h
theorem QF{m:Nat}{l:Adj}{s s':S}(hw:l.wfB m=true)(h:adj l s=some s'):Weak m (enc s) (enc s')/\∀A,Keeps A s s':=by
 cases l with
 |freeze id=>
  simp only[adj]at h
  split at h
  ·rename_i e t xs ho
   cases h
   refine⟨Dc ho (by rw[Nq,bY,ho];rfl) rfl,λA=>Keeps.map A s _ (Sg id t xs) (λv hv=>PI hv) rfl⟩
  ·rename_i e k t xs ho
   cases h
   refine⟨Dc ho (by rw[Nq,bY,ho];rfl) rfl,λA=>Keeps.map A s _ (Sg id t xs) (λv hv=>PI hv) rfl⟩
  ·cases h
 |focus id k j u=>exact LP h
 |close id=>exact Ln h
 |adopt k e t=>
  simp only[adj]at h
  split at h
  ·rename_i u hk
   cases h
   refine⟨GA (LK e t) hk,λA j _=>?_⟩
   simp only[lk,fS]
   by_cases hj:j=k
   ·subst hj
    rw[decide_eq_true rfl,hk]
    exact⟨λv hv hd=>(by cases hv;cases hd),λhn=>(by cases hn)⟩
   ·rw[decide_eq_false hj]
    exact⟨λ_ h _=>.inl h,λh=>h⟩
  ·cases h
 |adoptC id j e t=>
  simp only[adj]at h
  split at h
  ·rename_i u cs ho
   split at h
   ·rename_i t' hj
    cases h
    exact⟨Db (LK e t) ho hj,λA=>Keeps.fr rfl⟩
   ·cases h
  ·cases h
 |adoptT k e kk t=>
  simp only[adj]at h
  split at h
  ·rename_i u hk
   cases h
   refine⟨GA (Is e kk t) hk,λA j _=>?_⟩
   simp only[lk,fS]
   by_cases hj:j=k
   ·subst hj
    rw[decide_eq_true rfl,hk]
    exact⟨λv hv hd=>(by cases hv;cases hd),λhn=>(by cases hn)⟩
   ·rw[decide_eq_false hj]
    exact⟨λ_ h _=>.inl h,λh=>h⟩
  ·cases h
 |adoptCT id j e kk t=>
  simp only[adj]at h
  split at h
  ·rename_i u cs ho
   split at h
   ·rename_i t' hj
    cases h
    exact⟨Db (Is e kk t) ho hj,λA=>Keeps.fr rfl⟩
   ·cases h
  ·cases h
 |sel ids ks=>
  simp only[adj]at h
  split at h
  ·rename_i os fr hos hfr
   obtain⟨h1,h2⟩:=aO h
   cases h2
   simp only[a_,decide_eq_true_eq,j_]at h1
   obtain⟨⟨hnd,hoi⟩,hfi⟩:=h1
   simp only[Adj.wfB,j_,J_]at hw
   obtain⟨q1,q2⟩:=AO hos
   refine⟨Nb ids hnd (λk hk=>?_) (λk y hk=>?_) (by simp[enc,q1]) λj o' hj=>?_,λA=>Keeps.of_map (mG (V.ren (J2 ids))) (λv hv=>Vm hv) λk=>?_⟩
   ·have:=hw k hk
    split at this
    ·rename_i i hi
     rw[hi,b_ this]
    ·cases this
   ·have hk':Av.look ((fr.map λx=>(x.1,mG (V.ren (J2 ids)) x.2)).map λx=>(x.1,aT x.2)) k=some y:=hk
    rw[pH,FK]at hk'
    obtain⟨v1,e1,rfl⟩:=f_.1 hk'
    obtain⟨v2,e2,rfl⟩:=f_.1 e1
    refine⟨aT v2,?_,λi hi=>?_,Fl _ v2⟩
    ·show Av.look (s.fr.map λx=>(x.1,aT x.2)) k=_
     rw[pH]
     rcases N8 hfr k with e3|e3
     ·rw[<-e3,e2];rfl
     ·rw[e3]at e2;cases e2
    ·rw[<-qg]at hi
     exact allIn_mem.1 (hfi _ (FL e2)) i hi
   ·have hj':((os.map (wy (V.ren (J2 ids)))).map bU)[j]? =some o':=hj
    simp only[h_,f_]at hj'
    obtain⟨_,⟨o,ho,rfl⟩,rfl⟩:=hj'
    obtain⟨i,e1,e2⟩:=q2 j o ho
    refine⟨i,bU o,e1,by rw[bY,e2];rfl,λp hp=>?_,Ax _ o⟩
    rw[<-Fq]at hp
    exact allIn_mem.1 (hoi o (p_ ho)) p hp
   ·show lk (fr.map λx=>(x.1,mG (V.ren (J2 ids)) x.2)) k=_\/lk (fr.map λx=>(x.1,mG (V.ren (J2 ids)) x.2)) k=none
    rw[FK]
    rcases N8 hfr k with e3|e3
    ·exact .inl (by rw[e3])
    ·exact .inr (by rw[e3];rfl)
  ·cases h
 |drop ks=>
  simp only[adj,k_]at h
  subst h
  have hlk:∀(fr:List (Nat×V)) (k:Nat),lk (fr.filter λx=> !mf ks x.1) k=lk fr k\/lk (fr.filter λx=> !mf ks x.1) k=none:=by
   intro fr k
   induction fr with
   |nil=>exact .inl rfl
   |cons x fr ih=>
    obtain⟨j,v⟩:=x
    simp only[A_]
    cases hin:mf ks j
    ·simp only[aU_,if_true,lk,fS]
     by_cases hk:k=j
     ·subst hk;rw[decide_eq_true rfl];exact .inl rfl
     ·rw[decide_eq_false hk];exact ih
    ·simp only[ag_,al_,if_false,lk,fS]
     by_cases hk:k=j
     ·subst hk
      right
      have:∀(l:List (Nat×V)),lk (l.filter λx=> !mf ks x.1) k=none:=by
       intro l
       induction l with
       |nil=>rfl
       |cons y l ihl=>
        obtain⟨i,u⟩:=y
        simp only[A_]
        cases hi:mf ks i
        ·simp only[aU_,if_true,lk,fS]
         by_cases hki:k=i
         ·subst hki;rw[hin]at hi;cases hi
         ·rw[decide_eq_false hki];exact ihl
        ·simp only[ag_,al_,if_false];exact ihl
      exact this fr
     ·rw[decide_eq_false hk];exact ih
  refine⟨(LeS.frame (fr:=s.fr.map λx=>(x.1,aT x.2)) (fr':=(s.fr.filter λx=> !mf ks x.1).map λx=>(x.1,aT x.2)) λk y hk=>?_).weak,λA=>Keeps.of_map (λv=>v) (λ_ _=>rfl) λk=>?_⟩
  ·rw[pH]at hk⊢
   rcases hlk s.fr k with e|e
   ·rw[<-e];exact hk
   ·rw[e]at hk;cases hk
  ·rcases hlk s.fr k with e|e
   ·exact .inl (by show lk (s.fr.filter _) k=_;rw[e];simp)
   ·exact .inr e
theorem UW{R:Type}{a:Adj}{s:S}{κ:S->Option R}{r:R}(h:SA a s κ=some r):∃s',adj a s=some s'/\κ s'=some r:=by
 cases a with
 |focus id k j u=>
  simp only[SA]at h
  split at h
  ·rename_i kk n e k0 t xs hk ho
   split at h
   ·rename_i e' sz' k' hat
    obtain⟨h1,h2⟩:=aO h
    obtain⟨h3,h4⟩:=bO h2
    obtain⟨x,hx,h5⟩:=cA h4
    split at h5
    ·rename_i L hL
     refine⟨_,?_,h5⟩
     simp only[adj,hk,ho,hat,h1,h3,Bool.and_self,cond_true,hx,K_,hL]
    ·cases h5
   ·cases h
  ·cases h
 |close id=>
  simp only[SA]at h
  split at h
  ·rename_i e kk t xs i j kid ho
   cases hb:m_ kid id
   ·rw[hb]at h
    simp only[cond_false]at h
    split at h
    ·rename_i e' sz' k' o u hat hkid hel
     split at h
     ·rename_i L hL
      obtain⟨h1,h2⟩:=aO h
      obtain⟨x,hx,h3⟩:=cA h2
      split at h3
      ·rename_i y hy
       refine⟨_,?_,h3⟩
       simp only[adj,ho,hb,cond_false,hat,hkid,hel,hL,h1,cond_true,hx,K_,hy]
      ·cases h3
     ·cases h
    ·cases h
   ·rw[hb]at h;cases h
  ·cases h
 |_=>
  simp only[SA]at h
  split at h
  ·rename_i s1 h1;exact⟨s1,h1,h⟩
  ·cases h
theorem zU{R:Type}:∀{l:List Adj} {s:S} {κ:S->Option R} {r:R},yk l s κ=some r->∃s',SB l s=some s'/\κ s'=some r
 |[],s,κ,r,h=>⟨s,rfl,h⟩
 |a::l,s,κ,r,h=>by
  obtain⟨s1,h1,h2⟩:=UW h
  obtain⟨s2,h3,h4⟩:=zU h2
  exact⟨s2,by simp only[SB,h1];exact h3,h4⟩
theorem tJ{m:Nat}:∀{l:List Adj} {s s':S},EL m l=true->SB l s=some s'->Weak m (enc s) (enc s')/\∀A,Keeps A s s'
 |[],s,s',_,h=>by cases h;exact⟨Weak.refl _ _,λA=>Keeps.refl A s⟩
 |a::l,s,s',hw,h=>by
  simp only[EL,X_,a_]at hw
  simp only[SB]at h
  split at h
  ·rename_i s1 h1
   obtain⟨e1,e2⟩:=QF hw.1 h1
   obtain⟨e3,e4⟩:=tJ hw.2 h
   exact⟨e1.trans e3,λA=>(e2 A).trans (e4 A)⟩
  ·cases h
structure Ext(a b:St):Prop where
 hp:a.hp=b.hp
 fr:∀k y,Av.look b.fr k=some y->Av.look a.fr k=some y
theorem Ext.refl(a:St):Ext a a:=⟨rfl,λ_ _ h=>h⟩
theorem Ext.weak{m:Nat}{a b:St}(h:Ext a b):Weak m a b:=by
 obtain⟨af,ah⟩:=a
 obtain⟨bf,bh⟩:=b
 obtain⟨h1,h2⟩:=h
 cases h1
 exact(LeS.frame h2).weak
theorem Ext.put{a b:St}(h:Ext a b)(d:Option Nat)(x:AV):Ext (a.putO d x) (b.putO d x):=by
 refine⟨by cases d<;>exact h.hp,λk y hk=>?_⟩
 rw[fq]at hk⊢
 by_cases hd:d=some k
 ·rw[if_pos hd]at hk⊢;exact hk
 ·rw[if_neg hd]at hk⊢;exact h.fr k y hk
theorem Ext.get{a b:St}(h:Ext a b){x:SX}{y:AV}(hx:b.get x=some y):a.get x=some y:=by
 cases x<;>simp only[St.get]at hx⊢
 ·exact h.fr _ _ hx
 all_goals exact hx
theorem L6{α β:Type}{f g:α->Option β}(h:∀x y,f x=some y->g x=some y):∀{l:List α} {m:List β},l.mapM f=some m->l.mapM g=some m
 |[],m,hm=>hm
 |x::l,m,hm=>by
  simp only[E_,H_,aa_,u_,k_]at hm⊢
  obtain⟨z,h1,m',h2,rfl⟩:=hm
  exact⟨z,h _ _ h1,m',L6 h h2,rfl⟩
theorem Ext.bind{a b:St}(h:Ext a b){x:SX}{K:AV->Prop}(hx:aI (b.get x) K):aI (a.get x) K:=let⟨y,h1,h2⟩:=hx;⟨y,h.get h1,h2⟩
theorem Ext.bnd{a b:St}(h:Ext a b){x:Option SX}{d:Nat}{K:Nat->Prop}(hx:bnd b x d K):bnd a x d K:=by
 cases x with
 |none=>exact hx
 |some x=>exact h.bind hx
theorem Ext.bindM{a b:St}{α β:Type}{f:St->α->Option β}(hf:∀x y,f b x=some y->f a x=some y){l:List α}{K:List β->Prop}(hx:aI (l.mapM (f b)) K):aI (l.mapM (f a)) K:=let⟨y,h1,h2⟩:=hx;⟨y,L6 hf h1,h2⟩
theorem Qq{P:Program}{a b:St}(h:Ext a b){op:SOp}{K:AV->Prop}(hs:jp P b op K):jp P a op K:=by
 have hh:=h.hp
 have getB:∀{β:Type} (g:AV->Option β) (x:SX) (y:β),(b.get x).bind g=some y->(a.get x).bind g=some y:=λg x y hx=>by
  obtain⟨u,h1,h2⟩:=u_.1 hx
  rw[h.get h1];exact h2
 cases op<;>simp only[jp]at hs⊢<;>try rw[hh]
 case mv=>exact h.bind hs
 case pick=>exact aj (h.bind hs) λ_ h1=>bA h1 λ_ h2=>nK h2 λ_ h3=>⟨λe=>h.bind (h3.1 e),λe=>h.bind (h3.2 e)⟩
 case bin=>exact aj (h.bind hs) λ_ h1=>h.bind h1
 case eqB=>exact aj (h.bind hs) λ_ h1=>h.bind h1
 case un=>exact h.bind hs
 case len=>exact h.bind hs
 case lenM=>exact h.bind hs
 case idxS=>exact aj (h.bind hs) λ_ h1=>h.bind h1
 case idxV=>exact aj (h.bind hs) λ_ h1=>h.bind h1
 case idxA=>exact aj (h.bind hs) λ_ h1=>h.bind h1
 case idxP=>exact aj (h.bind hs) λ_ h1=>h.bind h1
 case fldA=>exact h.bind hs
 case fld=>exact h.bind hs
 case load=>exact h.bind hs
 case cvtI=>exact h.bind hs
 case slc=>
  exact aj (h.bind hs) λ_ h1=>aj h1 λ_ ⟨L,h2,h3⟩=>⟨L,h2,nx (h.bnd h3) λ_ h4=>nx (h.bnd h4) λ_ h5=>h.bnd h5⟩
 case slcS=>exact aj (h.bind hs) λ_ h1=>bA h1 λ_ h1=>qq h1 λ_ h1=>nx (h.bnd h1) λ_ h1=>h.bnd h1
 case ext=>exact h.bind hs
 case nilc=>exact h.bind hs
 case build=>exact Ext.bindM (f:=λst (q:Nat×Nat×SX)=>(st.get q.2.2).map λa=>(q.1,q.2.1,a)) (λq y hq=>by
  obtain⟨u,h1,h2⟩:=f_.1 hq
  rw[h.get h1,<-h2];rfl) hs
 case call=>exact Ext.bindM (f:=λst x=>(St.get st x).bind (nv b.hp _)) (λq y hq=>getB _ q y hq) hs
 case callp=>exact aj (h.bind hs) λ_ ⟨f,cs,h1,h2,h3⟩=>⟨f,cs,h1,h2,Ext.bindM (f:=λst x=>(St.get st x).bind (nv b.hp _)) (λq y hq=>getB _ q y hq) h3⟩
 case boxD=>exact h.bind hs
 case b2s=>exact h.bind hs
 case bslice own e sz len ps=>
  cases own
  ·exact Ext.bindM (f:=λst x=>(St.get st x).bind AV.toPV) (λq y hq=>getB _ q y hq) hs
  ·exact hs
 case bsliceN=>exact Ext.bindM (f:=λst x=>(St.get st x).bind AV.toPVn) (λq y hq=>getB _ q y hq) hs
 case mkfn=>exact Ext.bindM (f:=λst x=>St.get st x) (λq y hq=>h.get hq) hs
 case lookup=>exact aj (h.bind hs) λ_ h1=>h.bind h1
 case eqT=>exact aj (h.bind hs) λ_ h1=>h.bind h1
 case appD=>exact aj (h.bind hs) λ_ h1=>h.bind h1
 case mnmx=>exact aj (h.bind hs) λ_ h1=>bA h1 λ_ h1=>bW h1 λ_ _ h1=>Ext.bindM (f:=λst x=>St.get st x) (λq y hq=>h.get hq) h1
 case iface=>exact h.bind hs
inductive Sys(P:Program):List SOper->St->St->Prop
 |nil (st:St):Sys P [] st st
 |cons (o:SOper) (l:List SOper) (st st':St) (x:AV) (h:fO P o st x) (k:Sys P l (st.putO o.dst x) st'):Sys P (o::l) st st'
theorem Sys.app{P:Program}{l l':List SOper}{a b c:St}(h:Sys P l a b)(k:Sys P l' b c):Sys P (l++l') a c:=by
 induction h with
 |nil=>exact k
 |cons o l st st' x h _ ih=>exact .cons o _ st c x h (ih k)
theorem Sys.sops{P:Program}{m:Nat}{l L:List SOper}{a b:St}{K KP:St->Prop}(h:Sys P l a b)(k:sops P m L b K KP):sops P m (l++L) a K KP:=by
 induction h with
 |nil=>exact k
 |cons o l st st' x h _ ih=>exact W.mk (oD h (ih k))
theorem Sys.sdraw{P:Program}{m n:Nat}{l L:List SOper}{a b:St}{K KP:St->Prop}(h:Sys P l a b)(k:sdraw P m n L b K KP):sdraw P m (l.length+n) (l++L) a K KP:=by
 induction h with
 |nil=>rw[aA_,T_];exact k
 |cons o l st st' x h _ ih=>
  rw[show(o::l).length+n=(l.length+n)+1 by simp only[I_];omega]
  exact⟨x,h,ih k⟩
theorem jb{P:Program}{m:Nat}{l:List SOper}{a b:St}{K KP:St->Prop}(h:Weak m a b)(k:sops P m l b K KP):sops P m l a K KP:=by
 cases l with
 |nil=>exact W.from h k
 |cons o l=>exact W.from h k
def RC.offB:List Nat->RC->Bool
 |_,.nil=>true
 |A,.op d _ rest=>rest.offB (fV d++A)
 |_,.adj _ _=>false
 |A,.gb t _ blk ty _ _ dst rest=>mf A t&& !mf blk.asg t&&ty.sc&&blk.offB A&&rest.offB (dst::(blk.asg++A))
def RC.gbB:RC->Bool
 | .nil=>true
 | .op _ _ rest=>rest.gbB
 | .adj _ rest=>rest.gbB
 | .gb _ _ blk ty _ _ _ rest=>ty.sc&&blk.offB []&&blk.gbB&&rest.gbB
def Off(st:St)(g:Nat×Bool):Prop:=∃v,Av.look st.fr g.1=some (.v v)/\yv v≠some g.2
theorem Gr{P:Program}{st:St}{g:Nat×Bool}(h:Off st g)(d:Option Nat)(op:SOp):fO P ⟨d,op,some g⟩ st (.v undef):=by
 obtain⟨v,h1,h2⟩:=h
 exact⟨_,h1,v,rfl,λe=>absurd e h2,λ_=>rfl⟩
theorem tN(d:Option Nat):(match d with|some d=>[d]|none=>[])=fV d:=by cases d<;>rfl
theorem Ek{P:Program}:∀(rc:RC) (g:Nat×Bool) (A:List Nat) (st:St),rc.offB A=true->Off st g->(∀k∈A,Av.look st.fr k=some (.v undef))->g.1∉rc.asg->
 ∃st',Sys P (rc.er (some g)) st st'/\st'.hp=st.hp/\(∀k,k∉rc.asg->Av.look st'.fr k=Av.look st.fr k)/\∀k,(k∈rc.asg\/k∈A)->Av.look st'.fr k=some (.v undef)
 | .nil,g,A,st,_,_,hA,_=>⟨st,.nil st,rfl,λ_ _=>rfl,λk hk=>hA k (hk.resolve_left (by simp[RC.asg]))⟩
 | .op d o rest,g,A,st,hw,hg,hA,hd=>by
  simp only[RC.offB]at hw
  simp only[RC.asg,tN,c_,not_or]at hd
  have hlk:∀k,Av.look (st.putO d (.v undef)).fr k=if d=some k then some (.v undef)else Av.look st.fr k:=λk=>fq st d _ k
  have hmem:∀k,d=some k↔k∈fV d:=λk=>by
   cases d with
   |none=>simp[fV]
   |some j=>simp only[fV,k_,o_];exact eq_comm
  obtain⟨st',h1,h2,h3,h4⟩:=Ek rest g (fV d++A) (st.putO d (.v undef)) hw (by
   obtain⟨v,e1,e2⟩:=hg
   refine⟨v,?_,e2⟩
   rw[hlk,if_neg λe=>hd.1 ((hmem _).1 e)];exact e1) (λk hk=>by
   rw[hlk]
   by_cases hdk:d=some k
   ·rw[if_pos hdk]
   ·rw[if_neg hdk]
    exact hA k ((c_.1 hk).resolve_left λe=>hdk ((hmem k).2 e))) hd.2
  refine⟨st',.cons _ _ st st' (.v undef) (Gr hg d o.er) h1,by rw[h2];cases d<;>rfl,λk hk=>?_,λk hk=>?_⟩
  ·simp only[RC.asg,tN,c_,not_or]at hk
   rw[h3 k hk.2,hlk,if_neg λe=>hk.1 ((hmem _).1 e)]
  ·simp only[RC.asg,tN,c_]at hk
   refine h4 k ?_
   simp only[c_]
   rcases hk with(hk|hk)|hk
   ·exact .inr (.inl hk)
   ·exact .inl hk
   ·exact .inr (.inr hk)
 | .adj _ _,_,_,_,hw,_,_,_=>by cases hw
 | .gb t want blk ty r alt dst rest,g,A,st,hw,hg,hA,hd=>by
  simp only[RC.offB,a_,y_]at hw
  obtain⟨⟨⟨⟨w1,w2⟩,w3⟩,w4⟩,w5⟩:=hw
  have ht:t∈A:=inL_mem.1 w1
  have ht2:t∉blk.asg:=λe=>by rw[inL_mem.2 e]at w2;cases w2
  simp only[RC.asg,c_,v_,not_or]at hd
  obtain⟨st1,h1,h2,h3,h4⟩:=Ek blk (t,want) A st w4 ⟨undef,hA t ht,by intro e;cases e⟩ hA ht2
  have hg1:Off st1 g:=by
   obtain⟨v,e1,e2⟩:=hg
   exact⟨v,by rw[h3 _ hd.1];exact e1,e2⟩
  have hlk:∀k,Av.look (st1.putO (some dst) (.v undef)).fr k=if some dst=some k then some (.v undef)else Av.look st1.fr k:=λk=>fq st1 (some dst) _ k
  obtain⟨st',k1,k2,k3,k4⟩:=Ek rest g (dst::(blk.asg++A)) (st1.putO (some dst) (.v undef)) w5 (by
   obtain⟨v,e1,e2⟩:=hg1
   refine⟨v,?_,e2⟩
   rw[hlk,if_neg λe=>hd.2.1 (w_ e).symm];exact e1) (λk hk=>by
   rw[hlk]
   by_cases hdk:some dst=some k
   ·rw[if_pos hdk]
   ·rw[if_neg hdk]
    refine h4 k ?_
    rcases v_.1 hk with rfl|hk
    ·exact absurd rfl hdk
    ·exact(c_.1 hk)) hd.2.2
  refine⟨st',h1.app (.cons _ _ _ st' (.v undef) (Gr hg1 _ _) k1),by rw[k2];exact h2,λk hk=>?_,λk hk=>?_⟩
  ·simp only[RC.asg,c_,v_,not_or]at hk
   rw[k3 k hk.2.2,hlk,if_neg λe=>hk.2.1 (w_ e).symm,h3 k hk.1]
  ·simp only[RC.asg,c_,v_]at hk
   refine k4 k ?_
   simp only[c_,v_]
   rcases hk with(hk|rfl|hk)|hk
   ·exact .inr (.inr (.inl hk))
   ·exact .inr (.inl rfl)
   ·exact .inl hk
   ·exact .inr (.inr (.inr hk))
theorem Pt{t:Ty}{v:V}{x:t.den}(ht:t.sc=true)(h:dD t v=some x):v= .d t x:=by
 cases v with
 |d u y=>obtain⟨rfl,rfl⟩:=bV (show cf u t y=some x from h);rfl
 |nil u=>obtain⟨rfl,_⟩:=bV (show cf (.list u) t []=some x from h);cases ht
 |full u y=>obtain⟨rfl,_⟩:=bV (show cf (.list u) t y=some x from h);cases ht
 |agg vs=>unfold dD at h;cases t<;>first|(cases ht;done)|cases h
 |_=>simp[dD,iP]at h
section
variable {P:Program} {O:ak}
def XY(g:Option (Nat×Bool))(s:S)(A:List Nat):Prop:=match g with
 |none=>True
 |some (t,want)=>lk s.fr t=some (.d .bool want)/\t∉A
theorem ct(s:S)(k:Nat):Av.look (enc s).fr k=(lk s.fr k).map aT:=pH s.fr k
theorem R3{g:Option (Nat×Bool)}{s:S}{A:List Nat}{st:St}(hg:XY g s A)(he:Ext st (enc s)){d:Option Nat}{op:SOp}{x:AV}(h:jp P st op λy=>y=x):fO P ⟨d,op,g⟩ st x:=by
 cases g with
 |none=>exact h
 |some g=>
  obtain⟨t,want⟩:=g
  have:Av.look st.fr t=some (.v (.bool want)):=he.fr t _ (by rw[ct,hg.1];rfl)
  exact⟨_,this,_,rfl,λ_=>h,λe=>absurd rfl e⟩
theorem zh(s:S)(d:Option Nat)(v:V)(k:Nat):lk (s.putO d v).fr k=if d=some k then some v else lk s.fr k:=by
 cases d with
 |none=>simp[S.putO]
 |some j=>
  show(bif m_ k j then some v else lk s.fr k)=_
  rw[fS]
  by_cases h:k=j
  ·subst h;simp
  ·rw[decide_eq_false h,if_neg λe=>h (w_ e).symm];rfl
theorem mem_dstL{d:Option Nat}{k:Nat}:d=some k↔k∈fV d:=by
 cases d with
 |none=>simp[fV]
 |some j=>simp only[fV,k_,o_];exact eq_comm
theorem J9(hO:OracleOk P O):∀(rc:RC) (R:Type) (s:S) (κ kp:S->Option R) (r:R) (g:Option (Nat×Bool)) (st:St),rc.wf P=true->rc.pureB=true->rc.gbB=true->Ee O R rc s κ kp=some r->Ext st (enc s)->XY g s rc.asg->
 ∃s' st',Sys P (rc.er g) st st'/\Ext st' (enc s')/\κ s'=some r/\s'.hp=s.hp/\∀k,k∉rc.asg->lk s'.fr k=lk s.fr k
 | .nil,R,s,κ,kp,r,g,st,_,_,_,h,he,_=>⟨s,st,.nil st,he,h,rfl,λ_ _=>rfl⟩
 | .adj _ _,_,_,_,_,_,_,_,_,hp,_,_,_,_=>by cases hp
 | .op d o rest,R,s,κ,kp,r,g,st,hw,hp,hb,h,he,hg=>by
  simp only[RC.wf,a_]at hw
  simp only[RC.pureB,a_]at hp
  simp only[RC.gbB]at hb
  obtain⟨v,h1,h2⟩:=s4 hO hw.1 hp.1 h
  obtain⟨s',st',k1,k2,k3,k4,k5⟩:=J9 hO rest R (s.putO d v) κ kp r g (st.putO d (aT v)) hw.2 hp.2 hb h2 (by rw[gB];exact he.put d _) (by
   cases g with
   |none=>trivial
   |some g=>
    obtain⟨t,want⟩:=g
    obtain⟨g1,g2⟩:=hg
    simp only[RC.asg,tN,c_,not_or]at g2
    exact⟨by rw[zh,if_neg λe=>g2.1 (mem_dstL.1 e)];exact g1,g2.2⟩)
  refine⟨s',st',.cons _ _ st st' _ (R3 hg he (Qq he h1)) k1,k2,k3,by rw[k4];cases d<;>rfl,λk hk=>?_⟩
  simp only[RC.asg,tN,c_,not_or]at hk
  rw[k5 k hk.2,zh,if_neg λe=>hk.1 (mem_dstL.1 e)]
 | .gb t want blk ty rr alt dst rest,R,s,κ,kp,r,g,st,hw,hp,hb,h,he,hg=>by
  simp only[RC.wf,a_]at hw
  obtain⟨⟨⟨⟨w1,w2⟩,w3⟩,w4⟩,w5⟩:=hw
  simp only[RC.pureB,a_]at hp
  simp only[RC.gbB,a_]at hb
  obtain⟨⟨⟨b1,b2⟩,b3⟩,b4⟩:=hb
  simp only[Ee]at h
  split at h
  ·rename_i b va hlt halt
   split at h
   ·rename_i av hav
    obtain⟨hnone,hav⟩:=aO hav
    have hva:=Pt b1 hav
    subst hva
    simp only[j_,U_]at hnone
    have ht:t∉blk.asg:=λe=>by rw[hnone t e]at hlt;cases hlt
    obtain⟨c,hc,h2⟩:=cA h
    have hgt:Av.look st.fr t=some (.v (.bool b)):=he.fr t _ (by rw[ct,hlt];rfl)
    have blkS:∃st1,Sys P (blk.er (some (t,want))) st st1/\st1.hp=st.hp/\(∀k,lk s.fr k≠none->∀y,Av.look (enc s).fr k=some y->Av.look st1.fr k=some y)/\
     jp P st1 (FW t want rr.er alt.er) λy=>y=aT (.d ty c):=by
     have pickS:∀(st1:St) (x y:SX),Av.look st1.fr t=some (.v (.bool b))->(b=true->st1.get x=some (aT (.d ty c)))->(b=false->st1.get y=some (aT (.d ty c)))->jp P st1 (.pick (.tm t) x y) λy=>y=aT (.d ty c):=
      λst1 x y e1 e2 e3=>⟨_,e1,_,rfl,b,rfl,λe=>⟨_,e2 e,rfl⟩,λe=>⟨_,e3 e,rfl⟩⟩
     have on:b=want->Ee O ty.den blk s (λs'=>match s'.get rr with|some v=>dD ty v|none=>none) (λ_=>none)=some c->(∃st1,Sys P (blk.er (some (t,want))) st st1/\st1.hp=st.hp/\(∀k,lk s.fr k≠none->∀y,Av.look (enc s).fr k=some y->Av.look st1.fr k=some y)/\
      jp P st1 (FW t want rr.er alt.er) λy=>y=aT (.d ty c)):=λhbw hev=>by
      obtain⟨s1,st1,k1,k2,k3,k4,k5⟩:=J9 hO blk ty.den s _ _ c (some (t,want)) st w1 w2 b3 hev he ⟨by rw[<-hbw];exact hlt,ht⟩
      split at k3
      ·rename_i v hv
       have:=Pt b1 k3
       subst this
       have e1:Av.look st1.fr t=some (.v (.bool b)):=k2.fr t _ (by rw[ct,k5 t ht,hlt];rfl)
       have e2:st1.get rr.er=some (aT (.d ty c)):=k2.get (aA w3 hv)
       refine⟨st1,k1,by rw[k2.hp,he.hp];simp only[enc,k4],λk hk y hy=>k2.fr k y ?_,?_⟩
       ·rw[ct,k5 k λe=>hk (hnone k e),<-ct];exact hy
       ·cases want with
        |true=>exact pickS st1 _ _ e1 (λ_=>e2) λe=>by rw[hbw]at e;cases e
        |false=>exact pickS st1 _ _ e1 (λe=>by rw[hbw]at e;cases e) λ_=>e2
      ·cases k3
     have off:b≠want->av=c->(∃st1,Sys P (blk.er (some (t,want))) st st1/\st1.hp=st.hp/\(∀k,lk s.fr k≠none->∀y,Av.look (enc s).fr k=some y->Av.look st1.fr k=some y)/\
      jp P st1 (FW t want rr.er alt.er) λy=>y=aT (.d ty c)):=λhbw hac=>by
      subst hac
      obtain⟨st1,k1,k2,k3,_⟩:=Ek (P:=P) blk (t,want) [] st b2 ⟨_,hgt,λe=>hbw (w_ e)⟩ (λk hk=>by cases hk) ht
      have e1:Av.look st1.fr t=some (.v (.bool b)):=by rw[k3 t ht];exact hgt
      have keepk:∀k,lk s.fr k≠none->∀y,Av.look (enc s).fr k=some y->Av.look st1.fr k=some y:=λk hk y hy=>by
       rw[k3 k λe=>hk (hnone k e)];exact he.fr k y hy
      have e2:st1.get alt.er=some (aT (.d ty av)):=by
       have:=aA w4 halt
       cases alt with
       |tm k=>
        have h0:lk s.fr k=some (.d ty av):=halt
        exact keepk k (by rw[h0];simp) _ this
       |_=>exact this
      refine⟨st1,k1,k2,keepk,?_⟩
      cases want with
      |true=>exact pickS st1 _ _ e1 (λe=>absurd e hbw) λ_=>e2
      |false=>exact pickS st1 _ _ e1 (λ_=>e2) λe=>absurd e hbw
     cases want with
     |true=>
      cases b with
      |true=>exact on rfl hc
      |false=>exact off (by simp) (w_ hc)
     |false=>
      cases b with
      |true=>exact off (by simp) (w_ hc)
      |false=>exact on rfl hc
    obtain⟨st1,q1,q2,q3,q4⟩:=blkS
    have hgdst:∀t' want',g=some (t',want')->lk s.fr t'=some (.d .bool want')/\t'∉blk.asg/\t'≠dst/\t'∉rest.asg:=λt' want' e=>by
     subst e
     obtain⟨g1,g2⟩:=hg
     simp only[RC.asg,c_,v_,not_or]at g2
     exact⟨g1,g2.1,g2.2.1,g2.2.2⟩
    have hyd:fO P ⟨some dst,(FW t want rr.er alt.er),g⟩ st1 (aT (.d ty c)):=by
     cases g with
     |none=>exact q4
     |some g=>
      obtain⟨t',want'⟩:=g
      obtain⟨e1,_⟩:=hgdst t' want' rfl
      have:Av.look st1.fr t'=some (.v (.bool want')):=q3 t' (by rw[e1];simp) _ (by rw[ct,e1];rfl)
      exact⟨_,this,_,rfl,λ_=>q4,λe=>absurd rfl e⟩
    have hext:Ext (st1.putO (some dst) (aT (.d ty c))) (enc (s.put dst (.d ty c))):=by
     refine⟨by show st1.hp=(enc s).hp;rw[q2,he.hp],λk y hk=>?_⟩
     rw[fq]
     rw[ct]at hk
     have e:=zh s (some dst) (.d ty c) k
     rw[show s.putO (some dst) (.d ty c)=s.put dst (.d ty c)from rfl]at e
     rw[e]at hk
     by_cases hd:some dst=some k
     ·rw[if_pos hd]at hk⊢;exact hk
     ·rw[if_neg hd]at hk⊢
      refine q3 k (λe0=>by rw[e0]at hk;cases hk) y ?_
      rw[ct];exact hk
    have hlkp:∀k,lk (s.put dst (.d ty c)).fr k=if some dst=some k then some (.d ty c)else lk s.fr k:=λk=>zh s (some dst) (.d ty c) k
    obtain⟨s',st',k1,k2,k3,k4,k5⟩:=J9 hO rest R (s.put dst (.d ty c)) κ kp r g _ w5 hp.2 b4 h2 hext (by
     cases g with
     |none=>trivial
     |some g=>
      obtain⟨t',want'⟩:=g
      obtain⟨e1,e2,e3,e4⟩:=hgdst t' want' rfl
      exact⟨by rw[hlkp,if_neg λe=>e3 (w_ e).symm];exact e1,e4⟩)
    refine⟨s',st',q1.app (.cons _ _ _ st' _ hyd k1),k2,k3,k4,λk hk=>?_⟩
    simp only[RC.asg,c_,v_,not_or]at hk
    rw[k5 k hk.2.2,hlkp,if_neg λe=>hk.2.1 (w_ e).symm]
   ·cases h
  ·cases h
def RC.adjW(m:Nat):RC->Bool
 | .nil=>true
 | .op _ _ rest=>rest.adjW m
 | .adj l rest=>EL m l&&rest.adjW m
 | .gb _ _ _ _ _ _ _ rest=>rest.adjW m
theorem J5{A:List Nat}{s s':S}(h:∀k,k∉A->lk s'.fr k=lk s.fr k):Keeps A s s':=λk hk=>by
 rw[h k hk];exact⟨λ_ h _=>.inl h,λh=>h⟩
theorem JU:∀(rc:RC) (g g':Option (Nat×Bool)),(rc.er g).length=(rc.er g').length
 | .nil,_,_=>rfl
 | .op d o rest,g,g'=>by simp only[RC.er,I_,JU rest g g']
 | .adj _ rest,g,g'=>by simp only[RC.er,JU rest g g']
 | .gb t want blk ty r alt dst rest,g,g'=>by simp only[RC.er,ab_,I_,JU rest g g']
theorem Tc(hO:OracleOk P O){t:Nat}{want:Bool}{blk rest:RC}{ty:Ty}{rr alt:X}{dst:Nat}{R:Type}{s:S}{κ kp:S->Option R}{r:R}{st:St}(hw:(RC.gb t want blk ty rr alt dst rest).wf P=true)(hb:(RC.gb t want blk ty rr alt dst rest).gbB=true)
 (h:Ee O R (.gb t want blk ty rr alt dst rest) s κ kp=some r) (he:Ext st (enc s)):∃s' st',Sys P (blk.er (some (t,want))++[⟨some dst,(FW t want rr.er alt.er),none⟩]) st st'/\
  Ext st' (enc s')/\Ee O R rest s' κ kp=some r/\Keeps (blk.asg++[dst]) s s':=by
 simp only[RC.wf,a_]at hw
 simp only[RC.gbB,a_]at hb
 obtain⟨s',st',k1,k2,k3,k4,k5⟩:=J9 hO (.gb t want blk ty rr alt dst .nil) R s (λs'=>Ee O R rest s' κ kp) kp r none st
  (by simp only[RC.wf,hw.1.1.1.1,hw.1.1.1.2,hw.1.1.2,hw.1.2];rfl) (by simp only[RC.pureB,hw.1.1.1.2];rfl) (by simp only[RC.gbB,hb.1.1.1,hb.1.1.2,hb.1.2];rfl) h he trivial
 exact⟨s',st',k1,k2,k3,J5 k5⟩
theorem iZ(hO:OracleOk P O){m:Nat}:∀(rc:RC) (R:Type) (s:S) (κ kp:S->Option R) (r:R) (K KP:St->Prop),rc.wf P=true->rc.gbB=true->rc.adjW m=true->Ee O R rc s κ kp=some r->
 (∀s',Keeps rc.asg s s'->κ s'=some r->W m K (enc s'))->(∀s',Keeps rc.asg s s'->kp s'=some r->KP (enc s'))->sops P m (rc.er none) (enc s) K KP
 | .nil,R,s,κ,kp,r,K,KP,_,_,_,h,hκ,_=>hκ s (Keeps.refl _ _) h
 | .adj l rest,R,s,κ,kp,r,K,KP,hw,hb,ha,h,hκ,hkp=>by
  simp only[Ee]at h
  simp only[RC.adjW,a_]at ha
  obtain⟨s1,hs1,h⟩:=zU h
  ·obtain⟨e1,e2⟩:=tJ ha.1 hs1
   exact jb e1 (iZ hO rest R s1 κ kp r K KP hw hb ha.2 h (λs' hk hh=>hκ s' ((e2 _).trans hk) hh) λs' hk hh=>hkp s' ((e2 _).trans hk) hh)
 | .op d o rest,R,s,κ,kp,r,K,KP,hw,hb,ha,h,hκ,hkp=>by
  simp only[RC.wf,a_]at hw
  refine W.mk ?_
  simp only[iV]
  have hasg:∀k,k∈fV d\/k∈rest.asg->k∈(RC.op d o rest).asg:=λk hk=>by
   simp only[RC.asg,tN,c_];exact hk
  refine mK (Fu hO hw.1 h) (λst' ⟨s1,h1,h2,h3⟩=>?_) λst' ⟨s1,h1,h2,h3⟩=>?_
  ·have h2':=h2.sub (B:=(RC.op d o rest).asg) λk hk=>hasg k (.inl hk)
   exact jb h1.weak (iZ hO rest R s1 κ kp r K KP hw.2 hb ha h3 (λs' hk hh=>hκ s' (h2'.trans (hk.sub λk hk=>hasg k (.inr hk))) hh) λs' hk hh=>hkp s' (h2'.trans (hk.sub λk hk=>hasg k (.inr hk))) hh)
  ·rw[h1]
   exact hkp s1 (h2.sub λk hk=>hasg k (.inl hk)) h3
 | .gb t want blk ty rr alt dst rest,R,s,κ,kp,r,K,KP,hw,hb,ha,h,hκ,hkp=>by
  obtain⟨s1,st1,k1,k2,k3,k4⟩:=Tc hO hw hb h (Ext.refl _)
  simp only[RC.wf,a_]at hw
  simp only[RC.gbB,a_]at hb
  have hasg:∀k,k∈blk.asg++[dst]\/k∈rest.asg->k∈(RC.gb t want blk ty rr alt dst rest).asg:=λk hk=>by
   simp only[RC.asg,c_,v_,aP_,or_false]at hk⊢
   rcases hk with(hk|hk)|hk
   ·exact .inl hk
   ·exact .inr (.inl hk)
   ·exact .inr (.inr hk)
  have k4':=k4.sub (B:=(RC.gb t want blk ty rr alt dst rest).asg) λk hk=>hasg k (.inl hk)
  have:=k1.sops (L:=rest.er none) (jb k2.weak (iZ hO rest R s1 κ kp r K KP hw.2 hb.2 ha k3 (λs' hk hh=>hκ s' (k4'.trans (hk.sub λk hk=>hasg k (.inr hk))) hh) λs' hk hh=>hkp s' (k4'.trans (hk.sub λk hk=>hasg k (.inr hk))) hh))
  rw[D_]at this
  exact this
def RC.drB:Nat->RC->Bool
 |0,_=>true
 |k+1,.op _ o rest=>o.pureB&&rest.drB k
 |k+1,.gb _ _ blk _ _ _ _ rest=>aq_ (blk.er none).length k&&rest.drB (k - (blk.er none).length)
 |_,_=>false
theorem QV(hO:OracleOk P O){m:Nat}:∀(rc:RC) (k:Nat) (R:Type) (s:S) (κ kp:S->Option R) (r:R) (K KP:St->Prop) (st:St),rc.drB k=true->rc.wf P=true->rc.gbB=true->rc.adjW m=true->Ee O R rc s κ kp=some r->Ext st (enc s)->
 (∀s',Keeps rc.asg s s'->κ s'=some r->W m K (enc s'))->(∀s',Keeps rc.asg s s'->kp s'=some r->KP (enc s'))->sdraw P m k (rc.er none) st K KP:=by
 intro rc
 induction rc with
 |nil=>
  intro k R s κ kp r K KP st hd hw hb ha h he hκ hkp
  cases k with
  |zero=>exact jb he.weak (iZ hO .nil R s κ kp r K KP hw hb ha h hκ hkp)
  |succ k=>cases hd
 |adj l rest _=>
  intro k R s κ kp r K KP st hd hw hb ha h he hκ hkp
  cases k with
  |zero=>
   have:=jb he.weak (iZ hO (.adj l rest) R s κ kp r K KP hw hb ha h hκ hkp)
   generalize RC.er none (RC.adj l rest)=L at this⊢
   cases L<;>exact this
  |succ k=>cases hd
 |op d o rest ih=>
  intro k R s κ kp r K KP st hd hw hb ha h he hκ hkp
  cases k with
  |zero=>exact jb he.weak (iZ hO (.op d o rest) R s κ kp r K KP hw hb ha h hκ hkp)
  |succ k=>
   simp only[RC.drB,a_]at hd
   simp only[RC.wf,a_]at hw
   have hasg:∀k,k∈fV d\/k∈rest.asg->k∈(RC.op d o rest).asg:=λk hk=>by
    simp only[RC.asg,tN,c_];exact hk
   obtain⟨v,h1,h2⟩:=s4 hO hw.1 hd.1 h
   have hk0:=(Keeps.put s d v).sub (B:=(RC.op d o rest).asg) λk hk=>hasg k (.inl hk)
   exact⟨aT v,Qq he h1,ih k R (s.putO d v) κ kp r K KP _ hd.2 hw.2 hb ha h2 (by rw[gB];exact he.put d _) (λs' hk hh=>hκ s' (hk0.trans (hk.sub λk hk=>hasg k (.inr hk))) hh) λs' hk hh=>hkp s' (hk0.trans (hk.sub λk hk=>hasg k (.inr hk))) hh⟩
 |gb t want blk ty rr alt dst rest _ ih=>
  intro k R s κ kp r K KP st hd hw hb ha h he hκ hkp
  cases k with
  |zero=>
   have:=jb he.weak (iZ hO (.gb t want blk ty rr alt dst rest) R s κ kp r K KP hw hb ha h hκ hkp)
   generalize RC.er none (RC.gb t want blk ty rr alt dst rest)=L at this⊢
   cases L<;>exact this
  |succ k=>
   simp only[RC.drB,a_]at hd
   have hle:=g_ hd.1
   obtain⟨s1,st1,k1,k2,k3,k4⟩:=Tc hO hw hb h he
   simp only[RC.wf,a_]at hw
   simp only[RC.gbB,a_]at hb
   have hasg:∀k,k∈blk.asg++[dst]\/k∈rest.asg->k∈(RC.gb t want blk ty rr alt dst rest).asg:=λk hk=>by
    simp only[RC.asg,c_,v_,aP_,or_false]at hk⊢
    rcases hk with(hk|hk)|hk
    ·exact .inl hk
    ·exact .inr (.inl hk)
    ·exact .inr (.inr hk)
   have k4':=k4.sub (B:=(RC.gb t want blk ty rr alt dst rest).asg) λk hk=>hasg k (.inl hk)
   have hl:=JU blk (some (t,want)) none
   have:=k1.sdraw (L:=rest.er none) (n:=k - (blk.er none).length) (ih _ R s1 κ kp r K KP st1 hd.2 hw.2 hb.2 ha k3 k2 (λs' hk hh=>hκ s' (k4'.trans (hk.sub λk hk=>hasg k (.inr hk))) hh) λs' hk hh=>hkp s' (k4'.trans (hk.sub λk hk=>hasg k (.inr hk))) hh)
   rw[D_]at this
   rw[show(blk.er (some (t,want))++[(⟨some dst,FW t want rr.er alt.er,none⟩:SOper)]).length+(k - (blk.er none).length)=k+1 by
    rw[ab_,hl,List.length_singleton];omega]at this
   exact this
end
theorem inL_iff{l:List Nat}{x:Nat}:mf l x=true↔x∈l:=by
 unfold mf
 simp only[List.any_eq_true]
 exact⟨fun⟨y,h1,h2⟩=>(b_ h2)▸h1,λh=>⟨x,h,S_ x⟩⟩
theorem Cd{l:List Nat}{x:Nat}(h:(!mf l x)=true):x∉l:=λhx=>by
 rw[inL_iff.2 hx]at h;cases h
theorem BU(v:V):v.kids1=(aM v).kids:=by
 cases v<;>try rfl
 rename_i c
 have h0:∀i,i∉(aM (.raw c)).kids:=λi hi=>by
  have:=BV.kids_ids hi
  rw[show(aM (.raw c)).ids=[]from yW c]at this
  cases this
 exact(List.eq_nil_iff_forall_not_mem.2 h0).symm
theorem FH(vs:List V):vs.flatMap V.kids1=(vs.map aM).flatMap BV.kids:=by
 induction vs with
 |nil=>rfl
 |cons v vs ih=>simp only[ad_,q_,ih,BU]
theorem xg(v:V):v.kids=(aT v).kids:=by
 cases hv:v.isA
 ·rw[mD hv]
  have:v.kids=v.kids1:=by cases v<;>first|rfl|cases hv
  rw[this]
  exact BU v
 ·cases v with
  |agg vs=>exact FH vs
  |tup vs=>exact FH vs
  |_=>cases hv
theorem BX(o:Ob):o.kids=(bU o).kids:=by
 cases o with
 |box t cs=>exact FH cs
 |tree e k t xs h=>
  cases h with
  |none=>rfl
  |some q=>obtain⟨i,j,v⟩:=q;exact BU v
 |_=>rfl
theorem xx(s:S)(p:PO):touch (enc s) p.so=KE s p.so.rd p.o.er.lent:=by
 unfold touch KE
 congr 1
 refine wv λk _=>?_
 rw[ct]
 cases lk s.fr k with
 |none=>rfl
 |some v=>exact(qg v).symm
theorem er_hf{o:TOp}:o.er.hf=true↔∃x,o= .mv x:=by
 cases o<;>simp[TOp.er,SOp.hf]
theorem Gx(s:S)(p:PO)(h2:p.rd=p.so.rd)(h3:p.lent=p.o.er.lent):qQ s p=(match p.b with|true=>dY (enc s) p.so|false=>touch (enc s) p.so):=by
 unfold qQ
 cases hb:p.b with
 |false=>simp only;rw[xx,h2,h3]
 |true=>
  simp only[dY]
  by_cases hm:(∃x,p.o= .mv x)/\p.g=none
  ·obtain⟨⟨x,hx⟩,hg⟩:=hm
   rw[hx,hg]
   have:p.so.op.hf=true/\p.so.gd=none:=⟨by show p.o.er.hf=true;rw[hx];rfl,hg⟩
   rw[if_pos this]
  ·have:¬(p.so.op.hf=true/\p.so.gd=none):=λh=>hm ⟨er_hf.1 h.1,h.2⟩
   rw[if_neg this,xx,h2,h3]
   split
   ·rename_i x _ hx hg;exact absurd ⟨⟨x,hx⟩,hg⟩ hm
   ·rfl
theorem Pq{r:Av.Rec}{T:List Nat}{p:PO}(h:SU r T p.so.rd p.o.er.lent p.d p.b=true):comm r T p.so p.b:=by
 unfold SU at h
 simp only[a_]at h
 obtain⟨⟨⟨h1,h2⟩,h3⟩,h4⟩:=h
 refine⟨λt ht=>?_,λt ht=>?_,λt ht=>?_,λhb t ht=>?_,λhb=>?_⟩
 ·rw[ht]at h1
  simp only[a_]at h1
  refine⟨Cd h1.1,λe=>?_⟩
  have e':p.d=some t:=e
  rw[e']at h1
  have:=h1.2
  simp only[S_]at this
  cases this
 ·have e':p.d=some t:=ht
  rw[e']at h2
  exact Cd h2
 ·rw[ht]at h3
  exact Cd h3
 ·rw[hb]at h4
  exact Cd (j_.1 h4 t ht)
 ·rw[hb]at h4
  simp only[a_]at h4
  exact⟨U_.1 h4.1,λi hi=>Cd (j_.1 h4.2 i hi)⟩
def PO.wf(P:Program)(p:PO):Bool:=p.o.wf P&&decide (p.rd=p.so.rd)&&decide (p.lent=p.o.er.lent)&&(match p.b with
 |true=>p.d.isSome&&(p.o.pureB||(p.o.isAt&&p.g.isNone))
 |false=>p.o.exB)
def VP(anc:List (List Nat)):List PO->Bool
 |[]=>true
 |p::l=>l.all (λq=>(anc.getD q.j []).contains p.j||mf q.us p.j)&&VP anc l
def p7(l:List PO):List Nat:=l.flatMap λp=>match p.d with|some d=>[d]|none=>[]
section
variable {R:Type} {P:Program} {O:ak}
theorem wC{s:S}{t:Nat}{v:V}(h:lk s.fr t=some v)(k:Nat):lk (s.put t v).fr k=lk s.fr k:=by
 show lk ((t,v)::s.fr) k=_
 simp only[lk]
 cases hb:m_ k t
 ·rfl
 ·have:=b_ hb
  subst this
  exact h.symm
theorem En{s:S}{t:Nat}{v:V}(h:lk s.fr t=some v):Eqs (enc (s.put t v)) (enc s):=⟨rfl,λk=>by rw[ct,ct,wC h]⟩
theorem pR{s:S}{t:Nat}{v:V}(h:lk s.fr t=some v)(A:List Nat):Keeps A s (s.put t v):=λk _=>by
 rw[wC h]
 exact⟨λv hv _=>.inl hv,λhn=>hn⟩
def XJ(F:List Nat)(ld:Option (Ty×Nat×Nat×V))(hp:List AObj):Prop:=∃t id off v,ld=some (t,id,off,v)/\∃s':S,hp=s'.hp.map bU/\(∀j∈Iy s' id,j∈F)/\Mx s'.hp t id off=some v
def Om(a:RecV):Av.Rec×(List AObj->Prop):=(a.r,XJ a.r.F a.ld)
theorem Uu{k:Option R}{r:R}{v v':V}(h:Ut k v v'=some r):v=v'/\k=some r:=by
 unfold Ut at h
 split at h
 ·rename_i t x u y
  split at h
  ·rename_i z hz
   obtain⟨h1,h2⟩:=aO h
   obtain⟨h3,h4⟩:=aO h2
   have:=JR t x z h1 h3
   subst this
   unfold cf at hz
   split at hz
   ·rename_i e
    subst e
    cases hz
    exact⟨rfl,h4⟩
   ·cases hz
  ·cases h
 ·rename_i i o j q
  obtain⟨h1,h2⟩:=aO h
  simp only[a_]at h1
  rw[b_ h1.1,b_ h1.2]
  exact⟨rfl,h2⟩
 ·cases h
theorem xt{T us:List Nat}{s':S}{k:Option R}{r:R}:∀{A:List RecV},Xy T us s' k A=some r->k=some r/\∀a∈A,mf us a.r.i=true->(∀i∈T,i∉a.r.F)\/XJ a.r.F a.ld (s'.hp.map bU)
 |[],h=>⟨h,λa ha=>by cases ha⟩
 |a::A,h=>by
  unfold Xy at h
  cases hc:(!mf us a.r.i||T.all (λt=> !mf a.r.F t))
  ·rw[hc]at h
   simp only[cond_false]at h
   split at h
   ·rename_i t id off v hl
    split at h
    ·rename_i v' hv
     obtain⟨h1,h2⟩:=aO h
     obtain⟨rfl,h3⟩:=Uu h2
     obtain⟨h4,h5⟩:=xt h3
     refine⟨h4,λb hb hu=>?_⟩
     rcases v_.1 hb with rfl|hb
     ·exact .inr ⟨t,id,off,v,hl,s',rfl,λj hj=>inL_iff.1 (j_.1 h1 j hj),hv⟩
     ·exact h5 b hb hu
    ·cases h
   ·cases h
  ·rw[hc]at h
   simp only[cond_true]at h
   obtain⟨h4,h5⟩:=xt h
   refine⟨h4,λb hb hu=>?_⟩
   rcases v_.1 hb with rfl|hb
   ·simp only[hu,ag_,aG_]at hc
    exact .inl λi hi=>Cd (j_.1 hc i hi)
   ·exact h5 b hb hu
theorem Wu(s:S)(hp:List Ob)(x:X):S.get ⟨s.fr,hp⟩ x=s.get x:=by cases x<;>rfl
theorem Oi{d:Option Nat}{t:Ty}{x:X}{s:S}{hp:List Ob}{id off:Nat}{v:V}{kp:S->Option S}(hx:s.get x=some (.ptr id off))(hv:Mx hp t id off=some v):
 evOp O d (.load t x) ⟨s.fr,hp⟩ (λs=>some s) kp=some (S.putO ⟨s.fr,hp⟩ d v):=by
 simp only[evOp,Wu,hx,loadT]
 unfold Mx at hv
 split at hv
 ·rename_i tid cs ho
  obtain⟨h1,h2⟩:=aO hv
  cases h2
  simp only[ho,h1,cond_true]
 ·cases hv
theorem QY(hO:OracleOk P O){anc:List (List Nat)}{K:St->Prop}{KC:Prop}:∀(l:List PO) (A:List RecV) (s:S) (κ kp:S->Option R) (r:R),l.all (PO.wf P)=true->VP anc l=true->(∀a∈A,∀q∈l,(anc.getD q.j []).contains a.r.i=true\/mf q.us a.r.i=true)->
 Se O A l s κ kp=some r->(∀s',Keeps (p7 l) s s'->κ s'=some r->K (enc s'))->(∀s',Keeps (p7 l) s s'->kp s'=some r->KC)->
 um P (λi j=> !(anc.getD j []).contains i) K KC (A.map Om) (l.map λp=>(p.j,p.b,p.so)) (enc s):=by
 intro l
 induction l with
 |nil=>
  intro A s κ kp r _ _ _ h hκ _
  exact⟨_,Eqs.refl _,hκ s (Keeps.refl _ _) h⟩
 |cons p l ih=>
  intro A s0 κ kp r hw hu hA h hκ0 hkp0
  simp only[X_,a_]at hw
  obtain⟨hwp,hwl⟩:=hw
  simp only[VP,a_,j_,z_]at hu
  obtain⟨hup,hul⟩:=hu
  simp only[PO.wf,a_,decide_eq_true_eq]at hwp
  obtain⟨⟨⟨w1,w2⟩,w3⟩,w4⟩:=hwp
  have hasg:∀k,k∈fV p.d\/k∈p7 l->k∈p7 (p::l):=λk hk=>by
   unfold p7 at hk⊢
   rw[ad_,c_]
   refine hk.imp (λh=>?_) id
   cases hd:p.d<;>rw[hd]at h<;>exact h
  have hAl:∀a∈A,∀q∈l,(anc.getD q.j []).contains a.r.i=true\/mf q.us a.r.i=true:=λa ha q hq=>hA a ha q (n_ _ hq)
  have hmap:∀{X:Av.Rec×(List AObj->Prop)->Prop},(∀a∈A,X (Om a))->∀r∈A.map Om,X r:=λh r hr=>by
   obtain⟨a,ha,rfl⟩:=R_.1 hr
   exact h a ha
  have hus:∀a∈A,(!(anc.getD p.j []).contains a.r.i)=true->mf p.us a.r.i=true:=λa ha hun=>by
   rcases hA a ha p (B_ ..)with h3|h3
   ·rw[h3]at hun;cases hun
   ·exact h3
  have hrun:∀s:S,(p.g=none\/∃t want,p.g=some (t,want)/\lk s.fr t=some (.d .bool want))->BL A s p=true->evOp O p.d p.o s (λs'=>Rv A s s' p (Se O (Cj A s s' p) l s' κ kp)) kp=some r->(∀s',Keeps (p7 (p::l)) s s'->κ s'=some r->K (enc s'))->(∀s',Keeps (p7 (p::l)) s s'->kp s'=some r->KC)->um P (λi j=> !(anc.getD j []).contains i) K KC (A.map Om) ((p::l).map λp=>(p.j,p.b,p.so)) (enc s):=by
   intro s hg h1 h2 hκ hkp
   simp only[BL,a_]at h1
   obtain⟨⟨c1,c2⟩,c3⟩:=h1
   rw[w2,w3]at c1
   simp only[Cj,Rv,w2,w3]at h2
   have hT:=Gx s p w2 w3
   have hchk:∀a∈A,(!(anc.getD p.j []).contains a.r.i)=true->comm a.r (match p.b with|true=>dY (enc s) p.so|false=>touch (enc s) p.so) p.so p.b:=λa ha hun=>by
    have:=j_.1 c1 a ha
    simp only[z_]at this
    rcases hA a ha p (B_ ..)with h3|h3
    ·rw[h3]at hun;cases hun
    ·rw[h3]at this
     rcases this with h4|h4
     ·cases h4
     ·rw[<-hT];exact Pq h4
   have hst:∀{X X':St->Prop},sexec P p.d p.o.er (enc s) X X'->iV P p.so (enc s) X X':=fun{X X'} hx=>by
    unfold iV
    rcases hg with hg|⟨t,want,hg,hl⟩
    ·rw[show p.so.gd=none from hg];exact hx
    ·rw[show p.so.gd=some (t,want)from hg]
     exact⟨_,by rw[ct,hl];rfl,_,rfl,λ_=>hx,λhne=>absurd rfl hne⟩
   have hsy:∀{x:AV},jp P (enc s) p.o.er (λy=>y=x)->fO P p.so (enc s) x:=fun{x} hx=>by
    unfold fO
    rcases hg with hg|⟨t,want,hg,hl⟩
    ·rw[show p.so.gd=none from hg];exact hx
    ·rw[show p.so.gd=some (t,want)from hg]
     exact⟨_,by rw[ct,hl];rfl,_,rfl,λ_=>hx,λhne=>absurd rfl hne⟩
   cases hb:p.b with
   |false=>
    rw[hb]at w4 h2 hchk
    simp only[cond_false]at h2
    simp only[q_,hb]
    refine⟨hmap hchk,?_⟩
    have hx:=N1 hO w1 w4 c3 h2
    refine hst (mK hx (λst' ⟨s',e1,e2,e3⟩=>?_) λst' ⟨s',e1,e2,e3⟩=>hkp s' (e2.sub λk hk=>hasg k (.inl hk)) e3)
    rw[e1]
    obtain⟨e3,e9⟩:=xt e3
    refine⟨hmap λa ha hun=>?_,?_⟩
    ·rw[xx]
     exact e9 a ha (hus a ha hun)
    exact ih A s' κ kp r hwl hul hAl e3 (λs2 hk hh=>hκ s2 ((e2.sub λk hk=>hasg k (.inl hk)).trans (hk.sub λk hk=>hasg k (.inr hk))) hh) λs2 hk hh=>hkp s2 ((e2.sub λk hk=>hasg k (.inl hk)).trans (hk.sub λk hk=>hasg k (.inr hk))) hh
   |true=>
    rw[hb]at w4 h2 hchk c2 hT
    simp only at hchk hT
    simp only[a_]at w4
    obtain⟨hds,hpa⟩:=w4
    obtain⟨dk,hdk⟩:=as_.1 hds
    simp only[cond_true]at h2
    simp only[ag_,aG_]at c2
    simp only[q_,hb]
    have hle:∃E v s',vl P p.so (enc s) E/\E.x=aT v/\E.slot.map (·.1)=Gk p.o/\enc s'=(enc s).app p.d E/\lk s'.fr dk=some v/\Keeps (fV p.d) s s'/\Se O (A++[⟨⟨p.j,p.d,p.so.rd,Gk p.o,Ol s s' p.d (qQ s p),VI s s' p.so.rd p.d⟩,N7 s s' p⟩]) l s' κ kp=some r:=by
     rcases aF_.1 hpa with hpu|hat
     ·obtain⟨v,e1,e2⟩:=s4 hO w1 hpu h2
      have hsl:Gk p.o=none:=by cases hq:p.o<;>first|rfl|(rw[hq]at hpu;cases hpu)
      refine⟨⟨aT v,none⟩,v,s.putO p.d v,hsy e1,rfl,by rw[hsl];rfl,gB _ _ _,?_,Keeps.put _ _ _,e2⟩
      rw[hdk]
      simp only[zh,if_true]
     ·simp only[a_]at hat
      obtain⟨hat,hgn⟩:=hat
      have hgn:=U_.1 hgn
      cases hq:p.o<;>(try (rw[hq]at hat;cases hat;done))
      rename_i k op
      rw[hq]at h2 w1
      obtain⟨ob,v,e1,e2⟩:=Pi (P:=P) (k:=k) (op:=op) w1 h2
      refine⟨⟨aT v,some (k,bU ob)⟩,v,_,?_,rfl,rfl,?_,?_,(Keeps.fr (s':=⟨s.fr,setAt s.hp k ob⟩) rfl).trans (Keeps.put _ p.d v),e2⟩
      ·have:p.so=⟨p.d,.atq k op.er,none⟩:=by unfold PO.so;rw[hq,hgn];rfl
       rw[this];exact e1
      ·rw[gB,gL];rfl
      ·rw[hdk]
       simp only[zh,if_true]
    obtain⟨E,v,s',e1,e2,e3,e4,e5,e6,e7⟩:=hle
    have e5':PG s' p.d=v.kids:=by unfold PG;rw[hdk];simp only[e5]
    have hkF:∀i∈E.x.kids,i∈Ol s s' p.d (qQ s p):=λi hi=>by
     rw[e2,<-xg]at hi
     exact c_.2 (.inr (by rw[e5'];exact hi))
    refine⟨hmap hchk,E,Ol s s' p.d (qQ s p),VI s s' p.so.rd p.d,XJ (Ol s s' p.d (qQ s p)) (N7 s s' p),e1,⟨λi hi=>?_,hkF⟩,⟨λi hi=>?_,λt ht y hy i hi=>?_⟩,λst2 hS hfr=>?_,?_⟩
    ·rw[<-hT]at hi
     have hlt:=j_.1 c2 i hi
     have hlt':i<s.hp.length:=g_ hlt
     refine⟨c_.2 (.inl (c_.2 (.inl hi))),_,by rw[bY,e_ hlt'];rfl,λj hj=>?_⟩
     rw[<-BX]at hj
     refine c_.2 (.inl (c_.2 (.inr (t_.2 ⟨i,hi,?_⟩))))
     unfold Iy
     rw[e_ hlt']
     exact hj
    ·rw[e2,<-xg]at hi
     exact c_.2 (.inr (by rw[e5'];exact hi))
    ·rw[ct]at hy
     refine c_.2 (.inl (t_.2 ⟨t,ht,?_⟩))
     cases hl:lk s.fr t with
     |none=>rw[hl]at hy;cases hy
     |some w=>
      rw[hl]at hy
      simp only[Z_,k_]at hy
      rw[<-hy,<-xg]at hi
      exact hi
    ·obtain⟨t,id,off,v2,hl,s2,hhp,hkid,hrd⟩:=hS
     unfold N7 at hl
     split at hl
     case h_2=>cases hl
     rename_i t' x d ho hgn hd
     split at hl
     case h_2=>cases hl
     rename_i id' off' v2' hx hv2
     cases hl
     rw[hdk]at hd
     cases hd
     rw[e5]at hv2
     cases hv2
     have hsl:E.slot=none:=by
      rw[ho]at e3
      cases hs:E.slot with
      |none=>rfl
      |some q=>rw[hs]at e3;cases e3
     have hso:p.so=⟨some dk,.load t.sz t.ag x.er,none⟩:=by unfold PO.so;rw[ho,hgn,hdk];rfl
     rw[ho]at w1
     obtain⟨v3,g1,g2⟩:=s4 (P:=P) (O:=O) hO w1 (by rfl) (Oi (O:=O) (d:=some dk) (t:=t) (kp:=λ_=>none) hx hrd)
     have hv3:v3=v:=by
      have:=congrArg (λs:S=>lk s.fr dk) (w_ g2)
      simpa only[zh,if_true,k_]using this
     subst hv3
     have hin:∀i∈dY st2 p.so,i=id:=λi hi=>by
      rw[hso]at hi
      unfold dY at hi
      rw[if_neg (λh=>by cases h.1)]at hi
      unfold touch at hi
      simp only[SOp.lent,aR_]at hi
      obtain⟨k,hk,h0⟩:=t_.1 hi
      have hk':k∈x.er.rd:=by simpa[SOper.rd,SOp.rd]using hk
      rw[hfr k (by rw[hso];exact hk),ct]at h0
      cases x with
      |tm k0=>
       have:k=k0:=by simpa[X.er,SX.rd]using hk'
       subst this
       rw[show lk s.fr k=some (.ptr id off)from hx]at h0
       exact o_.1 h0
      |_=>cases hk'
     refine⟨?_,λi hi=>?_,hkF⟩
     ·unfold vl
      rw[hsl,hso,e2]
      refine A9 ⟨λk hk y hy=>?_,λk hk y hy i hi ob hob=>by rw[hhp];exact hob⟩ g1
      rw[hfr k (by rw[hso];exact c_.2 (.inl hk))]
      exact hy
     ·have h1:=hi
      rw[tv hfr,<-hT]at h1
      have:=hin i hi
      subst this
      refine⟨c_.2 (.inl (c_.2 (.inl h1))),?_⟩
      unfold Mx at hrd
      split at hrd
      case h_2=>cases hrd
      rename_i tid cs hob
      refine⟨bU (.box tid cs),by rw[hhp,h_,hob];rfl,λj hj=>hkid j ?_⟩
      rw[<-BX]at hj
      unfold Iy
      rw[hob]
      exact hj
    ·rw[e3]
     have:=ih _ s' κ kp r hwl hul (λa ha q hq=>?_) e7 (λs2 hk hh=>hκ s2 ((e6.sub λk hk=>hasg k (.inl hk)).trans (hk.sub λk hk=>hasg k (.inr hk))) hh) λs2 hk hh=>hkp s2 ((e6.sub λk hk=>hasg k (.inl hk)).trans (hk.sub λk hk=>hasg k (.inr hk))) hh
     ·rw[r_,e4]at this
      exact this
     rcases c_.1 ha with h|h
     ·exact hAl a h q hq
     ·simp only[o_]at h
      subst h
      exact hup q hq
  have hskip:∀(s:S) t want b,p.g=some (t,want)->lk s.fr t=some (.d .bool b)->(want==b)=false->BL A s p=true->Rv A s (s.putO p.d (.raw Go.undef)) p (Se O (Cj A s (s.putO p.d (.raw Go.undef)) p) l (s.putO p.d (.raw Go.undef)) κ kp)=some r->(∀s',Keeps (p7 (p::l)) s s'->κ s'=some r->K (enc s'))->(∀s',Keeps (p7 (p::l)) s s'->kp s'=some r->KC)->um P (λi j=> !(anc.getD j []).contains i) K KC (A.map Om) ((p::l).map λp=>(p.j,p.b,p.so)) (enc s):=by
   intro s t want b hg hl hne h1 h2 hκ hkp
   simp only[BL,a_]at h1
   obtain⟨⟨c1,c2⟩,c3⟩:=h1
   rw[w2,w3]at c1
   simp only[Cj,Rv,w2,w3]at h2
   have hT:=Gx s p w2 w3
   have hchk:∀a∈A,(!(anc.getD p.j []).contains a.r.i)=true->comm a.r (match p.b with|true=>dY (enc s) p.so|false=>touch (enc s) p.so) p.so p.b:=λa ha hun=>by
    have:=j_.1 c1 a ha
    simp only[z_]at this
    rcases hA a ha p (B_ ..)with h3|h3
    ·rw[h3]at hun;cases hun
    ·rw[h3]at this
     rcases this with h4|h4
     ·cases h4
     ·rw[<-hT];exact Pq h4
   have hyv:yv (.bool b)≠some want:=λe=>by
    have:b=want:=by simpa[yv]using e
    subst this;simp at hne
   have e4:enc (s.putO p.d (.raw Go.undef))=(enc s).putO p.d (.v Go.undef):=gB _ _ _
   have e6:Keeps (fV p.d) s (s.putO p.d (.raw Go.undef)):=Keeps.put _ _ _
   cases hb:p.b with
   |false=>
    rw[hb]at h2 hchk
    simp only[cond_false]at h2
    simp only[q_,hb]
    refine⟨hmap hchk,?_⟩
    unfold iV
    rw[show p.so.gd=some (t,want)from hg]
    obtain⟨h2,e9⟩:=xt h2
    refine⟨_,by rw[ct,hl];rfl,_,rfl,λhe=>absurd he hyv,λ_=>?_⟩
    show Sr _ _ _ _ ((enc s).putO p.d (.v Go.undef)).hp/\um P _ K KC (A.map Om) _ ((enc s).putO p.d (.v Go.undef))
    rw[<-e4]
    refine⟨hmap λa ha hun=>?_,?_⟩
    ·rw[xx]
     exact e9 a ha (hus a ha hun)
    exact ih A _ κ kp r hwl hul hAl h2 (λs2 hk hh=>hκ s2 ((e6.sub λk hk=>hasg k (.inl hk)).trans (hk.sub λk hk=>hasg k (.inr hk))) hh) λs2 hk hh=>hkp s2 ((e6.sub λk hk=>hasg k (.inl hk)).trans (hk.sub λk hk=>hasg k (.inr hk))) hh
   |true=>
    rw[hb]at w4 h2 hchk c2 hT
    simp only at hchk hT
    simp only[a_]at w4
    simp only[cond_true]at h2
    simp only[ag_,aG_]at c2
    simp only[q_,hb]
    have hsl:Gk p.o=none:=by
     have hpu:p.o.pureB=true:=by
      rcases aF_.1 w4.2 with h|h
      ·exact h
      ·rw[hg]at h;simp at h
     cases hq:p.o<;>first|rfl|(rw[hq]at hpu;cases hpu)
    have hld:N7 s (s.putO p.d (.raw Go.undef)) p=none:=by
     unfold N7
     rw[hg]
     cases p.o<;>cases p.d<;>rfl
    refine⟨hmap hchk,⟨.v Go.undef,none⟩,Ol s (s.putO p.d (.raw Go.undef)) p.d (qQ s p),VI s (s.putO p.d (.raw Go.undef)) p.so.rd p.d,XJ (Ol s (s.putO p.d (.raw Go.undef)) p.d (qQ s p)) (N7 s (s.putO p.d (.raw Go.undef)) p),?_,⟨λi hi=>?_,λi hi=>?_⟩,⟨λi hi=>(by cases hi),λt ht y hy i hi=>?_⟩,λst2 hS=>?_,?_⟩
    ·show fO P p.so (enc s) (.v Go.undef)
     unfold fO
     rw[show p.so.gd=some (t,want)from hg]
     exact⟨_,by rw[ct,hl];rfl,_,rfl,λhe=>absurd he hyv,λ_=>rfl⟩
    ·rw[<-hT]at hi
     have hlt:=j_.1 c2 i hi
     have hlt':i<s.hp.length:=g_ hlt
     refine⟨c_.2 (.inl (c_.2 (.inl hi))),_,by rw[bY,e_ hlt'];rfl,λj hj=>?_⟩
     rw[<-BX]at hj
     refine c_.2 (.inl (c_.2 (.inr (t_.2 ⟨i,hi,?_⟩))))
     unfold Iy
     rw[e_ hlt']
     exact hj
    ·cases hi
    ·rw[ct]at hy
     refine c_.2 (.inl (t_.2 ⟨t,ht,?_⟩))
     cases hl:lk s.fr t with
     |none=>rw[hl]at hy;cases hy
     |some w=>
      rw[hl]at hy
      simp only[Z_,k_]at hy
      rw[<-hy,<-xg]at hi
      exact hi
    ·obtain⟨_,_,_,_,hl,_⟩:=hS
     rw[hld]at hl
     cases hl
    ·have:=ih _ _ κ kp r hwl hul (λa ha q hq=>?_) h2 (λs2 hk hh=>hκ s2 ((e6.sub λk hk=>hasg k (.inl hk)).trans (hk.sub λk hk=>hasg k (.inr hk))) hh) λs2 hk hh=>hkp s2 ((e6.sub λk hk=>hasg k (.inl hk)).trans (hk.sub λk hk=>hasg k (.inr hk))) hh
     ·rw[r_,e4]at this
      show um P _ K KC (A.map Om++[(⟨p.j,p.d,p.so.rd,none,_,_⟩,_)]) _ ((enc s).putO p.d (.v Go.undef))
      rw[<-hsl]
      exact this
     rcases c_.1 ha with h|h
     ·exact hAl a h q hq
     ·simp only[o_]at h
      subst h
      exact hup q hq
  simp only[Se]at h
  cases hg:p.g with
  |none=>
   rw[hg]at h
   obtain⟨h1,h2⟩:=aO h
   exact hrun s0 (.inl hg) h1 h2 hκ0 hkp0
  |some q=>
   obtain⟨t,want⟩:=q
   rw[hg]at h
   simp only at h
   split at h
   ·rename_i b hl
    rcases hwb:(want==b)with _|_
    ·rw[hwb]at h
     have hb:b= !want:=by cases b<;>cases want<;>first|rfl|cases hwb
     subst hb
     obtain⟨h1,h2⟩:=aO h
     refine tn _ _ _ _ (En hl) ?_
     exact hskip _ t want _ hg (by rw[wC hl];exact hl) hwb h1 h2 (λs' hk=>hκ0 s' ((pR hl _).trans hk)) λs' hk=>hkp0 s' ((pR hl _).trans hk)
    ·rw[hwb]at h
     have:want=b:=by simpa using hwb
     subst this
     obtain⟨h1,h2⟩:=aO h
     refine tn _ _ _ _ (En hl) ?_
     exact hrun _ (.inr ⟨t,want,hg,by rw[wC hl];exact hl⟩) h1 h2 (λs' hk=>hκ0 s' ((pR hl _).trans hk)) λs' hk=>hkp0 s' ((pR hl _).trans hk)
   ·cases h
theorem BZ(hO:OracleOk P O){m:Nat}{K KP:St->Prop}:∀(l:List PO) (s:S) (κ kp:S->Option R) (r:R),l.all (λp=>p.o.wf P)=true->Sd O l s κ kp=some r->
 (∀s',Keeps (p7 l) s s'->κ s'=some r->W m K (enc s'))->(∀s',Keeps (p7 l) s s'->kp s'=some r->KP (enc s'))->sops P m (l.map PO.so) (enc s) K KP
 |[],s,κ,kp,r,_,h,hκ,_=>hκ s (Keeps.refl _ _) h
 |p::l,s0,κ,kp,r,hw,h,hκ0,hkp0=>by
  rw[X_,a_]at hw
  have hasg:∀k,k∈fV p.d\/k∈p7 l->k∈p7 (p::l):=λk hk=>by
   simp only[p7,ad_,c_];exact hk
  have go:∀(s:S),(∀s',Keeps (p7 (p::l)) s s'->κ s'=some r->W m K (enc s'))->(∀s',Keeps (p7 (p::l)) s s'->kp s'=some r->KP (enc s'))->evOp O p.d p.o s (λs'=>Sd O l s' κ kp) kp=some r->
   sexec P p.d p.o.er (enc s) (λst=>sops P m (l.map PO.so) st K KP) KP:=by
   intro s hκ hkp h
   refine mK (Fu hO hw.1 h) (λst' ⟨s1,h1,h2,h3⟩=>?_) λst' ⟨s1,h1,h2,h3⟩=>?_
   ·have h2':=h2.sub (B:=p7 (p::l)) λk hk=>hasg k (.inl hk)
    exact jb h1.weak (BZ hO l s1 κ kp r hw.2 h3 (λs' hk hh=>hκ s' (h2'.trans (hk.sub λk hk=>hasg k (.inr hk))) hh) λs' hk hh=>hkp s' (h2'.trans (hk.sub λk hk=>hasg k (.inr hk))) hh)
   ·rw[h1]
    exact hkp s1 (h2.sub λk hk=>hasg k (.inl hk)) h3
  have skip:∀(s:S),(∀s',Keeps (p7 (p::l)) s s'->κ s'=some r->W m K (enc s'))->(∀s',Keeps (p7 (p::l)) s s'->kp s'=some r->KP (enc s'))->Sd O l (s.putO p.d (.raw Go.undef)) κ kp=some r->
   sops P m (l.map PO.so) ((enc s).putO p.d (.v Go.undef)) K KP:=by
   intro s hκ hkp h
   have e4:enc (s.putO p.d (.raw Go.undef))=(enc s).putO p.d (.v Go.undef):=gB _ _ _
   have e6:Keeps (fV p.d) s (s.putO p.d (.raw Go.undef)):=Keeps.put _ _ _
   have h2':=e6.sub (B:=p7 (p::l)) λk hk=>hasg k (.inl hk)
   rw[<-e4]
   exact BZ hO l _ κ kp r hw.2 h (λs' hk hh=>hκ s' (h2'.trans (hk.sub λk hk=>hasg k (.inr hk))) hh) λs' hk hh=>hkp s' (h2'.trans (hk.sub λk hk=>hasg k (.inr hk))) hh
  show W m (λst=>iV P p.so st (λst'=>sops P m (l.map PO.so) st' K KP) KP) (enc s0)
  simp only[Sd]at h
  split at h
  ·rename_i hg
   refine W.mk ?_
   unfold iV
   rw[show p.so.gd=none from hg]
   exact go s0 hκ0 hkp0 h
  ·rename_i t want hg
   split at h
   ·rename_i b hl
    have e:Weak m (enc s0) (enc (s0.put t (.d .bool b))):=λc a w _ hr=>Rel.congr (En hl).1 (En hl).2 hr
    refine W.to _ e ?_
    unfold iV
    rw[show p.so.gd=some (t,want)from hg]
    have hl2:Av.look (enc (s0.put t (.d .bool b))).fr t=some (.b (.pv (.sc (.bool b)))):=by
     rw[ct,wC hl,hl];rfl
    have k1:∀s',Keeps (p7 (p::l)) (s0.put t (.d .bool b)) s'->κ s'=some r->W m K (enc s'):=λs' hk=>hκ0 s' ((pR hl _).trans hk)
    have k2:∀s',Keeps (p7 (p::l)) (s0.put t (.d .bool b)) s'->kp s'=some r->KP (enc s'):=λs' hk=>hkp0 s' ((pR hl _).trans hk)
    refine⟨_,hl2,.bool b,rfl,λhe=>?_,λhe=>?_⟩
    ·cases b<;>cases want<;>first|(exact go _ k1 k2 h)|(exact absurd he (by decide))
    ·cases b<;>cases want<;>first|(exact skip _ k1 k2 h)|(exact absurd rfl he)
   ·cases h
theorem Jf{m:Nat}{s:S}:∀(r:Nat),Weak m (enc s) (enc ⟨s.fr,s.hp++P_ r .free⟩)
 |0=>by rw[List.replicate_zero,aR_];exact Weak.refl _ _
 |r+1=>by
  refine(Jf r).trans ?_
  rintro c a w _ ⟨θ,D,hI⟩
  refine⟨θ++[.no],D,?_⟩
  have:=hI.push (l:=.no) (o:=.free) trivial λg hg=>by cases hg
  rw[List.replicate_succ',<-D_]
  have e:=we ⟨s.fr,s.hp++P_ r .free⟩ .free
  simp only at e
  rw[e]
  exact this
theorem To{pre:List PO}(hn:(pre.map (·.j)).Nodup){p:PO}(hp:p∈pre)(hj:p.j<pre.length)(tl:List SOper):(Hr pre++tl).getD p.j default=p.so:=by
 have hl:(Hr pre).length=pre.length:=by simp[Hr]
 have hf:pre.find? (λq=>m_ q.j p.j)=some p:=by
  clear hl hj
  induction pre with
  |nil=>cases hp
  |cons q pre ih=>
   rw[q_,List.nodup_cons]at hn
   rw[List.find?_cons]
   rcases v_.1 hp with rfl|hp
   ·rw[S_]
   ·have:m_ q.j p.j=false:=by
     cases hb:m_ q.j p.j with
     |false=>rfl
     |true=>exact absurd (R_.2 ⟨p,hp,(b_ hb).symm⟩) hn.1
    rw[this]
    exact ih hn.2 hp
 rw[ac_,l_ (by omega)]
 unfold Hr
 rw[h_,V_ hj]
 simp only[Z_,aw_,hf]
end
def W0(xs:List (Nat×Sh)):Bool:=xs.all λx=>x.2.wfB
def TC.wf(P:Program)(m:Nat):TC->Bool
 | .region ops=>ops.wf P&&ops.gbB&&ops.adjW m
 | .draw k ops _=>ops.wf P&&ops.gbB&&ops.adjW m&&ops.drB k
 | .draw2 _ pre tl af=>tl.wf P&&tl.gbB&&tl.adjW m&&pre.all (PO.wf P)&&VP (fR [] af) pre&&decide (pre.map (·.j)).Nodup&&pre.all (λp=>decide (p.j<pre.length))
 | .regL pre=>pre.all λp=>p.o.wf P
 | .seq a b=>a.wf P m&&b.wf P m
 | .cond x a b=>x.wf&&a.wf P m&&b.wf P m
 | .block _ a=>a.wf P m
 | .loop sh xs a=>sh.wfB&&W0 xs&&a.wf P m
 | .adj l a=>EL m l&&a.wf P m
 | .after a l=>EL m l&&a.wf P m
 | .cut xs a=>W0 xs&&a.wf P m
 |_=>true
section
variable {P:Program} {O:ak} {n m:Nat}
theorem SH{x:AC}{Q:AE->St->Prop}:∀{a b:St},Weak m a b->KN P m x Q b->KN P m x Q a:=by
 induction x generalizing Q with
 |skip=>exact λh k=>W.from h k
 |region ss=>exact λh k=>jb h k
 |draw k ss af=>exact λh k=>W.from h k
 |draw2 ord ss af=>exact λh k=>W.from h k
 |seq a b iha ihb=>exact λh k=>iha h k
 |cond c a b iha ihb=>exact λh k=>W.from h k
 |block id a iha=>exact λh k=>iha h k
 |loop a iha=>exact λh k=>W.from h k
 |exit id=>exact λh k=>W.from h k
 |ret=>exact λh k=>W.from h k
theorem kF{fr:List (Nat×V)}:∀{l:List Nat} {k:Nat} {v:V},lk (dG fr l) k=some v->k∈l/\lk fr k=some v/\v.isD=true
 |[],k,v,h=>by cases h
 |j::l,k,v,h=>by
  simp only[dG]at h
  split at h
  ·rename_i u hu
   cases hd:u.isD
   ·rw[hd]at h
    obtain⟨h1,h2⟩:=kF h
    exact⟨n_ _ h1,h2⟩
   ·rw[hd]at h
    simp only[cond_true,lk,fS]at h
    by_cases hk:k=j
    ·subst hk
     rw[decide_eq_true rfl]at h
     simp only[cond_true,k_]at h
     subst h
     exact⟨B_ ..,hu,hd⟩
    ·rw[decide_eq_false hk]at h
     obtain⟨h1,h2⟩:=kF h
     exact⟨n_ _ h1,h2⟩
  ·obtain⟨h1,h2⟩:=kF h
   exact⟨n_ _ h1,h2⟩
theorem mN:∀(l:List Slot) (c:HL l) (b:S) (k:Nat),(∀t,Slot.tm k t∉l)->lk (unpack l c b).fr k=lk b.fr k
 |[],_,_,_,_=>rfl
 | .tm j t::l,c,b,k,h=>by
  have:=mN l c.2 ⟨(j,.d t c.1)::b.fr,b.hp⟩ k λt ht=>h t (n_ _ ht)
  show lk (unpack l c.2 ⟨(j,.d t c.1)::b.fr,b.hp⟩).fr k=_
  rw[this]
  simp only[lk,fS]
  rw[decide_eq_false]
  ·rfl
  ·rintro rfl
   exact h t (B_ ..)
 | .cell _ _ _::l,c,b,k,h=>mN l c.2 _ k λt ht=>h t (n_ _ ht)
 | .vec _ _ _::l,c,b,k,h=>mN l c.2 _ k λt ht=>h t (n_ _ ht)
 | .map _ _ _ _ _::l,c,b,k,h=>mN l c.2 _ k λt ht=>h t (n_ _ ht)
 | .tree _ _ _ _::l,c,b,k,h=>mN l c.2 _ k λt ht=>h t (n_ _ ht)
 | .treeH _ _ _ _ _ _::l,c,b,k,h=>mN l c.2 _ k λt ht=>h t (n_ _ ht)
theorem Oa{A:List Nat}{fr:List (Nat×V)}{k:Nat}(h:pJ A fr k=true):k∈A\/∃v,lk fr k=some v/\v.isD=false:=by
 simp only[pJ,z_]at h
 rcases h with h|h
 ·exact .inl (inL_mem.1 h)
 ·split at h
  ·rename_i v hv;exact .inr ⟨v,hv,by simpa using h⟩
  ·cases h
theorem WY{fr:List (Nat×V)}{k:Nat}(h:lk fr k≠none):∃v,(k,v)∈fr:=by
 cases hv:lk fr k with
 |none=>exact absurd hv h
 |some v=>exact⟨v,FL hv⟩
structure OkAt(sh:Sh)(A:List Nat)(s:S):Prop where
 keep:∀k∈sh.keep,k∉A
 tm:∀k t,Slot.tm k t∈sh.sl->pJ A s.fr k=true
 sk:∀x∈sh.sk.fr,pJ A s.fr x.1=true
theorem PY{sh:Sh}{A:List Nat}{s:S}(h:sh.okAt A s=true):OkAt sh A s:=by
 simp only[Sh.okAt,a_,j_,y_]at h
 refine⟨λk hk e=>?_,λk t hk=>h.1.2 _ hk,h.2⟩
 have:=h.1.1 k hk
 rw[inL_mem.2 e]at this;cases this
theorem SI{sh:Sh}{A:List Nat}{s:S}(ho:OkAt sh A s)(c:HL sh.sl){k:Nat}(hk:k∉A):
 (∀v,lk s.fr k=some v->v.isD=true->lk (unpack sh.sl c (sh.base s)).fr k=lk (dG s.fr sh.keep) k)/\(lk s.fr k=none->lk (unpack sh.sl c (sh.base s)).fr k=none):=by
 have hnt:(∀v,lk s.fr k=some v->v.isD=true)->pJ A s.fr k≠true:=λhd e=>by
  rcases Oa e with h|⟨v,h1,h2⟩
  ·exact hk h
  ·rw[hd v h1]at h2;cases h2
 have step:(∀v,lk s.fr k=some v->v.isD=true)->lk (unpack sh.sl c (sh.base s)).fr k=lk (dG s.fr sh.keep) k:=λhd=>by
  rw[mN _ _ _ _ λt ht=>hnt hd (ho.tm k t ht)]
  show lk (dG s.fr sh.keep++sh.sk.fr) k=_
  rw[IH]
  have:lk sh.sk.fr k=none:=ao_ λe=>by
   obtain⟨v,hv⟩:=WY e
   exact hnt hd (ho.sk _ hv)
  rw[this]
  cases lk (dG s.fr sh.keep) k<;>rfl
 refine⟨λv hv hd=>step λu hu=>by rw[hv]at hu;cases hu;exact hd,λhn=>?_⟩
 rw[step λu hu=>by rw[hn]at hu;cases hu]
 cases hkf:lk (dG s.fr sh.keep) k with
 |none=>rfl
 |some v=>
  have:=(kF hkf).2.1
  rw[hn]at this;cases this
theorem ES{sh:Sh}{A:List Nat}{s:S}(ho:OkAt sh A s)(c:HL sh.sl):Keeps A s (unpack sh.sl c (sh.base s)):=λk hk=>by
 obtain⟨h1,h2⟩:=SI ho c hk
 refine⟨λv hv hd=>?_,h2⟩
 rw[h1 v hv hd]
 cases hkf:lk (dG s.fr sh.keep) k with
 |none=>exact .inr rfl
 |some u=>
  have:=(kF hkf).2.1
  rw[hv]at this
  exact .inl this.symm
theorem kept{sh:Sh}{A:List Nat}{s s':S}{c:HL sh.sl}(ho:OkAt sh A s)(hk:Keeps A s s')(hp:pack sh s'=some c):∀k v,lk (dG s.fr sh.keep) k=some v->lk s'.fr k=some v:=λk v h=>by
 obtain⟨h1,h2,h3⟩:=kF h
 rcases(hk k (ho.keep k h1)).1 v h2 h3 with h4|h4
 ·exact h4
 ·unfold pack at hp
  split at hp
  ·rename_i hf
   simp only[a_,j_]at hf
   have:=hf.2 k h1
   simp only[Td,h4]at this
   cases this
  ·cases hp
theorem AH{R:Type}{s s':S}{κ:Nat->S->Option R}{r:R}:∀{xs:List (Nat×Sh)} {key:Nat} {c:XT xs},inj xs key s'=some c->jC s κ xs c=some r->∃sh,(key,sh)∈xs/\∃c':HL sh.sl,pack sh s'=some c'/\κ key (unpack sh.sl c' (sh.base s))=some r
 |[],key,c,h,_=>by cases h
 |[(k,sh)],key,c,h,hd=>by
  simp only[inj,fS]at h
  by_cases hk:k=key
  ·subst hk
   rw[decide_eq_true rfl]at h
   exact⟨sh,B_ ..,c,h,hd⟩
  ·rw[decide_eq_false hk]at h;cases h
 |(k,sh)::a::l,key,c,h,hd=>by
  simp only[inj,fS]at h
  by_cases hk:k=key
  ·subst hk
   rw[decide_eq_true rfl]at h
   simp only[cond_true]at h
   split at h
   ·rename_i c' hc'
    cases h
    exact⟨sh,B_ ..,c',hc',hd⟩
   ·cases h
  ·rw[decide_eq_false hk]at h
   simp only[cond_false]at h
   split at h
   ·rename_i c' hc'
    cases h
    obtain⟨sh2,h1,h2⟩:=AH (xs:=a::l) hc' hd
    exact⟨sh2,n_ _ h1,h2⟩
   ·cases h
structure Post(D2:Prop)(m:Nat)(A:List Nat)(s:S){R:Type}(Q:AE->St->Prop)(kn:S->Option R)(kx:Nat->S->Option R)(kr kp:S->Option R)(r:R):Prop where
 n:∀s',Keeps A s s'->kn s'=some r->W m (Q .normal) (enc s')
 x:∀i s',Keeps A s s'->kx i s'=some r->W m (Q (.exit i)) (enc s')
 rt:∀s',Keeps A s s'->kr s'=some r->W m (Q .ret) (enc s')
 p:∀s',Keeps A s s'->kp s'=some r->Q .pan (enc s')
 c:∀st,W m (Q .pan) st->Q .pan st
 d:D2->∀st st',Q .pan st->Q .pan st'
theorem Post.sub{D2:Prop}{A B:List Nat}{s:S}{R:Type}{Q:AE->St->Prop}{kn:S->Option R}{kx:Nat->S->Option R}{kr kp:S->Option R}{r:R}(h:Post D2 m A s Q kn kx kr kp r)(hs:∀k∈B,k∈A):Post D2 m B s Q kn kx kr kp r:=
 ⟨λs' hk=>h.n s' (hk.sub hs),λi s' hk=>h.x i s' (hk.sub hs),λs' hk=>h.rt s' (hk.sub hs),λs' hk=>h.p s' (hk.sub hs),h.c,h.d⟩
theorem Post.from{D2:Prop}{A:List Nat}{s s1:S}{R:Type}{Q:AE->St->Prop}{kn:S->Option R}{kx:Nat->S->Option R}{kr kp:S->Option R}{r:R}(h:Post D2 m A s Q kn kx kr kp r)(hk0:Keeps A s s1):Post D2 m A s1 Q kn kx kr kp r:=
 ⟨λs' hk=>h.n s' (hk0.trans hk),λi s' hk=>h.x i s' (hk0.trans hk),λs' hk=>h.rt s' (hk0.trans hk),λs' hk=>h.p s' (hk0.trans hk),h.c,h.d⟩
theorem NR{D2:Prop}{A:List Nat}{s s':S}{R:Type}{Q:AE->St->Prop}{kn:S->Option R}{kx:Nat->S->Option R}{kr kp:S->Option R}{r:R}{xs:List (Nat×Sh)}{c:XT xs}{key:Nat}(hpost:Post D2 m A s Q kn kx kr kp r)(hwf:W0 xs=true)(hok:xs.all (λx=>x.2.okAt A s)=true)
 (hk:Keeps A s s') (hi:inj xs key s'=some c) (hd:jC s (λkey s=>match key with|0=>kn s|1=>kr s|2=>kp s|i+3=>kx i s) xs c=some r):
 match key with
 |0=>W m (Q .normal) (enc s')
 |1=>W m (Q .ret) (enc s')
 |2=>Q .pan (enc s')
 |i+3=>W m (Q (.exit i)) (enc s'):=by
 obtain⟨sh,h1,c',h2,h3⟩:=AH hi hd
 have hokx:=PY (j_.1 hok _ h1)
 have hwfx:sh.wfB=true:=j_.1 hwf _ h1
 have hle:=(Kb (s0:=s) hwfx h2 (kept hokx hk h2)).weak (m:=m)
 have hkb:=ES hokx c'
 match key,h3 with
 |0,h3=>exact W.from hle (hpost.n _ hkb h3)
 |1,h3=>exact W.from hle (hpost.rt _ hkb h3)
 |2,h3=>exact hpost.c _ (W.to _ hle (hpost.p _ hkb h3))
 |i+3,h3=>exact W.from hle (hpost.x i _ hkb h3)
theorem xi{D2:Prop}(hO:OracleOk P O):∀(tc:TC) (R:Type) (s:S) (kn:S->Option R) (kx:Nat->S->Option R) (kr kp:S->Option R) (r:R) (Q:AE->St->Prop),tc.wf P m=true->(tc.noD2=false->D2)->DR O n R tc s kn kx kr kp=some r->Post D2 m tc.asg s Q kn kx kr kp r->KN P m tc.er Q (enc s):=by
 intro tc
 induction tc with
 |skip=>intro R s kn kx kr kp r Q _ _ h hp;exact hp.n s (Keeps.refl _ _) h
 |region ops=>
  intro R s kn kx kr kp r Q hw hz h hp
  simp only[TC.wf,a_]at hw
  exact iZ hO ops R s kn kp r _ _ hw.1.1 hw.1.2 hw.2 h (λs' hk hh=>hp.n s' hk hh) λs' hk hh=>hp.p s' hk hh
 |draw k ops af=>
  intro R s kn kx kr kp r Q hw hz h hp
  simp only[TC.wf,a_]at hw
  exact W.mk (QV hO ops k R s kn kp r _ _ _ hw.2 hw.1.1.1 hw.1.1.2 hw.1.2 h (Ext.refl _) (λs' hk hh=>hp.n s' hk hh) λs' hk hh=>hp.p s' hk hh)
 |draw2 r0 pre tl af=>
  intro R s kn kx kr kp r Q hw hz h hp
  simp only[TC.wf,a_,decide_eq_true_eq]at hw
  obtain⟨⟨⟨⟨⟨⟨w1,w2⟩,w3⟩,w4⟩,w5⟩,w6⟩,w7⟩:=hw
  have ha:∀k,k∈p7 pre\/k∈tl.asg->k∈(TC.draw2 r0 pre tl af).asg:=λk hk=>c_.2 hk
  refine W.to _ (Jf (s:=s) r0) ?_
  have hl:(Hr pre).length=pre.length:=by simp[Hr]
  have hd:(Hr pre++tl.er none).drop (pre.map λp=>(p.j,p.b)).length=tl.er none:=by
   rw[d_,<-hl];exact List.drop_left
  have hm:((pre.map λp=>(p.j,p.b)).map λu=>(u.1,u.2,(Hr pre++tl.er none).getD u.1 default))=pre.map λp=>(p.j,p.b,p.so):=by
   rw[M_]
   refine W_ λp hp'=>?_
   simp only[Function.comp]
   rw[To w6 hp' (by simpa using j_.1 w7 p hp')]
  show um P _ (λst=>sops P m ((Hr pre++tl.er none).drop (pre.map λp=>(p.j,p.b)).length) st (Q .normal) (Q .pan)) _ [] _ _
  rw[hm,hd]
  have k0:∀{A:List Nat} {s':S},Keeps A ⟨s.fr,s.hp++P_ r0 .free⟩ s'->Keeps A s s':=λhk=>(Keeps.fr (s':=⟨s.fr,s.hp++P_ r0 .free⟩) rfl).trans hk
  refine QY hO pre [] _ _ kp r w4 w5 (λa ha'=>by cases ha') h (λs' hk hh=>?_) λs' hk hh=>?_
  ·exact iZ hO tl R s' kn kp r _ _ w1 w2 w3 hh (λs2 hk2 hh2=>hp.n s2 (((k0 hk).sub λk hk=>ha k (.inl hk)).trans (hk2.sub λk hk=>ha k (.inr hk))) hh2) λs2 hk2 hh2=>hp.p s2 (((k0 hk).sub λk hk=>ha k (.inl hk)).trans (hk2.sub λk hk=>ha k (.inr hk))) hh2
  ·exact λst=>hp.d (hz rfl) _ _ (hp.p s' ((k0 hk).sub λk hk=>ha k (.inl hk)) hh)
 |regL pre=>
  intro R s kn kx kr kp r Q hw hz h hp
  exact BZ hO pre s kn kp r hw h (λs' hk hh=>hp.n s' hk hh) λs' hk hh=>hp.p s' hk hh
 |seq a b iha ihb=>
  intro R s kn kx kr kp r Q hw hz h hp
  simp only[TC.wf,a_]at hw
  have ha:∀k∈a.asg,k∈(TC.seq a b).asg:=λk hk=>C_ _ hk
  have hb:∀k∈b.asg,k∈(TC.seq a b).asg:=λk hk=>F_ _ hk
  refine iha R s _ kx kr kp r (AE.then m (KN P m b.er Q) Q) hw.1 (λe=>hz (by rw[TC.noD2,e];rfl)) h ⟨λs' hk hh=>?_,λi s' hk hh=>hp.x i s' (hk.sub ha) hh,λs' hk hh=>hp.rt s' (hk.sub ha) hh,λs' hk hh=>hp.p s' (hk.sub ha) hh,hp.c,hp.d⟩
  exact W.mk (W.mk (ihb R s' kn kx kr kp r Q hw.2 (λe=>hz (by rw[TC.noD2,e,aT_])) hh ((hp.from (hk.sub ha)).sub hb)))
 |cond x a b iha ihb=>
  intro R s kn kx kr kp r Q hw hz h hp
  simp only[TC.wf,a_]at hw
  have ha:∀k∈a.asg,k∈(TC.cond x a b).asg:=λk hk=>C_ _ hk
  have hb:∀k∈b.asg,k∈(TC.cond x a b).asg:=λk hk=>F_ _ hk
  simp only[DR]at h
  split at h
  ·rename_i t hx
   refine W.mk ⟨_,aA hw.1.1 hx,_,rfl,t,rfl,λe=>?_,λe=>?_⟩
   ·subst e;exact iha R s kn kx kr kp r Q hw.1.2 (λe=>hz (by rw[TC.noD2,e];rfl)) h (hp.sub ha)
   ·subst e;exact ihb R s kn kx kr kp r Q hw.2 (λe=>hz (by rw[TC.noD2,e,aT_])) h (hp.sub hb)
  ·cases h
 |block id a iha=>
  intro R s kn kx kr kp r Q hw hz h hp
  refine iha R s kn _ kr kp r (AE.inBlock id Q) hw hz h ⟨hp.n,λi s' hk hh=>?_,hp.rt,hp.p,hp.c,hp.d⟩
  have hh':(bif m_ i id then kn s' else kx i s')=some r:=hh
  rw[fS]at hh'
  show W m (λst=>if i=id then Q .normal st else Q (.exit i) st) (enc s')
  by_cases hi:i=id
  ·subst hi
   rw[decide_eq_true rfl]at hh'
   simp only[if_true]
   exact hp.n s' hk hh'
  ·rw[decide_eq_false hi]at hh'
   simp only[if_neg hi]
   exact hp.x i s' hk hh'
 |loop sh xs a iha=>
  intro R s kn kx kr kp r Q hw hz h hp
  simp only[TC.wf,a_]at hw
  obtain⟨⟨hw1,hw2⟩,hw3⟩:=hw
  simp only[DR]at h
  split at h
  ·rename_i c hc
   obtain⟨hok,h2⟩:=aO h
   simp only[a_]at hok
   have hoks:=PY hok.1
   obtain⟨t,ht,hd⟩:=cA h2
   have hle0:Weak m (enc s) (enc (unpack sh.sl c (sh.base s))):=(Kb (s0:=s) hw1 hc λk v hk=>(kF hk).2.1).weak
   refine W.to _ hle0 ⟨n,?_⟩
   have key:∀(N:Nat) (c:HL sh.sl),aK N (λc=>DR O n (HL sh.sl⊕XT xs) a (unpack sh.sl c (sh.base s)) (λs=>match pack sh s with|some c=>some (.inl c)|none=>none)
    (λi s=>match inj xs (i+3) s with|some c=>some (.inr c)|none=>none) (λs=>match inj xs 1 s with|some c=>some (.inr c)|none=>none) (λs=>match inj xs 2 s with|some c=>some (.inr c)|none=>none)) c=some t->K5 m (KN P m a.er) Q N (enc (unpack sh.sl c (sh.base s))):=by
    intro N
    induction N with
    |zero=>intro c h;cases h
    |succ N ihN=>
     intro c h
     simp only[aK]at h
     obtain⟨o,ho,h1⟩:=cA h
     have hk0:=ES hoks c
     refine iha _ (unpack sh.sl c (sh.base s)) _ _ _ _ o (AE.then m (K5 m (KN P m a.er) Q N) Q) hw3 hz ho ⟨λs' hk hh=>?_,λi s' hk hh=>?_,λs' hk hh=>?_,λs' hk hh=>?_,hp.c,hp.d⟩
     ·split at hh
      ·rename_i c' hc'
       cases hh
       exact W.mk (W.to _ (Kb (s0:=s) hw1 hc' (kept hoks (hk0.trans hk) hc')).weak (ihN c' h1))
      ·cases hh
     ·split at hh
      ·rename_i c' hc'
       cases hh
       cases h1
       exact NR hp hw2 hok.2 (hk0.trans hk) hc' hd
      ·cases hh
     ·split at hh
      ·rename_i c' hc'
       cases hh
       cases h1
       exact NR hp hw2 hok.2 (hk0.trans hk) hc' hd
      ·cases hh
     ·split at hh
      ·rename_i c' hc'
       cases hh
       cases h1
       exact NR hp hw2 hok.2 (hk0.trans hk) hc' hd
      ·cases hh
   exact key n c ht
  ·cases h
 |exit id=>intro R s kn kx kr kp r Q _ _ h hp;exact hp.x id s (Keeps.refl _ _) h
 |ret=>intro R s kn kx kr kp r Q _ _ h hp;exact hp.rt s (Keeps.refl _ _) h
 |adj l a iha=>
  intro R s kn kx kr kp r Q hw hz h hp
  simp only[TC.wf,a_]at hw
  simp only[DR]at h
  obtain⟨s1,hs1,h⟩:=zU h
  obtain⟨e1,e2⟩:=tJ hw.1 hs1
  exact SH e1 (iha R s1 kn kx kr kp r Q hw.2 hz h (hp.from (e2 _)))
 |after a l iha=>
  intro R s kn kx kr kp r Q hw hz h hp
  simp only[TC.wf,a_]at hw
  refine iha R s _ kx kr kp r Q hw.2 hz h ⟨λs' hk hh=>?_,hp.x,hp.rt,hp.p,hp.c,hp.d⟩
  obtain⟨s1,hs1,hh⟩:=zU hh
  obtain⟨e1,e2⟩:=tJ hw.1 hs1
  exact W.from e1 (hp.n s1 (hk.trans (e2 _)) hh)
 |cut xs a iha=>
  intro R s kn kx kr kp r Q hw hz h hp
  simp only[TC.wf,a_]at hw
  simp only[DR]at h
  obtain⟨hok,h2⟩:=aO h
  obtain⟨t,ht,hd⟩:=cA h2
  exact iha _ s _ _ _ _ t Q hw.2 hz ht ⟨λs' hk hh=>NR hp hw.1 hok hk hh hd,λi s' hk hh=>NR hp hw.1 hok hk hh hd,λs' hk hh=>NR hp hw.1 hok hk hh hd,λs' hk hh=>NR hp hw.1 hok hk hh hd,hp.c,hp.d⟩
end
def Wp{α:Type}(m:Nat->Option α)(Q:α->Prop):Prop:=∃a,Q a/\∃n0,∀n,n0<=n->m n=some a
def Conv(tbl:Nat->Option Fun')(f:Nat)(ars:List V)(os:List Ob)(Q:Option S->Prop):Prop:=Wp (λn=>kS tbl n f ars os) Q
section
variable {α β:Type}
theorem aa{a:α}{Q:α->Prop}(h:Q a):Wp (λ_=>some a) Q:=⟨a,h,0,λ_ _=>rfl⟩
theorem ae{m:Nat->Option α}{f:Nat->α->Option β}{Q:β->Prop}(h:Wp m λa=>Wp (λn=>f n a) Q):Wp (λn=>G_ (m n) (f n)) Q:=by
 obtain⟨a,⟨b,hb,n1,h1⟩,n0,h0⟩:=h
 refine⟨b,hb,max n0 n1,λn hn=>?_⟩
 have e:=h0 n (by omega)
 show G_ (m n) (f n)=_
 rw[e]
 exact h1 n (by omega)
theorem wp_mono{m:Nat->Option α}{Q Q':α->Prop}(h:Wp m Q)(hq:∀a,Q a->Q' a):Wp m Q':=let⟨a,ha,r⟩:=h;⟨a,hq a ha,r⟩
theorem ao{b:Bool}{m:Nat->Option α}{Q:α->Prop}(hb:b=true)(h:Wp m Q):Wp (λn=>aw b (m n)) Q:=by subst hb;exact h
theorem aJ{b:Bool}{m k:Nat->Option α}{Q:α->Prop}(ht:b=true->Wp m Q)(hf:b=false->Wp k Q):Wp (λn=>bif b then m n else k n) Q:=by
 cases b
 ·exact hf rfl
 ·exact ht rfl
theorem dZ{xs:List α}{i:Int}{f:Nat->α->Option β}{Q:β->Prop}{x:α}(h0:0<=i)(hx:xs[i.toNat]? =some x)(h:Wp (λn=>f n x) Q):Wp (λn=>G_ (aL xs i) (f n)) Q:=by
 have:aL xs i=some x:=by simp[aL,h0,hx]
 rw[show(λn=>G_ (aL xs i) (f n))=λn=>f n x by funext n;rw[this];rfl]
 exact h
theorem bm{xs:List α}{i:Nat}{f:Nat->α->Option β}{Q:β->Prop}{x:α}(hx:xs[i]? =some x)(h:Wp (λn=>f n x) Q):Wp (λn=>G_ xs[i]? (f n)) Q:=by
 rw[show(λn=>G_ xs[i]? (f n))=λn=>f n x by funext n;rw[hx];rfl]
 exact h
theorem wp_loop{σ τ:Type}{body:Nat->σ->Option (σ⊕τ)}{s0:σ}{Q:τ->Prop}(I:σ->Prop)(μ:σ->Nat)(h0:I s0)
 (h:∀s,I s->Wp (λn=>body n s) λr=>match r with| .inl s'=>I s'/\μ s'<μ s| .inr t=>Q t):Wp (λn=>aK n (body n) s0) Q:=by
 have key:∀(k:Nat) (s:σ),I s->μ s<=k->∃t,Q t/\∃n0,∀n m,n0<=n->k+1<=m->aK m (body n) s=some t:=by
  intro k
  induction k with
  |zero=>
   intro s hs hk
   obtain⟨r,hr,n0,hn⟩:=h s hs
   cases r with
   |inl s'=>have:=hr.2;omega
   |inr t=>
    refine⟨t,hr,n0,λn m h1 h2=>?_⟩
    obtain⟨m',rfl⟩:∃m',m=m'+1:=⟨m - 1,by omega⟩
    simp only[aK]
    have e:body n s=_:=hn n h1
    rw[e]
    rfl
  |succ k ih=>
   intro s hs hk
   obtain⟨r,hr,n0,hn⟩:=h s hs
   cases r with
   |inl s'=>
    obtain⟨t,ht,n1,hn1⟩:=ih s' hr.1 (by have:=hr.2;omega)
    refine⟨t,ht,max n0 n1,λn m h1 h2=>?_⟩
    obtain⟨m',rfl⟩:∃m',m=m'+1:=⟨m - 1,by omega⟩
    simp only[aK]
    have e:body n s=_:=hn n (by omega)
    rw[e]
    exact hn1 n m' (by omega) (by omega)
   |inr t=>
    refine⟨t,hr,n0,λn m h1 h2=>?_⟩
    obtain⟨m',rfl⟩:∃m',m=m'+1:=⟨m - 1,by omega⟩
    simp only[aK]
    have e:body n s=_:=hn n h1
    rw[e]
    rfl
 obtain⟨t,ht,n0,hn⟩:=key (μ s0) s0 h0 (ba_ _)
 exact⟨t,ht,max n0 (μ s0+1),λn hn'=>hn n n (by omega) (by omega)⟩
end
section
variable {tbl:Nat->Option Fun'}
theorem aV{f:Nat}{c:TF}{ars:List V}{os:List Ob}{G:ak->Nat->Option (Option S)}{Q:Option S->Prop}(ht:tbl f=some (.code c))(hl:(m_ os.length c.m&&aq_ ars.length c.ntmps)=true)(hx:∀O n,cR O n c ars os=G O n)(h:Wp (λn=>G (kS tbl n) n) Q):Conv tbl f ars os Q:=by
 obtain⟨a,ha,n0,hn⟩:=h
 refine⟨a,ha,n0+1,λn h1=>?_⟩
 obtain⟨m,rfl⟩:∃m,n=m+1:=⟨n - 1,by omega⟩
 simp only[kS,ht,hl,cond_true]
 rw[hx]
 exact hn m (by omega)
theorem SY{f:Nat}{d:TD}{ars:List V}{G:ak->Nat->Option (Option S)}{Q:Option S->Prop}(ht:tbl f=some (.dfr d))(hl:aq_ ars.length d.c.ntmps=true)(hx:∀O n,QW O n d ars=G O n)(h:Wp (λn=>G (kS tbl n) n) Q):Conv tbl f ars [] Q:=by
 obtain⟨a,ha,n0,hn⟩:=h
 refine⟨a,ha,n0+1,λn h1=>?_⟩
 obtain⟨m,rfl⟩:∃m,n=m+1:=⟨n - 1,by omega⟩
 have h0:(m_ ([]:List Ob).length 0&&aq_ ars.length d.c.ntmps)=true:=by rw[hl];rfl
 simp only[kS,ht,h0,cond_true]
 rw[hx]
 exact hn m (by omega)
def IS(sh:Sh)(s:S):Option (HL sh.sl):=bif m_ s.fr.length sh.n&&IM sh.n s.fr then pack sh s else none
def aU(tbl:Nat->Option Fun')(f:Nat)(ars:List V)(os:List Ob)(sh:Sh)(c:HL sh.sl):Prop:=∃n0,∀n,n0<=n->aH (kS tbl n) f ars os sh=some c
theorem aZ{f:Nat}{ars:List V}{os:List Ob}{sh:Sh}{c:HL sh.sl}(hp:IS sh (ii sh c)=some c)(h:Conv tbl f ars os (·=some (ii sh c))):aU tbl f ars os sh c:=by
 obtain⟨o,rfl,n0,hn⟩:=h
 refine⟨n0,λn h1=>?_⟩
 have e:kS tbl n f ars os=some (some (ii sh c)):=hn n h1
 unfold aH
 rw[e]
 exact hp
theorem au{f:Nat}{ars:List V}{os:List Ob}{sh:Sh}{β:Type}{k:Nat->HL sh.sl->Option β}{Q:β->Prop}{c:HL sh.sl}(h:aU tbl f ars os sh c)(hk:Wp (λn=>k n c) Q):Wp (λn=>G_ (aH (kS tbl n) f ars os sh) (k n)) Q:=by
 obtain⟨n0,hn⟩:=h
 exact ae ⟨c,hk,n0,hn⟩
theorem Io{f:Nat}{ars:List V}{os:List Ob}{Q Q':Option S->Prop}(h:Conv tbl f ars os Q)(hq:∀o,Q o->Q' o):Conv tbl f ars os Q':=wp_mono h hq
end
def RX.er:RX->RV
 | .tm t=>.tm t
 | .cell a t=>.cell a t.sz t.ag
structure Entry(P:Program)(f:Nat)(c:TF):Prop where
 body:∃fn,P.funcs[f]? =some fn/\fn.ntmps=c.ntmps/\fn.body.bind (cm P fn.ntmps)=some c.code.er.canon/\fn.results.toList.mapM (lC P)=some (c.res.map RX.er)
 ok:(c.code.er.okB&&c.code.wf P c.m&&c.sh.wfB&&aq_ c.m c.sh.sk.hp.length)=true
theorem ce{P:Program}{f:Nat}{c:TF}{fn:Func}(h0:P.funcs[f]? =some fn)(h:(fn.ntmps,fn.body.bind (cm P fn.ntmps),fn.results.toList.mapM (lC P),(c.code.er.okB&&c.code.wf P c.m&&c.sh.wfB&&aq_ c.m c.sh.sk.hp.length))=(c.ntmps,some c.code.er.canon,some (c.res.map RX.er),true)):Entry P f c:=by
 simp only[aS_.injEq]at h
 exact⟨⟨fn,h0,h.1,h.2.1,h.2.2.1⟩,h.2.2.2⟩
section
variable {P:Program} {O:ak} {n:Nat}
theorem wQ{s:S}:∀{l:List RX} {vs:List V},IY s l=some vs->(l.map RX.er).mapM (Hv (enc s))=some (vs.map aT)
 |[],vs,h=>by cases h;rfl
 | .tm t::l,vs,h=>by
  simp only[IY]at h
  split at h
  ·rename_i v hv
   split at h
   ·rename_i us hu
    cases h
    rw[q_,E_,wQ hu]
    have:Hv (enc s) (RX.tm t).er=some (aT v):=by show Av.look (enc s).fr t=_;rw[ct,hv];rfl
    rw[this];rfl
   ·cases h
  ·cases h
 | .cell a t::l,vs,h=>by
  simp only[IY]at h
  split at h
  ·rename_i id off hv
   split at h
   ·rename_i tid cs ho
    obtain⟨h1,h2⟩:=aO h
    have h3:=g_ h1
    split at h2
    ·rename_i us hu
     cases h2
     rw[q_,E_,wQ hu]
     have:Hv (enc s) (RX.cell a t).er=some (aT (whole t ((cs.drop off).take t.sz))):=by
      show(Av.look (enc s).fr a).bind _=_
      rw[ct,hv]
      show(match(enc s).hp[id]? with
       |some (.box _ cs)=>if off+t.sz<=cs.length/\(t.ag=false->t.sz=1)then some (ni t.ag ((cs.drop off).take t.sz))else none
       |_=>none)=_
      rw[bY,ho]
      show(if off+t.sz<=(cs.map aM).length/\(t.ag=false->t.sz=1)then some (ni t.ag (((cs.map aM).drop off).take t.sz))else none)=_
      rw[if_pos ⟨by simpa using h3,fo⟩,Cs,ah_,aH_]
      intro hag
      exact Cc h3 (fo hag)
     rw[this];rfl
    ·cases h2
   ·cases h
  ·cases h
theorem sD:∀(vs:List V) (k:Nat),(dW k vs).map (λx=>(x.1,aT x.2))=vL k (vs.map aT)
 |[],_=>rfl
 |v::vs,k=>by
  simp only[dW,q_,vL,sD vs (k+1)]
theorem C1:∀(vs:List V) (k i:Nat),lk (dW k vs) (k+i)=vs[i]?
 |[],_,_=>by simp[dW,lk]
 |v::vs,k,i=>by
  simp only[dW,lk,fS]
  cases i with
  |zero=>simp
  |succ i=>
   rw[decide_eq_false (by omega:¬k+(i+1)=k)]
   simp only[cond_false,List.getElem?_cons_succ]
   rw[show k+(i+1)=(k+1)+i by omega]
   exact C1 vs (k+1) i
theorem kf:∀(l:List Slot) (c:HL l) (b:S),(unpack l c b).fr.length=b.fr.length+(l.filter λx=>match x with| .tm _ _=>true|_=>false).length
 |[],_,_=>rfl
 | .tm j t::l,c,b=>by
  show(unpack l c.2 ⟨(j,.d t c.1)::b.fr,b.hp⟩).fr.length=_
  rw[kf l]
  simp only[A_,if_true,I_]
  omega
 | .cell id j t::l,c,b=>by
  show(unpack l c.2 ⟨b.fr,_⟩).fr.length=_
  rw[kf l]
  simp[A_]
 | .vec _ _ _::l,c,b=>by
  show(unpack l c.2 ⟨b.fr,_⟩).fr.length=_
  rw[kf l]
  simp[A_]
 | .map _ _ _ _ _::l,c,b=>by
  show(unpack l c.2 ⟨b.fr,_⟩).fr.length=_
  rw[kf l]
  simp[A_]
 | .tree _ _ _ _::l,c,b=>by
  show(unpack l c.2 ⟨b.fr,_⟩).fr.length=_
  rw[kf l]
  simp[A_]
 | .treeH _ _ _ _ _ _::l,c,b=>by
  show(unpack l c.2 ⟨b.fr,_⟩).fr.length=_
  rw[kf l]
  simp[A_]
theorem TT(sh:Sh)(c:HL sh.sl):(ii sh c).fr.length=sh.n:=by
 unfold ii
 rw[kf,base_nil];rfl
def Ka(v:V):BV:=match v with
 | .agg vs=>.pv ((aT (.agg vs)).toPV.getD .any)
 |v=>aM v
theorem PZ{v:V}(h:v.one=true):aT v= .b (Ka v)\/∃p,(aT v).toPV=some p/\Ka v= .pv p:=by
 cases v with
 |agg vs=>
  obtain⟨cs,hcs⟩:=w9 vs h
  have:(aT (.agg vs)).toPV=some (.agg cs):=by
   show((vs.map aM).mapM BV.toPV).map PV.agg=_
   rw[hcs];rfl
  exact .inr ⟨_,this,by simp only[Ka,this];rfl⟩
 |tup vs=>cases h
 |_=>exact .inl rfl
theorem TS{v:V}(h:v.one=true):∀i∈(Ka v).ids,i∈v.ids:=λi hi=>by
 rw[qg]
 rcases PZ h with e|⟨p,_,e⟩
 ·rw[e];exact hi
 ·rw[e]at hi;cases hi
theorem Wz{v v':V}(h:v.one=true)(hle:LeA (aT v) (aT v')):LeB (Ka v) (aM v'):=by
 cases hv:v.isA
 ·have e:Ka v=aM v:=by cases v<;>first|rfl|cases hv
  rw[mD hv]at hle
  rw[e]
  exact V1 hle
 ·cases v with
  |agg vs=>
   obtain⟨cs,hcs⟩:=w9 vs h
   have ht:(AV.agg (vs.map aM)).toPV=some (.agg cs):=by
    show((vs.map aM).mapM BV.toPV).map PV.agg=_
    rw[hcs];rfl
   have e:Ka (.agg vs)= .pv (.agg cs):=by
    show BV.pv ((AV.agg (vs.map aM)).toPV.getD .any)=_
    rw[ht];rfl
   rw[e]
   cases hv':v'.isA
   ·rw[mD hv']at hle
    generalize aM v'=z at hle⊢
    have hle':LeA (.agg (vs.map aM)) (.b z):=hle
    cases hle' with
    |data _ q hq=>
     rw[ht]at hq;cases hq;exact .refl _
    |any=>exact .any _
   ·cases v' with
    |agg vs=>exact .any _
    |tup vs=>exact .any _
    |_=>cases hv'
  |tup vs=>cases h
  |_=>cases hv
theorem Ck{L:Nat}{x:BV}(h:∀i∈x.ids,i<L):x.ren ((O_ L).idxOf ·)=x:=by
 have key:∀i,i<L->(O_ L).idxOf i=i:=λi hi=>by
  have h1:=rM (ids:=O_ L) (i:=i) (J_.2 hi)
  obtain⟨h2,h3⟩:=i_.1 h1
  rw[List.getElem_range]at h3
  exact h3
 cases x<;>simp only[BV.ren]<;>simp only[BV.ids,o_,forall_eq]at h<;>first
  |rfl
  |(rw[key _ h])
  |skip
 rename_i f ids
 congr 1
 have:∀l:List Nat,(∀i∈l,i<L)->l.map ((O_ L).idxOf ·)=l:=by
  intro l hl
  induction l with
  |nil=>rfl
  |cons a l ih=>rw[q_,key a (hl a (by simp)),ih λi hi=>hl i (by simp[hi])]
 exact this ids h
theorem uj{L:Nat}:∀{xs:List BV},(∀i∈xs.flatMap BV.ids,i<L)->xs.map (BV.ren ((O_ L).idxOf ·))=xs
 |[],_=>rfl
 |x::xs,h=>by
  rw[q_,Ck λi hi=>h i (by simp[hi]),uj λi hi=>h i (by
   simp only[ad_,c_];exact .inr hi)]
theorem Ot{L:Nat}{x:AV}(h:∀i∈x.ids,i<L):x.ren ((O_ L).idxOf ·)=x:=by
 cases x with
 |b x=>simp only[AV.ren,Ck h]
 |agg xs=>simp only[AV.ren,uj h]
 |tup xs=>simp only[AV.ren,uj h]
theorem Ou{L:Nat}{o:AObj}(h:∀i∈o.ids,i<L):o.ren ((O_ L).idxOf ·)=o:=by
 cases o with
 |box t cs=>simp only[AObj.ren,uj h]
 |tree e sz k xs hole=>
  cases hole with
  |none=>rfl
  |some q=>obtain⟨i,j,b⟩:=q;simp only[AObj.ren,J8,Ck (show ∀i∈b.ids,i<L from h)]
 |_=>rfl
theorem R7{m L T:Nat}{r:AV}{hp:List AObj}(hL:L<=hp.length)(hm:m<=L)(hr:∀i∈r.ids,i<L)(ho:∀o∈hp.take L,∀i∈o.ids,i<L):Weak m ⟨[(T,r)],hp⟩ ⟨[(T,r)],hp.take L⟩:=by
 refine Nb (O_ L) List.nodup_range (λk hk=>by rw[V_ (by omega)]) (λk y hk=>⟨y,hk,λi hi=>?_,?_⟩) (by simp;omega) λj o' hj=>?_
 ·simp only[Av.look]at hk
  split at hk
  ·cases hk;exact J_.2 (hr i hi)
  ·cases hk
 ·simp only[Av.look]at hk
  split at hk
  ·cases hk;rw[Ot hr]
  ·cases hk
 ·have hj':(hp.take L)[j]? =some o':=hj
  have hjl:=(i_.1 hj').1
  have hjL:j<L:=by rw[af_]at hjl;omega
  have hmem:=p_ hj'
  refine⟨j,o',by rw[V_ hjL],?_,λi hi=>J_.2 (ho o' hmem i hi),(Ou (ho o' hmem)).symm⟩
  rw[Y_ hjL]at hj'
  exact hj'
def Ia(o:Option S)(out:EH):Prop:=match o with
 |some s=>out=some (aT (res s.fr.length s.fr),s.hp.map bU)
 |none=>out=none
theorem mE{c:TF}{s:S}{o:Option S}{m:Nat}(hw:c.sh.wfB=true)(hm:m<=c.sh.sk.hp.length)(h:Fz c s=some o):W m (CY m (c.res.map RX.er) (Ia o) .normal) (enc s):=by
 unfold Fz at h
 split at h
 ·rename_i vs hvs
  obtain⟨h1,h2⟩:=aO h
  simp only[a_,j_,z_]at h1
  obtain⟨⟨⟨⟨g1,g2⟩,g3⟩,g4⟩,g5⟩:=h1
  have hL:=g_ g1
  have hn:=b_ g4
  generalize hLe:c.sh.sk.hp.length=L at*
  split at h2
  ·rename_i x hx
   unfold aW at h2
   cases h2
   have hk0:∀k v,lk (dG (⟨[],[]⟩:S).fr c.sh.keep) k=some v->lk (dW 0 vs) k=some v:=by
    intro k v hv
    have:=(kF hv).2.1
    cases this
   have hP:=FV (s0:=⟨[],[]⟩) hw hx hk0
   have hS:=hP.le
   have hlk:∀i,lk (dW 0 vs) i=vs[i]? :=λi=>by have:=C1 vs 0 i;rw[T_]at this;exact this
   have hlen:(ii c.sh x).hp.length=L:=by
    have:(s.hp.take L).length=(ii c.sh x).hp.length:=hP.len
    rw[<-this,af_];omega
   obtain⟨r,r1,r2,r3⟩:∃r:AV,IA (vs.map aT) r/\(∀i∈r.ids,i<L)/\LeA r (aT (res (ii c.sh x).fr.length (ii c.sh x).fr)):=by
    rw[TT,hn]
    have hids:∀v∈vs,∀i∈v.ids,i<L:=λv hv i hi=>g_ (g3 v hv i hi)
    have many:vs.length≠1->∃r:AV,(∃bs:List BV,r= .tup bs/\bs.length=(vs.map aT).length/\∀(i:Nat) (x:AV) (b:BV),(vs.map aT)[i]? =some x->bs[i]? =some b->x= .b b\/∃p,x.toPV=some p/\b= .pv p)/\(∀i∈r.ids,i<L)/\LeA r (aT (res vs.length (ii c.sh x).fr)):=by
     intro hne
     have hone:∀v∈vs,v.one=true:=λv hv=>by
      rcases g5 with g5|g5
      ·exact absurd (b_ g5) hne
      ·exact g5 v hv
     refine⟨.tup (vs.map Ka),⟨_,rfl,by simp,λi y b hy hb=>?_⟩,λi hi=>?_,?_⟩
     ·simp only[h_,f_]at hy hb
      obtain⟨v,hv,rfl⟩:=hy
      obtain⟨v',hv',rfl⟩:=hb
      rw[hv]at hv';cases hv'
      exact PZ (hone v (p_ hv))
     ·obtain⟨b,hb,hib⟩:=t_.1 (show i∈(vs.map Ka).flatMap BV.ids from hi)
      obtain⟨v,hv,rfl⟩:=R_.1 hb
      exact hids v hv i (TS (hone v hv) i hib)
     ·unfold res
      have:m_ vs.length 1=false:=by rw[fS];exact decide_eq_false hne
      rw[this]
      refine .tup _ _ (by simp[Rw]) λi a b ha hb=>?_
      simp only[Rw,h_,f_]at ha hb
      obtain⟨v,hv,rfl⟩:=ha
      obtain⟨w,⟨j,hj,rfl⟩,rfl⟩:=hb
      have hil:=(i_.1 hv).1
      rw[V_ hil]at hj
      cases hj
      cases hl:lk (ii c.sh x).fr i with
      |none=>exact .any _
      |some v'=>
       obtain⟨u,hu,hle⟩:=hP.fr i v' hl
       have hu':lk (dW 0 vs) i=some u:=hu
       rw[hlk,hv]at hu'
       cases hu'
       exact Wz (hone v (p_ hv)) hle
    match vs,many with
    |[v0],_=>
     refine⟨aT v0,rfl,λi hi=>hids v0 (by simp) i (by rw[qg];exact hi),?_⟩
     show LeA _ (aT ((lk (ii c.sh x).fr 0).getD .any))
     cases hl:lk (ii c.sh x).fr 0 with
     |none=>exact .any _
     |some v'=>
      obtain⟨u,hu,hle⟩:=hP.fr 0 v' hl
      have hu':lk (dW 0 [v0]) 0=some u:=hu
      rw[hlk]at hu'
      cases hu'
      exact hle
    |[],many=>exact many (by simp)
    |_::_::_,many=>exact many (by simp)
   refine W.mk (W.mk ⟨_,r,wQ hvs,r1,_,_,λT=>?_,rfl,by rw[d_,hlen];exact hm⟩)
   have hLh:L<=(enc s).hp.length:=by rw[oA];exact hL
   refine(R7 hLh hm r2 λo ho i hi=>?_).trans (LeS.weak ⟨λk y hk=>?_,?_,λi a b ha hb=>hS.hp i a b ?_ hb⟩)
   ·have ho':o∈(s.hp.map bU).take L:=ho
    rw[<-ah_]at ho'
    obtain⟨o1,h3,rfl⟩:=R_.1 ho'
    rw[<-Fq]at hi
    exact g_ (g2 o1 h3 i hi)
   ·simp only[Av.look]at hk⊢
    split at hk
    ·rename_i hkT
     cases hk
     exact⟨r,by rw[if_pos hkT],r3⟩
    ·cases hk
   ·show((s.hp.map bU).take L).length=((ii c.sh x).hp.map bU).length
    rw[d_,hlen,af_,d_];omega
   ·have ha':((s.hp.map bU).take L)[i]? =some a:=ha
    rw[<-ah_]at ha'
    exact ha'
  ·cases h2
 ·cases h
theorem NY(hm:P.follows .mixedOrders=true)(hO:OracleOk P O){f:Nat}{c:TF}{ars:List V}{os:List Ob}{o:Option S}(hE:Entry P f c)(hos:os.length=c.m)(hars:ars.length<=c.ntmps)(h:cR O n c ars os=some o):ACalls P f (ars.map aT) (os.map bU) (Ia o):=by
 obtain⟨fn,h1,h3,h24,h5⟩:=hE.body
 obtain⟨code,h2,h4⟩:=u_.1 h24
 have hok:=hE.ok
 simp only[a_]at hok
 obtain⟨⟨⟨k1,k2⟩,k3⟩,k4⟩:=hok
 have k5:=g_ k4
 have hol:(os.map bU).length=c.m:=by rw[d_,hos]
 have henc:(⟨vL 0 (ars.map aT),os.map bU⟩:St)=enc ⟨dW 0 ars,os⟩:=by
  simp only[enc,sD]
 refine QE hm h1 h2 h4 k1 h5 (by rw[d_,h3];exact hars) ?_
 rw[henc,hol]
 refine xi (D2:=True) hO c.code (Option S) _ _ _ _ _ o _ k2 (λ_=>trivial) h ⟨λs' _ hh=>mE k3 k5 hh,λi s' _ hh=>(by cases hh),λs' _ hh=>mE k3 k5 hh,λs' _ hh=>?_,λ_ ⟨_,_,hk⟩=>hk,λ_ _ _ hk=>hk⟩
 cases hh;exact rfl
structure EntryD(P:Program)(f:Nat)(d:TD):Prop where
 body:∃fn CA CB CH h j y3 p3 a3 y4 p4 a4,P.funcs[f]? =some fn/\fn.ntmps=d.c.ntmps/\
  fn.body=some (.seq CA (.seq (.region j #[⟨some d.t8,.makeFunc (.func h) #[] #[.tmp d.ta,.tmp d.tb],y3,p3,a3,none⟩,⟨none,.defer {callee:=.value (.tmp d.t8),args:= #[],argTypes:= #[]},y4,p4,a4,none⟩] false) CB))/\
  cm P fn.ntmps CA=some d.a.er.canon/\cm P fn.ntmps CB=some d.c.code.er.canon/\Catch P h CH/\cm P 5 CH=some d.h.er.canon/\fn.results.toList.mapM (lC P)=some (d.c.res.map RX.er)
 ok:(d.a.er.okB&&d.a.wf P 0&&d.c.code.er.okB&&d.c.code.wf P 2&&d.h.er.okB&&d.h.wf P 2&&d.c.sh.wfB&&aq_ (d.t8+1) d.c.ntmps&&d.c.code.noD2)=true
theorem AK{s:S}{t i:Nat}(h:yu s t i=true):Av.look (enc s).fr t=some (.b (.ptr i 0)):=by
 unfold yu at h
 split at h
 ·rename_i j o hv
  rw[a_]at h
  rw[ct,hv,b_ h.1,b_ h.2];rfl
 ·cases h
theorem Wx{s:S}{t:Nat}(h:XK s t=true):Av.look (enc s).fr t=none:=by
 unfold XK at h
 split at h
 ·cases h
 ·rename_i hv
  rw[ct,hv];rfl
theorem ua{rs:List RV}{K:EH->Prop}{st:St}(h:W 0 (CY 0 rs K .normal) st):CY 0 rs K .normal st:=let⟨_,e1,h1⟩:=h;W.from e1 h1
theorem NZ(hm:P.follows .mixedOrders=true)(hO:OracleOk P O){f:Nat}{d:TD}{ars:List V}{o:Option S}(hE:EntryD P f d)(hars:ars.length<=d.c.ntmps)(h:QW O n d ars=some o):ACalls P f (ars.map aT) [] (Ia o):=by
 obtain⟨fn,CA,CB,CH,hh,j,y3,p3,a3,y4,p4,a4,h1,h2,h3,h4,h5,h6,h7,h8⟩:=hE.body
 have hok:=hE.ok
 simp only[a_]at hok
 obtain⟨⟨⟨⟨⟨⟨⟨⟨k1,k2⟩,k3⟩,k4⟩,k5⟩,k6⟩,k7⟩,k8⟩,k9⟩:=hok
 have henc:(⟨vL 0 (ars.map aT),[]⟩:St)=enc ⟨dW 0 ars,[]⟩:=by
  simp only[enc,sD,aX_]
 refine Nu hm h1 h3 h4 k1 h5 k3 h7 k5 h6 h8 (by rw[d_,h2];exact hars) (by rw[h2];exact g_ k8) ?_
 rw[henc]
 refine xi (D2:=True) hO d.a (Option S) _ _ _ _ _ o _ k2 (λ_=>trivial) h ⟨λs1 _ hh=>?_,λi s' _ hh=>(by cases hh),λs' _ hh=>(by cases hh),λs' _ hh=>(by cases hh),λ_ ⟨_,_,hk,_⟩=>(by cases hk),λ_ _ _ ⟨hk,_⟩=>(by cases hk)⟩
 obtain⟨g1,g2⟩:=aO hh
 simp only[a_]at g1
 obtain⟨⟨⟨b1,b2⟩,b3⟩,b4⟩:=g1
 refine W.mk ⟨rfl,⟨Wx b3,AK b1,AK b2,by rw[oA];exact b_ b4⟩,?_⟩
 refine xi (D2:=False) hO d.c.code (Option S) _ _ _ _ _ o _ k4 (λe=>by rw[k9]at e;cases e) g2 ⟨λs' _ hh=>?_,λi s' _ hh=>(by cases hh),λs' _ hh=>?_,λs2 _ hh=>?_,λst ⟨s1,e1,e2⟩=>W.from e1 e2,λh=>h.elim⟩
 ·exact W.mk (ua (mE k7 (ar_ _) hh))
 ·exact W.mk (ua (mE k7 (ar_ _) hh))
 ·obtain⟨g3,g4⟩:=aO hh
  simp only[a_]at g3
  refine W.mk ⟨AK g3.1,AK g3.2,?_⟩
  exact xi (D2:=True) hO d.h (Option S) _ _ _ _ _ o _ k6 (λ_=>trivial) g4 ⟨λs' _ hh=>W.mk ⟨.inl rfl,ua (mE k7 (ar_ _) hh)⟩,λi s' _ hh=>(by cases hh),λs' _ hh=>W.mk ⟨.inr rfl,ua (mE k7 (ar_ _) hh)⟩,λs' _ hh=>(by cases hh),λ_ ⟨_,_,hk,_⟩=>(by rcases hk with hk|hk<;>cases hk),λ_ _ _ ⟨hk,_⟩=>(by rcases hk with hk|hk<;>cases hk)⟩
def Sp(P:Program)(f:Nat)(g:List V->Option S):Prop:=∀ars s,g ars=some s->ACalls P f (ars.map aT) [] (Ia (some s))
structure TblOk(P:Program)(tbl:Nat->Option Fun'):Prop where
 code:∀f c,tbl f=some (.code c)->Entry P (f%10000) c
 nat:∀f g,tbl f=some (.nat g)->Sp P (f%10000) g
 dfr:∀f d,tbl f=some (.dfr d)->EntryD P (f%10000) d
theorem IN(hm:P.follows .mixedOrders=true){tbl:Nat->Option Fun'}(hT:TblOk P tbl):∀n,OracleOk P (kS tbl n):=by
 have key:∀n f ars os o,kS tbl n f ars os=some o->ACalls P (f%10000) (ars.map aT) (os.map bU) (Ia o):=by
  intro n
  induction n with
  |zero=>intro f ars os o h;cases h
  |succ n ih=>
   intro f ars os o h
   have hO:OracleOk P (kS tbl n):=⟨λf ars os s hh=>ih f ars os (some s) hh,λf ars os hh=>ih f ars os none hh⟩
   simp only[kS]at h
   split at h
   ·rename_i c hc
    obtain⟨g1,g2⟩:=aO h
    rw[a_]at g1
    exact NY hm hO (hT.code f c hc) (b_ g1.1) (g_ g1.2) g2
   ·rename_i d hd
    obtain⟨g1,g2⟩:=aO h
    rw[a_]at g1
    obtain rfl:=List.eq_nil_of_length_eq_zero (b_ g1.1)
    exact NZ hm hO (hT.dfr f d hd) (g_ g1.2) g2
   ·rename_i g hg
    split at h
    ·split at h
     ·rename_i s hs
      cases h
      exact hT.nat f g hg ars s hs
     ·cases h
    ·cases h
   ·cases h
 exact λn=>⟨λf ars os s hh=>key n f ars os (some s) hh,λf ars os hh=>key n f ars os none hh⟩
theorem K2(hm:P.follows .mixedOrders=true){tbl:Nat->Option Fun'}(hT:TblOk P tbl){f:Nat}{ars:List V}{os:List Ob}{Q:Option S->Prop}(h:Conv tbl f ars os Q):∃o,Q o/\ACalls P (f%10000) (ars.map aT) (os.map bU) (Ia o):=by
 obtain⟨o,hQ,n0,hn⟩:=h
 have h1:=hn n0 (ba_ _)
 refine⟨o,hQ,?_⟩
 cases o with
 |some s=>exact(IN hm hT n0).ret f ars os s h1
 |none=>exact(IN hm hT n0).pan f ars os h1
def L5:List (Nat×Fun')->Nat->Option Fun'
 |[],_=>none
 |(k,e)::l,f=>bif m_ f k then some e else L5 l f
def XL(P:Program)(k:Nat):Fun'->Prop
 | .code c=>Entry P (k%10000) c
 | .dfr d=>EntryD P (k%10000) d
 | .nat g=>Sp P (k%10000) g
def AllOk(P:Program):List (Nat×Fun')->Prop
 |[]=>True
 |(k,e)::l=>XL P k e/\AllOk P l
theorem AllOk.get{l:List (Nat×Fun')}(h:AllOk P l){f:Nat}{e:Fun'}(he:L5 l f=some e):XL P f e:=by
 induction l with
 |nil=>cases he
 |cons x l ih=>
  obtain⟨k,e'⟩:=x
  simp only[L5,fS]at he
  by_cases hk:f=k
  ·subst hk
   rw[decide_eq_true rfl]at he
   cases he;exact h.1
  ·rw[decide_eq_false hk]at he
   exact ih h.2 he
theorem AllOk.tbl{l:List (Nat×Fun')}(h:AllOk P l):TblOk P (L5 l):=⟨λ_ _ he=>h.get he,λ_ _ he=>h.get he,λ_ _ he=>h.get he⟩
end
open Go Go.RowKit Go.Av Go.Deep Go.WideShapes
mutual
def TQ:Rx->Prop
 | .mk k l h ks=>(IntKind.i64.min<=k/\k<=IntKind.i64.max)/\(IntKind.i64.min<=l/\l<=IntKind.i64.max)/\(IntKind.i64.min<=h/\h<=IntKind.i64.max)/\ks.length<=maxLen/\Mk ks
def Mk:List Rx->Prop
 |[]=>True
 |r::rs=>TQ r/\Mk rs
end
def okD:(t:Ty)->t.den->Prop
 | .int k,x=>k.min<=x/\x<=k.max
 | .bool,_=>True
 | .str,x=>aZ_ x<=maxLen
 | .list t,x=>aZ_ x<=maxLen/\∀y∈x,okD t y
 | .unit,_=>True
 | .pair a b,x=>okD a x.1/\okD b x.2
 | .rx,x=>TQ x
theorem Cg:∀(l:List Rx),Mk l↔∀r∈l,TQ r
 |[]=>by simp[Mk]
 |r::rs=>by simp[Mk,Cg rs]
def Xz(P:Program)(t:TypeId):Bool:=match P.underlying t with
 |some (.struct fs)=>match fs.toList with
  |[f0,f1,f2,f3]=>(match P.underlying f0.type,P.underlying f1.type,P.underlying f2.type,P.underlying f3.type with
   |some (.int .i64),some (.int .i64),some (.int .i64),some (.slice e)=>m_ e t
   |_,_,_,_=>false)&&m_ f0.offset 0&&m_ f1.offset 1&&m_ f2.offset 2&&m_ f3.offset 3&&
    m_ (P.cellsOf f0.type) 1&&m_ (P.cellsOf f1.type) 1&&m_ (P.cellsOf f2.type) 1&&m_ (P.cellsOf f3.type) 1&&m_ (P.cellsOf t) 4
  |_=>false
 |_=>false
def W4(P:Program)(go:TypeId->Ty->Bool):List Field->Nat->Ty->Bool
 |[],_,.unit=>true
 |f::l,off,.pair a b=>m_ f.offset off&&m_ (P.cellsOf f.type) a.sz&&go f.type a&&W4 P go l (off+a.sz) b
 |_,_,_=>false
def W3(P:Program)(go:TypeId->Ty->Bool)(e:TypeId):Nat->Ty->Bool
 |0,.unit=>true
 |n+1,.pair a b=>m_ (P.cellsOf e) a.sz&&go e a&&W3 P go e n b
 |_,_=>false
def qn(P:Program):Nat->TypeId->Ty->Bool
 |0,_,_=>false
 |d+1,t,u=>match u with
  | .rx=>Xz P t
  | .bool=>(match P.underlying t with|some .bool=>true|_=>false)
  | .int k=>(match P.underlying t with|some (.int k')=>decide (k=k')|_=>false)
  | .str=>(match P.underlying t with|some .string=>true|_=>false)
  | .list a=>(match P.underlying t with|some (.slice e)=>m_ (P.cellsOf e) a.sz&&aq_ 1 a.sz&&qn P d e a|_=>false)
  |u=>(match P.underlying t with
   |some (.struct fs)=>m_ (P.cellsOf t) u.sz&&W4 P (qn P d) fs.toList 0 u
   |some (.array n e)=>m_ (P.cellsOf t) u.sz&&W3 P (qn P d) e n u
   |_=>false)
theorem PR{α:Type}{p:Nat->α->Prop}:∀(n:Nat),(∀i,i<n->∃x,p i x)->∃xs:List α,xs.length=n/\∀i x,xs[i]? =some x->p i x
 |0,_=>⟨[],rfl,λi x h=>by simp at h⟩
 |n+1,h=>by
  obtain⟨xs,h1,h2⟩:=PR (p:=p) n λi hi=>h i (by omega)
  obtain⟨x,hx⟩:=h n (by omega)
  refine⟨xs++[x],by simp[h1],λi y hy=>?_⟩
  rcases aj_ i xs.length with hi|hi
  ·rw[l_ hi]at hy;exact h2 i y hy
  ·rw[s_ hi]at hy
   have:i - xs.length=0:=by
    rcases Nat.eq_zero_or_pos (i - xs.length)with h3|h3
    ·exact h3
    ·rw[List.getElem?_eq_none (show [x].length<=i - xs.length from h3)]at hy;cases hy
   rw[this]at hy
   simp at hy
   subst hy
   have:i=n:=by omega
   subst this;exact hx
section
variable {H:Type} {enc:TypeId×Value->H} {P:Program} {w:World}
abbrev Rd(w:World)(u:Ty)(cs:List Value)(x:u.den):Prop:=okD u x/\cs.length=u.sz/\∀(j:Nat) (y:PV),(aC u x)[j]? =some y->∃c,cs[j]? =some c/\RelP (λb=>b<w.heap.size) w c y
theorem J4{k:IntKind}{n:Int}(hw:(Lit.int k n).wf=true):Rd w (.int k) [.int k n] n:=by
 refine⟨?_,rfl,λj y hy=>?_⟩
 ·show k.min<=n/\n<=k.max
  simpa[Lit.wf]using hw
 ·match j,hy with
  |0,hy=>cases hy;exact⟨_,rfl,.sc _⟩
theorem MJ{a:Ty}{e:TypeId}{n:Nat}{cs:List Value}{x:DataW H×List MemPlace}{t:TypeId}(ht:P.underlying t=some (.slice e))(hce:P.cellsOf e=a.sz)(hpos:1<=a.sz)
 (ih:∀(m:Nat) (cs:List Value) (d:DataW H) (ps:List MemPlace),m<n->DataW.trod enc P w 0 (λ_=>true) true m e cs=some (d,ps)->(∀p∈ps,p.block<w.heap.size)->∃x:a.den,Rd w a cs x)
 (h:DataW.trod enc P w 0 (λ_=>true) true n t cs=some x) (hlt:∀p∈x.2,p.block<w.heap.size):∃xs:List a.den,Rd w (.list a) cs xs:=by
 have h':=DataW.trod_slice ht h
 rcases open_slice ht h with⟨rfl,_⟩|⟨ad,len,cap,m,n',D,Pl,rfl,_,hl,hm,hmm,rfl,hx⟩
 ·refine⟨[],⟨ar_ _,λy hy=>by cases hy⟩,rfl,λj y hy=>?_⟩
  match j,hy with
  |0,hy=>cases hy;exact⟨_,rfl,.nil none 0⟩
 ·simp only[if_true]at hmm
  subst hmm
  obtain⟨el,rs,n2,hn2,_⟩:∃(el rs:List (DataW H×List MemPlace)) (n2:Nat),n=n2+1/\True:=by
   cases n with
   |zero=>simp[DataW.trod]at h
   |succ n=>exact⟨[],[],n,rfl,trivial⟩
  have hn':∀i,i<len->∃m',m'<n/\∃cs',w.cells? 0 (ad.add (i*P.cellsOf e)) (P.cellsOf e)=some cs'/\∃d ps,DataW.trod enc P w 0 (λ_=>true) true m' e cs'=some (d,ps)/\∀p∈ps,p.block<w.heap.size:=by
   intro i hi
   rcases h' with⟨hc,_⟩|⟨a',len',cap',elems,rest,n3,rfl,hc,hxx,_,_,_,hel,hget,_⟩
   ·simp at hc
   ·simp only[List.cons.injEq,Value.slice.injEq,k_,and_true]at hc
    obtain⟨rfl,rfl,rfl⟩:=hc
    have h4:=hget i hi
    rw[e_ (by omega)]at h4
    obtain⟨cs',h5,h6⟩:=u_.1 h4
    refine⟨n3,by omega,cs',h5,_,_,h6,λp hp=>?_⟩
    have h8:(elems[i]:DataW H×List MemPlace)∈elems++rest:=C_ _ (ae_ _)
    have h9:p∈(elems++rest).flatMap (·.2):=t_.2 ⟨_,h8,hp⟩
    have h10:=congrArg Prod.snd hxx
    simp only at h10
    refine hlt p ?_
    simp only
    rw[h10]
    exact F_ _ h9
  have step:∀i,i<len->∃x:a.den,∃cs',w.cells? 0 (ad.add (i*a.sz)) a.sz=some cs'/\Rd w a cs' x:=by
   intro i hi
   obtain⟨m',hm',cs',h1,d,ps,h2,h3⟩:=hn' i hi
   rw[hce]at h1
   obtain⟨x,hx⟩:=ih m' cs' d ps hm' h2 h3
   exact⟨x,cs',h1,hx⟩
  obtain⟨xs,hxl,hxs⟩:=PR len step
  refine⟨xs,⟨by rw[hxl];omega,λy hy=>?_⟩,rfl,λj y hy=>?_⟩
  ·obtain⟨i,hi⟩:=ai_ hy
   obtain⟨cs',_,h2⟩:=hxs i y hi
   exact h2.1
  ·rw[dU (t:=.list a) xs rfl]at hy
   match j,hy with
   |0,hy=>
    cases hy
    refine⟨_,rfl,?_⟩
    have hlen:(xs.map (aG a)).length=len:=by rw[d_,hxl]
    show RelP _ w (.slice (some ad) len m) (mF a.sz (xs.map (aG a)))
    rw[<-hlen]
    refine gy (by omega) λhp=>?_
    rw[hlen]at hp
    obtain⟨x0,hx0⟩:∃x0,xs[0]? =some x0:=⟨xs[0]'(by omega),e_ (by omega)⟩
    obtain⟨cs0,hc0,hr0⟩:=hxs 0 x0 hx0
    obtain⟨b,off,spot⟩:=ad
    have hspot:spot=none:=by
     obtain⟨_,hcl,hcg⟩:=World.cells?_some hc0
     have h1:=hcg 0 (by omega)
     rw[e_ (by omega)]at h1
     simpa[Addr.add]using World.cell?_spot h1
    subst hspot
    refine⟨b,off,rfl,?_,λp hp=>?_,λi j x y hx hy=>?_⟩
    ·refine hlt (.cell b off) (C_ _ (MemPlace.mem_row.2 ⟨0,?_,by simp⟩))
     rw[hce]
     exact Nat.mul_pos (by omega) hpos
    ·obtain⟨q,_,rfl⟩:=R_.1 hp
     exact aD a q
    ·rw[h_]at hx
     obtain⟨q,hq,rfl⟩:=f_.1 hx
     obtain⟨cs',h1,h2,h3,h4⟩:=hxs i q hq
     obtain⟨c,h5,h6⟩:=h4 j y hy
     refine⟨c,?_,h6⟩
     have hj:j<a.sz:=by rw[<-h3];exact(i_.1 h5).1
     have h7:=(World.cells?_some h1).2.2 j hj
     rw[add_plain,add_plain]at h7
     rw[h7,h5]
theorem VZ{n d:Nat}{cs:List Value}(ih:∀(t:TypeId) (u:Ty) (cs:List Value) (dd:DataW H) (ps:List MemPlace),qn P d t u=true->DataW.trod enc P w 0 (λ_=>true) true n t cs=some (dd,ps)->(∀p∈ps,p.block<w.heap.size)->∃x:u.den,Rd w u cs x):
 ∀(l:List Field) (off:Nat) (u:Ty),W4 P (qn P d) l off u=true->(∀f∈l,∃dd ps,DataW.trod enc P w 0 (λ_=>true) true n f.type ((cs.drop f.offset).take (P.cellsOf f.type))=some (dd,ps)/\∀p∈ps,p.block<w.heap.size)->
  ∃x:u.den,okD u x/\∀(j:Nat) (y:PV),(aC u x)[j]? =some y->∃c,cs[off+j]? =some c/\RelP (λb=>b<w.heap.size) w c y
 |[],off,u,hf,_=>by
  cases u<;>simp only[W4]at hf<;>try cases hf
  exact⟨(),trivial,λj y hy=>by simp[aC,aG,PV.cells]at hy⟩
 |f::l,off,u,hf,hl=>by
  cases u<;>simp only[W4]at hf<;>try cases hf
  rename_i a b
  simp only[a_]at hf
  obtain⟨⟨⟨h1,h2⟩,h3⟩,h4⟩:=hf
  have e1:=b_ h1
  have e2:=b_ h2
  obtain⟨dd,ps,h5,h6⟩:=hl f (by simp)
  rw[e1,e2]at h5
  obtain⟨x,x1,x2,x3⟩:=ih f.type a _ dd ps h3 h5 h6
  obtain⟨z,z1,z2⟩:=VZ ih l (off+a.sz) b h4 λg hg=>hl g (by simp[hg])
  refine⟨(x,z),⟨x1,z1⟩,λj y hy=>?_⟩
  have hc:aC (.pair a b) (x,z)=aC a x++aC b z:=rfl
  rw[hc]at hy
  have hla:=aD a x
  rcases aj_ j a.sz with hj|hj
  ·rw[l_ (by omega)]at hy
   obtain⟨c,c1,c2⟩:=x3 j y hy
   rw[Y_ hj,am_]at c1
   exact⟨c,c1,c2⟩
  ·rw[s_ (by omega),hla]at hy
   obtain⟨c,c1,c2⟩:=z2 _ y hy
   exact⟨c,by rw[<-c1];congr 1;omega,c2⟩
theorem VS{n d:Nat}{e:TypeId}{cs:List Value}(ih:∀(t:TypeId) (u:Ty) (cs:List Value) (dd:DataW H) (ps:List MemPlace),qn P d t u=true->DataW.trod enc P w 0 (λ_=>true) true n t cs=some (dd,ps)->(∀p∈ps,p.block<w.heap.size)->∃x:u.den,Rd w u cs x):
 ∀(k i0:Nat) (u:Ty),W3 P (qn P d) e k u=true->(∀i,i<k->∃dd ps,DataW.trod enc P w 0 (λ_=>true) true n e ((cs.drop ((i0+i)*P.cellsOf e)).take (P.cellsOf e))=some (dd,ps)/\∀p∈ps,p.block<w.heap.size)->
  ∃x:u.den,okD u x/\∀(j:Nat) (y:PV),(aC u x)[j]? =some y->∃c,cs[i0*P.cellsOf e+j]? =some c/\RelP (λb=>b<w.heap.size) w c y
 |0,i0,u,hf,_=>by
  cases u<;>simp only[W3]at hf<;>try cases hf
  exact⟨(),trivial,λj y hy=>by simp[aC,aG,PV.cells]at hy⟩
 |k+1,i0,u,hf,hl=>by
  cases u<;>simp only[W3]at hf<;>try cases hf
  rename_i a b
  simp only[a_]at hf
  obtain⟨⟨h2,h3⟩,h4⟩:=hf
  have e2:=b_ h2
  obtain⟨dd,ps,h5,h6⟩:=hl 0 (by omega)
  rw[Nat.add_zero]at h5
  obtain⟨x,x1,x2,x3⟩:=ih e a _ dd ps h3 h5 h6
  obtain⟨z,z1,z2⟩:=VS ih k (i0+1) b h4 λi hi=>by
   have:=hl (i+1) (by omega)
   rw[show i0+(i+1)=i0+1+i by omega]at this
   exact this
  refine⟨(x,z),⟨x1,z1⟩,λj y hy=>?_⟩
  have hc:aC (.pair a b) (x,z)=aC a x++aC b z:=rfl
  rw[hc]at hy
  have hla:=aD a x
  rcases aj_ j a.sz with hj|hj
  ·rw[l_ (by omega)]at hy
   obtain⟨c,c1,c2⟩:=x3 j y hy
   rw[Y_ (by omega),am_]at c1
   exact⟨c,c1,c2⟩
  ·rw[s_ (by omega),hla]at hy
   obtain⟨c,c1,c2⟩:=z2 _ y hy
   refine⟨c,?_,c2⟩
   rw[<-c1,az_,e2]
   congr 1
   omega
theorem VH:∀(n:Nat) (d:Nat) (t:TypeId) (u:Ty) (cs:List Value) (dd:DataW H) (ps:List MemPlace),qn P d t u=true->DataW.trod enc P w 0 (λ_=>true) true n t cs=some (dd,ps)->(∀p∈ps,p.block<w.heap.size)->∃x:u.den,Rd w u cs x:=by
 intro n
 induction n using Nat.strongRecOn with
 |ind n ih=>
 intro d t u cs dd ps hf h hlt
 cases d with
 |zero=>cases hf
 |succ d=>
 have agg:(∀a b,u= .pair a b->True)->u.ag=true->u≠.rx->(match P.underlying t with
  |some (.struct fs)=>m_ (P.cellsOf t) u.sz&&W4 P (qn P d) fs.toList 0 u
  |some (.array n e)=>m_ (P.cellsOf t) u.sz&&W3 P (qn P d) e n u
  |_=>false)=true->∃x:u.den,Rd w u cs x:=by
  intro _ _ _ hf
  split at hf
  ·rename_i fs ht
   rw[a_]at hf
   have e1:=b_ hf.1
   obtain⟨xs,m,rfl,hx,hcl,hxl,hel⟩:=DataW.trod_struct ht h
   simp only[aS_.injEq]at hx
   obtain⟨rfl,rfl⟩:=hx
   obtain⟨x,x1,x2⟩:=VZ (n:=m) (cs:=cs) (λt u cs dd ps hf h hlt=>ih m (by omega) d t u cs dd ps hf h hlt) fs.toList 0 u hf.2 λf hfm=>by
    obtain⟨i,hi⟩:=ai_ hfm
    have hi':fs[i]? =some f:=by rw[<-aC_];exact hi
    have h1:=hel i f hi'
    have hil:i<xs.length:=by rw[hxl];exact(ak_.1 hi').1
    rw[e_ hil]at h1
    exact⟨_,_,h1,λp hp=>hlt p (t_.2 ⟨_,ae_ hil,hp⟩)⟩
   refine⟨x,x1,by rw[hcl,e1],λj y hy=>?_⟩
   have:=x2 j y hy
   rw[T_]at this
   exact this
  ·rename_i k e ht
   rw[a_]at hf
   have e1:=b_ hf.1
   obtain⟨xs,m,rfl,hx,hcl,hxl,hel⟩:=DataW.trod_array ht h
   simp only[aS_.injEq]at hx
   obtain⟨rfl,rfl⟩:=hx
   obtain⟨x,x1,x2⟩:=VS (n:=m) (cs:=cs) (e:=e) (λt u cs dd ps hf h hlt=>ih m (by omega) d t u cs dd ps hf h hlt) k 0 u hf.2 λi hi=>by
    have h1:=hel i hi
    have hil:i<xs.length:=by omega
    rw[e_ hil]at h1
    rw[T_]
    exact⟨_,_,h1,λp hp=>hlt p (t_.2 ⟨_,ae_ hil,hp⟩)⟩
   refine⟨x,x1,by rw[hcl,e1],λj y hy=>?_⟩
   have:=x2 j y hy
   rw[aY_,T_]at this
   exact this
  ·cases hf
 cases u with
 |bool=>
  simp only[qn]at hf
  split at hf
  ·rename_i ht
   obtain⟨b,rfl,_⟩:=DataW.trod_bool ht h
   refine⟨b,trivial,rfl,λj y hy=>?_⟩
   match j,hy with
   |0,hy=>cases hy;exact⟨_,rfl,.sc _⟩
  ·cases hf
 |int k=>
  simp only[qn]at hf
  split at hf
  ·rename_i k' ht
   have:k=k':=by simpa using hf
   subst this
   obtain⟨z,rfl,_,hw⟩:=DataW.trod_int ht h
   exact⟨z,J4 hw⟩
  ·cases hf
 |str=>
  simp only[qn]at hf
  split at hf
  ·rename_i ht
   obtain⟨s,rfl,_,hs⟩:=DataW.trod_string ht h
   refine⟨s.data.toList,by simpa[okD]using hs,rfl,λj y hy=>?_⟩
   match j,hy with
   |0,hy=>
    cases hy
    refine⟨_,rfl,?_⟩
    show RelP _ w (.string s) (.sc (.string ⟨s.data.toList.toArray⟩))
    have:(⟨s.data.toList.toArray⟩:ByteArray)=s:=by simp
    rw[this]
    exact .sc _
  ·cases hf
 |list a=>
  simp only[qn]at hf
  split at hf
  ·rename_i e ht
   simp only[a_]at hf
   exact MJ ht (b_ hf.1.1) (g_ hf.1.2) (λm cs d' ps hm h hl=>ih m hm d e a cs d' ps hf.2 h hl) h hlt
  ·cases hf
 |unit=>exact agg (λ_ _ h=>by cases h) rfl (by simp) hf
 |pair a b=>exact agg (λ_ _ _=>trivial) rfl (by simp) hf
 |rx=>
  have hf0:Xz P t=true:=hf
  have hf':=hf0
  unfold Xz at hf'
  split at hf'
  ·rename_i fs ht
   split at hf'
   ·rename_i f0 f1 f2 f3 hfs
    simp only[a_]at hf'
    obtain⟨⟨⟨⟨⟨⟨⟨⟨⟨hu,o0⟩,o1⟩,o2⟩,o3⟩,c0⟩,c1⟩,c2⟩,c3⟩,c4⟩:=hf'
    split at hu
    ·rename_i e u0 u1 u2 u3
     have het:=b_ hu
     subst het
     obtain⟨xs,m,rfl,hx,hcl,hxl,hel⟩:=DataW.trod_struct ht h
     simp only[aS_.injEq]at hx
     obtain⟨rfl,rfl⟩:=hx
     have hfa:fs= #[f0,f1,f2,f3]:=by
      apply Array.toList_inj.1;rw[hfs]
     subst hfa
     have h4:xs.length=4:=hxl
     have e4:=b_ c4
     have get:∀(i:Nat) (f:Field),(#[f0,f1,f2,f3]:Array Field)[i]? =some f->P.cellsOf f.type=1->∃dd ps,DataW.trod enc P w 0 (λ_=>true) true m f.type ((cs.drop f.offset).take 1)=some (dd,ps)/\∀p∈ps,p.block<w.heap.size:=by
      intro i f hi hc1
      have h1:=hel i f hi
      have hil:i<xs.length:=by rw[h4];exact(ak_.1 hi).1
      rw[e_ hil,hc1]at h1
      exact⟨_,_,h1,λp hp=>hlt p (t_.2 ⟨_,ae_ hil,hp⟩)⟩
     obtain⟨d0,p0,g0,_⟩:=get 0 f0 rfl (b_ c0)
     obtain⟨d1,p1,g1,_⟩:=get 1 f1 rfl (b_ c1)
     obtain⟨d2,p2,g2,_⟩:=get 2 f2 rfl (b_ c2)
     obtain⟨d3,p3,g3,l3⟩:=get 3 f3 rfl (b_ c3)
     rw[b_ o0]at g0
     rw[b_ o1]at g1
     rw[b_ o2]at g2
     rw[b_ o3]at g3
     obtain⟨z0,hz0,_,w0⟩:=DataW.trod_int u0 g0
     obtain⟨z1,hz1,_,w1⟩:=DataW.trod_int u1 g1
     obtain⟨z2,hz2,_,w2⟩:=DataW.trod_int u2 g2
     obtain⟨ks,k1,k2,k3⟩:=MJ (a:=.rx) u3 e4 (by decide) (λm' cs d' ps hm h hl=>ih m' (by omega) (d+1) e .rx cs d' ps hf h hl) g3 l3
     match cs,(show cs.length=4 by rw[hcl,e4])with
     |[q0,q1,q2,q3],_=>
      simp only[List.drop_zero,List.drop_succ_cons,List.take_succ_cons,aW_,List.cons.injEq,and_true]at hz0 hz1 hz2
      subst hz0;subst hz1;subst hz2
      have w0':=(J4 (w:=w) w0).1
      have w1':=(J4 (w:=w) w1).1
      have w2':=(J4 (w:=w) w2).1
      refine⟨.mk z0 z1 z2 ks,⟨w0',w1',w2',k1.1,(Cg ks).2 k1.2⟩,rfl,λj y hy=>?_⟩
      rw[tj]at hy
      match j,hy with
      |0,hy=>cases hy;exact⟨_,rfl,.sc _⟩
      |1,hy=>cases hy;exact⟨_,rfl,.sc _⟩
      |2,hy=>cases hy;exact⟨_,rfl,.sc _⟩
      |3,hy=>
       have hy':some (aG (.list .rx) ks)=some y:=hy
       cases hy'
       obtain⟨c,e1,e2⟩:=k3 0 (aG (.list .rx) ks) (by rw[dU (t:=.list .rx) ks rfl];rfl)
       exact⟨c,by simpa using e1,e2⟩
    ·cases hu
   ·cases hf'
  ·cases hf'
end
open Go Go.RowKit Go.Av Go.WideShapes
@[reducible] def HD:List Ty->Type
 |[]=>Unit
 |t::l=>t.den×HD l
def yl:(us:List Ty)->HD us->List V
 |[],_=>[]
 |t::l,x=>.d t x.1::yl l x.2
def TO:(us:List Ty)->HD us->Prop
 |[],_=>True
 |t::l,x=>okD t x.1/\TO l x.2
def fitAll(P:Program):List TypeId->List Ty->Bool
 |[],[]=>true
 |t::ts,u::us=>qn P 64 t u&&fitAll P ts us
 |_,_=>false
def V8(P:Program)(ts:List TypeId):Bool:=ts.all λt=>P.readableRec t&&decide (t<P.types.size)
section
variable {H:Type} {enc:TypeId×Value->H} {P:Program} {w:World}
theorem Ue{d:Nat}{t:TypeId}{u:Ty}{r:Reach}{b0:Nat}{v:Value}{dd:DataW H}{ps:List MemPlace}(hf:qn P d t u=true)(hv:Value.okWide P w r b0 t v)(h:DataW.Trod enc P w 0 (λ_=>true) true t v dd ps)(hlt:∀p∈ps,p.block<w.heap.size):
 ∃x:u.den,okD u x/\RelP (λb=>b<w.heap.size) w v (aG u x):=by
 obtain⟨n,hn⟩:=h
 obtain⟨x,x1,x2,x3⟩:=VH n d t u _ dd ps hf hn hlt
 refine⟨x,x1,?_⟩
 have one:u.ag=false->v.cells= #[v]->RelP (λb=>b<w.heap.size) w v (aG u x):=λha hc=>by
  obtain⟨c,c1,c2⟩:=x3 0 (aG u x) (by rw[dU x ha];rfl)
  rw[hc]at c1
  cases c1;exact c2
 have many:u.ag=true->(∃cs,v= .agg cs)->RelP (λb=>b<w.heap.size) w v (aG u x):=λha ⟨cs,hc⟩=>by
  subst hc
  rw[ev x ha]
  have e:(Value.agg cs).cells=cs:=rfl
  rw[e]at x2 x3
  refine .agg cs _ (by rw[aD,<-x2];simp) λi a y ha hy=>?_
  obtain⟨c,c1,c2⟩:=x3 i y hy
  rw[aC_,ha]at c1
  cases c1;exact c2
 cases d with
 |zero=>simp[qn]at hf
 |succ d=>
  cases u with
  |bool=>
   simp only[qn]at hf
   split at hf
   ·rename_i ht;obtain⟨b,rfl⟩:=okWide_bool ht hv;exact one rfl rfl
   ·cases hf
  |int k=>
   simp only[qn]at hf
   split at hf
   ·rename_i ht;obtain⟨b,rfl⟩:=okWide_int ht hv;exact one rfl rfl
   ·cases hf
  |str=>
   simp only[qn]at hf
   split at hf
   ·rename_i ht;obtain⟨b,rfl⟩:=okWide_string ht hv;exact one rfl rfl
   ·cases hf
  |list a=>
   simp only[qn]at hf
   split at hf
   ·rename_i ht;obtain⟨a,l,c,rfl⟩:=okWide_slice ht hv;exact one rfl rfl
   ·cases hf
  |unit=>
   simp only[qn]at hf
   refine many rfl ?_
   split at hf
   ·rename_i ht;simp only[Value.okWide,ht]at hv;obtain⟨cs,h1,_⟩:=hv;exact⟨cs,h1⟩
   ·rename_i ht;simp only[Value.okWide,ht]at hv;obtain⟨cs,h1,_⟩:=hv;exact⟨cs,h1⟩
   ·cases hf
  |pair a b=>
   simp only[qn]at hf
   refine many rfl ?_
   split at hf
   ·rename_i ht;simp only[Value.okWide,ht]at hv;obtain⟨cs,h1,_⟩:=hv;exact⟨cs,h1⟩
   ·rename_i ht;simp only[Value.okWide,ht]at hv;obtain⟨cs,h1,_⟩:=hv;exact⟨cs,h1⟩
   ·cases hf
  |rx=>
   have hf0:Xz P t=true:=hf
   refine many rfl ?_
   unfold Xz at hf0
   split at hf0
   ·rename_i ht;simp only[Value.okWide,ht]at hv;obtain⟨cs,h1,_⟩:=hv;exact⟨cs,h1⟩
   ·cases hf0
theorem My:∀(ts:List TypeId) (us:List Ty) (vs:List Value) (ds:List (DataW H)) (ps:List MemPlace),fitAll P ts us=true->DataW.TrodAll enc P w 0 (λ_=>true) true ts vs ds ps->(∀(j:Nat) (t:TypeId) (v:Value),ts[j]? =some t->vs[j]? =some v->∃r b0,Value.okWide P w r b0 t v)->(∀p∈ps,p.block<w.heap.size)->
 ∃xs:HD us,TO us xs/\vs.length=(yl us xs).length/\∀(i:Nat) (v:Value) (x:AV),vs[i]? =some v->((yl us xs).map aT)[i]? =some x->RelA [] (λb=>b<w.heap.size) w v x
 |[],[],[],[],ps,_,_,_,_=>⟨(),trivial,rfl,λi v x hv=>by simp at hv⟩
 |t::ts,u::us,v::vs,d::ds,ps,hf,hT,hv,hlt=>by
  simp only[fitAll,a_]at hf
  obtain⟨p,q,h1,h2,rfl⟩:=hT
  obtain⟨r,b0,hw⟩:=hv 0 t v rfl rfl
  obtain⟨x,x1,x2⟩:=Ue hf.1 hw h1 λy hy=>hlt y (C_ _ hy)
  obtain⟨xs,y1,y2,y3⟩:=My ts us vs ds q hf.2 h2 (λj t v ht hv'=>hv (j+1) t v (by simpa using ht) (by simpa using hv')) λy hy=>hlt y (F_ _ hy)
  refine⟨(x,xs),⟨x1,y1⟩,by simp[yl,y2],λi v' y hv' hy=>?_⟩
  cases i with
  |zero=>
   simp only[av_,k_]at hv'
   simp only[yl,q_,av_,k_]at hy
   subst hv';subst hy
   exact x2
  |succ i=>exact y3 i v' y (by simpa using hv') (by simpa[yl]using hy)
 |[],[],_::_,_,_,_,h,_,_=>(by cases h)
 |[],[],[],_::_,_,_,h,_,_=>(by cases h)
 |_::_,_::_,[],_,_,_,h,_,_=>(by cases h)
 |_::_,_::_,_::_,[],_,_,h,_,_=>(by cases h)
 |[],_::_,_,_,_,h,_,_,_=>(by cases h)
 |_::_,[],_,_,_,h,_,_,_=>(by cases h)
theorem yD(hl:laidOutB P=true){W W':World}(hb:Below W.heap.size W W'):∀(ts:List TypeId) (vs:List Value) (ds:List (DataW H)) (ps:List MemPlace),V8 P ts=true->DataW.TrodAll enc P W 0 (λ_=>true) true ts vs ds ps->(∀p∈ps,p.block<W.heap.size)->
 DataW.TrodAll enc P W' 0 (λb=>decide (b<W.heap.size)) true ts vs ds ps
 |[],[],[],_,_,h,_=>h
 |t::ts,v::vs,d::ds,ps,hr,h,hlt=>by
  simp only[V8,X_,a_,decide_eq_true_eq]at hr
  obtain⟨p,q,h1,h2,rfl⟩:=h
  exact⟨p,q,Below.trod hl hr.1.1 hr.1.2 h1 hb λy hy=>hlt y (C_ _ hy),yD hl hb ts vs ds q hr.2 h2 λy hy=>hlt y (F_ _ hy),rfl⟩
 |[],_::_,_,_,_,h,_=>(by cases h)
 |[],[],_::_,_,_,h,_=>(by cases h)
 |_::_,[],_,_,_,h,_=>(by cases h)
 |_::_,_::_,[],_,_,h,_=>(by cases h)
theorem Da{base:Nat}{sp:Nat->Bool}{hd:Bool}:∀(ts:List TypeId) (vs:List Value) (ds:List (DataW H)) (ps:List MemPlace),DataW.TrodAll enc P w base sp hd ts vs ds ps->ds.length=ts.length
 |[],[],[],_,_=>rfl
 |_::ts,_::vs,_::ds,_,⟨_,_,_,h,_⟩=>by simp[Da ts vs ds _ h]
 |[],_::_,_,_,h=>(by cases h)
 |[],[],_::_,_,h=>(by cases h)
 |_::_,[],_,_,h=>(by cases h)
 |_::_,_::_,[],_,h=>(by cases h)
theorem Q2(hm:P.follows .mixedOrders=true){tbl:Nat->Option Fun'}(hT:TblOk P tbl){W:World}(hG:GT W){N:Nat}{us:List Ty}{xs:HD us}{vs:List Value}(hl:vs.length=(yl us xs).length)
 (hrel:∀(i:Nat) (v:Value) (x:AV),vs[i]? =some v->((yl us xs).map aT)[i]? =some x->RelA [] (λb=>b<W.heap.size) W v x) {s:S} (hC:Conv tbl N (yl us xs) [] (·=some s)) (hs:aT (res s.fr.length s.fr)= .b (.pv (.sc (.bool true)))):
 Calls P (N%10000) vs.toArray W λe W'=>e= .returned (.bool true)/\Below W.heap.size W W':=by
 obtain⟨o,rfl,hA⟩:=K2 hm hT hC
 refine(hA W [] (λb=>b<W.heap.size) vs (GW.of hG) ⟨rfl,λb h=>h,λi j li lj g hi=>(by simp at hi),λi l g hi=>(by simp at hi),λi l o hi=>(by simp at hi)⟩ (by rw[d_,hl]) hrel).mono λe W' hb=>?_
 rcases hb with⟨v,r,os',θ',D',h1,h2,h3,_,h5,_⟩|⟨ch,_,_,h2,_⟩
 ·have h6:some (r,os')=some (aT (res s.fr.length s.fr),s.hp.map bU):=h2
  simp only[k_,aS_.injEq]at h6
  rw[h6.1,hs]at h3
  have h7:RelP D' W' v (.sc (.bool true)):=h3
  cases h7
  refine⟨h1,h5.os,h5.tape,h5.output,h5.size,λk hk=>h5.block k hk ?_⟩
  rintro⟨i,l,hi,_⟩
  simp at hi
 ·cases h2
end
theorem wrap_i64{n:Int}(h0: -9223372036854775808<=n)(h1:n<=9223372036854775807):Q_ .i64 n=n:=by
 simp only[Q_,aJ_,aD_]
 simp
 omega
theorem wrap_u8(n:Int):Q_ .u8 n=n%256:=by simp[Q_,aJ_,aD_]
theorem wrap_u64(n:Int):Q_ .u64 n=n%18446744073709551616:=by simp[Q_,aJ_,aD_]
theorem an{i:Nat}{n:Nat}(hi:i<n)(hn:n<=9223372036854775807):Q_ .i64 ((i:Int)+1)=((i+1:Nat):Int):=by
 rw[wrap_i64 (by omega) (by omega)];rfl
section
variable {α β γ σ τ:Type}
theorem LQ{xs:List α}(i:Nat):aL xs (i:Int)=xs[i]? :=by
 simp[aL]
theorem cY{m:Nat->Option α}{Q:α->Prop}{a:α}(h:∀n,m n=some a)(hq:Q a):Wp m Q:=⟨a,hq,0,λn _=>h n⟩
theorem Wp.imp{m:Nat->Option α}{Q Q':α->Prop}(h:Wp m Q)(hk:∀r,Q r->Q' r):Wp m Q':=wp_mono h hk
theorem aS{N:Nat}{body:Nat->σ->Option (σ⊕τ)}{s0:σ}{Q:τ->Prop}(I:Nat->σ->Prop)(h0:I 0 s0)
 (hstep:∀i s,i<N->I i s->Wp (λn=>body n s) λr=>match r with| .inl s'=>I (i+1) s'| .inr t=>Q t)
 (hend:∀s,I N s->Wp (λn=>body n s) λr=>match r with| .inl _=>False| .inr t=>Q t):Wp (λn=>aK n (body n) s0) Q:=by
 have key:∀(k:Nat) (i:Nat) (s:σ),i+k=N->I i s->∃t,Q t/\∃n0,∀n m,n0<=n->k+1<=m->aK m (body n) s=some t:=by
  intro k
  induction k with
  |zero=>
   intro i s hi hs
   have:i=N:=by omega
   subst this
   obtain⟨r,hr,n0,hn⟩:=hend s hs
   cases r with
   |inl s'=>exact hr.elim
   |inr t=>
    refine⟨t,hr,n0,λn m h1 h2=>?_⟩
    obtain⟨m',rfl⟩:∃m',m=m'+1:=⟨m - 1,by omega⟩
    simp only[aK]
    have e:body n s=_:=hn n h1
    rw[e];rfl
  |succ k ih=>
   intro i s hi hs
   obtain⟨r,hr,n0,hn⟩:=hstep i s (by omega) hs
   cases r with
   |inl s'=>
    obtain⟨t,ht,n1,hn1⟩:=ih (i+1) s' (by omega) hr
    refine⟨t,ht,max n0 n1,λn m h1 h2=>?_⟩
    obtain⟨m',rfl⟩:∃m',m=m'+1:=⟨m - 1,by omega⟩
    simp only[aK]
    have e:body n s=_:=hn n (by omega)
    rw[e]
    exact hn1 n m' (by omega) (by omega)
   |inr t=>
    refine⟨t,hr,n0,λn m h1 h2=>?_⟩
    obtain⟨m',rfl⟩:∃m',m=m'+1:=⟨m - 1,by omega⟩
    simp only[aK]
    have e:body n s=_:=hn n h1
    rw[e];rfl
 obtain⟨t,ht,n0,hn⟩:=key N 0 s0 (by omega) h0
 exact⟨t,ht,max n0 (N+1),λn hn'=>hn n n (by omega) (by omega)⟩
end
section
variable {α β σ τ:Type}
theorem db{b:Bool}{m k:Nat->Option α}{Q:α->Prop}(hb:b=true)(h:Wp m Q):Wp (λn=>bif b then m n else k n) Q:=by subst hb;exact h
theorem aX{b:Bool}{m k:Nat->Option α}{Q:α->Prop}(hb:b=false)(h:Wp k Q):Wp (λn=>bif b then m n else k n) Q:=by subst hb;exact h
theorem dw{a b:Bool}{m:Nat->Option Bool}{Q:Bool->Prop}(h:a=false->Wp m λr=>r=b)(hQ:Q (a||b)):Wp (λn=>bif a then some true else m n) Q:=by
 cases a
 ·exact wp_mono (h rfl) λr hr=>by subst hr;exact hQ
 ·exact aa hQ
theorem gf{a b:Bool}{m:Nat->Option Bool}{Q:Bool->Prop}(h:a=true->Wp m λr=>r=b)(hQ:Q (a&&b)):Wp (λn=>bif a then m n else some false) Q:=by
 cases a
 ·exact aa hQ
 ·exact wp_mono (h rfl) λr hr=>by subst hr;exact hQ
end
section
variable {tbl:Nat->Option Fun'}
theorem lz{f:Nat}{ars:List V}{os:List Ob}{sh:Sh}{R:HL sh.sl->Prop}(hp:∀c,IS sh (ii sh c)=some c)(h:Conv tbl f ars os λo=>∃c,o=some (ii sh c)/\R c):∃c,R c/\aU tbl f ars os sh c:=by
 obtain⟨o,⟨c,rfl,hr⟩,n0,hn⟩:=h
 exact⟨c,hr,aZ (hp c) ⟨_,rfl,n0,hn⟩⟩
theorem QL{f:Nat}{g:List V->Option S}{ars:List V}{sh:Sh}{c:HL sh.sl}(ht:tbl f=some (.nat g))(hg:g ars=some (ii sh c))(hp:IS sh (ii sh c)=some c):aU tbl f ars [] sh c:=by
 refine aZ hp ⟨_,rfl,1,λn hn=>?_⟩
 obtain⟨m,rfl⟩:∃m,n=m+1:=⟨n - 1,by omega⟩
 simp only[kS,ht,hg]
end
section
variable {α β γ σ τ:Type}
theorem Vh{xs:List α}{i:Nat}(h:i<xs.length):aL xs (i:Int)=some xs[i]:=by rw[LQ];exact e_ h
theorem aB{xs:List α}{i:Nat}{f:Nat->α->Option β}{Q:β->Prop}(h:i<xs.length)(hk:Wp (λn=>f n xs[i]) Q):Wp (λn=>G_ (aL xs (i:Int)) (f n)) Q:=by
 rw[Vh h];exact hk
theorem cr{xs:List α}{i:Int}{f:Nat->α->Option β}{Q:β->Prop}(h0:0<=i)(h:i.toNat<xs.length)(hk:Wp (λn=>f n xs[i.toNat]) Q):Wp (λn=>G_ (aL xs i) (f n)) Q:=by
 obtain⟨k,rfl⟩:=au_ h0
 exact aB (by simpa using h) hk
theorem bT{i N:Nat}{m k:Nat->Option α}{Q:α->Prop}(h:i<N)(hk:Wp m Q):Wp (λn=>bif decide ((i:Int)<(N:Int))then m n else k n) Q:=by
 rw[show decide ((i:Int)<(N:Int))=true from decide_eq_true (by omega)];exact hk
theorem br{N:Nat}{m k:Nat->Option α}{Q:α->Prop}(hk:Wp k Q):Wp (λn=>bif decide ((N:Int)<(N:Int))then m n else k n) Q:=by
 rw[show decide ((N:Int)<(N:Int))=false from decide_eq_false (by omega)];exact hk
theorem GB{N:Nat}{good:Nat->Prop}{e:β}{g:γ}{body:Nat->(Int×Unit)->Option ((Int×Unit)⊕β⊕γ)}{Q:β⊕γ->Prop}
 (h:∀i,i<N->Wp (λn=>body n ((i:Int),())) λr=>(good i/\r= .inl (((i+1:Nat):Int),()))\/(¬good i/\r= .inr (.inl e)))
 (he:Wp (λn=>body n ((N:Int),())) λr=>r= .inr (.inr g))
 (hg:(∀i,i<N->good i)->Q (.inr g)) (hb:(∃i,i<N/\¬good i)->Q (.inl e)):Wp (λn=>aK n (body n) ((0:Int),())) Q:=by
 refine aS (N:=N) (I:=λi s=>s=((i:Int),())/\∀j,j<i->good j) ⟨rfl,λj hj=>absurd hj (by omega)⟩ (λi s hi hs=>?_) λs hs=>?_
 ·obtain⟨rfl,hd⟩:=hs
  refine wp_mono (h i hi) λr hr=>?_
  rcases hr with⟨h1,rfl⟩|⟨h1,rfl⟩
  ·exact⟨rfl,λj hj=>by rcases Nat.lt_succ_iff_lt_or_eq.1 hj with h|rfl;exact hd j h;exact h1⟩
  ·exact hb ⟨i,hi,h1⟩
 ·obtain⟨rfl,hd⟩:=hs
  refine wp_mono he λr hr=>?_
  subst hr
  exact hg hd
theorem r9{b:Bool}{good:Prop}{e:β}{s' s'':σ}(hb:b=true↔¬good)(hs:s'=s''):Wp (λ_=>bif b then(some (.inr (.inl e)):Option (σ⊕β⊕γ))else some (.inl s')) (λr=>(good/\r= .inl s'')\/(¬good/\r= .inr (.inl e))):=by
 subst hs
 cases b
 ·exact aa (.inl ⟨ao_ λh=>by simpa using hb.2 h,rfl⟩)
 ·exact aa (.inr ⟨hb.1 rfl,rfl⟩)
theorem all_iff{xs:List α}{P:α->Prop}:(∀i,i<xs.length->∀x,xs[i]? =some x->P x)↔∀x∈xs,P x:=by
 constructor
 ·intro h x hx
  obtain⟨i,hi,rfl⟩:=List.mem_iff_getElem.1 hx
  exact h i hi _ (e_ hi)
 ·intro h i hi x hx
  exact h x (p_ hx)
theorem Bi{xs:List α}{P:α->Prop}{e:β}{g:γ}{body:Nat->(Int×Unit)->Option ((Int×Unit)⊕β⊕γ)}{Q:β⊕γ->Prop}
 (h:∀i (hi:i<xs.length),Wp (λn=>body n ((i:Int),())) λr=>(P xs[i]/\r= .inl (((i+1:Nat):Int),()))\/(¬P xs[i]/\r= .inr (.inl e)))
 (he:Wp (λn=>body n ((xs.length:Int),())) λr=>r= .inr (.inr g))
 (hg:(∀x∈xs,P x)->Q (.inr g)) (hb:(¬∀x∈xs,P x)->Q (.inl e)):Wp (λn=>aK n (body n) ((0:Int),())) Q:=by
 refine GB (N:=xs.length) (good:=λi=>∀x,xs[i]? =some x->P x) (λi hi=>?_) he (λh=>hg (all_iff.1 h)) (fun⟨i,hi,hn⟩=>hb λh=>hn λx hx=>h x (p_ hx))
 refine wp_mono (h i hi) λr hr=>?_
 have:(∀x,xs[i]? =some x->P x)↔P xs[i]:=by rw[e_ hi];simp
 rw[this];exact hr
def iO(f:σ->α->σ⊕β):σ->List α->σ⊕β
 |s,[]=>.inl s
 |s,x::xs=>match f s x with
  | .inl s'=>iO f s' xs
  | .inr b=>.inr b
theorem UI{ρ:Type}{xs:List α}{f:σ->α->σ⊕β}{s0:σ}{Inv:σ->Prop}{enc:Nat->σ->ρ}{oE:σ->τ}{oB:β->τ}{body:Nat->ρ->Option (ρ⊕τ)}{Q:τ->Prop}(h0:Inv s0)
 (h:∀i (hi:i<xs.length) s,Inv s->Wp (λn=>body n (enc i s)) λr=>match f s xs[i]with| .inl s'=>Inv s'/\r= .inl (enc (i+1) s')| .inr b=>r= .inr (oB b))
 (he:∀s,Inv s->Wp (λn=>body n (enc xs.length s)) λr=>r= .inr (oE s))
 (hQ:Q (match iO f s0 xs with| .inl s=>oE s| .inr b=>oB b)):Wp (λn=>aK n (body n) (enc 0 s0)) Q:=by
 refine aS (N:=xs.length) (I:=λi t=>∃s,t=enc i s/\Inv s/\iO f s0 xs=iO f s (xs.drop i)) ⟨s0,rfl,h0,by simp⟩ (λi t hi ht=>?_) λt ht=>?_
 ·obtain⟨s,rfl,hs,hd⟩:=ht
  refine wp_mono (h i hi s hs) λr hr=>?_
  rw[ap_ hi]at hd
  simp only[iO]at hd
  split at hr
  ·rename_i s' e
   rw[e]at hd
   obtain⟨hi',rfl⟩:=hr
   exact⟨s',rfl,hi',hd⟩
  ·rename_i b e
   rw[e]at hd
   subst hr
   rw[hd]at hQ
   exact hQ
 ·obtain⟨s,rfl,hs,hd⟩:=ht
  refine wp_mono (he s hs) λr hr=>?_
  subst hr
  rw[aN_]at hd
  rw[hd]at hQ
  exact hQ
end
section
variable {α β γ σ τ:Type}
theorem Bj{xs:List α}{i:Nat}{x:α}{f:Nat->α->Option β}{Q:β->Prop}(h:xs[i]? =some x)(hk:Wp (λn=>f n x) Q):Wp (λn=>G_ (aL xs (i:Int)) (f n)) Q:=by
 rw[LQ,h];exact hk
theorem Nc{ρ:Type}{xs:List α}{f:σ->α->σ⊕β}{s0:σ}{Inv:Nat->σ->Prop}{enc:Nat->σ->ρ}{oE:σ->τ}{oB:β->τ}{body:Nat->ρ->Option (ρ⊕τ)}{Q:τ->Prop}(h0:Inv 0 s0)
 (h:∀i (hi:i<xs.length) s,Inv i s->Wp (λn=>body n (enc i s)) λr=>match f s xs[i]with| .inl s'=>Inv (i+1) s'/\r= .inl (enc (i+1) s')| .inr b=>r= .inr (oB b))
 (he:∀s,Inv xs.length s->Wp (λn=>body n (enc xs.length s)) λr=>r= .inr (oE s))
 (hQ:∀r,iO f s0 xs=r->(∀s,r= .inl s->Inv xs.length s)->Q (match r with| .inl s=>oE s| .inr b=>oB b)):Wp (λn=>aK n (body n) (enc 0 s0)) Q:=by
 refine aS (N:=xs.length) (I:=λi t=>∃s,t=enc i s/\Inv i s/\iO f s0 xs=iO f s (xs.drop i)) ⟨s0,rfl,h0,by simp⟩ (λi t hi ht=>?_) λt ht=>?_
 ·obtain⟨s,rfl,hs,hd⟩:=ht
  refine wp_mono (h i hi s hs) λr hr=>?_
  rw[ap_ hi]at hd
  simp only[iO]at hd
  split at hr
  ·rename_i s' e
   rw[e]at hd
   obtain⟨hi',rfl⟩:=hr
   exact⟨s',rfl,hi',hd⟩
  ·rename_i b e
   rw[e]at hd
   subst hr
   exact hQ _ hd λs hs=>by cases hs
 ·obtain⟨s,rfl,hs,hd⟩:=ht
  refine wp_mono (he s hs) λr hr=>?_
  subst hr
  rw[aN_]at hd
  exact hQ _ hd λs' hs'=>by cases hs';exact hs
end
end Go.Ev
