import Derived.Test.YthjnceggmnicmaaGreatDoorHL5
import Derived.Test.YthjnceggmnicmaaGreatDoorHL3
import Derived.OpenShut
import Derived.Deep.Slices
import Derived.ChangeMaps5
import Derived.Carry
set_option linter.unusedVariables false
set_option linter.unusedSimpArgs false
open Bool renaming and_eq_true->a_,not_eq_true'->p_,or_eq_true->s_,not_true->ab_,false_or->an_,false_eq_true->ao_,and_false->aC_,not_false->aD_
open Classical renaming byContradiction->V_
open Int renaming eq_ofNat_of_zero_le->ae_
open Go.IntKind renaming wrap->J_,signed->ak_,bits->ap_
open List renaming mem_append->d_,all_eq_true->f_,getElem?_eq_getElem->g_,getElem?_eq_some_iff->i_,getElem?_map->k_,map_cons->m_,mem_singleton->n_,length_map->o_,mem_cons_of_mem->q_,mem_of_getElem?->r_,getElem?_append_left->t_,mem_flatMap->u_,mem_cons->v_,map_append->w_,mapM_cons->z_,mem_append_left->A_,all_cons->B_,map_map->C_,map_set->D_,mem_append_right->F_,mem_range->G_,range->H_,replicate->I_,map_congr_left->K_,mem_cons_self->L_,append_assoc->O_,getElem?_set_self->P_,mem_map->Q_,getElem?_set_ne->R_,getElem?_append_right->U_,ext_getElem?->X_,flatMap_cons->Y_,map_take->ac_,getElem?_cons_zero->af_,length_cons->ag_,drop_eq_nil_of_le->ah_,take_of_length_le->ai_,getElem?_mapIdx->al_,getElem?_of_mem->am_,getElem?_set->aq_,drop_append->ar_,filter_cons->as_,isEmpty_iff->au_,not_mem_nil->av_,take_append->aw_,length->ay_,append_nil->az_,find?_cons->aA_,drop_drop->aE_,take_zero->aF_,map_drop->aG_,getD->aH_,map_nil->aI_
open Nat renaming eq_of_beq_eq_true->b_,le_of_ble_eq_true->c_,beq->j_,zero_le->M_,beq_refl->T_,ble->Z_,le_refl->aa_,zero_add->aJ_
open Option renaming map_eq_some_iff->e_,bind_eq_some_iff->l_,bind_eq_bind->x_,bind_some->y_,pure_def->E_,bind->N_,map_some->S_,isNone_iff_eq_none->W_,isSome_iff_exists->ad_,getD_some->ax_
open Option.some renaming injEq->h_,inj->aj_
open Prod renaming mk->aB_
namespace Go.Ev
open Go Go.RowKit Go.Av
theorem jD:∀(l:List Slot) (c:HL l) (b:S),(∀k v,lk b.fr k=some v->v.isD=true)->∀k v,lk (unpack l c b).fr k=some v->v.isD=true
 |[],_,_,h=>h
 | .tm j t::l,c,b,h=>jD l c.2 _ λk v a=>by
  simp only[lk]at a;cases d:j_ k j;·grind
  ·rw[d]at a;simp only[cond_true,h_]at a;subst a;rfl
 | .cell _ _ _::l,c,b,h=>jD l c.2 _ h
 | .vec _ _ _::l,c,b,h=>jD l c.2 _ h
 | .map _ _ _ _ _::l,c,b,h=>jD l c.2 _ h
 | .tree _ _ _ _::l,c,b,h=>jD l c.2 _ h
 | .treeH _ _ _ _ _ _::l,c,b,h=>jD l c.2 _ h
theorem Wm{v:V}(h:v.isD=true):v.ids=[]/\v.ids1=[]:=by cases v<;>first|exact⟨rfl,rfl⟩|cases h
theorem QW{n:Nat}{fr:List (Nat×V)}(h:∀k v,lk fr k=some v->v.isD=true):(res n fr).ids=[]:=by
 have one:∀k,((lk fr k).getD .any).ids=[]/\((lk fr k).getD .any).ids1=[]:=λk=>by cases hl:lk fr k with|none=>exact⟨rfl,rfl⟩|some v=>exact Wm (h k v hl)
 unfold res;cases j_ n 1;·show(Si fr n).flatMap V.ids1=[];rw[List.flatMap_eq_nil_iff];intro v a;obtain⟨i,_,rfl⟩:=Q_.1 a;grind
 grind
theorem Kj{hp:List AObj}{bor:Bool}{x:BV}{p:PV}(h:x.toPV=some p):tF hp bor x=some p:=by cases x<;>first|exact h|cases h
theorem Mj{hp:List AObj}{bor:Bool}{x:AV}{p:PV}(h:x.toPV=some p):kt hp bor x=some p:=by
 cases x with
 |b x=>exact Kj h|agg xs=>have h':(xs.mapM BV.toPV).map PV.agg=some p:=h;obtain⟨d,a,rfl⟩:=e_.1 h';show(xs.mapM (tF hp bor)).map PV.agg=_;rw[qJ (λx _ y c=>Kj c) a];rfl
 |tup xs=>exact h
section
variable {R:Type} {P:Program} {O:ak} {d:Option Nat} {s:S} {κ kp:S->Option R} {r:R}
theorem Mg{bor:Bool}{a:Arg×X}{v:V}(g:a.2.wf=true)(h:I3 s bor [] a=some v)(hd:v.isD=true):∃p,((enc s).get a.2.er).bind (kt (enc s).hp bor)=some p/\AV.p p=aT v:=by
 obtain⟨a,x⟩:=a;simp only[I3]at h;split at h
 ·rename_i t id c;obtain⟨f,b⟩:=aO h;simp only[a_,p_]at f;split at b
  ·rename_i e u xs k;split at b;·rename_i ys d;cases b;obtain⟨j,n⟩:=bG d;refine⟨aI (.list t) ys,?_,rfl⟩;rw[au g c,y_];show(if bor=true then Lm (enc s).hp id else none)=_;rw[f.1,if_pos rfl,Lm,bE,k];show some (aI (.list u) xs)=some (aI (.list t) ys);rw[j]
   ·cases b
  ·rename_i e kk u xs k;split at b;·rename_i ys d;cases b;obtain⟨j,n⟩:=bG d;refine⟨aI (.list t) ys,?_,rfl⟩;rw[au g c,y_];show(if bor=true then Lm (enc s).hp id else none)=_;rw[f.1,if_pos rfl,Lm,bE,k];show some (aI (.list u) xs)=some (aI (.list t) ys);rw[j]
   ·cases b
  grind
 ·rename_i t l _ c;split at h;·rename_i y d;cases h;exact⟨aI t y,by rw[au g c,y_];exact Mj (dL d),rfl⟩
  ·cases h
 ·rename_i l c;have key:∀p:PV,aT l=AV.p p->l=v->∃p,((enc s).get x.er).bind (kt (enc s).hp bor)=some p/\AV.p p=aT v:=λp hp e=>by subst e;exact⟨p,by rw[au g c,y_,hp];exact Mj rfl,hp.symm⟩
  split at h;·cases h
  ·cases h
  ·cases h
  ·cases h
  ·rename_i vs;obtain⟨f,b⟩:=aO h;cases b;cases hd
  ·cases h;cases v<;>first|(cases hd;done)|skip
   ·grind
   ·exact key _ rfl rfl
   ·exact key _ rfl rfl
 ·cases h
theorem I4{bor:Bool}:∀(l:List (Arg×X)) (vs:List V),kb l=true->sn s bor [] l=some vs->vs.all V.isD=true->∃b,(l.map λa=>a.2.er).mapM (λx=>((enc s).get x).bind (kt (enc s).hp bor))=some b/\b.map AV.p=vs.map aT
 |[],vs,_,h,_=>by cases h;simp
 |a::l,vs,c,h,hd=>by
  simp only[kb,B_,a_]at c;simp only[sn]at h;split at h
  ·rename_i v e;split at h;·rename_i us d;cases h;simp only[B_,a_]at hd;obtain⟨p,f,g⟩:=Mg c.1 e hd.1;obtain⟨b,j,k⟩:=I4 l us c.2 d hd.2;refine⟨p::b,?_,by grind⟩;grind
   grind
  grind
theorem M6{bor:Bool}(d:bor=true):∀(vs:List V) (b:List PV),((vs.map (Xq s.hp)).map aP).mapM BV.toPV=some b->(vs.map aP).mapM (tF (enc s).hp bor)=some b
 |[],b,h=>h
 |v::vs,b,h=>by
  simp only[m_,z_,x_,l_,E_]at h⊢;obtain⟨p,a,e,f,g⟩:=h;refine⟨p,?_,e,M6 d vs e f,g⟩;cases v<;>try exact Kj a
  rename_i id;show(if bor=true then Lm (enc s).hp id else none)=_;rw[if_pos d,Lm,bE];simp only[Xq]at a;split at a;·rename_i c;rw[c];exact a
  ·rename_i c;rw[c];exact a
  ·cases a
theorem V1{bor:Bool}{a:Arg×X}{v:V}(b:a.2.wf=true)(h:Xh s bor a=some v)(hd:v.isD=true):∃p,((enc s).get a.2.er).bind (kt (enc s).hp bor)=some p/\AV.p p=aT v:=by
 simp only[Xh]at h;split at h;·rename_i n e;cases h;exact Mg b e hd
 ·split at h
  ·rename_i t vs k f;obtain⟨d,h⟩:=aO h;split at h;·rename_i x g;cases h;refine⟨aI t x,?_,rfl⟩;rw[au b f,y_];have:=dL g;obtain⟨j,c,l⟩:=e_.1 this;show((vs.map aP).mapM (tF (enc s).hp bor)).map PV.agg=_;rw[M6 d vs j c];grind
   grind
  grind
theorem Mm{bor:Bool}:∀(l:List (Arg×X)) (vs:List V),kb l=true->Ml s bor l=some vs->vs.all V.isD=true->∃b,(l.map λa=>a.2.er).mapM (λx=>((enc s).get x).bind (kt (enc s).hp bor))=some b/\b.map AV.p=vs.map aT
 |[],vs,_,h,_=>by cases h;simp
 |a::l,vs,c,h,hd=>by
  simp only[kb,B_,a_]at c;simp only[Ml]at h;split at h
  ·rename_i v e;split at h;·rename_i us d;cases h;simp only[B_,a_]at hd;obtain⟨p,f,g⟩:=V1 c.1 e hd.1;obtain⟨b,j,k⟩:=Mm l us c.2 d hd.2;refine⟨p::b,?_,by grind⟩;grind
   grind
  grind
theorem QG(hO:OracleOk P O){bor:Bool}{f:FuncId}{args:List (Arg×X)}{sh:Sh}(g:kb args=true/\sh.wfB=true)(h:evOp O d (.call bor f args sh) s κ kp=some r): Pu P s (.call bor (f%10000) (args.map λa=>a.2.er)) d κ r:=by
 simp only[evOp]at h;split at h
 ·rename_i ars u;obtain⟨b,l⟩:=aO h;simp only[a_,s_,p_]at b;obtain⟨c,hc,w⟩:=cp l;obtain⟨y,n,p⟩:=Mm args ars g.1 u b.1.1;obtain⟨j,z⟩:=vQ hO g.2 hc;rw[<-p]at j;refine⟨_,⟨y,n,j.mono λo x=>⟨_,_,x,?_,λA=>(z ?_).1,rfl⟩⟩,w⟩;·rw[<-qB];refine QW (jD _ _ _ λk v e=>?_);rw[base_nil]at e;have:=au_.1 b.1.2;rw[this]at e;cases e
  grind
 grind
theorem Nu(hO:OracleOk P O){bor:Bool}{num:Nat}{x:X}{args:List (Arg×X)}{sh:Sh}(e:x.wf=true/\kb args=true/\ev P (num%10000)=true/\sh.wfB=true)(h:evOp O d (.callp bor num x args sh) s κ kp=some r): Pu P s (.callp bor x.er (args.map λa=>a.2.er)) d κ r:=by
 simp only[evOp]at h;split at h
 ·rename_i f cs ars B w;obtain⟨b,n⟩:=aO h;simp only[a_,s_,p_]at b;obtain⟨c,hc,z⟩:=cp n;have y:=b_ b.1.1.1;subst y;obtain⟨j,p,u⟩:=I4 args ars e.2.1 w b.1.1.2;obtain⟨l,C⟩:=vQ hO e.2.2.2 hc;have hcs:(ars++cs.map λc=>V.dp c.1 c.2).map aT=(j++cs.map λc=>PV.pto (aI c.1 c.2)).map AV.p:=by rw[w_,w_,u,C_,C_];rfl
  rw[hcs]at l;refine⟨_,⟨_,au e.1 B,num%10000,cs.map λc=>PV.pto (aI c.1 c.2),rfl,e.2.2.1,j,p,l.mono λo A=>⟨_,_,A,?_,λD=>(C ?_).1,rfl⟩⟩,z⟩;·rw[<-qB];refine QW (jD _ _ _ λk v g=>?_);rw[base_nil]at g;have:=au_.1 b.1.2;rw[this]at g;cases g
  grind
 grind
theorem LeS.refl(a:St):LeS a a:=⟨λ_ y E=>⟨y,E,.refl y⟩,rfl,λi x y H z=>by rw[H]at z;cases z;exact .refl x⟩
def L5(P:Program)(s:S)(op:SOp)(d:Option Nat)(κ kp:S->Option R)(r:R):Prop:=
 sexec P d op (enc s) (λa=>∃s',LeS a (enc s')/\Keeps (gj d) s s'/\κ s'=some r) (λa=>∃s',a=enc s'/\Keeps (gj d) s s'/\kp s'=some r)
def Ox(P:Program)(s:S)(op:SOp)(d:Option Nat)(κ kp:S->Option R)(r:R):Prop:=
 sexec P d op (enc s) (λa=>∃s',a=enc s'/\Keeps (gj d) s s'/\κ s'=some r) (λa=>∃s',a=enc s'/\Keeps (gj d) s s'/\kp s'=some r)
theorem Ox.ob{op:SOp}(h:Ox P s op d κ kp r):L5 P s op d κ kp r:=nC h (λ_ ⟨s',z,E,H⟩=>⟨s',by rw[z];exact .refl _,E,H⟩) λ_ h=>h
theorem qd{st:St}{op:SOp}{x:AV}{K KP:St->Prop}(hs:kg P st op λy=>y=x)(b:K (st.putO d x)):sexec P d op st K KP:=by
 have a:kg P st op λy=>K (st.putO d y):=Ce hs λy c=>by grind
 unfold sexec;split<;>first|exact a|exact hs.elim
theorem Pu.ox{op:SOp}(h:Pu P s op d κ r):Ox P s op d κ kp r:=by obtain⟨v,z,E⟩:=h;exact qd z ⟨_,(gn _ _ _).symm,Keeps.put s d v,E⟩
theorem Pu.ob{op:SOp}(h:Pu P s op d κ r):L5 P s op d κ kp r:=by obtain⟨v,z,E⟩:=h;exact qd z ⟨_,by rw[gn];exact .refl _,Keeps.put s d v,E⟩
theorem wj(s:S)(o:Ob):enc ⟨s.fr,s.hp++[o]⟩={enc s with hp:=(enc s).hp++[bI o]}:=by simp[enc]
theorem iw(s:S)(id:Nat)(o:Ob):enc ⟨s.fr,setAt s.hp id o⟩={enc s with hp:=(enc s).hp.set id (bI o)}:=by simp[enc,eK,D_]
theorem ny(s:S):(enc s).hp.length=s.hp.length:=by simp[enc]
theorem um{o:Ob}{o':AObj}{x:BV}{v:V}(a:bI o=o')(b:aT v= .b x)(h:κ (S.putO ⟨s.fr,s.hp++[o]⟩ d v)=some r): ∃s',LeS (({enc s with hp:=(enc s).hp++[o']}:St).putO d (.b x)) (enc s')/\Keeps (gj d) s s'/\κ s'=some r:=by refine⟨_,?_,(Keeps.fr (s':=⟨s.fr,s.hp++[o]⟩) rfl).trans (Keeps.put _ d v),h⟩;rw[gn,wj,a,b];exact .refl _
theorem QD{o:Ob}{o':AObj}{x:BV}{v:V}(a:bI o=o')(b:aT v= .b x)(h:κ (S.putO ⟨s.fr,s.hp++[o]⟩ d v)=some r): ∃s',(({enc s with hp:=(enc s).hp++[o']}:St).putO d (.b x))=enc s'/\Keeps (gj d) s s'/\κ s'=some r:=by refine⟨_,?_,(Keeps.fr (s':=⟨s.fr,s.hp++[o]⟩) rfl).trans (Keeps.put _ d v),h⟩;rw[gn,wj,a,b]
theorem Uu{tid:TypeId}{zero:List V}(b:zero.all V.konst=true)(h:evOp O d (.alloc tid zero) s κ kp=some r):L5 P s (.alloc tid (zero.map B7)) d κ kp r:=by
 simp only[evOp]at h;refine um (o:=.box tid zero) ?_ ?_ h;·show AObj.box tid (zero.map aP)=AObj.box tid ((zero.map B7).map λv=>bz v);rw[C_];congr 1;exact K_ λv a=>(xz (f_.1 b v a)).symm
 ·rw[ny];rfl
theorem Xy{tid:TypeId}{x:X}(e:x.wf=true)(h:evOp O d (.box tid x) s κ kp=some r):L5 P s (.box tid x.er) d κ kp r:=by
 simp only[evOp]at h;split at h
 ·rename_i v f;obtain⟨a,b⟩:=aO h;obtain⟨c,g⟩:=uo a;refine⟨_,au e f,c,um (o:=.box tid (cA v)) ?_ ?_ b⟩;·show AObj.box tid _=_;grind
  ·rw[ny];rfl
 grind
theorem R3{tid:TypeId}{t:Ty}{len:Nat}{parts:List X}(g:parts.all X.wf=true)(h:evOp O d (.bslice true tid t len parts) s κ kp=some r):L5 P s (.bslice true tid t.sz len (parts.map X.er)) d κ kp r:=by
 simp only[evOp]at h;obtain⟨a,b⟩:=aO h;simp only[a_]at a;obtain⟨xs,c,e,f⟩:=oK parts _ g b;refine⟨_,c,?_,c_ a.1.2,c_ a.2,ky xs,um (o:=.vec tid t xs) rfl ?_ f⟩;·rw[o_,e];exact b_ a.1.1
 ·rw[ny];rfl
theorem R5{tid:TypeId}{t:Ty}{bytes:Nat}{l c:X}(b:l.wf=true/\c.wf=true/\t≠.rx)(h:evOp O d (.mslice tid t bytes l c) s κ kp=some r):L5 P s (.mslice tid t.sz bytes (qe t) l.er c.er) d κ kp r:=by
 simp only[evOp]at h;obtain⟨e,f⟩:=aO h;obtain⟨v,l',hl,g⟩:=fX f;obtain⟨w,u,hc,j⟩:=fX g;obtain⟨a,k⟩:=bq j;simp only[a_,decide_eq_true_eq]at a;obtain⟨n,p⟩:=Oe t b.2.2;refine⟨_,au b.1 hl,_,au b.2.1 hc,_,rfl,_,rfl,_,_,rfl,_,_,rfl,a.1.1.1,a.1.1.2,a.1.2,a.2,p,c_ e,_,n,ua t _,um (o:=.vec tid t (I_ l'.toNat t.zero)) ?_ ?_ k⟩;·show AObj.vec tid t.sz _=_;simp
 ·rw[ny];rfl
theorem OZ{tid:TypeId}{k:Av.K}{u:Ty}{bytes:Nat}{l c:X}(b:l.wf=true/\c.wf=true)(h:evOp O d (.msliceT tid k u bytes l c) s κ kp=some r):L5 P s (.msliceT k tid 1 bytes (.slice none 0 0) l.er c.er) d κ kp r:=by
 simp only[evOp]at h;obtain⟨e,f⟩:=aO h;obtain⟨v,l',hl,g⟩:=fX f;obtain⟨w,p,hc,j⟩:=fX g;obtain⟨a,n⟩:=bq j;simp only[a_,decide_eq_true_eq]at a;have hn:k.nilsB nilP.cells=true:=by simp only[Av.K.nilsB,nilP,PV.cells,ag_,List.length_nil,f_,G_];grind
 refine⟨_,au b.1 hl,_,au b.2 hc,_,rfl,_,rfl,_,_,rfl,_,_,rfl,a.1.1.1,a.1.1.2,a.1.2,a.2,rfl,Nat.one_pos,nilP,rfl,rfl,hn,um (o:=.tree tid k (.list u) (I_ l'.toNat []) none) ?_ ?_ n⟩
 ·show AObj.tree tid 1 k _ none=_;rw[List.map_replicate];have:k.unnil nilP= .list 0 []:=by simp[Av.K.unnil,nilP,e]
  rw[this];rfl
 ·rw[ny];rfl
theorem PP{k:Av.K}{t:Ty}{y:t.den}(h:XA k (gM t y)=true):k.unnil (wi k t y)=aI t y:=by
 have key:∀(j:Nat) (p:PV),(aI t y).cells[j]? =some p->(k.at j).isSome=true->p= .list 0 []:=by
  intro j p hp a;obtain⟨w,g⟩:=dx t y;have d:j<(gM t y).length:=by rw[g,<-aH t y];grind
  simp only[XA,f_,G_]at h;have b:=h j d;obtain⟨q,s⟩:=ad_.1 a;rw[s]at b;simp only[aH_,g_ d,ax_]at b;have c:((gM t y).map aP)[j]? =some (.pv p):=by grind
  rw[k_,g_ d]at c;split at b
  ·rename_i u l v;rw[v]at c;have hl:l=[]:=by simpa using b
   subst hl;have n:=aj_ c;have r:(BV.pv (aI (.list u) []))= .pv p:=n;cases r;rfl
  ·cases b
 unfold wi;cases e:aI t y with
 |agg cs=>
  simp only[Av.K.unnil,PV.agg.injEq];apply X_;intro j;simp only[al_];cases hc:cs[j]? with
  |none=>rfl|some p=>
   simp only[S_];cases a:(k.at j).isSome;·rfl
   ·rw[key j p (by rw[e];exact hc) a];rfl
 |_=>
  have f:=key 0 _ (by rw[e];rfl);simp only[];cases a:(k.at 0).isSome;·simp[Av.K.unnil,a]
  ·simp only[if_true,Av.K.unnil,nilP,a];exact(f a).symm
theorem RY(k:Av.K)(t:Ty)(y:t.den):k.nilsB (wi k t y).cells=true:=by
 simp only[Av.K.nilsB,f_,G_];intro j a;split;·rename_i q b;rw[FZ]at a⊢;simp only[List.length_mapIdx]at a;simp only[aH_,al_,g_ a,S_,ax_,b,Option.isSome_some,if_true,nilP]
 simp
theorem Vj(j:Nat)(u:Ty)(vs:List V):(setAt vs j (.nil u)).map aP=(vs.map aP).set j .nils:=by rw[eK,D_];rfl
theorem OY{tid:TypeId}{k:Av.K}{j:Nat}{t:Ty}{x:X}(e:x.wf=true)(h:evOp O d (.bsliceT tid k j t x) s κ kp=some r):L5 P s (.bsliceT k j tid t.sz 1 x.er) d κ kp r:=by
 simp only[evOp]at h;split at h
 ·rename_i vs f;split at h
  ·rename_i kid u c l;split at h
   ·rename_i y g;obtain⟨a,b⟩:=aO h;simp only[a_]at a;have hd:=dL g;refine⟨_,au e f,vs.map aP,kid,aI t y,rfl,rfl,c_ a.1.2,c_ a.2,by rw[k_,c];rfl,a.1.1,?_,aH t y,ua t y,um (o:=.tree tid k t [y] (some (0,j,.sl kid))) ?_ ?_ b⟩;·rw[<-Vj];exact hd
    ·rfl
    ·rw[ny];rfl
   ·cases h
  ·cases h
 ·cases h
theorem QB{tid:TypeId}{k:Av.K}{j:Nat}{t:Ty}{bytes:Nat}{x y:X}(B:x.wf=true/\y.wf=true)(h:evOp O d (.appH tid k j t bytes x y) s κ kp=some r):Ox P s (.appH k j tid t.sz bytes x.er y.er) d κ kp r:=by
 simp only[evOp]at h;split at h
 ·rename_i id w Y hy;split at h
  ·rename_i e k2 u2 z b k3 a p0 c kid T n;split at h
   ·rename_i xs p hz u;obtain⟨C,D⟩:=bB hz;have E:=Ty.list.inj C;subst E;have F:xs=z:=D;subst F;obtain⟨H,I⟩:=bB u;subst H;have J:p=p0:=I;subst J;obtain⟨A,R⟩:=aO h;simp only[a_,decide_eq_true_eq,p_]at A;obtain⟨⟨⟨⟨⟨⟨f,g⟩,rfl⟩,rfl⟩,l⟩,L⟩,M⟩:=A;have f:=b_ f;have g:=b_ g;have l:=b_ l;subst f g l;obtain⟨N,Q⟩:=bq R;refine⟨_,au B.1 Y,_,au B.2 hy,id,w,kid,xs.map (aI a),aI a p,rfl,rfl,λe=>by simp[e]at L,by rw[bE,T];rfl,by rw[bE,n];rfl,M,ua a p,by simpa using N,_,?_,(Keeps.map (gj d) s (s.moved id (.tree b k a (xs++[p]) (some (xs.length,c,.sl kid)))) (V.kill1 id) (λv U=>by cases v<;>first|rfl|cases U) rfl).trans (Keeps.put _ d _),Q⟩
    rw[gn,xt];have:bI (.tree b k a (xs++[p]) (some (xs.length,c,.sl kid)))= .tree b a.sz k (xs.map (aI a)++[aI a p]) (some ((xs.map (aI a)).length,c,.sl kid)):=by show AObj.tree b a.sz k ((xs++[p]).map (aI a)) (some (xs.length,c,.sl kid))=_;simp
    rw[this];rfl
   ·cases h
  ·cases h
 ·cases h
theorem QC{tid:TypeId}{k:Av.K}{t:Ty}{bytes:Nat}{x y:X}(l:x.wf=true/\y.wf=true)(h:evOp O d (.appT tid k t bytes x y) s κ kp=some r):Ox P s (.appT k tid t.sz bytes x.er y.er) d κ kp r:=by
 simp only[evOp]at h;split at h
 ·rename_i k' u D E;obtain⟨hk,n⟩:=aO h;clear h;have w:k=k':=by grind
  subst w;split at n
  ·rename_i ys hc;obtain⟨F,H⟩:=bB hc;have I:=Ty.list.inj F;subst I;have J:ys=D:=H;subst J;obtain⟨a,c⟩:=aO n;clear n;simp only[f_]at a;have f:∀p∈ys.map (wi k u),p.ok=true/\k.nilsB p.cells=true:=λp hp=>⟨(Je ys p hp).2,by obtain⟨z,_,rfl⟩:=Q_.1 hp;exact RY k u z⟩
   have g:(ys.map (wi k u)).map k.unnil=ys.map (aI u):=by rw[C_];exact K_ λz B=>PP (a z B)
   split at c
   ·rename_i id A;split at c
    ·rename_i e k2 b C ho;split at c
     ·rename_i xs B;obtain⟨L,M⟩:=bB B;have N:=Ty.list.inj L;subst N;have Q:xs=C:=M;subst Q;obtain⟨j,R⟩:=aO c;simp only[a_,decide_eq_true_eq]at j;obtain⟨j,rfl⟩:=j;obtain⟨g3,T⟩:=bq R;have U:=b_ j;subst U;refine⟨_,au l.1 A,_,au l.2 E,.inr (.inl ⟨ys.map (wi k b),rfl,f,.inl ⟨id,rfl,_,by rw[bE,ho];rfl,_,rfl,by grind,_,?_,(Keeps.map (gj d) s (s.moved id (.tree e k b (xs++ys) none)) (V.kill1 id) (λv hv=>by cases v<;>first|rfl|cases hv) rfl).trans (Keeps.put _ d _),T⟩⟩)⟩
      rw[gn,xt,g];have:bI (.tree e k b (xs++ys) none)= .tree e b.sz k (xs.map (aI b)++ys.map (aI b)) none:=by show AObj.tree e b.sz k ((xs++ys).map (aI b)) none=_;simp
      rw[this];rfl
     grind
    grind
   ·rename_i v A;obtain⟨h3,Y⟩:=bq c;refine⟨_,au l.1 A,_,au l.2 E,.inr (.inl ⟨ys.map (wi k u),rfl,f,.inr ⟨rfl,by grind,QD (o:=.tree tid k u ys none) ?_ ?_ Y⟩⟩)⟩;·rw[g];rfl
    ·rw[ny];rfl
   grind
  grind
 grind
theorem Ux{k e:TypeId}{a b:Ty}(h:evOp O d (.mkmap k e a b) s κ kp=some r):L5 P s (.mkmap k e) d κ kp r:=by simp only[evOp]at h;refine um (o:=.map k e a b []) rfl ?_ h;rw[ny];rfl
theorem Jy{tid:TypeId}{t:Ty}{bytes:Nat}{x y:X}(f:x.wf=true/\y.wf=true)(h:evOp O d (.append tid t bytes x y) s κ kp=some r):Ox P s (.append tid t.sz bytes x.er y.er) d κ kp r:=by
 simp only[evOp]at h;obtain⟨M,ys,k,c,j⟩:=mK h;have a:∀v:V,s.get x=some v->aT v= .b .nils\/aT v= .b (.full (.list 0 []))->aD (decide (ys.length*bytes<=140737488355328)) (κ (S.putO ⟨s.fr,s.hp++[.vec tid t ys]⟩ d (.sl s.hp.length)))=some r->Ox P s (.append tid t.sz bytes x.er y.er) d κ kp r:=by intro v b g F;obtain⟨L,E⟩:=bq F;refine⟨_,au f.1 b,_,au f.2 k,j _ ⟨λp hp=>(ky ys p hp).2,.inr ⟨g,by grind,QD (o:=.vec tid t ys) rfl ?_ E⟩⟩⟩;rw[ny];rfl
 split at c
 ·rename_i id b;split at c
  ·rename_i e u xs H;split at c
   ·rename_i zs I;obtain⟨l,n⟩:=bB I;have w:=Ty.list.inj l;subst w;have z:zs=xs:=n;subst z;obtain⟨A,B⟩:=aO c;obtain⟨J,C⟩:=bq B;have D:=b_ A;subst D;refine⟨_,au f.1 b,_,au f.2 k,j _ ⟨λp hp=>(ky ys p hp).2,.inl ⟨id,rfl,_,by rw[bE,H];rfl,_,rfl,by grind,_,?_,(Keeps.map (gj d) s (s.moved id (.vec e u (zs++ys))) (V.kill1 id) (λv g=>by cases v<;>first|rfl|cases g) rfl).trans (Keeps.put _ d _),C⟩⟩⟩
    rw[gn,xt];have:bI (.vec e u (zs++ys))= .vec e u.sz (zs.map (aI u)++ys.map (aI u)):=by show AObj.vec e u.sz ((zs++ys).map (aI u))=_;simp
    rw[this];rfl
   grind
  grind
 ·rename_i u b;exact a _ b (.inl rfl) c
 ·rename_i u b;exact a _ b (.inr rfl) c
 grind
theorem R2{tid:TypeId}{t:Ty}{bytes:Nat}{x y:X}(a:x.wf=true/\y.wf=true)(h:evOp O d (.append tid t bytes x y) s κ kp=some r):L5 P s (.append tid t.sz bytes x.er y.er) d κ kp r:=(Jy a h).ob
theorem Wx{tid:TypeId}{t:Ty}{x y:X}(g:x.wf=true/\y.wf=true)(h:evOp O d (.copy tid t x y) s κ kp=some r):L5 P s (.copy tid t.sz x.er y.er) d κ kp r:=by
 simp only[evOp]at h;split at h
 ·rename_i id v H I;obtain⟨C,D⟩:=aO h;obtain⟨M,ys,c,b,E⟩:=mK D;cases c;split at b
  ·rename_i e u xs F;split at b
   ·rename_i zs J;obtain⟨k,l⟩:=bB J;have n:=Ty.list.inj k;subst n;have w:zs=xs:=l;subst w;obtain⟨z,A⟩:=aO b;have B:=b_ z;subst B;refine⟨_,au g.1 H,_,au g.2 I,E _ ⟨λp hp=>(ky ys p hp).2,id,rfl,λa=>?_,_,by rw[bE,F];rfl,_,rfl,_,?_,(Keeps.fr (s':=⟨s.fr,setAt s.hp id (.vec e u (ys.take zs.length++zs.drop ys.length))⟩) rfl).trans (Keeps.put _ d _),A⟩⟩
    ·cases f:v.isA
     ·rw[nw f]at a;cases v<;>simp only[aT,aP]at a<;>first|grind|skip
      ·rename_i j;cases a;simp[T_]at C
      ·rename_i L;unfold bz at a;grind
     ·cases v<;>first|(cases f;done)|cases a
    ·rw[gn,iw];have:bI (.vec e u (ys.take zs.length++zs.drop ys.length))= .vec e u.sz ((ys.map (aI u)).take (zs.map (aI u)).length++(zs.map (aI u)).drop (ys.map (aI u)).length):=by show AObj.vec e u.sz _=_;simp
     rw[this,o_,o_];exact .refl _
   grind
  grind
 grind
theorem Uy{x:X}(a:x.wf=true)(h:evOp O d (.panic x) s κ kp=some r):L5 P s (.panic x.er) d κ kp r:=by
 simp only[evOp]at h;split at h;·rename_i b;exact⟨_,au a b,rfl,s,rfl,Keeps.refl _ _,h⟩
 grind
theorem Np(hO:OracleOk P O){pan bor:Bool}{B:List Nat}{f:FuncId}{args:List (Arg×X)}{sh:Sh}(b:kb args=true/\sh.wfB=true)(h:evOp O d (.callA pan bor B f args sh) s κ kp=some r): Ox P s (.callA bor B (f%10000) (args.map λa=>a.2.er)) d κ kp r:=by
 simp only[evOp]at h;split at h;·rename_i ars g;obtain⟨os,_,c,e,j⟩:=AW hO b.2 h;refine⟨_,tG args ars b.1 g e,_,c,?_⟩;omega
 grind
theorem Uv(hO:OracleOk P O){pan bor:Bool}{B:List Nat}{f:FuncId}{args:List (Arg×X)}{sh:Sh}(b:kb args=true/\sh.wfB=true)(h:evOp O d (.callA pan bor B f args sh) s κ kp=some r): L5 P s (.callA bor B (f%10000) (args.map λa=>a.2.er)) d κ kp r:=(Np hO b h).ob
theorem Nq(hO:OracleOk P O){pan bor:Bool}{B:List Nat}{num:Nat}{x:X}{args:List (Arg×X)}{sh:Sh}(n:x.wf=true/\kb args=true/\ev P (num%10000)=true/\sh.wfB=true)(h:evOp O d (.callv pan bor B num x args sh) s κ kp=some r): Ox P s (.callv bor B x.er (args.map λa=>a.2.er)) d κ kp r:=by
 have e:∀(f:FuncId) (ars caps:List V),j_ (num%10000) f=true->sn s bor B args=some ars->zL pan O s d bor B num (ars++caps) sh κ kp=some r->ev P f=true/\aM ((args.map λa=>a.2.er).mapM λx=>((enc s).get x).bind (qx (enc s).hp bor B)) λy=>aM (B.mapM ((enc s).hp[·]?)) λos=>sexec.callK P (enc s) d bor B f (y++caps.map aT) os (λb=>∃s',b=enc s'/\Keeps (gj d) s s'/\κ s'=some r) (λb=>∃s',b=enc s'/\Keeps (gj d) s s'/\kp s'=some r):=by
  intro f ars caps z l hc
  have u:=b_ z
  subst u
  obtain⟨os,_,j,k,A⟩:=AW hO n.2.2.2 hc
  refine⟨n.2.2.1,_,tG args ars n.2.1 l λv C=>k v (by grind),_,j,?_⟩
  grind
 simp only[evOp]at h;split at h;·rename_i f ids ars w l;obtain⟨j,k⟩:=aO h;obtain⟨p,g⟩:=e f ars _ j l k;refine⟨_,au n.1 w,f,_,.inl ⟨ids,rfl,rfl⟩,p,?_⟩;rw[C_]at g;exact g
 ·rename_i f cs ars w l;obtain⟨j,k⟩:=aO h;obtain⟨p,g⟩:=e f ars _ j l k;refine⟨_,au n.1 w,f,_,.inr ⟨cs.map λc=>PV.pto (aI c.1 c.2),rfl,rfl⟩,p,?_⟩;rw[C_]at g⊢;exact g
 grind
theorem Uw(hO:OracleOk P O){pan bor:Bool}{B:List Nat}{num:Nat}{x:X}{args:List (Arg×X)}{sh:Sh}(b:x.wf=true/\kb args=true/\ev P (num%10000)=true/\sh.wfB=true)(h:evOp O d (.callv pan bor B num x args sh) s κ kp=some r): L5 P s (.callv bor B x.er (args.map λa=>a.2.er)) d κ kp r:=(Nq hO b h).ob
theorem R9:∀(t:Ty) (x:t.den),t.eqOk=true->(aI t x).plain=true:=by
 have hc:∀(t:Ty) (x:t.den),t.eqOk=true->(aK t x).all (λx=>match x with
  | .sc (.int _ _)=>true
  | .sc (.bool _)=>true
  | .sc (.string _)=>true
  |_=>false)=true:=by
  intro t
  induction t with|pair a b c d=>intro x h;simp only[Ty.eqOk,a_]at h;have e:aK (.pair a b) x=aK a x.1++aK b x.2:=rfl;grind|int k=>intro x _;rfl|bool=>intro x _;rfl|str=>intro x _;rfl|unit=>intro x _;rfl|list t _=>intro x h;cases h|rx=>intro x h;cases h
 intro t x h;cases t with|pair a b=>exact hc (.pair a b) x h|int k=>rfl|bool=>rfl|str=>rfl|unit=>rfl|list t=>cases h|rx=>cases h
theorem Jn{a b:Ty}(y:a.den)(z:b.den):∀(kvs:List (a.den×b.den)),(qH a b kvs y=none->BK a b kvs y z=kvs++[(y,z)])/\
 (∀j d v,kvs[j]? =some (d,v)->rJ a y d=true->(∀i' g,i'<j->kvs[i']? =some g->rJ a y g.1=false)->BK a b kvs y z=kvs.set j (y,z))
 |[]=>⟨λ_=>rfl,λj d v h=>by grind⟩
 |(k,v)::l=>by
  obtain⟨n,r⟩:=Jn y z l;refine⟨λh=>?_,λj d s f p e=>?_⟩
  ·simp only[qH]at h;cases c:rJ a y k;·rw[c]at h;simp only[BK,c,cond_false,n h,List.cons_append]
   grind
  ·cases j with
   |zero=>simp at f;obtain⟨rfl,rfl⟩:=f;simp[BK,p]
   |succ j=>have c:=e 0 (k,v) (by simp) rfl;simp only[BK,c,cond_false,List.set_cons_succ];grind
theorem R4{k e:TypeId}{a b:Ty}{m x v:X}(n:m.wf=true/\x.wf=true/\v.wf=true/\zU P 64 k a=true)(h:evOp O d (.mapset k e a b m x v) s κ kp=some r):L5 P s (.mapset k e m.er x.er v.er) d κ kp r:=by
 simp only[evOp]at h;split at h
 ·rename_i id u w hm hx hv;split at h
  ·rename_i k' e' f g kvs y z ho hy hz;split at h
   ·rename_i c E;obtain⟨B,h2⟩:=aO h;simp only[a_]at B;have L:=b_ B.1.1.1;have M:=b_ B.1.1.2;have C:=B.1.2;obtain⟨N,Q⟩:=bB E;have R:=Ty.list.inj N;injection R with T U;clear h B;subst L;subst M;subst T;subst U;have Y:c=kvs:=Q;subst Y;obtain⟨_,h3⟩:=bq h2;obtain⟨g1,g2⟩:=F9 (P:=P) (b:=g) n.2.2.2 y c 0;obtain⟨q1,q2⟩:=Jn y z c;have A:∀l:List (PV×PV),(BK f g c y z).map (λp=>(aI f p.1,aI g p.2))=l->∃s',LeS {enc s with hp:=(enc s).hp.set id (.map k e l)} (enc s')/\Keeps (gj none) s s'/\κ s'=some r:=by rintro l rfl;refine⟨⟨s.fr,setAt s.hp id (.map k e f g (BK f g c y z))⟩,?_,Keeps.fr rfl,h3⟩;rw[iw];exact .refl _
    refine⟨_,au n.1 hm,_,au n.2.1 hx,_,au n.2.2.1 hv,id,_,rfl,by rw[bE,ho];rfl,_,dL hy,_,dL hz,rfl,R9 f y C,(K0 P 64 k f n.2.2.2 y y).2,M4 n.2.2.2,g1,?_⟩;rcases g2 with⟨g3,D⟩|⟨j,u',F,g3,D,H,g7,I⟩;·refine⟨_,D,λi u J=>(by grind),A _ ?_⟩;grind
    ·have hk:=KV f y F C H;subst hk;rw[aJ_]at I;refine⟨_,I,λi u J=>?_,A _ ?_⟩;·cases J;exact⟨aI g u',by grind⟩
     ·rw[q2 j _ _ D H g7,D_]
   grind
  grind
 grind
end
theorem oR{α:Type}(xs ys:List α)(h:xs.length=ys.length):splice xs 0 ys=ys:=by simp[splice,<-h]
theorem iG:∀(u:Ty) (off:Nat) (t:Ty) (x:u.den) (y:t.den) (z:u.den),mW u off t x y=some z->off+t.sz<=u.sz/\aK u z=splice (aK u x) off (aK t y)/\(u.ag=false->t=u)
 | .pair a b,off,t,x,y,z,h=>by
  have n:=aH a x.1
  have w:=aH b x.2
  have B:=aH t y
  have hc:∀x:(Ty.pair a b).den,aK (.pair a b) x=aK a x.1++aK b x.2:=λ_=>rfl
  unfold mW at h
  cases d:(decide (Ty.pair a b=t)&&j_ off 0)
  ·rw[d]at h
   simp only[cond_false]at h
   cases e:Z_ (off+1) a.sz
   ·rw[e]at h
    simp only[cond_false]at h
    have v:a.sz<=off:=by
     have:=Nat.not_le_of_not_ble_eq_true (by rw[e];simp)
     omega
    split at h
    ·rename_i D j
     cases h
     obtain⟨s,p,_⟩:=iG b (off - a.sz) t x.2 y D j
     refine⟨by simp only[Ty.sz];omega,?_,λh=>by cases h⟩
     rw[hc,hc,p]
     simp only[splice]
     rw[aw_,ai_ (l:=aK a x.1) (by omega),n,ar_,ah_ (show(aK a x.1).length<=off+(aK t y).length by omega),n]
     grind
    grind
   ·rw[e]at h
    simp only[cond_true]at h
    have A:=c_ e
    split at h
    ·rename_i C f
     cases h
     obtain⟨s,p,_⟩:=iG a off t x.1 y C f
     refine⟨by simp only[Ty.sz];omega,?_,λh=>by cases h⟩
     rw[hc,hc,p]
     simp only[splice]
     grind
    grind
  ·rw[d]at h
   simp only[cond_true]at h
   simp only[a_,decide_eq_true_eq]at d
   have g:off=0:=b_ d.2
   subst g
   obtain⟨r,rfl⟩:=bG h
   refine⟨by simp,?_,λh=>by rfl⟩
   rw[oR _ _ (by rw[aH,aH])]
   grind
 | .rx,off,t,x,y,z,h=>by
  unfold mW at h
  obtain⟨f,j⟩:=aO h
  simp only[a_,decide_eq_true_eq]at f
  have g:off=0:=b_ f.1
  subst g
  obtain⟨r,rfl⟩:=bG j
  refine⟨by simp,?_,λ_=>rfl⟩
  rw[oR _ _ (by rw[aH,aH])]
  grind
 | .int k,off,t,x,y,z,h=>c (.int k) off t x y z h
 | .bool,off,t,x,y,z,h=>c .bool off t x y z h
 | .str,off,t,x,y,z,h=>c .str off t x y z h
 | .list a,off,t,x,y,z,h=>c (.list a) off t x y z h
 | .unit,off,t,x,y,z,h=>c .unit off t x y z h
where
 c (u:Ty) (off:Nat) (t:Ty) (x:u.den) (y:t.den) (z:u.den) (h:(bif j_ off 0 then bN t u y else none)=some z):off+t.sz<=u.sz/\aK u z=splice (aK u x) off (aK t y)/\(u.ag=false->t=u):=by
  obtain⟨f,j⟩:=aO h
  have g:off=0:=b_ f
  subst g
  obtain⟨r,rfl⟩:=bG j
  refine⟨by simp,?_,λ_=>rfl⟩
  rw[oR _ _ (by rw[aH,aH])]
  grind
theorem Bt{t:Ty}{x y:t.den}(h:aK t x=aK t y):aI t x=aI t y:=by
 cases a:t.ag;·rw[dM x a,dM y a]at h;grind
 ·rw[ey x a,ey y a,h]
theorem OE{t:Ty}{v:V}{x:t.den}(h:cQ t v=some x):(aT v).cells.length=t.sz/\∀(i:Nat) (a b:BV),(aT v).cells[i]? =some a->((aK t x).map BV.pv)[i]? =some b->LeB a b:=by
 have hd:=dL h
 have one:∀(z:BV),(∀p,z≠.pv p)->z.toPV=some (aI t x)->t.ag=false->([z]:List BV).length=t.sz/\∀(i:Nat) (a b:BV),([z]:List BV)[i]? =some a->((aK t x).map BV.pv)[i]? =some b->LeB a b:=by
  intro z _ A w
  refine⟨by rw[gh w];rfl,λi a b g f=>?_⟩
  rw[dM x w]at f
  cases i with
  |zero=>simp at g f;subst g;subst f;exact .data _ _ A
  |succ i=>grind
 cases v with
 |d u y=>
  obtain⟨n,rfl⟩:=bG (show bN u t y=some x from h)
  refine⟨?_,λi a b g f=>?_⟩
  ·show((aK u y).map BV.pv).length=_
   rw[o_,aH]
  ·have c:((aK u y).map BV.pv)[i]? =some a:=g
   have:aK u y=aK u x:=by grind
   rw[this,f]at c
   cases c
   exact .refl _
 |agg vs=>
  have k:((vs.map aP).mapM BV.toPV).map PV.agg=some (aI t x):=hd
  obtain⟨cs,r,s⟩:=e_.1 k
  have j:t.ag=true:=by rw[<-nN t x,<-s];rfl
  have hcs:cs=aK t x:=by rw[ey x j]at s;grind
  subst hcs
  have hl:=mapM_len r
  refine⟨by show(vs.map aP).length=_;rw[<-hl,aH],λi a b g f=>?_⟩
  have c:(vs.map aP)[i]? =some a:=g
  rw[k_]at f
  obtain⟨p,hp,rfl⟩:=e_.1 f
  exact .data _ _ (BP r c hp)
 |nil u=>
  obtain⟨n,rfl⟩:=bG (show bN (.list u) t []=some x from h)
  exact one .nils (λp e=>by grind) hd rfl
 |full u y=>
  obtain⟨n,rfl⟩:=bG (show bN (.list u) t y=some x from h)
  exact one (.full _) (λp e=>by grind) hd rfl
 |_=>simp[cQ,jp]at h
where
 BP {l:List BV} {m:List PV} (h:l.mapM BV.toPV=some m) {i:Nat} {a:BV} {p:PV} (g:l[i]? =some a) (hp:m[i]? =some p):a.toPV=some p:=by
  induction l generalizing m i with
  |nil=>grind
  |cons x l B=>
   simp only[z_,x_,E_,l_,h_]at h
   grind
theorem RJ{l:List BV}{m:List PV}(h:l.mapM BV.toPV=some m){i:Nat}{a:BV}{p:PV}(b:l[i]? =some a)(hp:m[i]? =some p):a.toPV=some p:=by induction l generalizing m i with|nil=>grind|cons x l c=>simp only[z_,x_,E_,l_,h_]at h;grind
def LeL(xs ys:List BV):Prop:=xs.length=ys.length/\∀(i:Nat) (a b:BV),xs[i]? =some a->ys[i]? =some b->LeB a b
theorem LeL.refl(xs:List BV):LeL xs xs:=⟨rfl,λi a b E z=>by rw[E]at z;cases z;exact .refl _⟩
theorem LeL.append{a b c e:List BV}(h:LeL a b)(k:LeL c e):LeL (a++c) (b++e):=by
 refine⟨by simp[h.1,k.1],λi x y z E=>?_⟩;rcases Nat.lt_or_ge i a.length with H|H;·rw[t_ H]at z;rw[t_ (by rw[<-h.1];omega)]at E;exact h.2 i x y z E
 ·rw[U_ H]at z;rw[U_ (by rw[<-h.1];omega),<-h.1]at E;exact k.2 _ x y z E
theorem Tf{t:Ty}{l:List V}{x:t.den}{m:List V}(h:P2 t l=some (x,m)):∃c,l=c++m/\c.length=t.sz/\LeL (c.map aP) ((gM t x).map aP):=by obtain⟨c,f,d⟩:=xl t l x m h;have hl:=mapM_len d;rw[o_,aH]at hl;refine⟨c,f,hl.symm,by rw[(dx t x).1,o_,o_,aH,<-hl],λi a b g e=>?_⟩;rw[(dx t x).1,k_]at e;obtain⟨p,hp,rfl⟩:=e_.1 e;exact .data _ _ (RJ d g hp)
theorem GH{t:Ty}{y:t.den}:∀(n:Nat) (vs:List V) (m:Int) (r:List V),(m<0\/(n:Int)<=m)->Ae t y n vs m=some r->LeL (vs.map aP) (r.map aP)
 |0,vs,m,r,_,h=>by simp only[Ae,h_]at h;subst h;exact .refl _
 |n+1,vs,m,r,e,h=>by
  simp only[Ae]at h;split at h
  ·rename_i x l b;split at h;·rename_i c hr;cases h;obtain⟨f,rfl,d,a⟩:=Tf b;rw[decide_eq_false (by omega:¬m=0)];simp only[cond_false,w_];exact a.append (GH n l (m - 1) c (by omega) hr)
   grind
  grind
theorem JK{t:Ty}{y:t.den}{cs:List BV}(hcs:LeL cs ((gM t y).map aP)):∀(n:Nat) (vs:List V) (j:Nat) (r:List V),j<n->Ae t y n vs (j:Int)=some r->
 j*t.sz+t.sz<=vs.length/\LeL (splice (vs.map aP) (j*t.sz) cs) (r.map aP)
 |0,_,_,_,d,_=>absurd d (by simp)
 |n+1,vs,j,r,d,h=>by
  have p:cs.length=t.sz:=by rw[hcs.1,o_,(dx t y).2]
  simp only[Ae]at h;split at h
  ·rename_i x l s;split at h
   ·rename_i f hr;cases h;obtain⟨a,rfl,u,g⟩:=Tf s;cases j with
    |zero=>
     refine⟨by grind,?_⟩;have e:(decide (((0:Nat):Int)=0))=true:=rfl;rw[e];simp only[cond_true,w_];have:=GH n l _ f (.inl (by simp)) hr;have c:splice (a.map aP++l.map aP) (0*t.sz) cs=cs++l.map aP:=by simp only[splice,Nat.zero_mul,aF_,List.nil_append,aJ_];grind
     rw[c];exact hcs.append this
    |succ j=>
     have e:(decide (((j+1:Nat):Int)=0))=false:=decide_eq_false (by omega);rw[e];rw[show(((j+1:Nat):Int) - 1)=(j:Int) by simp]at hr;obtain⟨v,k⟩:=JK hcs n l j f (by omega) hr;refine⟨by grind,?_⟩;simp only[cond_false,w_];have b:(a.map aP).length=t.sz:=by grind
     have c:splice (a.map aP++l.map aP) ((j+1)*t.sz) cs=a.map aP++splice (l.map aP) (j*t.sz) cs:=by simp only[splice,Nat.succ_mul];rw[aw_,ai_ (l:=a.map aP) (by omega),b,ar_,ah_ (show(a.map aP).length<=j*t.sz+t.sz+cs.length by omega),b];grind
     rw[c];exact g.append k
   grind
  grind
theorem Sw{α:Type}(cs:List α)(off n k:Nat)(ys:List α)(h:off+n<=cs.length)(a:k+ys.length<=n):splice cs (off+k) ys=splice cs off (splice ((cs.drop off).take n) k ys):=by
 have hl:(((cs.drop off).take n).take k++ys++((cs.drop off).take n).drop (k+ys.length)).length=n:=by grind
 simp only[splice];rw[hl,List.take_take,Nat.min_eq_left (show k<=n by omega),List.drop_take,aE_,List.take_add];simp only[O_];congr 3;rw[show off+k+ys.length=off+(k+ys.length) by omega];conv=>lhs;rw[<-List.take_append_drop (n - (k+ys.length)) (cs.drop (off+(k+ys.length)))];rw[aE_,show off+(k+ys.length)+(n - (k+ys.length))=off+n by omega]
section
variable {R:Type} {P:Program} {O:ak} {d:Option Nat} {s:S} {κ kp:S->Option R} {r:R}
theorem Wq{a:St}{id:Nat}{o o':AObj}(h:LeO o o'):LeS {a with hp:=a.hp.set id o} {a with hp:=a.hp.set id o'}:=by
 refine⟨λ_ y e=>⟨y,e,.refl y⟩,by simp,λi x y b c=>?_⟩;simp only[aq_]at b c;split at b;·grind
 ·rename_i d;rw[if_neg d,b]at c;cases c;exact .refl _
theorem Uz{t:Ty}{x v:X}(B:x.wf=true/\v.wf=true)(h:evOp O d (.store t x v) s κ kp=some r):L5 P s (.store t.sz x.er v.er) d κ kp r:=by
 simp only[evOp]at h;cases d with
 |some _=>grind|none=>
  simp only at h;unfold storeT at h;split at h
  ·rename_i id off C F E;split at h
   ·rename_i tid cs D;obtain⟨c,l⟩:=aO h;simp only[a_]at c;obtain⟨g,I⟩:=uo c.2;have h5:=b_ c.1.1;have h6:=c_ c.1.2;refine⟨_,au B.1 F,_,au B.2 E,rfl,_,by rw[bE,D];rfl,tid,_,rfl,by grind,by grind,g,⟨s.fr,setAt s.hp id (.box tid (jX cs off (cA C)))⟩,?_,Keeps.fr rfl,l⟩;rw[iw];have:bI (.box tid (jX cs off (cA C)))= .box tid (splice (cs.map aP) off (aT C).cells):=by show AObj.box tid _=_;rw[sd,I]
    rw[this];exact .refl _
   grind
  ·rename_i id off n u m C F E;split at h
   ·rename_i tid cs y D H;obtain⟨c,l⟩:=aO h;simp only[a_,decide_eq_true_eq]at c;obtain⟨⟨c,rfl⟩,hsz⟩:=c;have h6:=c_ c;split at l
    ·rename_i vs el;obtain⟨g,I⟩:=bq l;simp only[a_,decide_eq_true_eq]at g;obtain⟨j,rfl⟩:=ae_ g.1;have R:j<n:=by omega
     obtain⟨d1,d2⟩:=OE H;have U:=Qc H;have T:=uo U;have hcs:LeL (aT C).cells ((gM u y).map aP):=⟨by rw[d1,o_,(dx u y).2],λi a b ha hb=>d2 i a b ha (by rw[<-(dx u y).1];omega)⟩;obtain⟨r1,r2⟩:=JK hcs n _ j vs R el;have gc:j*u.sz+u.sz<=n*u.sz:=by grind
     refine⟨_,au B.1 F,_,au B.2 E,rfl,_,by rw[bE,D];rfl,tid,_,rfl,d1,?_,T.1,⟨s.fr,setAt s.hp id (.box tid (jX cs off vs))⟩,?_,Keeps.fr rfl,I⟩;·grind
     ·rw[iw];refine Wq ?_;have N:splice (cs.map aP) (off+(j:Int).toNat*u.sz) (aT C).cells=splice (cs.map aP) off (splice (((cs.drop off).take (n*u.sz)).map aP) (j*u.sz) (aT C).cells):=by rw[Int.toNat_natCast,ac_,aG_];exact Sw _ off (n*u.sz) _ _ (by grind) (by omega)
      show LeO (AObj.box tid (splice (cs.map aP) (off+(j:Int).toNat*u.sz) (aT C).cells)) (AObj.box tid ((jX cs off vs).map aP));rw[N,sd];have key:LeL (splice (cs.map aP) off (splice (((cs.drop off).take (n*u.sz)).map aP) (j*u.sz) (aT C).cells)) (splice (cs.map aP) off (vs.map aP)):=by unfold splice at r2⊢;rw[r2.1];exact((LeL.refl _).append r2).append (LeL.refl _)
      exact .box tid _ _ key.1 key.2
    grind
   grind
  ·rename_i id i off C F E;split at h
   ·rename_i e u xs y D H;obtain⟨c,l⟩:=aO h;obtain⟨x0,A,g⟩:=cp l;split at g
    ·rename_i z hz;obtain⟨p1,M,p3⟩:=iG u off t x0 y z hz;have L:=(i_.1 A).1;have f:(xs.map (aI u)).getD i .any=aI u x0:=by grind
     have J:∀p,p=aI u z->∃s',LeS {enc s with hp:=(enc s).hp.set id (.vec e u.sz ((xs.map (aI u)).set i p))} (enc s')/\Keeps (gj none) s s'/\κ s'=some r:=by
      rintro p rfl;refine⟨⟨s.fr,setAt s.hp id (.vec e u (xs.set i z))⟩,?_,Keeps.fr rfl,g⟩;rw[iw];have:bI (.vec e u (xs.set i z))= .vec e u.sz ((xs.map (aI u)).set i (aI u z)):=by show AObj.vec e u.sz _=_;simp
      rw[this];exact .refl _
     refine⟨_,au B.1 F,_,au B.2 E,rfl,_,by rw[bE,D];rfl,.inl ⟨e,_,_,rfl,by grind,_,dL H,aH t y,ua t y,?_⟩⟩;by_cases hs:t.sz=u.sz
     ·have Y:u=t:=by
       simp only[s_,decide_eq_true_eq,p_]at c;rcases c with c|c;·omega
       ·rw[hs,T_]at c;grind
      subst Y;have h0:off=0:=by omega
      subst h0;refine .inl ⟨rfl,rfl,J _ (Bt ?_)⟩;rw[M,oR _ _ (by rw[aH,aH])]
     ·refine .inr ⟨hs,p1,J _ ?_⟩;have Q:u.ag=true:=by grind
      rw[f,ey z Q,M]
    grind
   ·rename_i e k u xs hole y D H;obtain⟨c,l⟩:=aO h;simp only[a_]at c;obtain⟨x0,A,g⟩:=cp l;split at g
    ·rename_i z hz;obtain⟨p1,M,p3⟩:=iG u off t x0 y z hz;have L:=(i_.1 A).1;have f:(xs.map (aI u)).getD i .any=aI u x0:=by grind
     refine⟨_,au B.1 F,_,au B.2 E,rfl,_,by rw[bE,D];rfl,.inr ⟨e,_,k,_,_,rfl,by grind,p1,.inl ⟨c.1,by rw[f,nN];grind,_,dL H,aH t y,ua t y,⟨s.fr,setAt s.hp id (.tree e k u (xs.set i z) hole)⟩,?_,Keeps.fr rfl,g⟩⟩⟩;rw[iw,f];have:bI (.tree e k u (xs.set i z) hole)= .tree e u.sz k ((xs.map (aI u)).set i (.agg (splice (aI u x0).cells off (aI t y).cells))) (Ym hole):=by show AObj.tree e u.sz k _ _=_;rw[D_,ey z c.2,M]
     rw[this];exact .refl _
    grind
   ·rename_i e k u xs hi R w D H;split at h;·rename_i kid;obtain⟨c,l⟩:=aO h;simp only[a_]at c;obtain⟨x0,A,g⟩:=cp l;obtain⟨I,h5⟩:=bq g;have L:=(i_.1 A).1;have N:=b_ c.1.1;have e2:=b_ c.1.2;have e3:=c_ c.2;have e4:=b_ I;clear h c l g I;subst N;subst e4;refine⟨_,au B.1 F,_,au B.2 E,rfl,_,by rw[bE,D];rfl,.inr ⟨e,_,k,_,_,rfl,by grind,by omega,.inr ⟨_,_,rfl,e2,rfl,rfl,⟨s.fr,setAt s.hp id (.tree e k u xs (some (hi,R,.sl kid)))⟩,?_,Keeps.fr rfl,h5⟩⟩⟩;rw[iw];exact .refl _
    grind
   grind
  grind
theorem UG{t:Ty}{x v:X}(B:x.wf=true/\v.wf=true)(hp:Sx s (.store t x v)=true)(h:evOp O d (.store t x v) s κ kp=some r):Ox P s (.store t.sz x.er v.er) d κ kp r:=by
 simp only[evOp]at h;cases d with
 |some _=>grind|none=>
  simp only at h;unfold storeT at h;split at h
  ·rename_i id off j c A;split at h
   ·rename_i tid cs b;obtain⟨a,C⟩:=aO h;simp only[a_]at a;obtain⟨l,L⟩:=uo a.2;have R:=b_ a.1.1;have T:=c_ a.1.2;refine⟨_,au B.1 c,_,au B.2 A,rfl,_,by rw[bE,b];rfl,tid,_,rfl,by grind,by grind,l,⟨s.fr,setAt s.hp id (.box tid (jX cs off (cA j)))⟩,?_,Keeps.fr rfl,C⟩;rw[iw];have:bI (.box tid (jX cs off (cA j)))= .box tid (splice (cs.map aP) off (aT j).cells):=by show AObj.box tid _=_;rw[sd,L]
    grind
   grind
  ·rename_i id off n u m j c A;simp only[Sx,c]at hp;grind
  ·rename_i id i off j c A;split at h
   ·rename_i e u xs y b H;obtain⟨a,C⟩:=aO h;obtain⟨x0,F,l⟩:=cp C;split at l
    ·rename_i z N;obtain⟨Q,I,p3⟩:=iG u off t x0 y z N;have M:=(i_.1 F).1;have g:(xs.map (aI u)).getD i .any=aI u x0:=by grind
     have f:∀p,p=aI u z->∃s',{enc s with hp:=(enc s).hp.set id (.vec e u.sz ((xs.map (aI u)).set i p))}=enc s'/\Keeps (gj none) s s'/\κ s'=some r:=by
      rintro p rfl;refine⟨⟨s.fr,setAt s.hp id (.vec e u (xs.set i z))⟩,?_,Keeps.fr rfl,l⟩;rw[iw];have:bI (.vec e u (xs.set i z))= .vec e u.sz ((xs.map (aI u)).set i (aI u z)):=by show AObj.vec e u.sz _=_;simp
      grind
     refine⟨_,au B.1 c,_,au B.2 A,rfl,_,by rw[bE,b];rfl,.inl ⟨e,_,_,rfl,by grind,_,dL H,aH t y,ua t y,?_⟩⟩;by_cases hs:t.sz=u.sz
     ·have E:u=t:=by
       simp only[s_,decide_eq_true_eq,p_]at a;rcases a with a|a;·omega
       ·rw[hs,T_]at a;grind
      subst E;have J:off=0:=by omega
      subst J;refine .inl ⟨rfl,rfl,f _ (Bt ?_)⟩;rw[I,oR _ _ (by rw[aH,aH])]
     ·refine .inr ⟨hs,Q,f _ ?_⟩;have D:u.ag=true:=by grind
      rw[g,ey z D,I]
    grind
   ·rename_i e k u xs hole y b H;simp only[Sx,c,b]at hp;grind
   ·rename_i e k u xs U Y w b H;simp only[Sx,c,b]at hp;grind
   grind
  grind
theorem RR{op:TOp}(f:op.wf P=true){g:Ob->(Nat->V)->Option R}(h:evOp.mkT s op g=some r):∃o v,g o v=some r/\GL (enc s) op.er λob mk=>ob=bI o/\∀n,aT (v n)= .b (mk n):=by
 unfold evOp.mkT at h;split at h;·rename_i tid zero;refine⟨_,_,h,?_,λn=>rfl⟩;show AObj.box tid ((zero.map B7).map λv=>bz v)=AObj.box tid (zero.map aP);rw[C_];congr 1;exact K_ λv C=>xz (f_.1 f v C)
 ·rename_i tid x;split at h;·rename_i v z;obtain⟨d,j⟩:=aO h;obtain⟨A,B⟩:=uo d;refine⟨_,_,j,_,au f z,A,?_,λn=>rfl⟩;show AObj.box tid _=AObj.box tid _;grind
  grind
 ·rename_i tid t len parts;obtain⟨d,j⟩:=aO h;simp only[a_]at d;obtain⟨xs,A,B,w⟩:=oK parts _ f j;refine⟨_,_,w,_,A,?_,c_ d.1.2,c_ d.2,ky xs,rfl,λn=>rfl⟩;rw[o_,B];exact b_ d.1.1
 ·rename_i tid t bytes l c;simp only[TOp.wf,a_,decide_eq_true_eq,ne_eq]at f;obtain⟨d,j⟩:=aO h;obtain⟨J,M,hl,A⟩:=fX j;obtain⟨L,N,hc,B⟩:=fX A;obtain⟨w,D⟩:=bq B;simp only[a_,decide_eq_true_eq]at w;obtain⟨H,I⟩:=Oe t f.2;refine⟨_,_,D,_,au f.1.1 hl,_,au f.1.2 hc,_,rfl,_,rfl,_,_,rfl,_,_,rfl,w.1.1.1,w.1.1.2,w.1.2,w.2,I,c_ d,_,H,ua t t.zero,?_,λn=>rfl⟩;show AObj.vec tid t.sz _=AObj.vec tid t.sz _;simp
 ·rename_i tid t bytes x y;simp only[TOp.wf,a_]at f;obtain⟨O,ys,F,d,j⟩:=mK h;have key:∀v:V,s.get x=some v->(aT v= .b .nils\/aT v= .b (.full (.list 0 [])))->aD (decide (ys.length*bytes<=140737488355328)) (g (.vec tid t ys) .sl)=some r->∃o v,g o v=some r/\GL (enc s) (TOp.append tid t bytes x y).er λob mk=>ob=bI o/\∀n,aT (v n)= .b (mk n):=by intro v z C E;obtain⟨A,B⟩:=bq E;exact⟨_,_,B,_,au f.1 z,_,au f.2 F,j _ ⟨λp hp=>(ky ys p hp).2,C,by grind,rfl,λn=>rfl⟩⟩
  split at d;·rename_i u z;exact key _ z (.inl rfl) d
  ·rename_i u z;exact key _ z (.inr rfl) d
  grind
 ·rename_i k e a b;exact⟨_,_,h,rfl,λn=>rfl⟩
 grind
theorem P3{k:Nat}{op:TOp}(g:op.wf P=true)(h:evOp O d (.atq k op) s κ kp=some r): ∃o v,ui P ⟨d,.atq k op.er,none⟩ (enc s) ⟨aT v,some (k,bI o)⟩/\κ (S.putO ⟨s.fr,setAt s.hp k o⟩ d v)=some r:=by
 simp only[evOp]at h;split at h;·rename_i f;obtain⟨o,v,c,e⟩:=RR g h;refine⟨o,v k,⟨rfl,op.er,rfl,qV e λob mk ⟨a,b⟩=>⟨a,b k,?_⟩⟩,c⟩;rw[bE,f];rfl
 grind
theorem Yv{k:Nat}{op:TOp}(l:op.wf P=true)(h:evOp O d (.atq k op) s κ kp=some r):Ox P s (.atq k op.er) d κ kp r:=by obtain⟨o,v,f,g⟩:=P3 l h;obtain⟨_,q,e,j⟩:=f;cases e;show GL (enc s) op.er λob mk=>BX (enc s) (some k)/\∃s',((enc s).new (some k) ob).putO d (.b (mk k))=enc s'/\Keeps (gj d) s s'/\κ s'=some r;refine qV j λob mk ⟨a,b,c⟩=>⟨c,_,?_,(Keeps.fr (s':=⟨s.fr,setAt s.hp k o⟩) rfl).trans (Keeps.put _ d v),g⟩;rw[gn,iw,a,<-b];rfl
theorem F3(hO:OracleOk P O){op:TOp}(g:op.wf P=true)(h:evOp O d op s κ kp=some r):L5 P s op.er d κ kp r:=by
 cases op<;>simp only[TOp.wf,a_,decide_eq_true_eq,ne_eq]at g;case mv x=>exact(W2 g h).ob
 case pick c a b=>exact(QS ⟨g.1.1,g.1.2,g.2⟩ h).ob
 case bin op x y=>exact(UO g h).ob
 case eqB neg x y=>exact(UP g h).ob
 case eqT neg tid t x y=>exact(UQ ⟨g.1.1,g.1.2,g.2⟩ h).ob
 case un op x=>exact(W3 g h).ob
 case len b x=>exact(UT g h).ob
 case lenM k e x=>exact(QN g h).ob
 case idxS x i=>exact(QL g h).ob
 case idxV n t x i=>exact(QM g h).ob
 case idxA t x i=>exact(QJ g h).ob
 case idxP n t x i=>exact(QK g h).ob
 case fldA off t x=>exact(QI g h).ob
 case fld off t x=>exact(US g h).ob
 case load t x=>exact(QO g h).ob
 case store t x v=>exact Uz g h
 case alloc tid zero=>exact Uu g h
 case box tid x=>exact Xy g h
 case boxD tid t x=>exact(QF g h).ob
 case build zero parts=>exact(Nt g h).ob
 case bslice own tid t len parts=>
  cases own;·exact(JD g h).ob
  ·exact R3 g h
 case mslice tid t b l c=>exact R5 ⟨g.1.1,g.1.2,g.2⟩ h
 case append tid t b x y=>exact R2 g h
 case cvtI k x=>exact(QH g h).ob
 case slc full t x lo p mx=>exact(UU ⟨g.1.1.1,g.1.1.2,g.1.2,g.2⟩ h).ob
 case slcS x lo p=>exact(QT ⟨g.1.1,g.1.2,g.2⟩ h).ob
 case ext x i=>exact(UR g h).ob
 case nilc x=>exact(QR g h).ob
 case call bor f args sh=>exact(QG hO g h).ob
 case callA pan bor B f args sh=>exact Uv hO g h
 case callv pan bor B num x args sh=>exact Uw hO ⟨g.1.1.1,g.1.1.2,g.1.2,g.2⟩ h
 case callp bor num x args sh=>exact(Nu hO ⟨g.1.1.1,g.1.1.2,g.1.2,g.2⟩ h).ob
 case b2s x=>exact(UN g h).ob
 case mkfn f caps=>exact(QP g h).ob
 case mkmap k e a b=>exact Ux h
 case lookup k e ok a b m x=>exact(JE ⟨g.1.1.1,g.1.1.2,g.1.2,g.2⟩ h).ob
 case mapset k e a b m x v=>exact R4 ⟨g.1.1.1,g.1.1.2,g.1.2,g.2⟩ h
 case copy tid t x y=>exact Wx g h
 case mnmx mx k x ys=>exact(QQ g h).ob
 case panic x=>exact Uy g h
 case iface tid x=>exact(Nv g h).ob
 case bsliceF tid t len parts=>exact(Gy g h).ob
 case appD tid t b x y=>exact(QE g h).ob
 case bsliceN tid k t len parts=>exact(Gz g h).ob
 case msliceT tid k u b l c=>exact OZ g h
 case appT tid k t b x y=>exact(QC g h).ob
 case bsliceT tid k j t x=>exact OY g h
 case appH tid k j t b x y=>exact(QB g h).ob
 case atq k op=>exact(Yv g h).ob
theorem sN(hO:OracleOk P O){op:TOp}(g:op.wf P=true)(hp:op.pureB=true)(h:evOp O d op s κ kp=some r):Pu P s op.er d κ r:=by
 cases op<;>simp only[TOp.wf,a_,decide_eq_true_eq,ne_eq]at g<;>simp only[TOp.pureB]at hp<;>try (cases hp;done)
 case mv x=>exact W2 g h
 case pick c a b=>exact QS ⟨g.1.1,g.1.2,g.2⟩ h
 case bin op x y=>exact UO g h
 case eqB neg x y=>exact UP g h
 case eqT neg tid t x y=>exact UQ ⟨g.1.1,g.1.2,g.2⟩ h
 case un op x=>exact W3 g h
 case len b x=>exact UT g h
 case lenM k e x=>exact QN g h
 case idxS x i=>exact QL g h
 case idxV n t x i=>exact QM g h
 case idxA t x i=>exact QJ g h
 case idxP n t x i=>exact QK g h
 case fldA off t x=>exact QI g h
 case fld off t x=>exact US g h
 case load t x=>exact QO g h
 case boxD tid t x=>exact QF g h
 case build zero parts=>exact Nt g h
 case bslice own tid t len parts=>
  cases own;·exact JD g h
  grind
 case cvtI k x=>exact QH g h
 case slc full t x lo j mx=>exact UU ⟨g.1.1.1,g.1.1.2,g.1.2,g.2⟩ h
 case slcS x lo j=>exact QT ⟨g.1.1,g.1.2,g.2⟩ h
 case ext x i=>exact UR g h
 case nilc x=>exact QR g h
 case call bor f args sh=>exact QG hO g h
 case callp bor num x args sh=>exact Nu hO ⟨g.1.1.1,g.1.1.2,g.1.2,g.2⟩ h
 case b2s x=>exact UN g h
 case mkfn f caps=>exact QP g h
 case lookup k e ok a b m x=>exact JE ⟨g.1.1.1,g.1.1.2,g.1.2,g.2⟩ h
 case mnmx mx k x ys=>exact QQ g h
 case iface tid x=>exact Nv g h
 case bsliceF tid t len parts=>exact Gy g h
 case appD tid t b x y=>exact QE g h
 case bsliceN tid k t len parts=>exact Gz g h
theorem OO(hO:OracleOk P O){op:TOp}(a:op.wf P=true)(hp:op.exB=true)(e:Sx s op=true)(h:evOp O d op s κ kp=some r):Ox P s op.er d κ kp r:=by
 by_cases c:op.pureB=true;·exact(sN hO a c h).ox
 ·cases op<;>simp only[TOp.exB]at hp<;>try exact absurd hp c
  case append tid t b x y=>simp only[TOp.wf,a_]at a;exact Jy a h
  case appT tid k t b x y=>simp only[TOp.wf,a_]at a;exact QC a h
  case appH tid k j t b x y=>simp only[TOp.wf,a_]at a;exact QB a h
  case callA pan bor B f args sh=>simp only[TOp.wf,a_]at a;exact Np hO a h
  case callv pan bor B num x args sh=>simp only[TOp.wf,a_]at a;exact Nq hO ⟨a.1.1.1,a.1.1.2,a.1.2,a.2⟩ h
  case store t x v=>simp only[TOp.wf,a_]at a;exact UG a e h
end
theorem Wh{θ:List Av.Loc}{D D':Nat->Prop}{w:World}{id:Nat}{t:Ty}{xs:List t.den}{l:Av.Loc}(hl:θ[id]? =some l)(hD:∀b,D b->D' b)(L:∀g,l≠.blk g)(H:∀g,l≠.mp g) (E:∀v,l.head v->RelP D' w v (nz t.sz (xs.map (aI t)))) {v:Value} {u:V} (h:RelB θ D w v (aP u)):RelB (θ.set id .no) D' w v (aP (SN id t xs u)):=by
 have C:∀(k:Nat) (l':Av.Loc),k≠id->θ[k]? =some l'->(θ.set id .no)[k]? =some l':=λk l' z h=>by grind
 have p:∀(x:BV),RelB θ D w v x->(∀i∈x.ids,i≠id)->RelB (θ.set id .no) D' w v x:=by
  intro x B r;cases x<;>simp only[RelB]at B⊢;·exact B.mono hD λ_ _=>rfl
  ·omega
  ·obtain⟨l',y,A⟩:=B;exact⟨l',C _ _ (r _ (by simp[BV.ids])) y,A⟩
  ·grind
  ·obtain⟨g,n,cap,sz,O,y,A⟩:=B;exact⟨g,n,cap,sz,O,C _ _ (r _ (by simp[BV.ids])) y,A⟩
  ·grind
  ·grind
  ·exact⟨B.1.mono hD λ_ _=>rfl,B.2⟩
  omega
 cases u with
 |sl k=>
  show RelB _ _ _ _ (aP (bif j_ k id then .d (.list t) xs else .sl k));rw[beq_eq];by_cases z:k=id;·subst z;rw[decide_eq_true rfl];obtain⟨l',y,A⟩:=h;rw[hl]at y;cases y;exact E v A
  ·rw[decide_eq_false z];exact p (aP (.sl k)) h λi r=>by rw[n_.1 (show i∈[k]from r)];omega
 |elt k i o=>
  show RelB _ _ _ _ (aP (bif j_ k id then .any else .elt k i o));rw[beq_eq];by_cases z:k=id;·rw[decide_eq_true z];exact RelP.any v
  ·rw[decide_eq_false z];exact p (aP (.elt k i o)) h λj F=>by rw[n_.1 (show j∈[k]from F)];omega
 |ptr k off=>refine p (aP (.ptr k off)) h λi r e=>?_;have s:=n_.1 (show i∈[k]from r);subst s;subst e;obtain⟨g,y,_⟩:=h;grind
 |pel k off n I m=>refine p (aP (.pel k off n I m)) h λi r e=>?_;have s:=n_.1 (show i∈[k]from r);subst s;subst e;obtain⟨g,y,_⟩:=h;grind
 |mp k=>refine p (aP (.mp k)) h λi r e=>?_;have s:=n_.1 (show i∈[k]from r);subst s;subst e;obtain⟨g,y,_⟩:=h;grind
 |clo f ids=>refine p (aP (.clo f ids)) h λi r e=>?_;subst e;obtain⟨J,y,A,_⟩:=h;obtain⟨k,z⟩:=am_ (show i∈ids from r);grind
 |raw c=>exact p (aP (.raw c)) h λi r=>by rw[show(aP (.raw c)).ids=[]from zM c]at r;grind|d a b=>exact p (aP (.d a b)) h λi r=>by cases r|nil a=>exact p (aP (.nil a)) h λi r=>by cases r|agg a=>exact p (aP (.agg a)) h λi r=>by cases r|tup a=>exact p (aP (.tup a)) h λi r=>by cases r|dp a b=>exact p (aP (.dp a b)) h λi r=>by cases r|fnD a b=>exact p (aP (.fnD a b)) h λi r=>by cases r|full a b=>exact p (aP (.full a b)) h λi r=>by cases r|any=>exact p (aP .any) h λi r=>by cases r|lit a b c=>exact p (aP (.lit a b c)) h λi r=>by cases r|ifc=>exact p (aP .ifc) h λi r=>by cases r
theorem Wg{id:Nat}{t:Ty}{xs:List t.den}(v:V)(h:v.isA=false):(SN id t xs v).isA=false:=by cases v<;>first|rfl|(simp only[SN];cases j_ _ id<;>rfl)|cases h
theorem U9{θ θ':List Av.Loc}{D D':Nat->Prop}{w:World}{g:V->V}(l:∀v,v.isA=false->(g v).isA=false)(hg:∀v u,RelB θ D w v (aP u)->RelB θ' D' w v (aP (g u))){v:Value}{u:V}(h:RelA θ D w v (aT u)):RelA θ' D' w v (aT (nA g u)):=by
 have b:∀(vs:List V) (a:Array Value),a.size=(vs.map aP).length->(∀(i:Nat) (y:Value) (x:BV),a[i]? =some y->(vs.map aP)[i]? =some x->RelB θ D w y x)->a.size=((vs.map g).map aP).length/\∀(i:Nat) (y:Value) (x:BV),a[i]? =some y->((vs.map g).map aP)[i]? =some x->RelB θ' D' w y x:=by
  grind
 cases c:u.isA;·rw[T1 c,nw (l u c)];rw[nw c]at h;exact hg v u h
 ·cases u with
  |agg vs=>obtain⟨a,d,e,f⟩:=h;obtain⟨j,k⟩:=b vs a e f;exact⟨a,d,j,k⟩
  |tup vs=>obtain⟨a,d,e,f⟩:=h;obtain⟨j,k⟩:=b vs a e f;exact⟨a,d,j,k⟩
  |_=>cases c
theorem U8{θ θ':List Av.Loc}{D D':Nat->Prop}{w:World}{g:V->V}(hD:∀b,D b->D' b)(hg:∀v u,RelB θ D w v (aP u)->RelB θ' D' w v (aP (g u))){l:Av.Loc}{o:Ob}(h:RelO θ D w l (bI o)):RelO θ' D' w l (bI (wz g o)):=by
 cases o with
 |box t cs=>
  cases l<;>simp only[bI,wz,RelO]at h⊢<;>try exact h
  obtain⟨c,d,p,r⟩:=h;refine⟨c,d,by grind,λi y x z s=>?_⟩;grind
 |gone=>cases l<;>trivial|free=>cases l<;>exact h|tree e k t xs hole=>
  cases l<;>try exact h
  case nil=>refine⟨h.1,?_⟩;cases hole with|none=>rfl|some q=>obtain⟨i,j,v⟩:=q;cases h.2
  case hdr=>cases hole with|none=>exact qi (θ':=θ') (hole:=none) (f:=λx=>x) (λu i j b n _=>nomatch n) hD h|some q=>obtain⟨i,j,v⟩:=q;exact qi (hole:=some (i,j,aP v)) (f:=λ_=>aP (g v)) (λu i' A b n hr=>by grind) hD h
 |vec e t xs=>have d:=h.mono (D':=D') (w':=w) hD (λ_ _=>rfl) λ_ _=>rfl;cases l<;>exact d|map k e a b kvs=>have d:=h.mono (D':=D') (w':=w) hD (λ_ _=>rfl) λ_ _=>rfl;cases l<;>exact d
theorem D5{m:Nat}{s:S}{id:Nat}{o:Ob}{t:Ty}{xs:List t.den}(U:s.hp[id]? =some o)(r:Lm (enc s).hp id=some (nz t.sz (xs.map (aI t))))(Y:o.vary=true):Weak m (enc s) (enc ⟨(s.map (SN id t xs)).fr,setAt (s.map (SN id t xs)).hp id .gone⟩):=by
 rintro c a w _ ⟨θ,D,f⟩;have E:(enc s).hp[id]? =some (bI o):=by rw[bE,U];rfl
 have O:id<θ.length:=by rw[f.ok.len];exact(i_.1 E).1
 obtain⟨l,hl⟩:∃l,θ[id]? =some l:=⟨θ[id],g_ O⟩;have R:=f.ok.objs id l _ hl E;have F:l.fixed=false:=by
  unfold Lm at r;rw[E]at r;cases o<;>first|cases r|skip
  all_goals (cases l<;>first|rfl|exact R.elim)
 have hb:∀g,l≠.blk g:=λg e=>by subst e;cases F
 have P:∀g,l≠.mp g:=λg e=>by subst e;cases F
 obtain⟨D',hD,B,hh⟩:∃D':Nat->Prop,(∀b,D b->D' b)/\(∀b,D' b->D b\/l.has b)/\(∀v,l.head v->RelP D' w v (nz t.sz (xs.map (aI t)))):=by refine⟨λb=>D b\/l.has b,λ_ h=>.inl h,λ_ h=>h,λv Y=>?_⟩;obtain⟨l',d,y⟩:=QZ f.ok (show RelB θ D w v (.sl id)from⟨l,hl,Y⟩) r;grind
 have T:=λv u=>Wh (w:=w) (v:=v) (u:=u) (id:=id) (t:=t) (xs:=xs) hl hD hb P hh;have p:∀(i:Nat) (l':Av.Loc),(θ.set id .no)[i]? =some l'->(i=id/\l'= .no)\/(i≠id/\θ[i]? =some l'):=λi l' z=>by grind
 refine⟨θ.set id .no,D',f.size,f.defers,⟨?_,λb n=>?_,λi j li lj g z hj H I=>?_,λi li g z hg=>?_,λi li o z Q=>?_⟩,f.keep,λb n=>hD b (f.dsub b n),λb n=>?_,λi li g z hg=>?_,λk x N=>?_,λk l' N hf=>?_⟩;·simp[enc,S.map,eK,f.ok.len]
 ·rcases B b n with d|d;·exact f.ok.dlt b d
  ·exact(f.ok.olt id l b hl d).1
 ·rcases p i li z with⟨_,rfl⟩|⟨_,d⟩;·cases H
  ·rcases p j lj hj with⟨_,rfl⟩|⟨_,y⟩;·cases I
   ·exact f.ok.inj i j li lj g d y H I
 ·rcases p i li z with⟨_,rfl⟩|⟨C,d⟩;·cases hg
  ·obtain⟨y,L⟩:=f.ok.olt i li g d hg;refine⟨y,λhd=>?_⟩;rcases B g hd with M|M;·exact L M
   ·exact C (f.ok.inj i id li l g d hl hg M)
 ·have A:((setAt (s.hp.map (wz (SN id t xs))) id .gone).map bI)[i]? =some o:=Q;rw[eK,k_]at A;obtain⟨o1,d,rfl⟩:=e_.1 A;rcases p i li z with⟨rfl,rfl⟩|⟨C,y⟩;·rw[P_ (by rw[o_];exact(i_.1 U).1)]at d;cases d;trivial
  ·rw[R_ (Ne.symm C),k_]at d;obtain⟨o2,L,rfl⟩:=e_.1 d;exact U8 hD T (f.ok.objs i li (bI o2) y (by rw[bE,L];rfl))
 ·rcases B b n with d|d;·exact f.dnew b d
  ·exact .inr (f.onew id l b hl d)
 ·rcases p i li z with⟨_,rfl⟩|⟨_,d⟩;·cases hg
  ·exact f.onew i li g d hg
 ·have J:Av.look ((s.fr.map λx=>(x.1,nA (SN id t xs) x.2)).map λx=>(x.1,aT x.2)) k=some x:=N;rw[qa,Gk]at J;obtain⟨v1,d,rfl⟩:=e_.1 J;obtain⟨v2,y,rfl⟩:=e_.1 d;exact U9 Wg T (f.fr k (aT v2) (by show Av.look (s.fr.map λx=>(x.1,aT x.2)) k=_;rw[qa,y];rfl))
 ·have d:=f.fix k l' N hf;grind
def Ob.empt(o:Ob):Prop:=∀θ D w,RelO θ D w (.nil none) (bI o)
theorem MM(e:TypeId)(t:Ty):(Ob.vec e t []).empt:=λ_ _ _=>rfl
theorem Jf(e:TypeId)(k:Av.K)(t:Ty):(Ob.tree e k t [] none).empt:=λ_ _ _=>⟨rfl,rfl⟩
theorem BI{c:Ctx}{θ:List Av.Loc}{D:Nat->Prop}{st:St}{a:Act}{w:World}(b:Inv c θ D st a w){o:Ob}(d:o.empt):Inv c (θ++[.nil none]) D {st with hp:=st.hp++[bI o]} a w:=b.push (l:=.nil none) (o:=bI o) (d _ _ _) (λg hg=>by cases hg)
theorem G4{m:Nat}{s:S}{k:Nat}{u:Ty}{o:Ob}(l:o.empt)(h:lk s.fr k=some (.nil u)):Weak m (enc s) (enc ⟨(k,.sl s.hp.length)::s.fr,s.hp++[o]⟩):=by
 rintro c a w _ ⟨θ,D,e⟩;have b:=BI e l;rw[<-wj]at b;refine⟨_,D,b.size,b.defers,b.ok,b.keep,b.dsub,b.dnew,b.onew,λj x g=>?_,b.fix⟩;have d:Av.look ((k,aT (.sl s.hp.length))::s.fr.map λx=>(x.1,aT x.2)) j=some x:=g;simp only[Av.look]at d;split at d;·rename_i f;subst f;cases d;have n:=e.fr j (aT (.nil u)) (by show Av.look (s.fr.map λx=>(x.1,aT x.2)) j=_;rw[qa,h];rfl);refine⟨.nil none,?_,n⟩;rw[<-ny,<-e.ok.len];simp
 ·exact b.fr j x d
theorem D3{m:Nat}{s:S}{id j:Nat}{u:TypeId}{v:Ty}{cs:List V}{f:Ob}(h:f.empt)(r:s.hp[id]? =some (.box u cs))(H:cs[j]? =some (.nil v)): Weak m (enc s) (enc ⟨s.fr,setAt s.hp id (.box u (setAt cs j (.sl s.hp.length)))++[f]⟩):=by
 rintro c a w _ ⟨θ,D,n⟩;have b:=BI n h;rw[<-wj]at b;have hid:=(i_.1 r).1;refine⟨_,D,b.size,b.defers,⟨by rw[b.ok.len];simp[enc,eK],b.ok.dlt,b.ok.inj,b.ok.olt,λi l o p k=>?_⟩,b.keep,b.dsub,b.dnew,b.onew,b.fr,b.fix⟩;have d:((setAt s.hp id (.box u (setAt cs j (.sl s.hp.length)))++[f]).map bI)[i]? =some o:=k;rw[eK,eK]at d;by_cases g:i=id
 ·subst g;rw[k_,t_ (by grind),P_ hid]at d;cases d;have hr:=b.ok.objs i l (bI (.box u cs)) p (by rw[bE,t_ hid,r];rfl);cases l<;>simp only[bI,RelO]at hr⊢<;>try exact hr
  obtain⟨z,A,F,B⟩:=hr;refine⟨z,A,by grind,λq y x E e=>?_⟩;rw[D_]at e;by_cases C:q=j
  ·subst C;rw[aq_]at e;simp only[if_true]at e;split at e;·cases e;have:=B q y (aP (.nil v)) E (by grind);refine⟨.nil none,?_,this⟩;rw[<-ny,<-n.ok.len];simp
   grind
  grind
 ·refine b.ok.objs i l o p ?_;show((s.hp++[f]).map bI)[i]? =some o;grind
theorem BF{ids:List Nat}{i:Nat}(h:i∈ids):ids[ids.idxOf i]? =some i:=by grind
theorem EX{θ:List Av.Loc}{ids:List Nat}{D:Nat->Prop}{w:World}{v:Value}{x:BV}(a:∀i∈x.ids,i∈ids)(h:RelB θ D w v x):RelB (ids.map λi=>θ.getD i .no) D w v (x.ren (ids.idxOf ·)):=by
 have key:∀(i:Nat) (l:Av.Loc),i∈ids->θ[i]? =some l->(ids.map λi=>θ.getD i .no)[ids.idxOf i]? =some l:=λi l b hl=>by grind
 cases x<;>simp only[RelB,BV.ren]at h⊢<;>simp only[BV.ids,n_,forall_eq]at a;·omega
 ·omega
 ·grind
 ·grind
 ·grind
 ·grind
 all_goals grind
theorem Vh{θ:List Av.Loc}{ids:List Nat}{D:Nat->Prop}{w:World}{v:Value}{x:AV}(d:∀i∈x.ids,i∈ids)(h:RelA θ D w v x):RelA (ids.map λi=>θ.getD i .no) D w v (x.ren (ids.idxOf ·)):=by
 have c:∀(xs:List BV) (a:Array Value),(∀i∈xs.flatMap BV.ids,i∈ids)->a.size=xs.length->(∀(i:Nat) (y:Value) (x:BV),a[i]? =some y->xs[i]? =some x->RelB θ D w y x)->a.size=(xs.map (BV.ren (ids.idxOf ·))).length/\∀(i:Nat) (y:Value) (x:BV),a[i]? =some y->(xs.map (BV.ren (ids.idxOf ·)))[i]? =some x->RelB (ids.map λi=>θ.getD i .no) D w y x:=by
  intro xs a r g e
  refine⟨by grind,λi y x u p=>?_⟩
  rw[k_]at p
  obtain⟨x0,f,rfl⟩:=e_.1 p
  exact EX (λj s=>r j (u_.2 ⟨x0,r_ f,s⟩)) (e i y x0 u f)
 cases x with
 |b x=>exact EX d h|agg xs=>obtain⟨a,g,e,k⟩:=h;obtain⟨l,n⟩:=c xs a d e k;exact⟨a,g,l,n⟩
 |tup xs=>obtain⟨a,g,e,k⟩:=h;obtain⟨l,n⟩:=c xs a d e k;exact⟨a,g,l,n⟩
theorem N7{m:Nat}{a b:St}(ids:List Nat)(M:ids.Nodup)(hm:∀k,k<m->ids[k]? =some k) (E:∀k y,Av.look b.fr k=some y->∃x,Av.look a.fr k=some x/\(∀i∈x.ids,i∈ids)/\y=x.ren (ids.idxOf ·)) (P:b.hp.length=ids.length) (v:∀(j:Nat) (o':AObj),b.hp[j]? =some o'->∃(i:Nat) (o:AObj),ids[j]? =some i/\a.hp[i]? =some o/\(∀i∈o.ids,i∈ids)/\o'=o.ren (ids.idxOf ·)):Weak m a b:=by
 rintro c ac w el ⟨θ,D,f⟩;have gc:∀(j:Nat) (i:Nat),ids[j]? =some i->i<θ.length:=λj i s=>by
  have J:j<b.hp.length:=by grind
  obtain⟨i',o,n,r,_⟩:=v j _ (g_ J);rw[s]at n;cases n;rw[f.ok.len];grind
 have d:∀(j:Nat) (l:Av.Loc),(ids.map λi=>θ.getD i .no)[j]? =some l->∃i,ids[j]? =some i/\θ[i]? =some l:=λj l s=>by grind
 refine⟨ids.map λi=>θ.getD i .no,D,f.size,f.defers,⟨by grind,f.ok.dlt,λi j li R g z s F H=>?_,λi l g z hg=>?_,λj l o' s N=>?_⟩,f.keep,f.dsub,f.dnew,λi l g z hg=>?_,λk y L=>?_,λk l L hf=>?_⟩;·obtain⟨i',n,r⟩:=d i li z;obtain⟨j',B,C⟩:=d j R s;have:=f.ok.inj i' j' li R g r C F H;subst this;have I:=(i_.1 n).1;exact(List.getElem?_inj I M).1 (by grind)
 ·obtain⟨i',n,r⟩:=d i l z;exact f.ok.olt i' l g r hg
 ·obtain⟨i,n,r⟩:=d j l s;obtain⟨i',o,B,C,O,rfl⟩:=v j o' N;rw[n]at B;cases B;have hr:=f.ok.objs i l o r C;cases o with
  |box t cs=>
   cases l<;>simp only[AObj.ren,RelO]at hr⊢<;>try exact hr
   obtain⟨T,U,e2,Y⟩:=hr;refine⟨T,U,by grind,λq y x hy Q=>?_⟩;rw[k_]at Q;obtain⟨x0,A,rfl⟩:=e_.1 Q;exact EX (λp hp=>O p (u_.2 ⟨x0,r_ A,hp⟩)) (Y q y x0 hy A)
  |gone=>cases l<;>trivial|free=>cases l<;>exact hr|vec e sz xs=>cases l<;>exact hr|map k e kvs=>cases l<;>exact hr|tree e sz k xs hole=>
   cases l<;>try exact hr
   case nil=>exact⟨hr.1,by have:=hr.2;subst this;rfl⟩
   case hdr=>exact qi (λu i j b hb hr=>EX (λp hp=>O p (by rw[hb];exact hp)) hr) (λ_ h=>h) hr
 ·obtain⟨i',n,r⟩:=d i l z;exact f.onew i' l g r hg
 ·obtain⟨x,n,r,rfl⟩:=E k y L;exact Vh r (f.fr k x n)
 ·have n:=f.fix k l L hf;grind
def Adj.wfB(m:Nat):Adj->Bool
 | .sel ids _=>(H_ m).all λk=>match ids[k]? with
  |some i=>j_ i k
  |none=>false
 |_=>true
def Fq(m:Nat)(l:List Adj):Bool:=l.all (Adj.wfB m)
theorem Keeps.of_map{A:List Nat}{s s':S}(g:V->V)(hg:∀v,v.isD=true->g v=v)(z:∀k,lk s'.fr k=(lk s.fr k).map g\/lk s'.fr k=none):Keeps A s s':=λk _=>by grind
theorem Qq{id:Nat}{t:Ty}{xs:List t.den}{v:V}(h:v.isD=true):nA (SN id t xs) v=v:=by cases v<;>first|rfl|cases h
theorem Wn{ρ:Nat->Nat}{v:V}(h:v.isD=true):nA (V.ren ρ) v=v:=by cases v<;>first|rfl|cases h
theorem BP{α β:Type}{f:α->Option β}:∀{l:List α} {m:List β},l.mapM f=some m->m.length=l.length/\∀(i:Nat) (y:β),m[i]? =some y->∃x,l[i]? =some x/\f x=some y
 |[],m,h=>by grind
 |x::l,m,h=>by simp only[z_,x_,E_,l_,h_]at h;obtain⟨z,b,e,a,rfl⟩:=h;obtain⟨c,d⟩:=BP a;grind
theorem OT{s:S}:∀{ks:List Nat} {fr:List (Nat×V)},ks.mapM (λk=>(lk s.fr k).map λv=>(k,v))=some fr->∀k,lk fr k=lk s.fr k\/lk fr k=none
 |[],fr,h,k=>by simp at h;subst h;exact .inr rfl
 |j::ks,fr,h,k=>by
  simp only[z_,x_,E_,l_,h_,e_]at h;obtain⟨x,⟨v,c,rfl⟩,d,a,rfl⟩:=h;simp only[lk,beq_eq];by_cases b:k=j;·grind
  ·rw[decide_eq_false b];exact OT a k
theorem MS{m:Nat}{id k j:Nat}{u:Ty}{s s':S}(h:adj (.focus id k j u) s=some s'):Weak m (enc s) (enc s')/\∀A,Keeps A s s':=by
 simp only[adj]at h;split at h
 ·rename_i kk n e g t xs I w;split at h
  ·rename_i b c a d;obtain⟨l,r⟩:=aO h;simp only[a_,decide_eq_true_eq]at l;obtain⟨x,J,p⟩:=cp r;split at p
   ·rename_i L v;cases p;have hsz:=b_ l.1;obtain⟨B,C⟩:=qN t j (.list u) x L v;have H:j<(aK t x).length:=by rw[aH];simp only[Ty.sz]at B;omega
    have z:(aI t x).cells[j]? =some (aI (.list u) L):=by
     have:((aK t x).drop j).take 1=[aI (.list u) L]:=by have:=C;rw[dM (t:=.list u) L rfl]at this;exact this
     have D:(((aK t x).drop j).take 1)[0]? =some (aI (.list u) L):=by grind
     grind
    refine⟨?_,λA=>Keeps.fr rfl⟩;have y:=PT (m:=m) (st:=enc s) (id:=id) (i:=n.toNat) (j:=j) (k:=g) (q:=(b,c,a)) (L:=L.map (aI u)) (by rw[bE,w];rfl) (by grind) z d (by rw[hsz];rfl);have f:mJ (b,c,a) (L.map (aI u))=bI (xy b a u L):=by
     unfold mJ xy;cases F:a.allF;·rw[hsz];rfl
     ·rw[hsz];rfl
    rw[f]at y;have E:enc ⟨s.fr,setAt s.hp id (.tree e g t xs (some (n.toNat,j,.sl s.hp.length)))++[xy b a u L]⟩=⟨(enc s).fr,(enc s).hp.set id (.tree e t.sz g (xs.map (aI t)) (some (n.toNat,j,.sl (enc s).hp.length)))++[bI (xy b a u L)]⟩:=by simp only[enc,eK,w_,D_,m_,aI_,o_];rfl
    grind
   grind
  grind
 grind
theorem No{e:TypeId}{k:Av.K}{u:Ty}{o:Ob}{L:List u.den}(h:EU e k u o=some L):bI o=mJ (e,u.sz,k) (L.map (aI u)):=by
 unfold EU at h;split at h;·rename_i j t xs;obtain⟨a,g⟩:=aO h;simp only[a_]at a;obtain⟨b,c⟩:=bB g;have d:=Ty.list.inj b;subst d;have f:L=xs:=c;subst f;have:=b_ a.2;subst this;simp only[mJ,a.1,if_true];rfl
 ·rename_i j n t xs;obtain⟨a,g⟩:=aO h;simp only[a_,p_,decide_eq_true_eq]at a;obtain⟨b,c⟩:=bB g;have d:=Ty.list.inj b;subst d;have f:L=xs:=c;subst f;have:=b_ a.1.2;subst this;obtain⟨⟨l,_⟩,rfl⟩:=a;simp only[mJ,l,ao_,if_false];rfl
 grind
theorem Mv{m:Nat}{id:Nat}{s s':S}(h:adj (.close id) s=some s'):Weak m (enc s) (enc s')/\∀A,Keeps A s s':=by
 simp only[adj]at h;split at h
 ·rename_i e kk t xs i j kid N;cases w:j_ kid id
  ·rw[w]at h;simp only[cond_false]at h;split at h
   ·rename_i B a T o u d c M;split at h
    ·rename_i L I;obtain⟨C,D⟩:=aO h;obtain⟨x,hx,p⟩:=cp D;split at p
     ·rename_i y R;cases p;have hsz:=b_ C;have l:kid≠id:=λe=>by rw[e,T_]at w;grind
      obtain⟨U,Y,p3⟩:=iG t j (.list u) x L y R;have z:j<(aI t x).cells.length:=by have:(aI t x).cells.length=t.sz:=aH t x;rw[this];simp only[Ty.sz]at U;omega
      refine⟨?_,λA=>Keeps.map A s _ (V.kill1 kid) (λv P=>by cases v<;>first|rfl|cases P) rfl⟩
      have g:=No I;have Q:=PR (m:=m) (st:=enc s) (id:=id) (kid:=kid) (i:=i) (j:=j) (k:=kk) (x:=aI t x) (q:=(B,a,T)) (L:=L.map (aI u)) (by rw[bE,N];rfl) (by grind) z d (by rw[bE,c,hsz,<-g];rfl) l;have n:(aI t x).setc j (nz a (L.map (aI u)))=aI t y:=by
       have J:=Ag (x:=aI t x) (y:=nz a (L.map (aI u))) z (C9 _ _);have hl:aK (.list u) L=[nz a (L.map (aI u))]:=by rw[hsz];exact(K8 u L).1
       have f:aK t y=(aK t x).set j (nz a (L.map (aI u))):=by rw[Y,hl];apply X_;intro q;rw[qW _ _ _ (by grind)];grind
       cases b:t.ag
       ·have r:(aI t x).isAgg=false:=by rw[nN];omega
        have E:j=0:=by grind
        subst E;have F:(aI t x).setc 0 (nz a (L.map (aI u)))=nz a (L.map (aI u)):=by cases O:aI t x<;>first|rfl|(rw[O]at r;cases r)
        rw[F];have H:=f;rw[dM y b,dM x b]at H;grind
       ·rw[ey x b,ey y b];show PV.agg ((aK t x).set j _)=PV.agg (aK t y);grind
      rw[n]at Q;have he:enc ⟨(s.moved kid .gone).fr,setAt (s.moved kid .gone).hp id (.tree e kk t (xs.set i y) none)⟩=⟨(enc s).fr.map λx=>(x.1,x.2.kill kid),(((enc s).hp.map (AObj.kill kid)).set kid .gone).set id (.tree e t.sz kk ((xs.map (aI t)).set i (aI t y)) none)⟩:=by rw[iw,xt];simp only[St.moved];congr 2;show AObj.tree e t.sz kk _ _=_;rw[D_];rfl
      grind
     grind
    grind
   grind
  grind
 grind
theorem Ra{m:Nat}{l:Adj}{s s':S}(J:l.wfB m=true)(h:adj l s=some s'):Weak m (enc s) (enc s')/\∀A,Keeps A s s':=by
 cases l with
 |freeze id=>
  simp only[adj]at h;split at h;·rename_i e t xs b;cases h;refine⟨D5 b (by rw[Lm,bE,b];rfl) rfl,λA=>Keeps.map A s _ (SN id t xs) (λv d=>Qq d) rfl⟩
  ·rename_i e k t xs b;cases h;refine⟨D5 b (by rw[Lm,bE,b];rfl) rfl,λA=>Keeps.map A s _ (SN id t xs) (λv d=>Qq d) rfl⟩
  grind
 |focus id k j u=>exact MS h|close id=>exact Mv h|adopt k e t=>
  simp only[adj]at h;split at h
  ·rename_i u a;cases h;refine⟨G4 (MM e t) a,λA j _=>?_⟩;simp only[lk,beq_eq];by_cases c:j=k;·subst c;rw[decide_eq_true rfl,a];exact⟨λv d hd=>(by cases d;cases hd),λhn=>(by grind)⟩
   grind
  grind
 |adoptC id j e t=>
  simp only[adj]at h;split at h
  ·rename_i u cs b;split at h;·rename_i R c;cases h;exact⟨D3 (MM e t) b c,λA=>Keeps.fr rfl⟩
   grind
  grind
 |adoptT k e kk t=>
  simp only[adj]at h;split at h
  ·rename_i u a;cases h;refine⟨G4 (Jf e kk t) a,λA j _=>?_⟩;simp only[lk,beq_eq];by_cases c:j=k;·subst c;rw[decide_eq_true rfl,a];exact⟨λv d hd=>(by cases d;cases hd),λhn=>(by grind)⟩
   grind
  grind
 |adoptCT id j e kk t=>
  simp only[adj]at h;split at h
  ·rename_i u cs b;split at h;·rename_i R c;cases h;exact⟨D3 (Jf e kk t) b c,λA=>Keeps.fr rfl⟩
   grind
  grind
 |sel ids ks=>
  simp only[adj]at h;split at h
  ·rename_i os fr H f;obtain⟨I,M⟩:=aO h;cases M;simp only[a_,decide_eq_true_eq,f_]at I;obtain⟨⟨E,F⟩,C⟩:=I;simp only[Adj.wfB,f_,G_]at J;obtain⟨P,Q⟩:=BP H;refine⟨N7 ids E (λk a=>?_) (λk y a=>?_) (by simp[enc,P]) λj o' c=>?_,λA=>Keeps.of_map (nA (V.ren (K3 ids))) (λv d=>Wn d) λk=>?_⟩
   ·have:=J k a;split at this;·rename_i i g;rw[g,b_ this]
    grind
   ·have r:Av.look ((fr.map λx=>(x.1,nA (V.ren (K3 ids)) x.2)).map λx=>(x.1,aT x.2)) k=some y:=a;rw[qa,Gk]at r;obtain⟨U,w,rfl⟩:=e_.1 r;obtain⟨L,z,rfl⟩:=e_.1 w;refine⟨aT L,?_,λi g=>?_,FX _ L⟩;·show Av.look (s.fr.map λx=>(x.1,aT x.2)) k=_;rw[qa];rcases OT f k with B|B;all_goals grind
    ·rw[<-qB]at g;exact allIn_mem.1 (C _ (Gl z)) i g
   ·have n:((os.map (wz (V.ren (K3 ids)))).map bI)[j]? =some o':=c;simp only[k_,e_]at n;obtain⟨_,⟨o,b,rfl⟩,rfl⟩:=n;obtain⟨i,w,z⟩:=Q j o b;refine⟨i,bI o,w,by rw[bE,z];rfl,λp hp=>?_,Bs _ o⟩;rw[<-F0]at hp;exact allIn_mem.1 (F o (r_ b)) p hp
   ·show lk (fr.map λx=>(x.1,nA (V.ren (K3 ids)) x.2)) k=_\/lk (fr.map λx=>(x.1,nA (V.ren (K3 ids)) x.2)) k=none;rw[Gk];rcases OT f k with B|B;all_goals grind
  grind
 |drop ks=>
  simp only[adj,h_]at h;subst h;have D:∀(fr:List (Nat×V)) (k:Nat),lk (fr.filter λx=> !na ks x.1) k=lk fr k\/lk (fr.filter λx=> !na ks x.1) k=none:=by
   intro fr k;induction fr with
   |nil=>simp|cons x fr T=>
    obtain⟨j,v⟩:=x;simp only[as_];cases N:na ks j;·simp only[aD_,if_true,lk,beq_eq];grind
    ·simp only[ab_,ao_,if_false,lk,beq_eq];by_cases a:k=j
     ·subst a;right;have:∀(l:List (Nat×V)),lk (l.filter λx=> !na ks x.1) k=none:=by
       intro l;induction l with
       |nil=>rfl|cons y l O=>
        obtain⟨i,u⟩:=y;simp only[as_];cases g:na ks i;·simp only[aD_,if_true,lk,beq_eq];grind
        grind
      grind
     grind
  refine⟨(LeS.frame (fr:=s.fr.map λx=>(x.1,aT x.2)) (fr':=(s.fr.filter λx=> !na ks x.1).map λx=>(x.1,aT x.2)) λk y a=>?_).weak,λA=>Keeps.of_map (λv=>v) (λ_ _=>rfl) λk=>?_⟩;·rw[qa]at a⊢;grind
  ·rcases D s.fr k with e|e;·exact .inl (by show lk (s.fr.filter _) k=_;rw[e];simp)
   grind
theorem V0{R:Type}{a:Adj}{s:S}{κ:S->Option R}{r:R}(h:S9 a s κ=some r):∃s',adj a s=some s'/\κ s'=some r:=by
 cases a with
 |focus id k j u=>
  simp only[S9]at h;split at h
  ·rename_i kk n e I t xs E v;split at h
   ·rename_i C z H b;obtain⟨f,g⟩:=aO h;obtain⟨d,D⟩:=bq g;obtain⟨x,w,A⟩:=cp D;split at A;·rename_i L l;refine⟨_,?_,A⟩;simp only[adj,E,v,b,f,d,Bool.and_self,cond_true,w,y_,l]
    grind
   grind
  grind
 |close id=>
  simp only[S9]at h;split at h
  ·rename_i e kk t xs i j kid v;cases B:j_ kid id
   ·rw[B]at h;simp only[cond_false]at h;split at h
    ·rename_i C z H o u b c p;split at h
     ·rename_i L l;obtain⟨f,g⟩:=aO h;obtain⟨x,w,d⟩:=cp g;split at d;·rename_i y F;refine⟨_,?_,d⟩;simp only[adj,v,B,cond_false,b,c,p,l,f,cond_true,w,y_,F]
      grind
     grind
    grind
   grind
  grind
 |_=>simp only[S9]at h;grind
theorem AQ{R:Type}:∀{l:List Adj} {s:S} {κ:S->Option R} {r:R},yU l s κ=some r->∃s',Ta l s=some s'/\κ s'=some r
 |[],s,κ,r,h=>⟨s,rfl,h⟩
 |a::l,s,κ,r,h=>by obtain⟨g,b,c⟩:=V0 h;obtain⟨e,f,d⟩:=AQ c;exact⟨e,by simp only[Ta,b];omega,d⟩
theorem tD{m:Nat}:∀{l:List Adj} {s s':S},Fq m l=true->Ta l s=some s'->Weak m (enc s) (enc s')/\∀A,Keeps A s s'
 |[],s,s',_,h=>by cases h;exact⟨Weak.refl _ _,λA=>Keeps.refl A s⟩
 |a::l,s,s',b,h=>by
  simp only[Fq,B_,a_]at b;simp only[Ta]at h;split at h;·rename_i j g;obtain⟨c,d⟩:=Ra b.1 g;obtain⟨e,f⟩:=tD b.2 h;exact⟨c.trans e,λA=>(d A).trans (f A)⟩
  grind
structure Ext(a b:St):Prop where
 hp:a.hp=b.hp
 fr:∀k y,Av.look b.fr k=some y->Av.look a.fr k=some y
theorem Ext.refl(a:St):Ext a a:=⟨rfl,λ_ _ h=>h⟩
theorem Ext.weak{m:Nat}{a b:St}(h:Ext a b):Weak m a b:=by obtain⟨af,H⟩:=a;obtain⟨I,J⟩:=b;obtain⟨z,E⟩:=h;cases z;exact(LeS.frame E).weak
theorem Ext.put{a b:St}(h:Ext a b)(d:Option Nat)(x:AV):Ext (a.putO d x) (b.putO d x):=by
 refine⟨by cases d<;>exact h.hp,λk y z=>?_⟩;rw[fB]at z⊢;by_cases hd:d=some k;·grind
 ·rw[if_neg hd]at z⊢;exact h.fr k y z
theorem Ext.get{a b:St}(h:Ext a b){x:SX}{y:AV}(z:b.get x=some y):a.get x=some y:=by
 cases x<;>simp only[St.get]at z⊢;·exact h.fr _ _ z
 all_goals omega
theorem M9{α β:Type}{f g:α->Option β}(h:∀x y,f x=some y->g x=some y):∀{l:List α} {m:List β},l.mapM f=some m->l.mapM g=some m
 |[],m,a=>a
 |x::l,m,a=>by simp only[z_,x_,E_,l_,h_]at a⊢;obtain⟨z,b,d,c,rfl⟩:=a;exact⟨z,h _ _ b,d,M9 h c,rfl⟩
theorem Ext.bind{a b:St}(h:Ext a b){x:SX}{K:AV->Prop}(H:aM (b.get x) K):aM (a.get x) K:=let⟨y,z,E⟩:=H;⟨y,h.get z,E⟩
theorem Ext.bnd{a b:St}(h:Ext a b){x:Option SX}{d:Nat}{K:Nat->Prop}(z:bnd b x d K):bnd a x d K:=by cases x with|none=>exact z|some x=>exact h.bind z
theorem Ext.bindM{a b:St}{α β:Type}{f:St->α->Option β}(H:∀x y,f b x=some y->f a x=some y){l:List α}{K:List β->Prop}(I:aM (l.mapM (f b)) K):aM (l.mapM (f a)) K:=let⟨y,z,E⟩:=I;⟨y,M9 H z,E⟩
theorem QY{P:Program}{a b:St}(h:Ext a b){op:SOp}{K:AV->Prop}(hs:kg P b op K):kg P a op K:=by
 have v:=h.hp;have d:∀{β:Type} (g:AV->Option β) (x:SX) (y:β),(b.get x).bind g=some y->(a.get x).bind g=some y:=λg x y w=>by obtain⟨u,c,l⟩:=l_.1 w;rw[h.get c];grind
 cases op<;>simp only[kg]at hs⊢<;>try rw[v]
 case mv=>exact h.bind hs
 case pick=>exact aj (h.bind hs) λ_ c=>bk c λ_ l=>oH l λ_ n=>⟨λe=>h.bind (n.1 e),λe=>h.bind (n.2 e)⟩
 case bin=>exact aj (h.bind hs) λ_ c=>h.bind c
 case eqB=>exact aj (h.bind hs) λ_ c=>h.bind c
 case un=>exact h.bind hs
 case len=>exact h.bind hs
 case lenM=>exact h.bind hs
 case idxS=>exact aj (h.bind hs) λ_ c=>h.bind c
 case idxV=>exact aj (h.bind hs) λ_ c=>h.bind c
 case idxA=>exact aj (h.bind hs) λ_ c=>h.bind c
 case idxP=>exact aj (h.bind hs) λ_ c=>h.bind c
 case fldA=>exact h.bind hs
 case fld=>exact h.bind hs
 case load=>exact h.bind hs
 case cvtI=>exact h.bind hs
 case slc=>exact aj (h.bind hs) λ_ c=>c.imp (λc=>aj c λ_ ⟨L,l,n⟩=>⟨L,l,gB (h.bnd n) λ_ p=>gB (h.bnd p) λ_ r=>h.bnd r⟩) fun⟨id,s,ob,z,e,k,L,g,l,n⟩=>⟨id,s,ob,by omega,e,k,L,g,l,gB (h.bnd n) λ_ p=>gB (h.bnd p) λ_ r=>h.bnd r⟩
 case slcS=>exact aj (h.bind hs) λ_ c=>bk c λ_ c=>qG c λ_ c=>gB (h.bnd c) λ_ c=>h.bnd c
 case ext=>exact h.bind hs
 case nilc=>exact h.bind hs
 case build=>exact Ext.bindM (f:=λst (q:Nat×Nat×SX)=>(st.get q.2.2).map λa=>(q.1,q.2.1,a)) (λq y j=>by obtain⟨u,c,l⟩:=e_.1 j;rw[h.get c,<-l];rfl) hs
 case call=>exact Ext.bindM (f:=λst x=>(St.get st x).bind (kt b.hp _)) (λq y j=>d _ q y j) hs
 case callp=>exact aj (h.bind hs) λ_ ⟨f,cs,c,l,n⟩=>⟨f,cs,c,l,Ext.bindM (f:=λst x=>(St.get st x).bind (kt b.hp _)) (λq y j=>d _ q y j) n⟩
 case boxD=>exact h.bind hs
 case b2s=>exact h.bind hs
 case bslice own e sz len A=>
  cases own;·exact Ext.bindM (f:=λst x=>(St.get st x).bind AV.toPV) (λq y j=>d _ q y j) hs
  omega
 case bsliceN=>exact Ext.bindM (f:=λst x=>(St.get st x).bind AV.toPVn) (λq y j=>d _ q y j) hs
 case mkfn=>exact Ext.bindM (f:=λst x=>St.get st x) (λq y j=>h.get j) hs
 case lookup=>exact aj (h.bind hs) λ_ c=>h.bind c
 case eqT=>exact aj (h.bind hs) λ_ c=>h.bind c
 case appD=>exact aj (h.bind hs) λ_ c=>h.bind c
 case mnmx=>exact aj (h.bind hs) λ_ c=>bk c λ_ c=>bJ c λ_ _ c=>Ext.bindM (f:=λst x=>St.get st x) (λq y j=>h.get j) c
 case iface=>exact h.bind hs
inductive Sys(P:Program):List SOper->St->St->Prop
 |nil (st:St):Sys P [] st st
 |cons (o:SOper) (l:List SOper) (st st':St) (x:AV) (h:gg P o st x) (k:Sys P l (st.putO o.dst x) st'):Sys P (o::l) st st'
theorem Sys.app{P:Program}{l l':List SOper}{a b c:St}(h:Sys P l a b)(k:Sys P l' b c):Sys P (l++l') a c:=by induction h with|nil=>grind|cons o l st E x h _ z=>exact .cons o _ st c x h (z k)
theorem Sys.sops{P:Program}{m:Nat}{l L:List SOper}{a b:St}{K KP:St->Prop}(h:Sys P l a b)(k:sops P m L b K KP):sops P m (l++L) a K KP:=by induction h with|nil=>grind|cons o l st E x h _ z=>exact W.mk (pn h (z k))
theorem Sys.sdraw{P:Program}{m n:Nat}{l L:List SOper}{a b:St}{K KP:St->Prop}(h:Sys P l a b)(k:sdraw P m n L b K KP):sdraw P m (l.length+n) (l++L) a K KP:=by induction h with|nil=>grind|cons o l st E x h _ z=>rw[show(o::l).length+n=(l.length+n)+1 by grind];exact⟨x,h,z k⟩
theorem jW{P:Program}{m:Nat}{l:List SOper}{a b:St}{K KP:St->Prop}(h:Weak m a b)(k:sops P m l b K KP):sops P m l a K KP:=by cases l with|nil=>exact W.from h k|cons o l=>exact W.from h k
def RC.offB:List Nat->RC->Bool
 |_,.nil=>true
 |A,.op d _ rest=>rest.offB (gj d++A)
 |_,.adj _ _=>false
 |A,.gb t _ blk ty _ _ dst rest=>na A t&& !na blk.asg t&&ty.sc&&blk.offB A&&rest.offB (dst::(blk.asg++A))
def RC.gbB:RC->Bool
 | .nil=>true
 | .op _ _ rest=>rest.gbB
 | .adj _ rest=>rest.gbB
 | .gb _ _ blk ty _ _ _ rest=>ty.sc&&blk.offB []&&blk.gbB&&rest.gbB
def Off(st:St)(g:Nat×Bool):Prop:=∃v,Av.look st.fr g.1=some (.v v)/\yv v≠some g.2
theorem GO{P:Program}{st:St}{g:Nat×Bool}(h:Off st g)(d:Option Nat)(op:SOp):gg P ⟨d,op,some g⟩ st (.v undef):=by obtain⟨v,a,b⟩:=h;exact⟨_,a,v,rfl,λe=>absurd e b,λ_=>rfl⟩
theorem tH(d:Option Nat):(match d with|some d=>[d]|none=>[])=gj d:=by cases d<;>rfl
theorem ET{P:Program}:∀(n:RC) (g:Nat×Bool) (A:List Nat) (st:St),n.offB A=true->Off st g->(∀k∈A,Av.look st.fr k=some (.v undef))->g.1∉n.asg->
 ∃a,Sys P (n.er (some g)) st a/\a.hp=st.hp/\(∀k,k∉n.asg->Av.look a.fr k=Av.look st.fr k)/\∀k,(k∈n.asg\/k∈A)->Av.look a.fr k=some (.v undef)
 | .nil,g,A,st,_,_,h,_=>⟨st,.nil st,rfl,λ_ _=>rfl,λk b=>h k (b.resolve_left (by simp[RC.asg]))⟩
 | .op d o rest,g,A,st,c,hg,h,hd=>by
  simp only[RC.offB]at c;simp only[RC.asg,tH,d_,not_or]at hd;have u:∀k,Av.look (st.putO d (.v undef)).fr k=if d=some k then some (.v undef)else Av.look st.fr k:=λk=>fB st d _ k;have y:∀k,d=some k↔k∈gj d:=λk=>by cases d with|none=>simp[gj]|some j=>simp only[gj,h_,n_];omega
  obtain⟨a,p,s,z,B⟩:=ET rest g (gj d++A) (st.putO d (.v undef)) c (by
   obtain⟨v,x,f⟩:=hg;refine⟨v,?_,f⟩;grind) (λk b=>by
   grind) hd.2
  refine⟨a,.cons _ _ st a (.v undef) (GO hg d o.er) p,by rw[s];cases d<;>rfl,λk b=>?_,λk b=>?_⟩;·simp only[RC.asg,tH,d_,not_or]at b;grind
  ·simp only[RC.asg,tH,d_]at b;grind
 | .adj _ _,_,_,_,c,_,_,_=>by cases c
 | .gb t want blk ty r alt dst rest,g,A,st,c,hg,h,hd=>by
  simp only[RC.offB,a_,p_]at c;obtain⟨⟨⟨⟨F,H⟩,N⟩,I⟩,J⟩:=c;have C:t∈A:=inL_mem.1 F;have w:t∉blk.asg:=λe=>by rw[inL_mem.2 e]at H;grind
  simp only[RC.asg,d_,v_,not_or]at hd;obtain⟨st1,p,s,z,B⟩:=ET blk (t,want) A st I ⟨undef,h t C,by intro e;cases e⟩ h w;have l:Off st1 g:=by obtain⟨v,x,f⟩:=hg;exact⟨v,by grind,f⟩
  have u:∀k,Av.look (st1.putO (some dst) (.v undef)).fr k=if some dst=some k then some (.v undef)else Av.look st1.fr k:=λk=>fB st1 (some dst) _ k;obtain⟨a,D,E,L,M⟩:=ET rest g (dst::(blk.asg++A)) (st1.putO (some dst) (.v undef)) J (by
   obtain⟨v,x,f⟩:=l;refine⟨v,?_,f⟩;grind) (λk b=>by
   grind) hd.2.2
  refine⟨a,p.app (.cons _ _ _ a (.v undef) (GO l _ _) D),by rw[E];exact s,λk b=>?_,λk b=>?_⟩;·simp only[RC.asg,d_,v_,not_or]at b;grind
  ·simp only[RC.asg,d_,v_]at b;grind
theorem Qd{t:Ty}{v:V}{x:t.den}(a:t.sc=true)(h:cQ t v=some x):v= .d t x:=by
 cases v with
 |d u y=>obtain⟨rfl,rfl⟩:=bB (show bN u t y=some x from h);rfl
 |nil u=>obtain⟨rfl,_⟩:=bB (show bN (.list u) t []=some x from h);cases a
 |full u y=>obtain⟨rfl,_⟩:=bB (show bN (.list u) t y=some x from h);cases a
 |agg vs=>unfold cQ at h;cases t<;>first|(cases a;done)|cases h
 |_=>simp[cQ,jp]at h
section
variable {P:Program} {O:ak}
def GOn(g:Option (Nat×Bool))(s:S)(A:List Nat):Prop:=match g with
 |none=>True
 |some (t,want)=>lk s.fr t=some (.d .bool want)/\t∉A
theorem b7(s:S)(k:Nat):Av.look (enc s).fr k=(lk s.fr k).map aT:=qa s.fr k
theorem SB{g:Option (Nat×Bool)}{s:S}{A:List Nat}{st:St}(hg:GOn g s A)(a:Ext st (enc s)){d:Option Nat}{op:SOp}{x:AV}(h:kg P st op λy=>y=x):gg P ⟨d,op,g⟩ st x:=by cases g with|none=>exact h|some g=>obtain⟨t,want⟩:=g;have:Av.look st.fr t=some (.v (.bool want)):=a.fr t _ (by rw[b7,hg.1];rfl);exact⟨_,this,_,rfl,λ_=>h,λe=>absurd rfl e⟩
theorem z6(s:S)(d:Option Nat)(v:V)(k:Nat):lk (s.putO d v).fr k=if d=some k then some v else lk s.fr k:=by cases d with|none=>rfl|some j=>show(bif j_ k j then some v else lk s.fr k)=_;rw[beq_eq];grind
theorem mem_dstL{d:Option Nat}{k:Nat}:d=some k↔k∈gj d:=by cases d with|none=>simp[gj]|some j=>simp only[gj,h_,n_];omega
theorem Lb(hO:OracleOk P O):∀(J:RC) (R:Type) (s:S) (κ kp:S->Option R) (r:R) (g:Option (Nat×Bool)) (st:St),J.wf P=true->J.pureB=true->J.gbB=true->EQ O R J s κ kp=some r->Ext st (enc s)->GOn g s J.asg->
 ∃s' j,Sys P (J.er g) st j/\Ext j (enc s')/\κ s'=some r/\s'.hp=s.hp/\∀k,k∉J.asg->lk s'.fr k=lk s.fr k
 | .nil,R,s,κ,kp,r,g,st,_,_,_,h,u,_=>⟨s,st,.nil st,u,h,rfl,λ_ _=>rfl⟩
 | .adj _ _,_,_,_,_,_,_,_,_,hp,_,_,_,_=>by cases hp
 | .op d o rest,R,s,κ,kp,r,g,st,L,hp,T,h,u,hg=>by
  simp only[RC.wf,a_]at L;simp only[RC.pureB,a_]at hp;simp only[RC.gbB]at T;obtain⟨v,h1,h2⟩:=sN hO L.1 hp.1 h;obtain⟨s',j,I,B,F,k4,k5⟩:=Lb hO rest R (s.putO d v) κ kp r g (st.putO d (aT v)) L.2 hp.2 T h2 (by rw[gn];exact u.put d _) (by cases g with|none=>trivial|some g=>obtain⟨t,want⟩:=g;obtain⟨g1,Q⟩:=hg;simp only[RC.asg,tH,d_,not_or]at Q;exact⟨by rw[z6,if_neg λe=>Q.1 (mem_dstL.1 e)];omega,Q.2⟩)
  refine⟨s',j,.cons _ _ st j _ (SB hg u (QY u h1)) I,B,F,by rw[k4];cases d<;>rfl,λk n=>?_⟩;simp only[RC.asg,tH,d_,not_or]at n;rw[k5 k n.2,z6,if_neg λe=>n.1 (mem_dstL.1 e)]
 | .gb t want blk ty M alt dst rest,R,s,κ,kp,r,g,st,L,hp,T,h,u,hg=>by
  simp only[RC.wf,a_]at L;obtain⟨⟨⟨⟨w1,w2⟩,w3⟩,w4⟩,w5⟩:=L;simp only[RC.pureB,a_]at hp;simp only[RC.gbB,a_]at T;obtain⟨⟨⟨b1,b2⟩,b3⟩,b4⟩:=T;simp only[EQ]at h;split at h
  ·rename_i b va Y E;split at h
   ·rename_i av H;obtain⟨l,H⟩:=aO H;have qr:=Qd b1 H;subst qr;simp only[f_,W_]at l;have ht:t∉blk.asg:=λe=>by grind
    obtain⟨c,hc,h2⟩:=cp h;have ph:Av.look st.fr t=some (.v (.bool b)):=u.fr t _ (by rw[b7,Y];rfl);have N:∃st1,Sys P (blk.er (some (t,want))) st st1/\st1.hp=st.hp/\(∀k,lk s.fr k≠none->∀y,Av.look (enc s).fr k=some y->Av.look st1.fr k=some y)/\kg P st1 (Gx t want M.er alt.er) λy=>y=aT (.d ty c):=by
     have f:∀(st1:St) (x y:SX),Av.look st1.fr t=some (.v (.bool b))->(b=true->st1.get x=some (aT (.d ty c)))->(b=false->st1.get y=some (aT (.d ty c)))->kg P st1 (.pick (.tm t) x y) λy=>y=aT (.d ty c):=λst1 x y A D e3=>⟨_,A,_,rfl,b,rfl,λe=>⟨_,D e,rfl⟩,λe=>⟨_,e3 e,rfl⟩⟩
     have on:b=want->EQ O ty.den blk s (λs'=>match s'.get M with|some v=>cQ ty v|none=>none) (λ_=>none)=some c->(∃st1,Sys P (blk.er (some (t,want))) st st1/\st1.hp=st.hp/\(∀k,lk s.fr k≠none->∀y,Av.look (enc s).fr k=some y->Av.look st1.fr k=some y)/\kg P st1 (Gx t want M.er alt.er) λy=>y=aT (.d ty c)):=λC gc=>by
      obtain⟨s1,st1,I,B,F,k4,k5⟩:=Lb hO blk ty.den s _ _ c (some (t,want)) st w1 w2 b3 gc u ⟨by grind,ht⟩
      split at F
      ·rename_i v hv;have:=Qd b1 F;subst this;have A:Av.look st1.fr t=some (.v (.bool b)):=B.fr t _ (by rw[b7,k5 t ht,Y];rfl);have D:st1.get M.er=some (aT (.d ty c)):=B.get (au w3 hv);refine⟨st1,I,by rw[B.hp,u.hp];simp only[enc,k4],λk n y hy=>B.fr k y ?_,?_⟩;·rw[b7,k5 k λe=>n (l k e),<-b7];omega
       ·cases want with|true=>exact f st1 _ _ A (λ_=>D) λe=>by grind|false=>exact f st1 _ _ A (λe=>by grind) λ_=>D
      grind
     have off:b≠want->av=c->(∃st1,Sys P (blk.er (some (t,want))) st st1/\st1.hp=st.hp/\(∀k,lk s.fr k≠none->∀y,Av.look (enc s).fr k=some y->Av.look st1.fr k=some y)/\kg P st1 (Gx t want M.er alt.er) λy=>y=aT (.d ty c)):=λC el=>by
      subst el
      obtain⟨st1,I,B,F,_⟩:=ET (P:=P) blk (t,want) [] st b2 ⟨_,ph,λe=>C (aj_ e)⟩ (λk n=>by grind) ht
      have A:Av.look st1.fr t=some (.v (.bool b)):=by grind
      have z:∀k,lk s.fr k≠none->∀y,Av.look (enc s).fr k=some y->Av.look st1.fr k=some y:=λk n y hy=>by rw[F k λe=>n (l k e)];exact u.fr k y hy
      have D:st1.get alt.er=some (aT (.d ty av)):=by have:=au w4 E;cases alt with|tm k=>have h0:lk s.fr k=some (.d ty av):=E;exact z k (by grind) _ this|_=>exact this
      refine⟨st1,I,B,z,?_⟩
      cases want with|true=>exact f st1 _ _ A (λe=>absurd e C) λ_=>D|false=>exact f st1 _ _ A (λ_=>D) λe=>absurd e C
     grind
    obtain⟨st1,q1,q2,q3,q4⟩:=N;have w:∀p a,g=some (p,a)->lk s.fr p=some (.d .bool a)/\p∉blk.asg/\p≠dst/\p∉rest.asg:=λp a e=>by subst e;obtain⟨g1,Q⟩:=hg;simp only[RC.asg,d_,v_,not_or]at Q;grind
    have rg:gg P ⟨some dst,(Gx t want M.er alt.er),g⟩ st1 (aT (.d ty c)):=by cases g with|none=>exact q4|some g=>obtain⟨p,a⟩:=g;obtain⟨A,_⟩:=w p a rfl;have:Av.look st1.fr p=some (.v (.bool a)):=q3 p (by grind) _ (by rw[b7,A];rfl);exact⟨_,this,_,rfl,λ_=>q4,λe=>absurd rfl e⟩
    have U:Ext (st1.putO (some dst) (aT (.d ty c))) (enc (s.put dst (.d ty c))):=by
     refine⟨by show st1.hp=(enc s).hp;rw[q2,u.hp],λk y n=>?_⟩;rw[fB];rw[b7]at n;have e:=z6 s (some dst) (.d ty c) k;rw[show s.putO (some dst) (.d ty c)=s.put dst (.d ty c)from rfl]at e;rw[e]at n;by_cases hd:some dst=some k;·grind
     ·rw[if_neg hd]at n⊢;refine q3 k (λe0=>by grind) y ?_;rw[b7];omega
    have ur:∀k,lk (s.put dst (.d ty c)).fr k=if some dst=some k then some (.d ty c)else lk s.fr k:=λk=>z6 s (some dst) (.d ty c) k;obtain⟨s',j,I,B,F,k4,k5⟩:=Lb hO rest R (s.put dst (.d ty c)) κ kp r g _ w5 hp.2 b4 h2 U (by cases g with|none=>trivial|some g=>obtain⟨p,a⟩:=g;obtain⟨A,D,e3,e4⟩:=w p a rfl;exact⟨by grind,e4⟩)
    refine⟨s',j,q1.app (.cons _ _ _ j _ rg I),B,F,k4,λk n=>?_⟩;simp only[RC.asg,d_,v_,not_or]at n;grind
   grind
  grind
def RC.adjW(m:Nat):RC->Bool
 | .nil=>true
 | .op _ _ rest=>rest.adjW m
 | .adj l rest=>Fq m l&&rest.adjW m
 | .gb _ _ _ _ _ _ _ rest=>rest.adjW m
theorem K6{A:List Nat}{s s':S}(h:∀k,k∉A->lk s'.fr k=lk s.fr k):Keeps A s s':=λk a=>by rw[h k a];exact⟨λ_ h _=>.inl h,λh=>h⟩
theorem KX:∀(b:RC) (g a:Option (Nat×Bool)),(b.er g).length=(b.er a).length
 | .nil,_,_=>rfl
 | .op d o rest,g,a=>by simp only[RC.er,ag_,KX rest g a]
 | .adj _ rest,g,a=>by simp only[RC.er,KX rest g a]
 | .gb t want blk ty r alt dst rest,g,a=>by simp only[RC.er,List.length_append,ag_,KX rest g a]
theorem TL(hO:OracleOk P O){t:Nat}{want:Bool}{blk rest:RC}{ty:Ty}{c alt:X}{dst:Nat}{R:Type}{s:S}{κ kp:S->Option R}{r:R}{st:St}(b:(RC.gb t want blk ty c alt dst rest).wf P=true)(d:(RC.gb t want blk ty c alt dst rest).gbB=true) (h:EQ O R (.gb t want blk ty c alt dst rest) s κ kp=some r) (e:Ext st (enc s)):∃s' a,Sys P (blk.er (some (t,want))++[⟨some dst,(Gx t want c.er alt.er),none⟩]) st a/\Ext a (enc s')/\EQ O R rest s' κ kp=some r/\Keeps (blk.asg++[dst]) s s':=by simp only[RC.wf,a_]at b;simp only[RC.gbB,a_]at d;obtain⟨s',a,f,g,j,l,k⟩:=Lb hO (.gb t want blk ty c alt dst .nil) R s (λs'=>EQ O R rest s' κ kp) kp r none st (by simp only[RC.wf,b.1.1.1.1,b.1.1.1.2,b.1.1.2,b.1.2];rfl) (by simp only[RC.pureB,b.1.1.1.2];rfl) (by simp only[RC.gbB,d.1.1.1,d.1.1.2,d.1.2];rfl) h e trivial;exact⟨s',a,f,g,j,K6 k⟩
theorem jN(hO:OracleOk P O){m:Nat}:∀(p:RC) (R:Type) (s:S) (κ kp:S->Option R) (r:R) (K KP:St->Prop),p.wf P=true->p.gbB=true->p.adjW m=true->EQ O R p s κ kp=some r->
 (∀s',Keeps p.asg s s'->κ s'=some r->W m K (enc s'))->(∀s',Keeps p.asg s s'->kp s'=some r->KP (enc s'))->sops P m (p.er none) (enc s) K KP
 | .nil,R,s,κ,kp,r,K,KP,_,_,_,h,c,_=>c s (Keeps.refl _ _) h
 | .adj l rest,R,s,κ,kp,r,K,KP,g,n,j,h,c,e=>by simp only[EQ]at h;simp only[RC.adjW,a_]at j;obtain⟨u,A,h⟩:=AQ h;·obtain⟨F,D⟩:=tD j.1 A;exact jW F (jN hO rest R u κ kp r K KP g n j.2 h (λs' a f=>c s' ((D _).trans a) f) λs' a f=>e s' ((D _).trans a) f)
 | .op d o rest,R,s,κ,kp,r,K,KP,g,n,j,h,c,e=>by
  simp only[RC.wf,a_]at g;refine W.mk ?_;simp only[jA];have b:∀k,k∈gj d\/k∈rest.asg->k∈(RC.op d o rest).asg:=λk a=>by simp only[RC.asg,tH,d_];exact a
  refine nC (F3 hO g.1 h) (λC ⟨u,x,y,z⟩=>?_) λC ⟨u,x,y,z⟩=>?_;·have v:=y.sub (B:=(RC.op d o rest).asg) λk a=>b k (.inl a);exact jW x.weak (jN hO rest R u κ kp r K KP g.2 n j z (λs' a f=>c s' (v.trans (a.sub λk a=>b k (.inr a))) f) λs' a f=>e s' (v.trans (a.sub λk a=>b k (.inr a))) f)
  ·rw[x];exact e u (y.sub λk a=>b k (.inl a)) z
 | .gb t want blk ty E alt dst rest,R,s,κ,kp,r,K,KP,g,n,j,h,c,e=>by
  obtain⟨u,st1,H,I,J,M⟩:=TL hO g n h (Ext.refl _);simp only[RC.wf,a_]at g;simp only[RC.gbB,a_]at n;have b:∀k,k∈blk.asg++[dst]\/k∈rest.asg->k∈(RC.gb t want blk ty E alt dst rest).asg:=λk a=>by simp only[RC.asg,d_,v_,av_,or_false]at a⊢;grind
  have w:=M.sub (B:=(RC.gb t want blk ty E alt dst rest).asg) λk a=>b k (.inl a);have:=H.sops (L:=rest.er none) (jW I.weak (jN hO rest R u κ kp r K KP g.2 n.2 j J (λs' a f=>c s' (w.trans (a.sub λk a=>b k (.inr a))) f) λs' a f=>e s' (w.trans (a.sub λk a=>b k (.inr a))) f));rw[O_]at this;exact this
def RC.drB:Nat->RC->Bool
 |0,_=>true
 |k+1,.op _ o rest=>o.pureB&&rest.drB k
 |k+1,.gb _ _ blk _ _ _ _ rest=>Z_ (blk.er none).length k&&rest.drB (k - (blk.er none).length)
 |_,_=>false
theorem Rs(hO:OracleOk P O){m:Nat}:∀(p:RC) (k:Nat) (R:Type) (s:S) (κ kp:S->Option R) (r:R) (K KP:St->Prop) (st:St),p.drB k=true->p.wf P=true->p.gbB=true->p.adjW m=true->EQ O R p s κ kp=some r->Ext st (enc s)->(∀s',Keeps p.asg s s'->κ s'=some r->W m K (enc s'))->(∀s',Keeps p.asg s s'->kp s'=some r->KP (enc s'))->sdraw P m k (p.er none) st K KP:=by
 intro p;induction p with
 |nil=>intro k R s κ kp r K KP st hd f g u h j e c;cases k with|zero=>exact jW j.weak (jN hO .nil R s κ kp r K KP f g u h e c)|succ k=>cases hd
 |adj l rest _=>intro k R s κ kp r K KP st hd f g u h j e c;cases k with|zero=>have:=jW j.weak (jN hO (.adj l rest) R s κ kp r K KP f g u h e c);generalize RC.er none (RC.adj l rest)=L at this⊢;cases L<;>exact this|succ k=>cases hd
 |op d o rest A=>
  intro k R s κ kp r K KP st hd f g u h j e c;cases k with
  |zero=>exact jW j.weak (jN hO (.op d o rest) R s κ kp r K KP f g u h e c)|succ k=>
   simp only[RC.drB,a_]at hd;simp only[RC.wf,a_]at f;have a:∀k,k∈gj d\/k∈rest.asg->k∈(RC.op d o rest).asg:=λk b=>by simp only[RC.asg,tH,d_];exact b
   obtain⟨v,C,D⟩:=sN hO f.1 hd.1 h;have x:=(Keeps.put s d v).sub (B:=(RC.op d o rest).asg) λk b=>a k (.inl b);exact⟨aT v,QY j C,A k R (s.putO d v) κ kp r K KP _ hd.2 f.2 g u D (by rw[gn];exact j.put d _) (λs' b w=>e s' (x.trans (b.sub λk b=>a k (.inr b))) w) λs' b w=>c s' (x.trans (b.sub λk b=>a k (.inr b))) w⟩
 |gb t want blk ty z alt dst rest _ A=>
  intro k R s κ kp r K KP st hd f g u h j e c;cases k with
  |zero=>have:=jW j.weak (jN hO (.gb t want blk ty z alt dst rest) R s κ kp r K KP f g u h e c);generalize RC.er none (RC.gb t want blk ty z alt dst rest)=L at this⊢;cases L<;>exact this|succ k=>
   simp only[RC.drB,a_]at hd;have E:=c_ hd.1;obtain⟨M,st1,F,H,I,J⟩:=TL hO f g h j;simp only[RC.wf,a_]at f;simp only[RC.gbB,a_]at g;have a:∀k,k∈blk.asg++[dst]\/k∈rest.asg->k∈(RC.gb t want blk ty z alt dst rest).asg:=λk b=>by simp only[RC.asg,d_,v_,av_,or_false]at b⊢;grind
   have y:=J.sub (B:=(RC.gb t want blk ty z alt dst rest).asg) λk b=>a k (.inl b);have hl:=KX blk (some (t,want)) none;have:=F.sdraw (L:=rest.er none) (n:=k - (blk.er none).length) (A _ R M κ kp r K KP st1 hd.2 f.2 g.2 u I H (λs' b w=>e s' (y.trans (b.sub λk b=>a k (.inr b))) w) λs' b w=>c s' (y.trans (b.sub λk b=>a k (.inr b))) w);rw[O_]at this;rw[show(blk.er (some (t,want))++[(⟨some dst,Gx t want z.er alt.er,none⟩:SOper)]).length+(k - (blk.er none).length)=k+1 by grind]at this
   exact this
end
theorem inL_iff{l:List Nat}{x:Nat}:na l x=true↔x∈l:=by unfold na;simp
theorem Dd{l:List Nat}{x:Nat}(h:(!na l x)=true):x∉l:=λa=>by rw[inL_iff.2 a]at h;cases h
theorem CZ(v:V):v.kids1=(aP v).kids:=by
 cases v<;>try rfl
 rename_i c;have a:∀i,i∉(aP (.raw c)).kids:=λi b=>by have:=BV.kids_ids b;rw[show(aP (.raw c)).ids=[]from zM c]at this;grind
 exact(List.eq_nil_iff_forall_not_mem.2 a).symm
theorem Gh(vs:List V):vs.flatMap V.kids1=(vs.map aP).flatMap BV.kids:=by induction vs with|nil=>rfl|cons v vs a=>simp only[Y_,m_,a,CZ]
theorem xr(v:V):v.kids=(aT v).kids:=by
 cases a:v.isA
 ·rw[nw a];have:v.kids=v.kids1:=by cases v<;>first|rfl|cases a
  rw[this];exact CZ v
 ·cases v with|agg vs=>exact Gh vs|tup vs=>exact Gh vs|_=>cases a
theorem C1(o:Ob):o.kids=(bI o).kids:=by
 cases o with
 |box t cs=>exact Gh cs|tree e k t xs h=>cases h with|none=>rfl|some q=>obtain⟨i,j,v⟩:=q;exact CZ v
 |_=>rfl
theorem xG(s:S)(p:PO):touch (enc s) p.so=LG s p.so.rd p.o.er.lent:=by unfold touch LG;congr 1;refine ww λk _=>?_;rw[b7];cases lk s.fr k with|none=>rfl|some v=>exact(qB v).symm
theorem er_hf{o:TOp}:o.er.hf=true↔∃x,o= .mv x:=by cases o<;>simp[TOp.er,SOp.hf]
theorem GZ(s:S)(p:PO)(a:p.rd=p.so.rd)(b:p.lent=p.o.er.lent):pp s p=(match p.b with|true=>dQ (enc s) p.so|false=>touch (enc s) p.so):=by
 unfold pp;cases e:p.b with
 |false=>simp only;rw[xG,a,b]|true=>
  simp only[dQ];by_cases c:(∃x,p.o= .mv x)/\p.g=none;·obtain⟨⟨x,d⟩,hg⟩:=c;rw[d,hg];have:p.so.op.hf=true/\p.so.gd=none:=⟨by show p.o.er.hf=true;rw[d];rfl,hg⟩;grind
  ·have:¬(p.so.op.hf=true/\p.so.gd=none):=λh=>c ⟨er_hf.1 h.1,h.2⟩;rw[if_neg this,xG,a,b];grind
theorem Qb{r:Av.Rec}{T:List Nat}{p:PO}(h:Tq r T p.so.rd p.o.er.lent p.d p.b=true):comm r T p.so p.b:=by
 unfold Tq at h;simp only[a_]at h;obtain⟨⟨⟨b,g⟩,j⟩,c⟩:=h;refine⟨λt a=>?_,λt a=>?_,λt a=>?_,λf t a=>?_,λf=>?_⟩;·rw[a]at b;simp only[a_]at b;refine⟨Dd b.1,λe=>?_⟩;have d:p.d=some t:=e;rw[d]at b;have:=b.2;simp only[T_]at this;grind
 ·have d:p.d=some t:=a;rw[d]at g;exact Dd g
 ·rw[a]at j;exact Dd j
 ·rw[f]at c;exact Dd (f_.1 c t a)
 ·rw[f]at c;exact λi k=>Dd (f_.1 c i k)
def PO.wf(P:Program)(p:PO):Bool:=p.o.wf P&&decide (p.rd=p.so.rd)&&decide (p.lent=p.o.er.lent)&&(match p.b with
 |true=>p.d.isSome&&(p.o.pureB||(p.o.isAt&&p.g.isNone))
 |false=>p.o.exB)
def PQ(a:List (List Nat)):List PO->Bool
 |[]=>true
 |p::l=>l.all (λq=>(a.getD q.j []).contains p.j||na q.us p.j)&&PQ a l
def qy(l:List PO):List Nat:=l.flatMap λp=>match p.d with|some d=>[d]|none=>[]
section
variable {R:Type} {P:Program} {O:ak}
theorem Vx(after:List (List Nat)):∀l,PQ (HG after) l=PQ (fO [] after) l
 |[]=>rfl
 |p::l=>by simp only[PQ,EM,Vx after l]
theorem wE{s:S}{t:Nat}{v:V}(h:lk s.fr t=some v)(k:Nat):lk (s.put t v).fr k=lk s.fr k:=by
 show lk ((t,v)::s.fr) k=_;simp only[lk];cases a:j_ k t;·rfl
 ·have:=b_ a;grind
theorem EW{s:S}{t:Nat}{v:V}(h:lk s.fr t=some v):Eqs (enc (s.put t v)) (enc s):=⟨rfl,λk=>by rw[b7,b7,wE h]⟩
theorem qh{s:S}{t:Nat}{v:V}(h:lk s.fr t=some v)(A:List Nat):Keeps A s (s.put t v):=λk _=>by rw[wE h];exact⟨λv a _=>.inl a,λhn=>hn⟩
def Yq(F:List Nat)(ld:Option (Ty×Nat×Nat×V))(hp:List AObj):Prop:=∃t id off v,ld=some (t,id,off,v)/\∃s':S,hp=s'.hp.map bI/\(∀j∈Gd s' id,j∈F)/\JF s'.hp t id off=some v
def NA(a:RecV):Av.Rec×(List AObj->Prop):=(a.r,Yq a.r.F a.ld)
theorem Vg{k:Option R}{r:R}{v c:V}(h:Vf k v c=some r):v=c/\k=some r:=by
 unfold Vf at h;split at h
 ·rename_i t x u y;split at h;·rename_i z e;obtain⟨a,b⟩:=aO h;obtain⟨d,f⟩:=aO b;have:=KV t x z a d;subst this;unfold bN at e;grind
  grind
 ·rename_i i o j q;obtain⟨a,b⟩:=aO h;simp only[a_]at a;rw[b_ a.1,b_ a.2];grind
 ·rename_i i j;obtain⟨a,b⟩:=aO h;rw[b_ a];grind
 grind
theorem xB{T us:List Nat}{s':S}{k:Option R}{r:R}:∀{A:List RecV},YF T us s' k A=some r->k=some r/\∀a∈A,na us a.r.i=true->(∀i∈T,i∉a.r.F)\/Yq a.r.F a.ld (s'.hp.map bI)
 |[],h=>⟨h,λa w=>by grind⟩
 |a::A,h=>by
  unfold YF at h;cases hc:(!na us a.r.i||T.all (λt=> !na a.r.F t))
  ·rw[hc]at h;simp only[cond_false]at h;split at h
   ·rename_i t id off v hl;split at h
    ·rename_i x u;obtain⟨f,g⟩:=aO h;obtain⟨rfl,l⟩:=Vg g;obtain⟨d,n⟩:=xB l;refine⟨d,λb c e=>?_⟩;rcases v_.1 c with rfl|c;·exact .inr ⟨t,id,off,v,hl,s',rfl,λj s=>inL_iff.1 (f_.1 f j s),u⟩
     grind
    grind
   grind
  ·rw[hc]at h;simp only[cond_true]at h;obtain⟨d,n⟩:=xB h;refine⟨d,λb c e=>?_⟩;rcases v_.1 c with rfl|c;·simp only[e,ab_,an_]at hc;exact .inl λi p=>Dd (f_.1 hc i p)
   grind
theorem Xp(s:S)(hp:List Ob)(x:X):S.get ⟨s.fr,hp⟩ x=s.get x:=by cases x<;>rfl
theorem O8{d:Option Nat}{t:Ty}{x:X}{s:S}{hp:List Ob}{id off:Nat}{v:V}{kp:S->Option S}(b:s.get x=some (.ptr id off))(a:JF hp t id off=some v): evOp O d (.load t x) ⟨s.fr,hp⟩ (λs=>some s) kp=some (S.putO ⟨s.fr,hp⟩ d v):=by simp only[evOp,Xp,b,loadT];unfold JF at a;grind
theorem Rv(hO:OracleOk P O){D:List (List Nat)}{K:St->Prop}{KC:Prop}:∀(l:List PO) (A:List RecV) (s:S) (κ kp:S->Option R) (r:R),l.all (PO.wf P)=true->PQ D l=true->(∀a∈A,∀q∈l,(D.getD q.j []).contains a.r.i=true\/na q.us a.r.i=true)->tp O A l s κ kp=some r->(∀s',Keeps (qy l) s s'->κ s'=some r->K (enc s'))->(∀s',Keeps (qy l) s s'->kp s'=some r->KC)->uv P (λi j=> !(D.getD j []).contains i) K KC (A.map NA) (l.map λp=>(p.j,p.b,p.so)) (enc s):=by
 intro l;induction l with
 |nil=>intro A s κ kp r _ _ _ h I _;exact⟨_,Eqs.refl _,I s (Keeps.refl _ _) h⟩|cons p l ih=>
  intro A s0 κ kp r hw hu hA h Bk At;simp only[B_,a_]at hw;obtain⟨GS,wr⟩:=hw;simp only[PQ,a_,f_,s_]at hu;obtain⟨RT,ur⟩:=hu;simp only[PO.wf,a_,decide_eq_true_eq]at GS;obtain⟨⟨⟨w1,w2⟩,w3⟩,w4⟩:=GS;have f:∀k,k∈gj p.d\/k∈qy l->k∈qy (p::l):=λk c=>by unfold qy at c⊢;rw[Y_,d_];refine c.imp (λh=>?_) id;cases hd:p.d<;>rw[hd]at h<;>exact h
  have DE:∀a∈A,∀q∈l,(D.getD q.j []).contains a.r.i=true\/na q.us a.r.i=true:=λa H q L=>hA a H q (q_ _ L);have B:∀{X:Av.Rec×(List AObj->Prop)->Prop},(∀a∈A,X (NA a))->∀r∈A.map NA,X r:=λh r hr=>by grind
  have Fm:∀a∈A,(!(D.getD p.j []).contains a.r.i)=true->na p.us a.r.i=true:=λa H Y=>by grind
  have Fk:∀s:S,(p.g=none\/∃t want,p.g=some (t,want)/\lk s.fr t=some (.d .bool want))->CS A s p=true->evOp O p.d p.o s (λs'=>Sf A s s' p (tp O (Dj A s s' p) l s' κ kp)) kp=some r->(∀s',Keeps (qy (p::l)) s s'->κ s'=some r->K (enc s'))->(∀s',Keeps (qy (p::l)) s s'->kp s'=some r->KC)->uv P (λi j=> !(D.getD j []).contains i) K KC (A.map NA) ((p::l).map λp=>(p.j,p.b,p.so)) (enc s):=by
   intro s hg h1 z I N;simp only[CS,a_]at h1;obtain⟨⟨⟨c1,c2⟩,c3⟩,c4⟩:=h1;rw[w2,w3]at c1;simp only[Dj,Sf,w2,w3]at z;have hT:=GZ s p w2 w3;have g:∀a∈A,(!(D.getD p.j []).contains a.r.i)=true->comm a.r (match p.b with|true=>dQ (enc s) p.so|false=>touch (enc s) p.so) p.so p.b:=λa H Y=>by
    have:=f_.1 c1 a H;simp only[s_]at this;rcases hA a H p (L_ ..)with h3|h3;·grind
    ·rw[h3]at this;rcases this with h4|h4;·grind
     ·rw[<-hT];exact Qb h4
   have Pc:∀{X X':St->Prop},sexec P p.d p.o.er (enc s) X X'->jA P p.so (enc s) X X':=fun{X X'} hx=>by
    unfold jA;rcases hg with hg|⟨t,want,hg,hl⟩;·rw[show p.so.gd=none from hg];exact hx
    ·rw[show p.so.gd=some (t,want)from hg];exact⟨_,by rw[b7,hl];rfl,_,rfl,λ_=>hx,λQ=>absurd rfl Q⟩
   have PA:∀{x:AV},kg P (enc s) p.o.er (λy=>y=x)->gg P p.so (enc s) x:=fun{x} hx=>by
    unfold gg;rcases hg with hg|⟨t,want,hg,hl⟩;·rw[show p.so.gd=none from hg];exact hx
    ·rw[show p.so.gd=some (t,want)from hg];exact⟨_,by rw[b7,hl];rfl,_,rfl,λ_=>hx,λQ=>absurd rfl Q⟩
   cases hb:p.b with
   |false=>
    rw[hb]at w4 z g;simp only[cond_false]at z;simp only[m_,hb];refine⟨B g,?_⟩;have hx:=OO hO w1 w4 c3 z;refine Pc (nC hx (λPJ ⟨s',e1,e2,e3⟩=>?_) λPJ ⟨s',e1,e2,e3⟩=>N s' (e2.sub λk c=>f k (.inl c)) e3);rw[e1];obtain⟨e3,e9⟩:=xB e3;refine⟨B λa H Y=>?_,?_⟩;·rw[xG];exact e9 a H (Fm a H Y)
    exact ih A s' κ kp r wr ur DE e3 (λC c F=>I C ((e2.sub λk c=>f k (.inl c)).trans (c.sub λk c=>f k (.inr c))) F) λC c F=>N C ((e2.sub λk c=>f k (.inl c)).trans (c.sub λk c=>f k (.inr c))) F
   |true=>
    rw[hb]at w4 z g c2 hT;simp only at g hT;simp only[a_]at w4;obtain⟨KK,Pb⟩:=w4;obtain⟨dk,qr⟩:=ad_.1 KK;simp only[cond_true]at z;simp only[ab_,an_]at c2;simp only[m_,hb];have Pa:∃E v s',ui P p.so (enc s) E/\E.x=aT v/\E.slot.map (·.1)=Ah p.o/\enc s'=(enc s).app p.d E/\lk s'.fr dk=some v/\Keeps (gj p.d) s s'/\tp O (A++[⟨⟨p.j,p.d,p.so.rd,Ah p.o,Nz s s' p.d (pp s p),Sg s s' p.so.rd p.d⟩,K7 s s' p⟩]) l s' κ kp=some r:=by
     rcases Bool.or_eq_true_iff.1 Pb with T|el
     ·obtain⟨v,e1,e2⟩:=sN hO w1 T z;have rg:Ah p.o=none:=by cases L:p.o<;>first|rfl|(rw[L]at T;cases T)
      refine⟨⟨aT v,none⟩,v,s.putO p.d v,PA e1,rfl,by grind,gn _ _ _,?_,Keeps.put _ _ _,e2⟩;rw[qr];simp only[z6,if_true]
     ·simp only[a_]at el;obtain⟨el,gc⟩:=el;have gc:=W_.1 gc;cases L:p.o<;>(try (rw[L]at el;cases el;done))
      rename_i k op;rw[L]at z w1;obtain⟨ob,v,e1,e2⟩:=P3 (P:=P) (k:=k) (op:=op) w1 z;refine⟨⟨aT v,some (k,bI ob)⟩,v,_,?_,rfl,rfl,?_,?_,(Keeps.fr (s':=⟨s.fr,setAt s.hp k ob⟩) rfl).trans (Keeps.put _ p.d v),e2⟩
      ·have:p.so=⟨p.d,.atq k op.er,none⟩:=by unfold PO.so;rw[L,gc];rfl
       grind
      ·rw[gn,iw];rfl
      ·rw[qr];simp only[z6,if_true]
    obtain⟨E,v,s',e1,e2,e3,e4,e5,e6,e7⟩:=Pa;have RK:Qo s' p.d=v.kids:=by unfold Qo;grind
    have DQ:∀i∈E.x.kids,i∈Nz s s' p.d (pp s p):=λi n=>by rw[e2,<-xr]at n;exact d_.2 (.inr (by grind))
    have DH:∀t∈p.so.rd,∀y,Av.look (enc s).fr t=some y->∀i∈y.kids,i∈Sg s s' p.so.rd p.d:=λt ht y M i n=>by rw[b7]at M;refine d_.2 (.inl (u_.2 ⟨t,ht,?_⟩));cases hl:lk s.fr t with|none=>grind|some w=>rw[hl]at M;simp only[S_,h_]at M;rw[<-M,<-xr]at n;omega
    have JT:Yh (A.map NA) (Yq (Nz s s' p.d (pp s p)) (K7 s s' p)) (Sg s s' p.so.rd p.d) E:=λk ob c=>by
     have CT:Ah p.o=some k:=by rw[<-e3,c];rfl
     refine⟨λj hj=>?_,λhp F=>?_,B λa H hp hf F=>?_⟩;·unfold ui at e1;rw[c]at e1;obtain⟨_,u,hu,hm⟩:=e1;obtain⟨t,ht,y,M,Nd⟩:=Vn (ob:=ob) (qV hm λo m h=>h) j hj;exact DH t (by unfold SOper.rd;rw[hu];exact d_.2 (.inl ht)) y M j Nd
     ·obtain⟨t,id,off,v,hl,_⟩:=F;cases L:p.o<;>rw[L]at CT<;>try (cases CT;done)
      unfold K7 at hl;rw[L]at hl;cases hl
     ·obtain⟨t,id,off,v,hl,C,BT,J,U⟩:=F;have Q:id≠k:=λe=>by unfold W8 at c4;rw[CT]at c4;have:=f_.1 c4 a H;rw[hl,e]at this;simp at this
      have DM:(C.hp.set k .free)[id]? =C.hp[id]? :=R_ Q.symm;refine⟨t,id,off,v,hl,⟨C.fr,C.hp.set k .free⟩,?_,?_,?_⟩
      ·have:(hp.set k ob).set k .free=hp:=by
        rw[List.set_set];refine X_ λi=>?_;by_cases n:k=i;·subst n;rw[P_ (i_.1 hf).1,hf]
        ·rw[R_ n]
       rw[D_,<-BT];exact this.symm
      ·unfold Gd at J⊢;rw[DM];exact J
      ·unfold JF at U⊢;rw[DM];exact U
    refine⟨B g,E,Nz s s' p.d (pp s p),Sg s s' p.so.rd p.d,Yq (Nz s s' p.d (pp s p)) (K7 s s' p),e1,⟨λi n=>?_,DQ⟩,⟨λi n=>?_,DH⟩,λIn hS Bx=>?_,JT,?_⟩;·rw[<-hT]at n;have CD:=f_.1 c2 i n;have ph:i<s.hp.length:=c_ CD;refine⟨d_.2 (.inl (d_.2 (.inl n))),_,by rw[bE,g_ ph];rfl,λj hj=>?_⟩;rw[<-C1]at hj;refine d_.2 (.inl (d_.2 (.inr (u_.2 ⟨i,n,?_⟩))));unfold Gd;grind
    ·rw[e2,<-xr]at n;exact d_.2 (.inr (by grind))
    ·obtain⟨t,id,off,v2,hl,C,BT,J,U⟩:=hS;unfold K7 at hl;split at hl;case h_2=>grind
     rename_i t' x d ho gc hd;split at hl;case h_2=>grind
     rename_i RW Rg So hx Fr;cases hl;rw[qr]at hd;cases hd;rw[e5]at Fr;cases Fr;have rg:E.slot=none:=by rw[ho]at e3;cases hs:E.slot with|none=>rfl|some q=>rw[hs]at e3;cases e3
     have DA:p.so=⟨some dk,.load t.sz t.ag x.er,none⟩:=by unfold PO.so;rw[ho,gc,qr];rfl
     rw[ho]at w1;obtain⟨v3,g1,g2⟩:=sN (P:=P) (O:=O) hO w1 (by rfl) (O8 (O:=O) (d:=some dk) (t:=t) (kp:=λ_=>none) hx U);have PB:v3=v:=by have:=congrArg (λs:S=>lk s.fr dk) (aj_ g2);simpa only[z6,if_true,h_]using this
     subst PB;have MT:∀i∈dQ In p.so,i=id:=λi n=>by
      rw[DA]at n;unfold dQ at n;rw[if_neg (λh=>by grind)]at n;unfold touch at n;simp only[SOp.lent,az_]at n;obtain⟨k,c,h0⟩:=u_.1 n;have DP:k∈x.er.rd:=by simpa[SOper.rd,SOp.rd]using c
      rw[Bx k (by grind),b7]at h0;cases x with
      |tm k0=>
       have:k=k0:=by simpa[X.er,SX.rd]using DP
       subst this;rw[show lk s.fr k=some (.ptr id off)from hx]at h0;exact n_.1 h0
      |_=>cases DP
     refine⟨?_,λi n=>?_,DQ⟩;·unfold ui;rw[rg,DA,e2];refine Cd ⟨λk c y M=>?_,λk c y M i n ob DS=>by rw[BT];exact DS⟩ g1;rw[Bx k (by rw[DA];exact d_.2 (.inl c))];exact M
     ·have h1:=n;rw[td Bx,<-hT]at h1;have:=MT i n;subst this;refine⟨d_.2 (.inl (d_.2 (.inl h1))),?_⟩;unfold JF at U;split at U;case h_2=>grind
      rename_i tid cs DS;refine⟨bI (.box tid cs),by grind,λj hj=>J j ?_⟩;rw[<-C1]at hj;unfold Gd;grind
    ·rw[e3];have:=ih _ s' κ kp r wr ur (λa H q L=>?_) e7 (λC c F=>I C ((e6.sub λk c=>f k (.inl c)).trans (c.sub λk c=>f k (.inr c))) F) λC c F=>N C ((e6.sub λk c=>f k (.inl c)).trans (c.sub λk c=>f k (.inr c))) F;·rw[w_,e4]at this;exact this
     grind
  have Dg:∀(s:S) t want b,p.g=some (t,want)->lk s.fr t=some (.d .bool b)->(want==b)=false->CS A s p=true->Sf A s (s.putO p.d (.raw Go.undef)) p (tp O (Dj A s (s.putO p.d (.raw Go.undef)) p) l (s.putO p.d (.raw Go.undef)) κ kp)=some r->(∀s',Keeps (qy (p::l)) s s'->κ s'=some r->K (enc s'))->(∀s',Keeps (qy (p::l)) s s'->kp s'=some r->KC)->uv P (λi j=> !(D.getD j []).contains i) K KC (A.map NA) ((p::l).map λp=>(p.j,p.b,p.so)) (enc s):=by
   intro s t want b hg hl Q h1 z I N;simp only[CS,a_]at h1;obtain⟨⟨⟨c1,c2⟩,c3⟩,c4⟩:=h1;rw[w2,w3]at c1;simp only[Dj,Sf,w2,w3]at z;have hT:=GZ s p w2 w3;have g:∀a∈A,(!(D.getD p.j []).contains a.r.i)=true->comm a.r (match p.b with|true=>dQ (enc s) p.so|false=>touch (enc s) p.so) p.so p.b:=λa H Y=>by
    have:=f_.1 c1 a H;simp only[s_]at this;rcases hA a H p (L_ ..)with h3|h3;·grind
    ·rw[h3]at this;rcases this with h4|h4;·grind
     ·rw[<-hT];exact Qb h4
   have Hx:yv (.bool b)≠some want:=λe=>by
    have:b=want:=by simpa[yv]using e
    grind
   have e4:enc (s.putO p.d (.raw Go.undef))=(enc s).putO p.d (.v Go.undef):=gn _ _ _;have e6:Keeps (gj p.d) s (s.putO p.d (.raw Go.undef)):=Keeps.put _ _ _;cases hb:p.b with
   |false=>
    rw[hb]at z g;simp only[cond_false]at z;simp only[m_,hb];refine⟨B g,?_⟩;unfold jA;rw[show p.so.gd=some (t,want)from hg];obtain⟨z,e9⟩:=xB z;refine⟨_,by rw[b7,hl];rfl,_,rfl,λhe=>absurd he Hx,λ_=>?_⟩;show S5 _ _ _ _ ((enc s).putO p.d (.v Go.undef)).hp/\uv P _ K KC (A.map NA) _ ((enc s).putO p.d (.v Go.undef));rw[<-e4];refine⟨B λa H Y=>?_,?_⟩;·rw[xG];exact e9 a H (Fm a H Y)
    exact ih A _ κ kp r wr ur DE z (λC c F=>I C ((e6.sub λk c=>f k (.inl c)).trans (c.sub λk c=>f k (.inr c))) F) λC c F=>N C ((e6.sub λk c=>f k (.inl c)).trans (c.sub λk c=>f k (.inr c))) F
   |true=>
    rw[hb]at w4 z g c2 hT;simp only at g hT;simp only[a_]at w4;simp only[cond_true]at z;simp only[ab_,an_]at c2;simp only[m_,hb];have rg:Ah p.o=none:=by
     have T:p.o.pureB=true:=by grind
     cases L:p.o<;>first|rfl|(rw[L]at T;cases T)
    have RM:K7 s (s.putO p.d (.raw Go.undef)) p=none:=by unfold K7;grind
    refine⟨B g,⟨.v Go.undef,none⟩,Nz s (s.putO p.d (.raw Go.undef)) p.d (pp s p),Sg s (s.putO p.d (.raw Go.undef)) p.so.rd p.d,Yq (Nz s (s.putO p.d (.raw Go.undef)) p.d (pp s p)) (K7 s (s.putO p.d (.raw Go.undef)) p),?_,⟨λi n=>?_,λi n=>?_⟩,⟨λi n=>(by cases n),λt ht y M i n=>?_⟩,λIn hS=>?_,λk ob e=>(by cases e),?_⟩;·show gg P p.so (enc s) (.v Go.undef);unfold gg;rw[show p.so.gd=some (t,want)from hg];exact⟨_,by rw[b7,hl];rfl,_,rfl,λhe=>absurd he Hx,λ_=>rfl⟩
    ·rw[<-hT]at n;have CD:=f_.1 c2 i n;have ph:i<s.hp.length:=c_ CD;refine⟨d_.2 (.inl (d_.2 (.inl n))),_,by rw[bE,g_ ph];rfl,λj hj=>?_⟩;rw[<-C1]at hj;refine d_.2 (.inl (d_.2 (.inr (u_.2 ⟨i,n,?_⟩))));unfold Gd;grind
    ·cases n
    ·rw[b7]at M;refine d_.2 (.inl (u_.2 ⟨t,ht,?_⟩));cases hl:lk s.fr t with|none=>grind|some w=>rw[hl]at M;simp only[S_,h_]at M;rw[<-M,<-xr]at n;omega
    ·obtain⟨_,_,_,_,hl,_⟩:=hS;grind
    ·have:=ih _ _ κ kp r wr ur (λa H q L=>?_) z (λC c F=>I C ((e6.sub λk c=>f k (.inl c)).trans (c.sub λk c=>f k (.inr c))) F) λC c F=>N C ((e6.sub λk c=>f k (.inl c)).trans (c.sub λk c=>f k (.inr c))) F;·rw[w_,e4]at this;show uv P _ K KC (A.map NA++[(⟨p.j,p.d,p.so.rd,none,_,_⟩,_)]) _ ((enc s).putO p.d (.v Go.undef));rw[<-rg];exact this
     grind
  simp only[tp]at h;cases hg:p.g with
  |none=>grind|some q=>
   obtain⟨t,want⟩:=q;rw[hg]at h;simp only at h;split at h
   ·rename_i b hl;rcases DB:(want==b)with _|_
    ·rw[DB]at h;have hb:b= !want:=by cases b<;>cases want<;>first|rfl|grind
     subst hb;obtain⟨h1,z⟩:=aO h;refine s4 _ _ _ _ (EW hl) ?_;exact Dg _ t want _ hg (by rw[wE hl];omega) DB h1 z (λs' c=>Bk s' ((qh hl _).trans c)) λs' c=>At s' ((qh hl _).trans c)
    ·rw[DB]at h;have:want=b:=by grind
     subst this;obtain⟨h1,z⟩:=aO h;refine s4 _ _ _ _ (EW hl) ?_;exact Fk _ (.inr ⟨t,want,hg,by rw[wE hl];omega⟩) h1 z (λs' c=>Bk s' ((qh hl _).trans c)) λs' c=>At s' ((qh hl _).trans c)
   grind
theorem C2(hO:OracleOk P O){m:Nat}{K KP:St->Prop}:∀(l:List PO) (s:S) (κ kp:S->Option R) (r:R),l.all (λp=>p.o.wf P)=true->SK O l s κ kp=some r->
 (∀s',Keeps (qy l) s s'->κ s'=some r->W m K (enc s'))->(∀s',Keeps (qy l) s s'->kp s'=some r->KP (enc s'))->sops P m (l.map PO.so) (enc s) K KP
 |[],s,κ,kp,r,_,h,j,_=>j s (Keeps.refl _ _) h
 |p::l,s0,κ,kp,r,z,h,v,u=>by
  rw[B_,a_]at z;have f:∀k,k∈gj p.d\/k∈qy l->k∈qy (p::l):=λk d=>by simp only[qy,Y_,d_];exact d
  have I:∀(s:S),(∀s',Keeps (qy (p::l)) s s'->κ s'=some r->W m K (enc s'))->(∀s',Keeps (qy (p::l)) s s'->kp s'=some r->KP (enc s'))->evOp O p.d p.o s (λs'=>SK O l s' κ kp) kp=some r->sexec P p.d p.o.er (enc s) (λst=>sops P m (l.map PO.so) st K KP) KP:=by
   intro s j n h
   refine nC (F3 hO z.1 h) (λy ⟨H,A,C,D⟩=>?_) λy ⟨H,A,C,D⟩=>?_
   ·have g:=C.sub (B:=qy (p::l)) λk d=>f k (.inl d);exact jW A.weak (C2 hO l H κ kp r z.2 D (λs' d x=>j s' (g.trans (d.sub λk d=>f k (.inr d))) x) λs' d x=>n s' (g.trans (d.sub λk d=>f k (.inr d))) x)
   ·rw[A];exact n H (C.sub λk d=>f k (.inl d)) D
  have skip:∀(s:S),(∀s',Keeps (qy (p::l)) s s'->κ s'=some r->W m K (enc s'))->(∀s',Keeps (qy (p::l)) s s'->kp s'=some r->KP (enc s'))->SK O l (s.putO p.d (.raw Go.undef)) κ kp=some r->sops P m (l.map PO.so) ((enc s).putO p.d (.v Go.undef)) K KP:=by
   intro s j n h
   have M:enc (s.putO p.d (.raw Go.undef))=(enc s).putO p.d (.v Go.undef):=gn _ _ _
   have N:Keeps (gj p.d) s (s.putO p.d (.raw Go.undef)):=Keeps.put _ _ _
   have g:=N.sub (B:=qy (p::l)) λk d=>f k (.inl d)
   rw[<-M]
   exact C2 hO l _ κ kp r z.2 h (λs' d x=>j s' (g.trans (d.sub λk d=>f k (.inr d))) x) λs' d x=>n s' (g.trans (d.sub λk d=>f k (.inr d))) x
  show W m (λst=>jA P p.so st (λy=>sops P m (l.map PO.so) y K KP) KP) (enc s0);simp only[SK]at h;split at h;·rename_i hg;refine W.mk ?_;unfold jA;rw[show p.so.gd=none from hg];exact I s0 v u h
  ·rename_i t want hg;split at h
   ·rename_i b hl;have e:Weak m (enc s0) (enc (s0.put t (.d .bool b))):=λc a w _ hr=>Rel.congr (EW hl).1 (EW hl).2 hr;refine W.to _ e ?_;unfold jA;rw[show p.so.gd=some (t,want)from hg];have F:Av.look (enc (s0.put t (.d .bool b))).fr t=some (.b (.pv (.sc (.bool b)))):=by rw[b7,wE hl,hl];rfl
    have J:∀s',Keeps (qy (p::l)) (s0.put t (.d .bool b)) s'->κ s'=some r->W m K (enc s'):=λs' d=>v s' ((qh hl _).trans d);have L:∀s',Keeps (qy (p::l)) (s0.put t (.d .bool b)) s'->kp s'=some r->KP (enc s'):=λs' d=>u s' ((qh hl _).trans d);refine⟨_,F,.bool b,rfl,λE=>?_,λE=>?_⟩;·cases b<;>cases want<;>first|(exact I _ J L h)|(exact absurd E (by decide))
    ·cases b<;>cases want<;>first|(exact skip _ J L h)|(exact absurd rfl E)
   grind
theorem JX{m:Nat}{s:S}:∀(r:Nat),Weak m (enc s) (enc ⟨s.fr,s.hp++I_ r .free⟩)
 |0=>by rw[List.replicate_zero,az_];exact Weak.refl _ _
 |r+1=>by
  refine(JX r).trans ?_;rintro c a w _ ⟨θ,D,b⟩;refine⟨θ++[.no],D,?_⟩;have:=b.push (l:=.no) (o:=.free) trivial λg hg=>by cases hg
  rw[List.replicate_succ',<-O_];have e:=wj ⟨s.fr,s.hp++I_ r .free⟩ .free;simp only at e;rw[e];exact this
theorem TT{pre:List PO}(hn:(pre.map (·.j)).Nodup){p:PO}(hp:p∈pre)(b:p.j<pre.length)(tl:List SOper):(Ii pre++tl).getD p.j default=p.so:=by
 have hl:(Ii pre).length=pre.length:=by simp[Ii]
 have c:pre.find? (λq=>j_ q.j p.j)=some p:=by
  clear hl b;induction pre with
  |nil=>grind|cons q pre d=>
   rw[m_,List.nodup_cons]at hn;rw[aA_];rcases v_.1 hp with rfl|hp;·simp
   ·have:j_ q.j p.j=false:=by cases a:j_ q.j p.j with|false=>rfl|true=>exact absurd (Q_.2 ⟨p,hp,(b_ a).symm⟩) hn.1
    grind
 rw[aH_,t_ (by omega)];unfold Ii;grind
end
def XZ(xs:List (Nat×Sh)):Bool:=xs.all λx=>x.2.wfB
def TC.wf(P:Program)(m:Nat):TC->Bool
 | .region ops=>ops.wf P&&ops.gbB&&ops.adjW m
 | .draw k ops _=>ops.wf P&&ops.gbB&&ops.adjW m&&ops.drB k
 | .draw2 _ pre tl af=>tl.wf P&&tl.gbB&&tl.adjW m&&pre.all (PO.wf P)&&PQ (HG af) pre&&decide (pre.map (·.j)).Nodup&&pre.all (λp=>decide (p.j<pre.length))
 | .regL pre=>pre.all λp=>p.o.wf P
 | .seq a b=>a.wf P m&&b.wf P m
 | .cond x a b=>x.wf&&a.wf P m&&b.wf P m
 | .block _ a=>a.wf P m
 | .loop sh xs a=>sh.wfB&&XZ xs&&a.wf P m
 | .adj l a=>Fq m l&&a.wf P m
 | .after a l=>Fq m l&&a.wf P m
 | .cut xs a=>XZ xs&&a.wf P m
 |_=>true
section
variable {P:Program} {O:ak} {n m:Nat}
theorem Tg{x:AC}{Q:AE->St->Prop}:∀{a b:St},Weak m a b->LS P m x Q b->LS P m x Q a:=by induction x generalizing Q with|skip=>exact λh k=>W.from h k|region f=>exact λh k=>jW h k|draw k f af=>exact λh k=>W.from h k|draw2 ord f af=>exact λh k=>W.from h k|seq a b d e=>exact λh k=>d h k|cond c a b d e=>exact λh k=>W.from h k|block id a d=>exact λh k=>d h k|loop a d=>exact λh k=>W.from h k|exit id=>exact λh k=>W.from h k|ret=>exact λh k=>W.from h k
theorem lO{fr:List (Nat×V)}:∀{l:List Nat} {k:Nat} {v:V},lk (dP fr l) k=some v->k∈l/\lk fr k=some v/\v.isD=true
 |[],k,v,h=>by cases h
 |j::l,k,v,h=>by
  simp only[dP]at h;split at h
  ·rename_i u d;cases hd:u.isD;·rw[hd]at h;obtain⟨a,b⟩:=lO h;grind
   ·rw[hd]at h;simp only[cond_true,lk,beq_eq]at h;by_cases c:k=j;·grind
    ·rw[decide_eq_false c]at h;obtain⟨a,b⟩:=lO h;grind
  ·obtain⟨a,b⟩:=lO h;grind
theorem nE:∀(l:List Slot) (c:HL l) (b:S) (k:Nat),(∀t,Slot.tm k t∉l)->lk (unpack l c b).fr k=lk b.fr k
 |[],_,_,_,_=>rfl
 | .tm j t::l,c,b,k,h=>by have:=nE l c.2 ⟨(j,.d t c.1)::b.fr,b.hp⟩ k λt a=>h t (q_ _ a);show lk (unpack l c.2 ⟨(j,.d t c.1)::b.fr,b.hp⟩).fr k=_;rw[this];simp only[lk,beq_eq];grind
 | .cell _ _ _::l,c,b,k,h=>nE l c.2 _ k λt a=>h t (q_ _ a)
 | .vec _ _ _::l,c,b,k,h=>nE l c.2 _ k λt a=>h t (q_ _ a)
 | .map _ _ _ _ _::l,c,b,k,h=>nE l c.2 _ k λt a=>h t (q_ _ a)
 | .tree _ _ _ _::l,c,b,k,h=>nE l c.2 _ k λt a=>h t (q_ _ a)
 | .treeH _ _ _ _ _ _::l,c,b,k,h=>nE l c.2 _ k λt a=>h t (q_ _ a)
theorem OW{A:List Nat}{fr:List (Nat×V)}{k:Nat}(h:qb A fr k=true):k∈A\/∃v,lk fr k=some v/\v.isD=false:=by
 simp only[qb,s_]at h;rcases h with h|h;·exact .inl (inL_mem.1 h)
 grind
theorem XW{fr:List (Nat×V)}{k:Nat}(h:lk fr k≠none):∃v,(k,v)∈fr:=by cases a:lk fr k with|none=>exact absurd a h|some v=>exact⟨v,Gl a⟩
structure OkAt(sh:Sh)(A:List Nat)(s:S):Prop where
 keep:∀k∈sh.keep,k∉A
 tm:∀k t,Slot.tm k t∈sh.sl->qb A s.fr k=true
 sk:∀x∈sh.sk.fr,qb A s.fr x.1=true
theorem Qz{sh:Sh}{A:List Nat}{s:S}(h:sh.okAt A s=true):OkAt sh A s:=by simp only[Sh.okAt,a_,f_,p_]at h;refine⟨λk a e=>?_,λk t a=>h.1.2 _ a,h.2⟩;have:=h.1.1 k a;rw[inL_mem.2 e]at this;grind
theorem Ti{sh:Sh}{A:List Nat}{s:S}(d:OkAt sh A s)(c:HL sh.sl){k:Nat}(p:k∉A):(∀v,lk s.fr k=some v->v.isD=true->lk (unpack sh.sl c (sh.base s)).fr k=lk (dP s.fr sh.keep) k)/\(lk s.fr k=none->lk (unpack sh.sl c (sh.base s)).fr k=none):=by
 have a:(∀v,lk s.fr k=some v->v.isD=true)->qb A s.fr k≠true:=λhd e=>by rcases OW e with h|⟨v,l,n⟩;all_goals grind
 have step:(∀v,lk s.fr k=some v->v.isD=true)->lk (unpack sh.sl c (sh.base s)).fr k=lk (dP s.fr sh.keep) k:=λhd=>by
  rw[nE _ _ _ _ λt g=>a hd (d.tm k t g)];show lk (dP s.fr sh.keep++sh.sk.fr) k=_;rw[Js];have:lk sh.sk.fr k=none:=V_ λe=>by obtain⟨v,f⟩:=XW e;exact a hd (d.sk _ f)
  grind
 refine⟨λv f hd=>step λu j=>by grind,λhn=>?_⟩;rw[step λu j=>by grind];cases b:lk (dP s.fr sh.keep) k with|none=>rfl|some v=>have:=(lO b).2.1;grind
theorem Fy{sh:Sh}{A:List Nat}{s:S}(f:OkAt sh A s)(c:HL sh.sl):Keeps A s (unpack sh.sl c (sh.base s)):=λk e=>by obtain⟨b,d⟩:=Ti f c e;refine⟨λv g hd=>?_,d⟩;rw[b v g hd];cases a:lk (dP s.fr sh.keep) k with|none=>simp|some u=>have:=(lO a).2.1;grind
theorem kept{sh:Sh}{A:List Nat}{s s':S}{c:HL sh.sl}(j:OkAt sh A s)(g:Keeps A s s')(hp:pack sh s'=some c):∀k v,lk (dP s.fr sh.keep) k=some v->lk s'.fr k=some v:=λk v h=>by
 obtain⟨a,e,f⟩:=lO h;rcases(g k (j.keep k a)).1 v e f with b|b;·omega
 ·unfold pack at hp;split at hp;·rename_i d;simp only[a_,f_]at d;have:=d.2 k a;simp only[TM,b]at this;grind
  grind
theorem BG{R:Type}{s s':S}{κ:Nat->S->Option R}{r:R}:∀{xs:List (Nat×Sh)} {key:Nat} {c:XT xs},inj xs key s'=some c->kw s κ xs c=some r->∃sh,(key,sh)∈xs/\∃d:HL sh.sl,pack sh s'=some d/\κ key (unpack sh.sl d (sh.base s))=some r
 |[],key,c,h,_=>by grind
 |[(k,sh)],key,c,h,hd=>by
  simp only[inj,beq_eq]at h;by_cases e:k=key;·subst e;rw[decide_eq_true rfl]at h;exact⟨sh,L_ ..,c,h,hd⟩
  grind
 |(k,sh)::a::l,key,c,h,hd=>by
  simp only[inj,beq_eq]at h;by_cases e:k=key
  ·subst e;rw[decide_eq_true rfl]at h;simp only[cond_true]at h;split at h;·rename_i d b;cases h;exact⟨sh,L_ ..,d,b,hd⟩
   grind
  ·rw[decide_eq_false e]at h;simp only[cond_false]at h;split at h;·rename_i d b;cases h;obtain⟨f,g,j⟩:=BG (xs:=a::l) b hd;grind
   grind
structure Post(D2:Prop)(m:Nat)(A:List Nat)(s:S){R:Type}(Q:AE->St->Prop)(kn:S->Option R)(kx:Nat->S->Option R)(kr kp:S->Option R)(r:R):Prop where
 n:∀s',Keeps A s s'->kn s'=some r->W m (Q .normal) (enc s')
 x:∀i s',Keeps A s s'->kx i s'=some r->W m (Q (.exit i)) (enc s')
 rt:∀s',Keeps A s s'->kr s'=some r->W m (Q .ret) (enc s')
 p:∀s',Keeps A s s'->kp s'=some r->Q .pan (enc s')
 c:∀st,W m (Q .pan) st->Q .pan st
 d:D2->∀st st',Q .pan st->Q .pan st'
theorem Post.sub{D2:Prop}{A B:List Nat}{s:S}{R:Type}{Q:AE->St->Prop}{kn:S->Option R}{kx:Nat->S->Option R}{kr kp:S->Option R}{r:R}(h:Post D2 m A s Q kn kx kr kp r)(hs:∀k∈B,k∈A):Post D2 m B s Q kn kx kr kp r:=⟨λs' z=>h.n s' (z.sub hs),λi s' z=>h.x i s' (z.sub hs),λs' z=>h.rt s' (z.sub hs),λs' z=>h.p s' (z.sub hs),h.c,h.d⟩
theorem Post.from{D2:Prop}{A:List Nat}{s H:S}{R:Type}{Q:AE->St->Prop}{kn:S->Option R}{kx:Nat->S->Option R}{kr kp:S->Option R}{r:R}(h:Post D2 m A s Q kn kx kr kp r)(z:Keeps A s H):Post D2 m A H Q kn kx kr kp r:=⟨λs' E=>h.n s' (z.trans E),λi s' E=>h.x i s' (z.trans E),λs' E=>h.rt s' (z.trans E),λs' E=>h.p s' (z.trans E),h.c,h.d⟩
theorem OG{D2:Prop}{A:List Nat}{s s':S}{R:Type}{Q:AE->St->Prop}{kn:S->Option R}{kx:Nat->S->Option R}{kr kp:S->Option R}{r:R}{xs:List (Nat×Sh)}{c:XT xs}{key:Nat}(a:Post D2 m A s Q kn kx kr kp r)(j:XZ xs=true)(h:xs.all (λx=>x.2.okAt A s)=true) (u:Keeps A s s') (p:inj xs key s'=some c) (hd:kw s (λkey s=>match key with|0=>kn s|1=>kr s|2=>kp s|i+3=>kx i s) xs c=some r): match key with|0=>W m (Q .normal) (enc s')|1=>W m (Q .ret) (enc s')|2=>Q .pan (enc s')|i+3=>W m (Q (.exit i)) (enc s'):=by
 obtain⟨sh,k,n,l,b⟩:=BG p hd
 have f:=Qz (f_.1 h _ k)
 have g:sh.wfB=true:=f_.1 j _ k
 have e:=(Le (s0:=s) g l (kept f u l)).weak (m:=m)
 have d:=Fy f n
 match key,b with|0,b=>exact W.from e (a.n _ d b)|1,b=>exact W.from e (a.rt _ d b)|2,b=>exact a.c _ (W.to _ e (a.p _ d b))|i+3,b=>exact W.from e (a.x i _ d b)
theorem xu{D2:Prop}(hO:OracleOk P O):∀(M:TC) (R:Type) (s:S) (kn:S->Option R) (kx:Nat->S->Option R) (kr kp:S->Option R) (r:R) (Q:AE->St->Prop),M.wf P m=true->(M.noD2=false->D2)->Es O n R M s kn kx kr kp=some r->Post D2 m M.asg s Q kn kx kr kp r->LS P m M.er Q (enc s):=by
 intro M;induction M with
 |skip=>intro R s kn kx kr kp r Q _ _ h hp;exact hp.n s (Keeps.refl _ _) h|region ops=>intro R s kn kx kr kp r Q g y h hp;simp only[TC.wf,a_]at g;exact jN hO ops R s kn kp r _ _ g.1.1 g.1.2 g.2 h (λs' d f=>hp.n s' d f) λs' d f=>hp.p s' d f|draw k ops af=>intro R s kn kx kr kp r Q g y h hp;simp only[TC.wf,a_]at g;exact W.mk (Rs hO ops k R s kn kp r _ _ _ g.2 g.1.1.1 g.1.1.2 g.1.2 h (Ext.refl _) (λs' d f=>hp.n s' d f) λs' d f=>hp.p s' d f)|draw2 r0 pre tl af=>
  intro R s kn kx kr kp r Q g y h hp;simp only[TC.wf,Vx,a_,decide_eq_true_eq]at g;obtain⟨⟨⟨⟨⟨⟨w1,w2⟩,w3⟩,w4⟩,w5⟩,w6⟩,w7⟩:=g;have B:∀k,k∈qy pre\/k∈tl.asg->k∈(TC.draw2 r0 pre tl af).asg:=λk d=>d_.2 d;refine W.to _ (JX (s:=s) r0) ?_;have hl:(Ii pre).length=pre.length:=by simp[Ii]
  have hd:(Ii pre++tl.er none).drop (pre.map λp=>(p.j,p.b)).length=tl.er none:=by grind
  have hm:((pre.map λp=>(p.j,p.b)).map λu=>(u.1,u.2,(Ii pre++tl.er none).getD u.1 default))=pre.map λp=>(p.j,p.b,p.so):=by rw[C_];refine K_ λp el=>?_;simp only[Function.comp];rw[TT w6 el (by grind)]
  show uv P _ (λst=>sops P m ((Ii pre++tl.er none).drop (pre.map λp=>(p.j,p.b)).length) st (Q .normal) (Q .pan)) _ [] _ _;rw[hm,hd];have k0:∀{A:List Nat} {s':S},Keeps A ⟨s.fr,s.hp++I_ r0 .free⟩ s'->Keeps A s s':=λd=>(Keeps.fr (s':=⟨s.fr,s.hp++I_ r0 .free⟩) rfl).trans d;refine Rv hO pre [] _ _ kp r w4 w5 (λa qr=>by grind) h (λs' d f=>?_) λs' d f=>?_;·exact jN hO tl R s' kn kp r _ _ w1 w2 w3 f (λs2 H F=>hp.n s2 (((k0 d).sub λk d=>B k (.inl d)).trans (H.sub λk d=>B k (.inr d))) F) λs2 H F=>hp.p s2 (((k0 d).sub λk d=>B k (.inl d)).trans (H.sub λk d=>B k (.inr d))) F
  ·exact λst=>hp.d (y rfl) _ _ (hp.p s' ((k0 d).sub λk d=>B k (.inl d)) f)
 |regL pre=>intro R s kn kx kr kp r Q g y h hp;exact C2 hO pre s kn kp r g h (λs' d f=>hp.n s' d f) λs' d f=>hp.p s' d f|seq a b j L=>intro R s kn kx kr kp r Q g y h hp;simp only[TC.wf,a_]at g;have B:∀k∈a.asg,k∈(TC.seq a b).asg:=λk d=>A_ _ d;have hb:∀k∈b.asg,k∈(TC.seq a b).asg:=λk d=>F_ _ d;refine j R s _ kx kr kp r (AE.then m (LS P m b.er Q) Q) g.1 (λe=>y (by rw[TC.noD2,e];rfl)) h ⟨λs' d f=>?_,λi s' d f=>hp.x i s' (d.sub B) f,λs' d f=>hp.rt s' (d.sub B) f,λs' d f=>hp.p s' (d.sub B) f,hp.c,hp.d⟩;exact W.mk (W.mk (L R s' kn kx kr kp r Q g.2 (λe=>y (by rw[TC.noD2,e,aC_])) f ((hp.from (d.sub B)).sub hb)))|cond x a b j L=>
  intro R s kn kx kr kp r Q g y h hp;simp only[TC.wf,a_]at g;have B:∀k∈a.asg,k∈(TC.cond x a b).asg:=λk d=>A_ _ d;have hb:∀k∈b.asg,k∈(TC.cond x a b).asg:=λk d=>F_ _ d;simp only[Es]at h;split at h
  ·rename_i t hx;refine W.mk ⟨_,au g.1.1 hx,_,rfl,t,rfl,λe=>?_,λe=>?_⟩;·subst e;exact j R s kn kx kr kp r Q g.1.2 (λe=>y (by rw[TC.noD2,e];rfl)) h (hp.sub B)
   ·subst e;exact L R s kn kx kr kp r Q g.2 (λe=>y (by rw[TC.noD2,e,aC_])) h (hp.sub hb)
  grind
 |block id a j=>
  intro R s kn kx kr kp r Q g y h hp;refine j R s kn _ kr kp r (AE.inBlock id Q) g y h ⟨hp.n,λi s' d f=>?_,hp.rt,hp.p,hp.c,hp.d⟩;have C:(bif j_ i id then kn s' else kx i s')=some r:=f;rw[beq_eq]at C;show W m (λst=>if i=id then Q .normal st else Q (.exit i) st) (enc s');by_cases hi:i=id;·subst hi;rw[decide_eq_true rfl]at C;simp only[if_true];exact hp.n s' d C
  ·rw[decide_eq_false hi]at C;simp only[if_neg hi];exact hp.x i s' d C
 |loop sh xs a j=>
  intro R s kn kx kr kp r Q g y h hp;simp only[TC.wf,a_]at g;obtain⟨⟨U,J⟩,gc⟩:=g;simp only[Es]at h;split at h
  ·rename_i c hc;obtain⟨w,h2⟩:=aO h;simp only[a_]at w;have E:=Qz w.1;obtain⟨t,ht,hd⟩:=cp h2;have T:Weak m (enc s) (enc (unpack sh.sl c (sh.base s))):=(Le (s0:=s) U hc λk v d=>(lO d).2.1).weak;refine W.to _ T ⟨n,?_⟩;have key:∀(N:Nat) (c:HL sh.sl),aS N (λc=>Es O n (HL sh.sl⊕XT xs) a (unpack sh.sl c (sh.base s)) (λs=>match pack sh s with|some c=>some (.inl c)|none=>none) (λi s=>match inj xs (i+3) s with|some c=>some (.inr c)|none=>none) (λs=>match inj xs 1 s with|some c=>some (.inr c)|none=>none) (λs=>match inj xs 2 s with|some c=>some (.inr c)|none=>none)) c=some t->Md m (LS P m a.er) Q N (enc (unpack sh.sl c (sh.base s))):=by
    intro N
    induction N with
    |zero=>intro c h;cases h|succ N ph=>
     intro c h;simp only[aS]at h;obtain⟨o,ho,h1⟩:=cp h;have D:=Fy E c;refine j _ (unpack sh.sl c (sh.base s)) _ _ _ _ o (AE.then m (Md m (LS P m a.er) Q N) Q) gc y ho ⟨λs' d f=>?_,λi s' d f=>?_,λs' d f=>?_,λs' d f=>?_,hp.c,hp.d⟩
     ·split at f;·rename_i Y z;cases f;exact W.mk (W.to _ (Le (s0:=s) U z (kept E (D.trans d) z)).weak (ph Y h1))
      grind
     ·split at f;·rename_i Y z;cases f;cases h1;exact OG hp J w.2 (D.trans d) z hd
      grind
     ·split at f;·rename_i Y z;cases f;cases h1;exact OG hp J w.2 (D.trans d) z hd
      grind
     ·split at f;·rename_i Y z;cases f;cases h1;exact OG hp J w.2 (D.trans d) z hd
      grind
   exact key n c ht
  grind
 |exit id=>intro R s kn kx kr kp r Q _ _ h hp;exact hp.x id s (Keeps.refl _ _) h|ret=>intro R s kn kx kr kp r Q _ _ h hp;exact hp.rt s (Keeps.refl _ _) h|adj l a j=>intro R s kn kx kr kp r Q g y h hp;simp only[TC.wf,a_]at g;simp only[Es]at h;obtain⟨s1,I,h⟩:=AQ h;obtain⟨e1,e2⟩:=tD g.1 I;exact Tg e1 (j R s1 kn kx kr kp r Q g.2 y h (hp.from (e2 _)))
 |after a l j=>intro R s kn kx kr kp r Q g y h hp;simp only[TC.wf,a_]at g;refine j R s _ kx kr kp r Q g.2 y h ⟨λs' d f=>?_,hp.x,hp.rt,hp.p,hp.c,hp.d⟩;obtain⟨s1,I,f⟩:=AQ f;obtain⟨e1,e2⟩:=tD g.1 I;exact W.from e1 (hp.n s1 (d.trans (e2 _)) f)
 |cut xs a j=>intro R s kn kx kr kp r Q g y h hp;simp only[TC.wf,a_]at g;simp only[Es]at h;obtain⟨w,h2⟩:=aO h;obtain⟨t,ht,hd⟩:=cp h2;exact j _ s _ _ _ _ t Q g.2 y ht ⟨λs' d f=>OG hp g.1 w d f hd,λi s' d f=>OG hp g.1 w d f hd,λs' d f=>OG hp g.1 w d f hd,λs' d f=>OG hp g.1 w d f hd,hp.c,hp.d⟩
end
def Wp{α:Type}(m:Nat->Option α)(Q:α->Prop):Prop:=∃a,Q a/\∃b,∀n,b<=n->m n=some a
def Conv(tbl:Nat->Option Fun')(f:Nat)(ars:List V)(os:List Ob)(Q:Option S->Prop):Prop:=Wp (λn=>q9 tbl n f ars os) Q
section
variable {α β:Type}
theorem aa{a:α}{Q:α->Prop}(h:Q a):Wp (λ_=>some a) Q:=⟨a,h,0,λ_ _=>rfl⟩
theorem ae{m:Nat->Option α}{f:Nat->α->Option β}{Q:β->Prop}(h:Wp m λa=>Wp (λn=>f n a) Q):Wp (λn=>N_ (m n) (f n)) Q:=by obtain⟨a,⟨b,c,e,j⟩,d,g⟩:=h;refine⟨b,c,max d e,λn hn=>?_⟩;grind
theorem wp_mono{m:Nat->Option α}{Q b:α->Prop}(h:Wp m Q)(d:∀a,Q a->b a):Wp m b:=let⟨a,c,r⟩:=h;⟨a,d a c,r⟩
theorem aA{b:Bool}{m:Nat->Option α}{Q:α->Prop}(a:b=true)(h:Wp m Q):Wp (λn=>aD b (m n)) Q:=by subst a;exact h
theorem aE{b:Bool}{m k:Nat->Option α}{Q:α->Prop}(c:b=true->Wp m Q)(a:b=false->Wp k Q):Wp (λn=>bif b then m n else k n) Q:=by cases b;all_goals grind
theorem pq{xs:List α}{i:Int}{f:Nat->α->Option β}{Q:β->Prop}{x:α}(a:0<=i)(b:xs[i.toNat]? =some x)(h:Wp (λn=>f n x) Q):Wp (λn=>N_ (a7 xs i) (f n)) Q:=by
 have:a7 xs i=some x:=by simp[a7,a,b]
 grind
theorem ip{xs:List α}{i:Nat}{f:Nat->α->Option β}{Q:β->Prop}{x:α}(a:xs[i]? =some x)(h:Wp (λn=>f n x) Q):Wp (λn=>N_ xs[i]? (f n)) Q:=by grind
theorem wp_loop{σ τ:Type}{body:Nat->σ->Option (σ⊕τ)}{s0:σ}{Q:τ->Prop}(I:σ->Prop)(c:σ->Nat)(g:I s0) (h:∀s,I s->Wp (λn=>body n s) λr=>match r with| .inl s'=>I s'/\c s'<c s| .inr t=>Q t):Wp (λn=>aS n (body n) s0) Q:=by
 have key:∀(k:Nat) (s:σ),I s->c s<=k->∃t,Q t/\∃b,∀n m,b<=n->k+1<=m->aS m (body n) s=some t:=by
  intro k;induction k with
  |zero=>intro s hs j;obtain⟨r,hr,b,hn⟩:=h s hs;cases r with|inl s'=>omega|inr t=>refine⟨t,hr,b,λn m e f=>?_⟩;obtain⟨a,rfl⟩:∃a,m=a+1:=⟨m - 1,by omega⟩;simp only[aS];grind
  |succ k u=>
   intro s hs j;obtain⟨r,hr,b,hn⟩:=h s hs;cases r with
   |inl s'=>obtain⟨t,d,v,p⟩:=u s' hr.1 (by omega);refine⟨t,d,max b v,λn m e f=>?_⟩;obtain⟨a,rfl⟩:∃a,m=a+1:=⟨m - 1,by omega⟩;simp only[aS];grind
   |inr t=>refine⟨t,hr,b,λn m e f=>?_⟩;obtain⟨a,rfl⟩:∃a,m=a+1:=⟨m - 1,by omega⟩;simp only[aS];grind
 obtain⟨t,d,b,hn⟩:=key (c s0) s0 g (aa_ _);exact⟨t,d,max b (c s0+1),λn l=>hn n n (by omega) (by omega)⟩
end
section
variable {tbl:Nat->Option Fun'}
theorem aF{f:Nat}{c:TF}{ars:List V}{os:List Ob}{G:ak->Nat->Option (Option S)}{Q:Option S->Prop}(d:tbl f=some (.code c))(hl:(j_ os.length c.m&&Z_ ars.length c.ntmps)=true)(j:∀O n,bw O n c ars os=G O n)(h:Wp (λn=>G (q9 tbl n) n) Q):Conv tbl f ars os Q:=by obtain⟨a,b,e,hn⟩:=h;refine⟨a,b,e+1,λn g=>?_⟩;obtain⟨m,rfl⟩:∃m,n=m+1:=⟨n - 1,by omega⟩;simp only[q9,d,hl,cond_true];grind
theorem Tt{f:Nat}{d:TD}{ars:List V}{G:ak->Nat->Option (Option S)}{Q:Option S->Prop}(e:tbl f=some (.dfr d))(hl:Z_ ars.length d.c.ntmps=true)(k:∀O n,Rt O n d ars=G O n)(h:Wp (λn=>G (q9 tbl n) n) Q):Conv tbl f ars [] Q:=by
 obtain⟨a,c,g,hn⟩:=h;refine⟨a,c,g+1,λn j=>?_⟩;obtain⟨m,rfl⟩:∃m,n=m+1:=⟨n - 1,by omega⟩;have b:(j_ ([]:List Ob).length 0&&Z_ ars.length d.c.ntmps)=true:=by rw[hl];rfl
 simp only[q9,e,b,cond_true];grind
def wC(sh:Sh)(s:S):Option (HL sh.sl):=bif j_ s.fr.length sh.n&&Nn sh.n s.fr then pack sh s else none
def aJ(tbl:Nat->Option Fun')(f:Nat)(ars:List V)(os:List Ob)(sh:Sh)(c:HL sh.sl):Prop:=∃a,∀n,a<=n->aB (q9 tbl n) f ars os sh=some c
theorem aC{f:Nat}{ars:List V}{os:List Ob}{sh:Sh}{c:HL sh.sl}(hp:wC sh (jr sh c)=some c)(h:Conv tbl f ars os (·=some (jr sh c))):aJ tbl f ars os sh c:=by obtain⟨o,rfl,b,hn⟩:=h;refine⟨b,λn a=>?_⟩;have e:q9 tbl n f ars os=some (some (jr sh c)):=hn n a;unfold aB;rw[e];exact hp
theorem an{f:Nat}{ars:List V}{os:List Ob}{sh:Sh}{β:Type}{k:Nat->HL sh.sl->Option β}{Q:β->Prop}{c:HL sh.sl}(h:aJ tbl f ars os sh c)(a:Wp (λn=>k n c) Q):Wp (λn=>N_ (aB (q9 tbl n) f ars os sh) (k n)) Q:=by obtain⟨b,hn⟩:=h;exact ae ⟨c,a,b,hn⟩
theorem Ro{f:Nat}{ars:List V}{os:List Ob}{Q a:Option S->Prop}(h:Conv tbl f ars os Q)(b:∀o,Q o->a o):Conv tbl f ars os a:=wp_mono h b
end
def RX.er:RX->RV
 | .tm t=>.tm t
 | .cell a t=>.cell a t.sz t.ag
structure Entry(P:Program)(f:Nat)(c:TF):Prop where
 body:∃fn,P.funcs[f]? =some fn/\fn.ntmps=c.ntmps/\fn.body.bind (bW P fn.ntmps)=some c.code.er.canon/\fn.results.toList.mapM (mq P)=some (c.res.map RX.er)
 ok:(c.code.er.okB&&c.code.wf P c.m&&c.sh.wfB&&Z_ c.m c.sh.sk.hp.length)=true
theorem bU{P:Program}{f:Nat}{c:TF}{fn:Func}(a:P.funcs[f]? =some fn)(h:(fn.ntmps,fn.body.bind (bW P fn.ntmps),fn.results.toList.mapM (mq P),(c.code.er.okB&&c.code.wf P c.m&&c.sh.wfB&&Z_ c.m c.sh.sk.hp.length))=(c.ntmps,some c.code.er.canon,some (c.res.map RX.er),true)):Entry P f c:=by simp only[aB_.injEq]at h;exact⟨⟨fn,a,h.1,h.2.1,h.2.2.1⟩,h.2.2.2⟩
section
variable {P:Program} {O:ak} {n:Nat}
theorem wP{s:S}:∀{l:List RX} {vs:List V},JI s l=some vs->(l.map RX.er).mapM (Im (enc s))=some (vs.map aT)
 |[],vs,h=>by cases h;rfl
 | .tm t::l,vs,h=>by
  simp only[JI]at h;split at h
  ·rename_i v d;split at h
   ·rename_i us c;cases h;rw[m_,z_,wP c];have:Im (enc s) (RX.tm t).er=some (aT v):=by show Av.look (enc s).fr t=_;rw[b7,d];rfl
    grind
   grind
  grind
 | .cell a t::l,vs,h=>by
  simp only[JI]at h;split at h
  ·rename_i id off d;split at h
   ·rename_i tid cs j;obtain⟨f,e⟩:=aO h;have g:=c_ f;split at e
    ·rename_i us c;cases e;rw[m_,z_,wP c];have:Im (enc s) (RX.cell a t).er=some (aT (whole t ((cs.drop off).take t.sz))):=by
      show(Av.look (enc s).fr a).bind _=_;rw[b7,d];show(match(enc s).hp[id]? with
       |some (.box _ cs)=>if off+t.sz<=cs.length/\(t.ag=false->t.sz=1)then some (ol t.ag ((cs.drop off).take t.sz))else none
       |_=>none)=_
      rw[bE,j];show(if off+t.sz<=(cs.map aP).length/\(t.ag=false->t.sz=1)then some (ol t.ag (((cs.map aP).drop off).take t.sz))else none)=_;rw[if_pos ⟨by grind,gh⟩,Dv,ac_,aG_];intro b;exact Dc g (gh b)
     grind
    grind
   grind
  grind
theorem sy:∀(vs:List V) (k:Nat),(eB k vs).map (λx=>(x.1,aT x.2))=vO k (vs.map aT)
 |[],_=>rfl
 |v::vs,k=>by simp only[eB,m_,vO,sy vs (k+1)]
theorem DU:∀(vs:List V) (k i:Nat),lk (eB k vs) (k+i)=vs[i]?
 |[],_,_=>by simp[eB,lk]
 |v::vs,k,i=>by simp only[eB,lk,beq_eq];cases i with|zero=>simp|succ i=>rw[decide_eq_false (by simp:¬k+(i+1)=k)];simp only[cond_false,List.getElem?_cons_succ];rw[show k+(i+1)=(k+1)+i by omega];exact DU vs (k+1) i
theorem lC:∀(l:List Slot) (c:HL l) (b:S),(unpack l c b).fr.length=b.fr.length+(l.filter λx=>match x with| .tm _ _=>true|_=>false).length
 |[],_,_=>rfl
 | .tm j t::l,c,b=>by show(unpack l c.2 ⟨(j,.d t c.1)::b.fr,b.hp⟩).fr.length=_;rw[lC l];grind
 | .cell id j t::l,c,b=>by show(unpack l c.2 ⟨b.fr,_⟩).fr.length=_;rw[lC l];simp
 | .vec _ _ _::l,c,b=>by show(unpack l c.2 ⟨b.fr,_⟩).fr.length=_;rw[lC l];simp
 | .map _ _ _ _ _::l,c,b=>by show(unpack l c.2 ⟨b.fr,_⟩).fr.length=_;rw[lC l];simp
 | .tree _ _ _ _::l,c,b=>by show(unpack l c.2 ⟨b.fr,_⟩).fr.length=_;rw[lC l];simp
 | .treeH _ _ _ _ _ _::l,c,b=>by show(unpack l c.2 ⟨b.fr,_⟩).fr.length=_;rw[lC l];simp
theorem UF(sh:Sh)(c:HL sh.sl):(jr sh c).fr.length=sh.n:=by unfold jr;rw[lC,base_nil];rfl
def Lc(v:V):BV:=match v with
 | .agg vs=>.pv ((aT (.agg vs)).toPV.getD .any)
 |v=>aP v
theorem QA{v:V}(h:v.one=true):aT v= .b (Lc v)\/∃p,(aT v).toPV=some p/\Lc v= .pv p:=by
 cases v with
 |agg vs=>
  obtain⟨cs,hcs⟩:=xo vs h;have:(aT (.agg vs)).toPV=some (.agg cs):=by show((vs.map aP).mapM BV.toPV).map PV.agg=_;grind
  exact .inr ⟨_,this,by simp only[Lc,this];rfl⟩
 |tup vs=>cases h|_=>exact .inl rfl
theorem UE{v:V}(h:v.one=true):∀i∈(Lc v).ids,i∈v.ids:=λi a=>by
 rw[qB];rcases QA h with e|⟨p,_,e⟩;·rw[e];exact a
 ·rw[e]at a;cases a
theorem Xz{v d:V}(h:v.one=true)(a:LeA (aT v) (aT d)):LeB (Lc v) (aP d):=by
 cases f:v.isA
 ·have e:Lc v=aP v:=by cases v<;>first|rfl|cases f
  rw[nw f]at a;rw[e];exact W1 a
 ·cases v with
  |agg vs=>
   obtain⟨cs,hcs⟩:=xo vs h;have j:(AV.agg (vs.map aP)).toPV=some (.agg cs):=by show((vs.map aP).mapM BV.toPV).map PV.agg=_;grind
   have e:Lc (.agg vs)= .pv (.agg cs):=by show BV.pv ((AV.agg (vs.map aP)).toPV.getD .any)=_;grind
   rw[e];cases c:d.isA;·rw[nw c]at a;generalize aP d=z at a⊢;have b:LeA (.agg (vs.map aP)) (.b z):=a;cases b with|data _ q g=>rw[j]at g;cases g;exact .refl _|any=>exact .any _
   ·cases d with|agg vs=>exact .any _|tup vs=>exact .any _|_=>cases c
  |tup vs=>cases h|_=>cases f
theorem Dk{L:Nat}{x:BV}(h:∀i∈x.ids,i<L):x.ren ((H_ L).idxOf ·)=x:=by
 have key:∀i,i<L->(H_ L).idxOf i=i:=λi b=>by have c:=BF (ids:=H_ L) (i:=i) (G_.2 b);grind
 cases x<;>simp only[BV.ren]<;>simp only[BV.ids,n_,forall_eq]at h<;>first
  |rfl
  |grind
  |skip
 rename_i f ids;congr 1;have:∀l:List Nat,(∀i∈l,i<L)->l.map ((H_ L).idxOf ·)=l:=by intro l hl;induction l with|nil=>rfl|cons a l d=>grind
 grind
theorem ut{L:Nat}:∀{xs:List BV},(∀i∈xs.flatMap BV.ids,i<L)->xs.map (BV.ren ((H_ L).idxOf ·))=xs
 |[],_=>rfl
 |x::xs,h=>by rw[m_,Dk λi a=>h i (by grind),ut λi a=>h i (by grind)]
theorem Pf{L:Nat}{x:AV}(h:∀i∈x.ids,i<L):x.ren ((H_ L).idxOf ·)=x:=by cases x with|b x=>simp only[AV.ren,Dk h]|agg xs=>simp only[AV.ren,ut h]|tup xs=>simp only[AV.ren,ut h]
theorem Pg{L:Nat}{o:AObj}(h:∀i∈o.ids,i<L):o.ren ((H_ L).idxOf ·)=o:=by
 cases o with
 |box t cs=>simp only[AObj.ren,ut h]|tree e sz k xs hole=>cases hole with|none=>rfl|some q=>obtain⟨i,j,b⟩:=q;simp only[AObj.ren,La,Dk (show ∀i∈b.ids,i<L from h)]
 |_=>rfl
theorem SG{m L T:Nat}{r:AV}{hp:List AObj}(l:L<=hp.length)(n:m<=L)(hr:∀i∈r.ids,i<L)(e:∀o∈hp.take L,∀i∈o.ids,i<L):Weak m ⟨[(T,r)],hp⟩ ⟨[(T,r)],hp.take L⟩:=by
 refine N7 (H_ L) List.nodup_range (λk b=>by grind) (λk y b=>⟨y,b,λi d=>?_,?_⟩) (by grind) λj o' f=>?_;·simp only[Av.look]at b;grind
 ·simp only[Av.look]at b;split at b;·cases b;rw[Pf hr]
  grind
 ·have c:(hp.take L)[j]? =some o':=f;have h:=(i_.1 c).1;have g:j<L:=by grind
  have a:=r_ c;refine⟨j,o',by grind,?_,λi d=>G_.2 (e o' a i d),(Pg (e o' a)).symm⟩;grind
def I2(o:Option S)(a:Fo):Prop:=match o with
 |some s=>a=some (aT (res s.fr.length s.fr),s.hp.map bI)
 |none=>a=none
theorem nx{c:TF}{s:S}{o:Option S}{m:Nat}(hw:c.sh.wfB=true)(hm:m<=c.sh.sk.hp.length)(h:F8 c s=some o):W m (DR m (c.res.map RX.er) (I2 o) .normal) (enc s):=by
 unfold F8 at h;split at h
 ·rename_i vs Y;obtain⟨h1,M⟩:=aO h;simp only[a_,f_,s_]at h1;obtain⟨⟨⟨⟨g1,g2⟩,g3⟩,g4⟩,E⟩:=h1;have hL:=c_ g1;have hn:=b_ g4;generalize gc:c.sh.sk.hp.length=L at*;split at M
  ·rename_i x hx;unfold aL at M;cases M;have Q:∀k v,lk (dP (⟨[],[]⟩:S).fr c.sh.keep) k=some v->lk (eB 0 vs) k=some v:=by intro k v e;have:=(lO e).2.1;cases this
   have F:=Gw (s0:=⟨[],[]⟩) hw hx Q;have hS:=F.le;have R:∀i,lk (eB 0 vs) i=vs[i]? :=λi=>by have:=DU vs 0 i;grind
   have el:(jr c.sh x).hp.length=L:=by have:(s.hp.take L).length=(jr c.sh x).hp.length:=F.len;grind
   obtain⟨r,r1,r2,r3⟩:∃r:AV,Jl (vs.map aT) r/\(∀i∈r.ids,i<L)/\LeA r (aT (res (jr c.sh x).fr.length (jr c.sh x).fr)):=by
    rw[UF,hn];have l:∀v∈vs,∀i∈v.ids,i<L:=λv e i n=>c_ (g3 v e i n);have d:vs.length≠1->∃r:AV,(∃J:List BV,r= .tup J/\J.length=(vs.map aT).length/\∀(i:Nat) (x:AV) (b:BV),(vs.map aT)[i]? =some x->J[i]? =some b->x= .b b\/∃p,x.toPV=some p/\b= .pv p)/\(∀i∈r.ids,i<L)/\LeA r (aT (res vs.length (jr c.sh x).fr)):=by
     intro U;have f:∀v∈vs,v.one=true:=λv e=>by
      rcases E with E|E;·exact absurd (b_ E) U
      grind
     refine⟨.tup (vs.map Lc),⟨_,rfl,by simp,λi y b hy g=>?_⟩,λi n=>?_,?_⟩;·simp only[k_,e_]at hy g;obtain⟨v,e,rfl⟩:=hy;obtain⟨I,D,rfl⟩:=g;rw[e]at D;cases D;exact QA (f v (r_ e))
     ·obtain⟨b,g,O⟩:=u_.1 (show i∈(vs.map Lc).flatMap BV.ids from n);obtain⟨v,e,rfl⟩:=Q_.1 g;exact l v e i (UE (f v e) i O)
     ·unfold res;have:j_ vs.length 1=false:=by rw[beq_eq];grind
      rw[this];refine .tup _ _ (by simp[Si]) λi a b H g=>?_;simp only[Si,k_,e_]at H g;obtain⟨v,e,rfl⟩:=H;obtain⟨w,⟨j,hj,rfl⟩,rfl⟩:=g;have P:=(i_.1 e).1;rw[List.getElem?_range P]at hj;cases hj;cases hl:lk (jr c.sh x).fr i with|none=>exact .any _|some I=>obtain⟨u,hu,A⟩:=F.fr i I hl;have C:lk (eB 0 vs) i=some u:=hu;rw[R,e]at C;cases C;exact Xz (f v (r_ e)) A
    match vs,d with
    |[v0],_=>refine⟨aT v0,rfl,λi n=>l v0 (by simp) i (by rw[qB];omega),?_⟩;show LeA _ (aT ((lk (jr c.sh x).fr 0).getD .any));cases hl:lk (jr c.sh x).fr 0 with|none=>exact .any _|some I=>obtain⟨u,hu,A⟩:=F.fr 0 I hl;grind
    |[],d=>exact d (by simp)|_::_::_,d=>exact d (by simp)
   refine W.mk (W.mk ⟨_,r,wP Y,r1,_,_,λT=>?_,rfl,by grind⟩);have N:L<=(enc s).hp.length:=by rw[ny];omega
   refine(SG N hm r2 λo ho i n=>?_).trans (LeS.weak ⟨λk y hk=>?_,?_,λi a b H g=>hS.hp i a b ?_ g⟩);·have B:o∈(s.hp.map bI).take L:=ho;rw[<-ac_]at B;obtain⟨o1,h3,rfl⟩:=Q_.1 B;rw[<-F0]at n;exact c_ (g2 o1 h3 i n)
   ·simp only[Av.look]at hk⊢;grind
   ·grind
   ·have z:((s.hp.map bI).take L)[i]? =some a:=H;rw[<-ac_]at z;exact z
  grind
 grind
theorem OL(x:P.follows .mixedOrders=true)(hO:OracleOk P O){f:Nat}{c:TF}{ars:List V}{os:List Ob}{o:Option S}(k:Entry P f c)(y:os.length=c.m)(l:ars.length<=c.ntmps)(h:bw O n c ars os=some o):ACalls P f (ars.map aT) (os.map bI) (I2 o):=by
 obtain⟨fn,s,C,e,w⟩:=k.body;obtain⟨code,u,v⟩:=l_.1 e;have d:=k.ok;simp only[a_]at d;obtain⟨⟨⟨z,A⟩,p⟩,B⟩:=d;have r:=c_ B;have j:(os.map bI).length=c.m:=by grind
 have b:(⟨vO 0 (ars.map aT),os.map bI⟩:St)=enc ⟨eB 0 ars,os⟩:=by simp only[enc,sy]
 refine Q8 x s u v z w (by grind) ?_;rw[b,j];refine xu (D2:=True) hO c.code (Option S) _ _ _ _ _ o _ A (λ_=>trivial) h ⟨λs' _ a=>nx p r a,λi s' _ a=>(by grind),λs' _ a=>nx p r a,λs' _ a=>?_,λ_ ⟨_,_,g⟩=>g,λ_ _ _ g=>g⟩;cases a;exact rfl
structure EntryD(P:Program)(f:Nat)(d:TD):Prop where
 body:∃fn CA CB CH h j y3 p3 a3 y4 p4 a4,P.funcs[f]? =some fn/\fn.ntmps=d.c.ntmps/\
  fn.body=some (.seq CA (.seq (.region j #[⟨some d.t8,.makeFunc (.func h) #[] #[.tmp d.ta,.tmp d.tb],y3,p3,a3,none⟩,⟨none,.defer {callee:=.value (.tmp d.t8),args:= #[],argTypes:= #[]},y4,p4,a4,none⟩] false) CB))/\
  bW P fn.ntmps CA=some d.a.er.canon/\bW P fn.ntmps CB=some d.c.code.er.canon/\Catch P h CH/\bW P 5 CH=some d.h.er.canon/\fn.results.toList.mapM (mq P)=some (d.c.res.map RX.er)
 ok:(d.a.er.okB&&d.a.wf P 0&&d.c.code.er.okB&&d.c.code.wf P 2&&d.h.er.okB&&d.h.wf P 2&&d.c.sh.wfB&&Z_ (d.t8+1) d.c.ntmps&&d.c.code.noD2)=true
theorem BJ{s:S}{t i:Nat}(h:zj s t i=true):Av.look (enc s).fr t=some (.b (.ptr i 0)):=by
 unfold zj at h;split at h;·rename_i j o a;rw[a_]at h;rw[b7,a,b_ h.1,b_ h.2];rfl
 grind
theorem Xw{s:S}{t:Nat}(h:YT s t=true):Av.look (enc s).fr t=none:=by
 unfold YT at h;split at h;·cases h
 ·rename_i a;rw[b7,a];rfl
theorem uc{a:List RV}{K:Fo->Prop}{st:St}(h:W 0 (DR 0 a K .normal) st):DR 0 a K .normal st:=let⟨_,b,c⟩:=h;W.from b c
theorem OM(M:P.follows .mixedOrders=true)(hO:OracleOk P O){f:Nat}{d:TD}{ars:List V}{o:Option S}(r:EntryD P f d)(s:ars.length<=d.c.ntmps)(h:Rt O n d ars=some o):ACalls P f (ars.map aT) [] (I2 o):=by
 obtain⟨fn,CA,CB,CH,a,j,y3,p3,a3,y4,p4,a4,C,D,E,F,H,I,J,L⟩:=r.body;have c:=r.ok;simp only[a_]at c;obtain⟨⟨⟨⟨⟨⟨⟨⟨N,Q⟩,R⟩,T⟩,U⟩,Y⟩,g⟩,k8⟩,k9⟩:=c;have b:(⟨vO 0 (ars.map aT),[]⟩:St)=enc ⟨eB 0 ars,[]⟩:=by simp only[enc,sy,aI_]
 refine Oh M C E F N H R J U I L (by grind) (by rw[D];exact c_ k8) ?_;rw[b];refine xu (D2:=True) hO d.a (Option S) _ _ _ _ _ o _ Q (λ_=>trivial) h ⟨λs1 _ a=>?_,λi s' _ a=>(by grind),λs' _ a=>(by grind),λs' _ a=>(by grind),λ_ ⟨_,_,l,_⟩=>(by grind),λ_ _ _ ⟨l,_⟩=>(by grind)⟩;obtain⟨p,A⟩:=aO a;simp only[a_]at p;obtain⟨⟨⟨u,v⟩,w⟩,x⟩:=p;refine W.mk ⟨rfl,⟨Xw w,BJ u,BJ v,by rw[ny];exact b_ x⟩,?_⟩;refine xu (D2:=False) hO d.c.code (Option S) _ _ _ _ _ o _ T (λe=>by grind) A ⟨λs' _ a=>?_,λi s' _ a=>(by grind),λs' _ a=>?_,λs2 _ a=>?_,λst ⟨s1,y,z⟩=>W.from y z,λh=>h.elim⟩;·exact W.mk (uc (nx g (M_ _) a))
 ·exact W.mk (uc (nx g (M_ _) a))
 ·obtain⟨k,B⟩:=aO a;simp only[a_]at k;refine W.mk ⟨BJ k.1,BJ k.2,?_⟩;exact xu (D2:=True) hO d.h (Option S) _ _ _ _ _ o _ Y (λ_=>trivial) B ⟨λs' _ a=>W.mk ⟨.inl rfl,uc (nx g (M_ _) a)⟩,λi s' _ a=>(by grind),λs' _ a=>W.mk ⟨.inr rfl,uc (nx g (M_ _) a)⟩,λs' _ a=>(by grind),λ_ ⟨_,_,l,_⟩=>(by grind),λ_ _ _ ⟨l,_⟩=>(by grind)⟩
def S3(P:Program)(f:Nat)(g:List V->Option S):Prop:=∀ars s,g ars=some s->ACalls P f (ars.map aT) [] (I2 (some s))
structure TblOk(P:Program)(tbl:Nat->Option Fun'):Prop where
 code:∀f c,tbl f=some (.code c)->Entry P (f%10000) c
 nat:∀f g,tbl f=some (.nat g)->S3 P (f%10000) g
 dfr:∀f d,tbl f=some (.dfr d)->EntryD P (f%10000) d
theorem Jw(k:P.follows .mixedOrders=true){tbl:Nat->Option Fun'}(j:TblOk P tbl):∀n,OracleOk P (q9 tbl n):=by
 have key:∀n f ars os o,q9 tbl n f ars os=some o->ACalls P (f%10000) (ars.map aT) (os.map bI) (I2 o):=by
  intro n;induction n with
  |zero=>intro f ars os o h;cases h|succ n l=>
   intro f ars os o h;have hO:OracleOk P (q9 tbl n):=⟨λf ars os s b=>l f ars os (some s) b,λf ars os b=>l f ars os none b⟩;simp only[q9]at h;split at h;·rename_i c hc;obtain⟨a,e⟩:=aO h;rw[a_]at a;exact OL k hO (j.code f c hc) (b_ a.1) (c_ a.2) e
   ·rename_i d hd;obtain⟨a,e⟩:=aO h;rw[a_]at a;obtain rfl:=List.eq_nil_of_length_eq_zero (b_ a.1);exact OM k hO (j.dfr f d hd) (c_ a.2) e
   ·rename_i g hg;split at h
    ·split at h;·rename_i s hs;cases h;exact j.nat f g hg ars s hs
     grind
    grind
   grind
 exact λn=>⟨λf ars os s b=>key n f ars os (some s) b,λf ars os b=>key n f ars os none b⟩
theorem L9(d:P.follows .mixedOrders=true){tbl:Nat->Option Fun'}(c:TblOk P tbl){f:Nat}{ars:List V}{os:List Ob}{Q:Option S->Prop}(h:Conv tbl f ars os Q):∃o,Q o/\ACalls P (f%10000) (ars.map aT) (os.map bI) (I2 o):=by obtain⟨o,e,a,hn⟩:=h;have b:=hn a (aa_ _);refine⟨o,e,?_⟩;cases o with|some s=>exact(Jw d c a).ret f ars os s b|none=>exact(Jw d c a).pan f ars os b
def M8:List (Nat×Fun')->Nat->Option Fun'
 |[],_=>none
 |(k,e)::l,f=>bif j_ f k then some e else M8 l f
def YV(P:Program)(k:Nat):Fun'->Prop
 | .code c=>Entry P (k%10000) c
 | .dfr d=>EntryD P (k%10000) d
 | .nat g=>S3 P (k%10000) g
def AllOk(P:Program):List (Nat×Fun')->Prop
 |[]=>True
 |(k,e)::l=>YV P k e/\AllOk P l
theorem AllOk.get{l:List (Nat×Fun')}(h:AllOk P l){f:Nat}{e:Fun'}(z:M8 l f=some e):YV P f e:=by
 induction l with
 |nil=>cases z|cons x l H=>
  obtain⟨k,I⟩:=x;simp only[M8,beq_eq]at z;by_cases E:f=k;·subst E;rw[decide_eq_true rfl]at z;cases z;exact h.1
  ·rw[decide_eq_false E]at z;exact H h.2 z
theorem AllOk.tbl{l:List (Nat×Fun')}(h:AllOk P l):TblOk P (M8 l):=⟨λ_ _ z=>h.get z,λ_ _ z=>h.get z,λ_ _ z=>h.get z⟩
end
open Go Go.RowKit Go.Av Go.Deep Go.WideShapes
mutual
def UC:Rx->Prop
 | .mk k l h ks=>(IntKind.i64.min<=k/\k<=IntKind.i64.max)/\(IntKind.i64.min<=l/\l<=IntKind.i64.max)/\(IntKind.i64.min<=h/\h<=IntKind.i64.max)/\ks.length<=maxLen/\Nm ks
def Nm:List Rx->Prop
 |[]=>True
 |r::a=>UC r/\Nm a
end
def okD:(t:Ty)->t.den->Prop
 | .int k,x=>k.min<=x/\x<=k.max
 | .bool,_=>True
 | .str,x=>ay_ x<=maxLen
 | .list t,x=>ay_ x<=maxLen/\∀y∈x,okD t y
 | .unit,_=>True
 | .pair a b,x=>okD a x.1/\okD b x.2
 | .rx,x=>UC x
theorem Dh:∀(l:List Rx),Nm l↔∀r∈l,UC r
 |[]=>by simp[Nm]
 |r::a=>by simp[Nm,Dh a]
def eu:(t:Ty)->t.den->Nat
 | .int _,_=>1
 | .bool,_=>1
 | .str,x=>ay_ x+1
 | .list t,x=>(List.map (eu t) x).sum+1
 | .unit,_=>0
 | .pair a b,x=>eu a x.1+eu b x.2
 | .rx,_=>1
section
variable {H:Type}
mutual
def dB:DataW H->Nat
 | .lit (.string bytes)=>bytes.length+1
 | .lit _=>1
 | .nil=>1
 | .ptr d=>dB d+1
 | .slice b c=>ke b+ke c+1
 | .agg parts=>ke parts+1
 | .iface _ d=>dB d+1
 | .map a=>FA a+1
 | .held _=>1
def ke:List (DataW H)->Nat
 |[]=>0
 |d::r=>dB d+ke r
def FA:List (Lit×DataW H)->Nat
 |[]=>0
 |x::r=>Ot x+FA r
def Ot:Lit×DataW H->Nat
 |(.string bytes,d)=>bytes.length+dB d+1
 |(_,d)=>dB d+1
end
theorem xn(d:DataW H):1<=dB d:=by cases d with|lit l=>cases l<;>simp[dB]|nil=>simp[dB]|ptr d=>simp[dB]|slice b c=>simp[dB]|agg parts=>simp[dB]|iface t d=>simp[dB]|map a=>simp[dB]|held h=>simp[dB]
theorem Mr{α β:Type}{f:α->Nat}{g:β->DataW H}:∀(xs:List α) (ds:List β),xs.length=ds.length->(∀(i:Nat) (x:α),xs[i]? =some x->∃d:β,ds[i]? =some d/\f x<=dB (g d))->(xs.map f).sum<=ke (ds.map g)
 |[],[],_,_=>aa_ _
 |x::xs,d::ds,hl,h=>by obtain⟨b,a,c⟩:=h 0 x rfl;cases a;have:=Mr xs ds (by grind) λi x e=>h (i+1) x (by grind);simp only[m_,List.sum_cons,ke];omega
 |[],_::_,h,_=>(by simp)
 |_::_,[],h,_=>(by grind)
end
def YG(P:Program)(t:TypeId):Bool:=match P.underlying t with
 |some (.struct d)=>match d.toList with
  |[a,b,f2,c]=>(match P.underlying a.type,P.underlying b.type,P.underlying f2.type,P.underlying c.type with
   |some (.int .i64),some (.int .i64),some (.int .i64),some (.slice e)=>j_ e t
   |_,_,_,_=>false)&&j_ a.offset 0&&j_ b.offset 1&&j_ f2.offset 2&&j_ c.offset 3&&
    j_ (P.cellsOf a.type) 1&&j_ (P.cellsOf b.type) 1&&j_ (P.cellsOf f2.type) 1&&j_ (P.cellsOf c.type) 1&&j_ (P.cellsOf t) 4
  |_=>false
 |_=>false
def X7(P:Program)(c:TypeId->Ty->Bool):List Field->Nat->Ty->Bool
 |[],_,.unit=>true
 |f::l,off,.pair a b=>j_ f.offset off&&j_ (P.cellsOf f.type) a.sz&&c f.type a&&X7 P c l (off+a.sz) b
 |_,_,_=>false
def X6(P:Program)(c:TypeId->Ty->Bool)(e:TypeId):Nat->Ty->Bool
 |0,.unit=>true
 |n+1,.pair a b=>j_ (P.cellsOf e) a.sz&&c e a&&X6 P c e n b
 |_,_=>false
def qD(P:Program):Nat->TypeId->Ty->Bool
 |0,_,_=>false
 |d+1,t,u=>match u with
  | .rx=>YG P t
  | .bool=>(match P.underlying t with|some .bool=>true|_=>false)
  | .int k=>(match P.underlying t with|some (.int c)=>decide (k=c)|_=>false)
  | .str=>(match P.underlying t with|some .string=>true|_=>false)
  | .list a=>(match P.underlying t with|some (.slice e)=>j_ (P.cellsOf e) a.sz&&Z_ 1 a.sz&&qD P d e a|_=>false)
  |u=>(match P.underlying t with
   |some (.struct b)=>j_ (P.cellsOf t) u.sz&&X7 P (qD P d) b.toList 0 u
   |some (.array n e)=>j_ (P.cellsOf t) u.sz&&X6 P (qD P d) e n u
   |_=>false)
theorem Qt{α:Type}{p:Nat->α->Prop}:∀(n:Nat),(∀i,i<n->∃x,p i x)->∃xs:List α,xs.length=n/\∀i x,xs[i]? =some x->p i x
 |0,_=>⟨[],rfl,λi x h=>by grind⟩
 |n+1,h=>by obtain⟨xs,a,b⟩:=Qt (p:=p) n λi c=>h i (by omega);obtain⟨x,d⟩:=h n (by simp);refine⟨xs++[x],by grind,λi y e=>?_⟩;grind
section
variable {H:Type} {enc:TypeId×Value->H} {P:Program} {w:World}
abbrev Rd(w:World)(u:Ty)(cs:List Value)(x:u.den):Prop:=okD u x/\cs.length=u.sz/\∀(j:Nat) (y:PV),(aK u x)[j]? =some y->∃c,cs[j]? =some c/\RelP (λb=>b<w.heap.size) w c y
theorem K5{k:IntKind}{n:Int}(b:(Lit.int k n).wf=true):Rd w (.int k) [.int k n] n:=by
 refine⟨?_,rfl,λj y a=>?_⟩;·show k.min<=n/\n<=k.max;simpa[Lit.wf]using b
 ·match j,a with|0,a=>cases a;exact⟨_,rfl,.sc _⟩
theorem NI{a:Ty}{e:TypeId}{n:Nat}{cs:List Value}{x:DataW H×List MemPlace}{t:TypeId}(ht:P.underlying t=some (.slice e))(C:P.cellsOf e=a.sz)(I:1<=a.sz) (ih:∀(m:Nat) (cs:List Value) (d:DataW H) (ps:List MemPlace),m<n->DataW.trod enc P w 0 (λ_=>true) true m e cs=some (d,ps)->(∀p∈ps,p.block<w.heap.size)->∃x:a.den,Rd w a cs x/\eu a x<=dB d) (h:DataW.trod enc P w 0 (λ_=>true) true n t cs=some x) (Y:∀p∈x.2,p.block<w.heap.size):∃xs:List a.den,Rd w (.list a) cs xs/\eu (.list a) xs<=dB x.1:=by
 have h':=DataW.trod_slice ht h;obtain⟨X,hX⟩:∃X,X=x:=⟨_,rfl⟩;rcases open_slice ht h with⟨rfl,_⟩|⟨B,len,cap,m,n',D,Pl,rfl,_,hl,hm,F,rfl,J⟩
 ·refine⟨[],⟨⟨M_ _,λy l=>by grind⟩,rfl,λj y l=>?_⟩,xn _⟩
  match j,l with|0,l=>cases l;exact⟨_,rfl,.nil none 0⟩
 ·simp only[if_true]at F;subst F;obtain⟨k,rest,A,el,L,E,s⟩:∃(k rest:List (DataW H×List MemPlace)) (A:Nat),A<n/\X=(.slice (k.map (·.1)) (rest.map (·.1)),MemPlace.row B ((k.length+rest.length)*P.cellsOf e)++(k++rest).flatMap (·.2))/\k.length=len/\∀i,i<len->(w.cells? 0 (B.add (i*P.cellsOf e)) (P.cellsOf e)).bind (DataW.trod enc P w 0 (λ_=>true) true A e)=k[i]? :=by
   rcases h' with⟨hc,_⟩|⟨a',qr,ph,k,rest,A,rfl,hc,L,_,_,_,E,s,_⟩
   ·grind
   ·simp only[List.cons.injEq,Value.slice.injEq,h_,and_true]at hc;obtain⟨rfl,rfl,rfl⟩:=hc;exact⟨k,rest,A,by simp,hX.trans L,E,s⟩
  have step:∀i,i<len->∃x:a.den,(∃d,k[i]? =some d/\eu a x<=dB d.1)/\∃r,w.cells? 0 (B.add (i*a.sz)) a.sz=some r/\Rd w a r x:=by
   intro i hi;have O:=s i hi;rw[g_ (by omega)]at O;obtain⟨r,h5,Q⟩:=l_.1 O;rw[C]at h5;obtain⟨y,l,hb⟩:=ih A r _ _ el Q λp hp=>by grind
   grind
  obtain⟨xs,At,z⟩:=Qt len step;have R:eu (.list a) xs<=dB (DataW.slice (H:=H) (k.map (·.1)) (rest.map (·.1))):=by have:=Mr (f:=eu a) (g:=λd:DataW H×List MemPlace=>d.1) xs k (by omega) λi x J=>(z i x J).1;simp only[eu,dB];omega
  refine⟨xs,⟨⟨by omega,λy l=>?_⟩,rfl,λj y l=>?_⟩,by grind⟩;·obtain⟨i,hi⟩:=am_ l;grind
  ·rw[dM (t:=.list a) xs rfl]at l
   match j,l with
   |0,l=>
    cases l;refine⟨_,rfl,?_⟩;have u:(xs.map (aI a)).length=len:=by grind
    show RelP _ w (.slice (some B) len m) (nz a.sz (xs.map (aI a)));rw[<-u];refine gO (by omega) λhp=>?_;rw[u]at hp;obtain⟨x0,gc⟩:∃x0,xs[0]? =some x0:=⟨xs[0]'(by omega),g_ (by omega)⟩;obtain⟨_,rg,T,wr⟩:=z 0 x0 gc;obtain⟨b,off,M⟩:=B;have v:M=none:=by obtain⟨_,ur,U⟩:=World.cells?_some T;have N:=U 0 (by omega);rw[g_ (by omega)]at N;simpa[Addr.add]using World.cell?_spot N
    subst v;refine⟨b,off,rfl,?_,λp hp=>?_,λi j x y J l=>?_⟩;·refine Y (.cell b off) (A_ _ (MemPlace.mem_row.2 ⟨0,?_,by simp⟩));rw[C];exact Nat.mul_pos (by omega) I
    ·obtain⟨q,_,rfl⟩:=Q_.1 hp;exact aH a q
    ·rw[k_]at J;obtain⟨q,hq,rfl⟩:=e_.1 J;obtain⟨_,r,N,h2,h3,O⟩:=z i q hq;obtain⟨c,h5,Q⟩:=O j y l;refine⟨c,?_,Q⟩;have hj:j<a.sz:=by grind
     have h7:=(World.cells?_some N).2.2 j hj;rw[add_plain,add_plain]at h7;grind
theorem WZ{n d:Nat}{cs:List Value}(C:∀(t:TypeId) (u:Ty) (cs:List Value) (A:DataW H) (D:List MemPlace),qD P d t u=true->DataW.trod enc P w 0 (λ_=>true) true n t cs=some (A,D)->(∀p∈D,p.block<w.heap.size)->∃x:u.den,Rd w u cs x/\eu u x<=dB A):
 ∀(l:List Field) (k:List (DataW H×List MemPlace)) (off:Nat) (u:Ty),X7 P (qD P d) l off u=true->k.length=l.length->(∀(i:Nat) (f:Field),l[i]? =some f->∃d:DataW H×List MemPlace,k[i]? =some d/\DataW.trod enc P w 0 (λ_=>true) true n f.type ((cs.drop f.offset).take (P.cellsOf f.type))=some d/\∀p∈d.2,p.block<w.heap.size)->∃x:u.den,okD u x/\eu u x<=ke (k.map (·.1))/\∀(j:Nat) (y:PV),(aK u x)[j]? =some y->∃c,cs[off+j]? =some c/\RelP (λb=>b<w.heap.size) w c y
 |[],_,off,u,e,_,_=>by
  cases u<;>simp only[X7]at e<;>try cases e
  exact⟨(),trivial,M_ _,λj y s=>by simp[aK,aI,PV.cells]at s⟩
 |f::l,[],_,_,_,h,_=>by simp at h
 |f::l,v::k,off,u,e,O,hl=>by
  cases u<;>simp only[X7]at e<;>try cases e
  rename_i a b;simp only[a_]at e;obtain⟨⟨⟨I,J⟩,L⟩,M⟩:=e;have E:=b_ I;have F:=b_ J;obtain⟨U,r,B,N⟩:=hl 0 f rfl;cases r;rw[E,F]at B;obtain⟨x,⟨R,Y,x3⟩,x4⟩:=C f.type a _ v.1 v.2 L B N;obtain⟨z,T,z3,z2⟩:=WZ C l k (off+a.sz) b M (by grind) λi g hg=>by simpa using hl (i+1) g (by simpa using hg)
  refine⟨(x,z),⟨R,T⟩,by simp only[eu,m_,ke];omega,λj y s=>?_⟩;have hc:aK (.pair a b) (x,z)=aK a x++aK b z:=rfl;rw[hc]at s;have Q:=aH a x;grind
theorem WV{n d:Nat}{e:TypeId}{cs:List Value}(C:∀(t:TypeId) (u:Ty) (cs:List Value) (A:DataW H) (D:List MemPlace),qD P d t u=true->DataW.trod enc P w 0 (λ_=>true) true n t cs=some (A,D)->(∀p∈D,p.block<w.heap.size)->∃x:u.den,Rd w u cs x/\eu u x<=dB A):
 ∀(k g:Nat) (l:List (DataW H×List MemPlace)) (u:Ty),X6 P (qD P d) e k u=true->l.length=k->(∀(i:Nat),i<k->∃d:DataW H×List MemPlace,l[i]? =some d/\DataW.trod enc P w 0 (λ_=>true) true n e ((cs.drop ((g+i)*P.cellsOf e)).take (P.cellsOf e))=some d/\∀p∈d.2,p.block<w.heap.size)->∃x:u.den,okD u x/\eu u x<=ke (l.map (·.1))/\∀(j:Nat) (y:PV),(aK u x)[j]? =some y->∃c,cs[g*P.cellsOf e+j]? =some c/\RelP (λb=>b<w.heap.size) w c y
 |0,g,_,u,f,_,_=>by
  cases u<;>simp only[X6]at f<;>try cases f
  exact⟨(),trivial,M_ _,λj y s=>by simp[aK,aI,PV.cells]at s⟩
 |k+1,_,[],_,_,h,_=>by simp at h
 |k+1,g,v::l,u,f,L,hl=>by
  cases u<;>simp only[X6]at f<;>try cases f
  rename_i a b;simp only[a_]at f;obtain⟨⟨E,F⟩,I⟩:=f;have R:=b_ E;obtain⟨Q,r,B,J⟩:=hl 0 (by omega);cases r;rw[Nat.add_zero]at B;obtain⟨x,⟨N,U,Y⟩,x4⟩:=C e a _ v.1 v.2 F B J;obtain⟨z,O,z3,z2⟩:=WV C k (g+1) l b I (by grind) λi T=>by have:=hl (i+1) (by omega);rw[show g+(i+1)=g+1+i by omega]at this;simpa using this
  refine⟨(x,z),⟨N,O⟩,by simp only[eu,m_,ke];omega,λj y s=>?_⟩;have hc:aK (.pair a b) (x,z)=aK a x++aK b z:=rfl;rw[hc]at s;have M:=aH a x;grind
theorem WL:∀(n:Nat) (d:Nat) (t:TypeId) (u:Ty) (cs:List Value) (C:DataW H) (r:List MemPlace),qD P d t u=true->DataW.trod enc P w 0 (λ_=>true) true n t cs=some (C,r)->(∀p∈r,p.block<w.heap.size)->∃x:u.den,Rd w u cs x/\eu u x<=dB C:=by
 intro n;induction n using Nat.strongRecOn with|ind n O=>
 intro d t u cs C r g h B;cases d with|zero=>cases g|succ d=>
 have agg:(∀a b,u= .pair a b->True)->u.ag=true->u≠.rx->(match P.underlying t with
  |some (.struct I)=>j_ (P.cellsOf t) u.sz&&X7 P (qD P d) I.toList 0 u
  |some (.array n e)=>j_ (P.cellsOf t) u.sz&&X6 P (qD P d) e n u
  |_=>false)=true->∃x:u.den,Rd w u cs x/\eu u x<=dB C:=by
  intro _ _ _ g
  split at g
  ·rename_i I v;rw[a_]at g;have e1:=b_ g.1;obtain⟨xs,m,rfl,E,J,D,F⟩:=DataW.trod_struct v h;simp only[aB_.injEq]at E;obtain⟨rfl,rfl⟩:=E;obtain⟨x,x1,xb,x2⟩:=WZ (n:=m) (cs:=cs) (λt u cs C r g h B=>O m (by simp) d t u cs C r g h B) I.toList xs 0 u g.2 (by omega) λi f hi=>by
    have qr:I[i]? =some f:=by grind
    have h1:=F i f qr;have rg:i<xs.length:=by grind
    rw[g_ rg]at h1;grind
   refine⟨x,⟨x1,by omega,λj y l=>?_⟩,by simp only[dB];omega⟩;grind
  ·rename_i k e v;rw[a_]at g;have e1:=b_ g.1;obtain⟨xs,m,rfl,E,J,D,F⟩:=DataW.trod_array v h;simp only[aB_.injEq]at E;obtain⟨rfl,rfl⟩:=E;obtain⟨x,x1,xb,x2⟩:=WV (n:=m) (cs:=cs) (e:=e) (λt u cs C r g h B=>O m (by simp) d t u cs C r g h B) k 0 xs u g.2 D λi hi=>by grind
   refine⟨x,⟨x1,by omega,λj y l=>?_⟩,by simp only[dB];omega⟩;grind
  grind
 cases u with
 |bool=>
  simp only[qD]at g;split at g
  ·rename_i v;obtain⟨b,rfl,_⟩:=DataW.trod_bool v h;refine⟨b,⟨trivial,rfl,λj y l=>?_⟩,xn _⟩
   match j,l with|0,l=>cases l;exact⟨_,rfl,.sc _⟩
  grind
 |int k=>
  simp only[qD]at g;split at g
  ·rename_i k' v;have:k=k':=by grind
   subst this;obtain⟨z,rfl,_,hw⟩:=DataW.trod_int v h;exact⟨z,K5 hw,xn _⟩
  grind
 |str=>
  simp only[qD]at g;split at g
  ·rename_i v;obtain⟨s,rfl,Y,hs⟩:=DataW.trod_string v h;refine⟨s.data.toList,⟨by simpa[okD]using hs,rfl,λj y l=>?_⟩,by cases Y;exact aa_ _⟩
   match j,l with
   |0,l=>
    cases l;refine⟨_,rfl,?_⟩;show RelP _ w (.string s) (.sc (.string ⟨s.data.toList.toArray⟩));have:(⟨s.data.toList.toArray⟩:ByteArray)=s:=by simp
    rw[this];exact .sc _
  grind
 |list a=>
  simp only[qD]at g;split at g;·rename_i e v;simp only[a_]at g;exact NI v (b_ g.1.1) (c_ g.1.2) (λm cs Q r hm h hl=>O m hm d e a cs Q r g.2 h hl) h B
  grind
 |unit=>exact agg (λ_ _ h=>by simp) rfl (by simp) g|pair a b=>exact agg (λ_ _ _=>trivial) rfl (by simp) g|rx=>
  have gc:YG P t=true:=g;have A:=gc;unfold YG at A;split at A
  ·rename_i I v;split at A
   ·rename_i R T f2 U Bx;simp only[a_]at A;obtain⟨⟨⟨⟨⟨⟨⟨⟨⟨hu,o0⟩,o1⟩,o2⟩,o3⟩,c0⟩,c1⟩,c2⟩,c3⟩,c4⟩:=A;split at hu
    ·rename_i e u0 u1 u2 u3;have el:=b_ hu;subst el;obtain⟨xs,m,rfl,E,J,D,F⟩:=DataW.trod_struct v h;simp only[aB_.injEq]at E;obtain⟨rfl,rfl⟩:=E;have ph:I= #[R,T,f2,U]:=by grind
     subst ph;have h4:xs.length=4:=D;have e4:=b_ c4;have get:∀(i:Nat) (f:Field),(#[R,T,f2,U]:Array Field)[i]? =some f->P.cellsOf f.type=1->∃C r,DataW.trod enc P w 0 (λ_=>true) true m f.type ((cs.drop f.offset).take 1)=some (C,r)/\∀p∈r,p.block<w.heap.size:=by grind
     obtain⟨d0,p0,g0,_⟩:=get 0 R rfl (b_ c0);obtain⟨d1,p1,g1,_⟩:=get 1 T rfl (b_ c1);obtain⟨d2,p2,g2,_⟩:=get 2 f2 rfl (b_ c2);obtain⟨d3,p3,g3,l3⟩:=get 3 U rfl (b_ c3);rw[b_ o0]at g0;rw[b_ o1]at g1;rw[b_ o2]at g2;rw[b_ o3]at g3;obtain⟨z0,L,_,w0⟩:=DataW.trod_int u0 g0;obtain⟨z1,M,_,w1⟩:=DataW.trod_int u1 g1;obtain⟨z2,N,_,w2⟩:=DataW.trod_int u2 g2;obtain⟨ks,⟨k1,k2,k3⟩,_⟩:=NI (a:=.rx) u3 e4 (by decide) (λm' cs Q r hm h hl=>O m' (by omega) (d+1) e .rx cs Q r g h hl) g3 l3
     match cs,(show cs.length=4 by omega)with
     |[q0,q1,q2,q3],_=>
      simp only[List.drop_zero,List.drop_succ_cons,List.take_succ_cons,aF_,List.cons.injEq,and_true]at L M N
      subst L;subst M;subst N
      have wr:=(K5 (w:=w) w0).1
      have At:=(K5 (w:=w) w1).1
      have Bk:=(K5 (w:=w) w2).1
      refine⟨.mk z0 z1 z2 ks,⟨⟨wr,At,Bk,k1.1,(Dh ks).2 k1.2⟩,rfl,λj y l=>?_⟩,xn _⟩
      rw[sZ]at l
      match j,l with|0,l=>cases l;exact⟨_,rfl,.sc _⟩|1,l=>cases l;exact⟨_,rfl,.sc _⟩|2,l=>cases l;exact⟨_,rfl,.sc _⟩|3,l=>have ur:some (aI (.list .rx) ks)=some y:=l;cases ur;obtain⟨c,e1,e2⟩:=k3 0 (aI (.list .rx) ks) (by rw[dM (t:=.list .rx) ks rfl];rfl);grind
    grind
   grind
  grind
end
open Go Go.RowKit Go.Av Go.WideShapes
@[reducible] def HD:List Ty->Type
 |[]=>Unit
 |t::l=>t.den×HD l
def yV:(us:List Ty)->HD us->List V
 |[],_=>[]
 |t::l,x=>.d t x.1::yV l x.2
def UA:(us:List Ty)->HD us->Prop
 |[],_=>True
 |t::l,x=>okD t x.1/\UA l x.2
def EN:(us:List Ty)->HD us->Nat
 |[],_=>0
 |t::l,x=>eu t x.1+EN l x.2
def fitAll(P:Program):List TypeId->List Ty->Bool
 |[],[]=>true
 |t::a,u::us=>qD P 64 t u&&fitAll P a us
 |_,_=>false
def W7(P:Program)(a:List TypeId):Bool:=a.all λt=>P.readableRec t&&decide (t<P.types.size)
section
variable {H:Type} {enc:TypeId×Value->H} {P:Program} {w:World}
theorem U4{d:Nat}{t:TypeId}{u:Ty}{r:Reach}{I:Nat}{v:Value}{B:DataW H}{D:List MemPlace}(g:qD P d t u=true)(s:Value.okWide P w r I t v)(h:DataW.Trod enc P w 0 (λ_=>true) true t v B D)(C:∀p∈D,p.block<w.heap.size): ∃x:u.den,(okD u x/\RelP (λb=>b<w.heap.size) w v (aI u x))/\eu u x<=dB B:=by
 obtain⟨n,hn⟩:=h;obtain⟨x,⟨J,E,F⟩,L⟩:=WL n d t u _ B D g hn C;refine⟨x,⟨J,?_⟩,L⟩;have one:u.ag=false->v.cells= #[v]->RelP (λb=>b<w.heap.size) w v (aI u x):=λA hc=>by obtain⟨c,M,N⟩:=F 0 (aI u x) (by rw[dM x A];rfl);grind
 have j:u.ag=true->(∃cs,v= .agg cs)->RelP (λb=>b<w.heap.size) w v (aI u x):=λA ⟨cs,hc⟩=>by subst hc;rw[ey x A];have e:(Value.agg cs).cells=cs:=rfl;rw[e]at E F;refine .agg cs _ (by rw[aH,<-E];simp) λi a y A O=>?_;grind
 cases d with
 |zero=>simp[qD]at g|succ d=>
  cases u with
  |bool=>
   simp only[qD]at g;split at g;·rename_i f;obtain⟨b,rfl⟩:=okWide_bool f s;exact one rfl rfl
   grind
  |int k=>
   simp only[qD]at g;split at g;·rename_i f;obtain⟨b,rfl⟩:=okWide_int f s;exact one rfl rfl
   grind
  |str=>
   simp only[qD]at g;split at g;·rename_i f;obtain⟨b,rfl⟩:=okWide_string f s;exact one rfl rfl
   grind
  |list a=>
   simp only[qD]at g;split at g;·rename_i f;obtain⟨a,l,c,rfl⟩:=okWide_slice f s;exact one rfl rfl
   grind
  |unit=>
   simp only[qD]at g;refine j rfl ?_;split at g;·rename_i f;simp only[Value.okWide,f]at s;grind
   ·rename_i f;simp only[Value.okWide,f]at s;grind
   grind
  |pair a b=>
   simp only[qD]at g;refine j rfl ?_;split at g;·rename_i f;simp only[Value.okWide,f]at s;grind
   ·rename_i f;simp only[Value.okWide,f]at s;grind
   grind
  |rx=>
   have z:YG P t=true:=g;refine j rfl ?_;unfold YG at z;split at z;·rename_i f;simp only[Value.okWide,f]at s;grind
   grind
theorem Ny:∀(f:List TypeId) (us:List Ty) (vs:List Value) (ds:List (DataW H)) (g:List MemPlace),fitAll P f us=true->DataW.TrodAll enc P w 0 (λ_=>true) true f vs ds g->(∀(j:Nat) (t:TypeId) (v:Value),f[j]? =some t->vs[j]? =some v->∃r n,Value.okWide P w r n t v)->(∀p∈g,p.block<w.heap.size)->
 ∃xs:HD us,(UA us xs/\EN us xs<=ke ds)/\vs.length=(yV us xs).length/\∀(i:Nat) (v:Value) (x:AV),vs[i]? =some v->((yV us xs).map aT)[i]? =some x->RelA [] (λb=>b<w.heap.size) w v x
 |[],[],[],[],g,_,_,_,_=>⟨(),⟨trivial,aa_ _⟩,rfl,λi v x l=>by grind⟩
 |t::f,u::us,v::vs,d::ds,g,k,A,l,e=>by simp only[fitAll,a_]at k;obtain⟨p,q,s,z,rfl⟩:=A;obtain⟨r,n,B⟩:=l 0 t v rfl rfl;obtain⟨x,⟨D,E⟩,M⟩:=U4 k.1 B s λy c=>e y (A_ _ c);obtain⟨xs,⟨F,N⟩,I,J⟩:=Ny f us vs ds q k.2 z (λj t v L a=>l (j+1) t v (by grind) (by grind)) λy c=>e y (F_ _ c);refine⟨(x,xs),⟨⟨D,F⟩,by simp only[EN,ke];omega⟩,by simp[yV,I],λi C y a c=>?_⟩;cases i with|zero=>simp only[af_,h_]at a;simp only[yV,m_,af_,h_]at c;subst a;subst c;exact E|succ i=>exact J i C y (by grind) (by simpa[yV]using c)
 |[],[],_::_,_,_,_,h,_,_=>(by cases h)
 |[],[],[],_::_,_,_,h,_,_=>(by cases h)
 |_::_,_::_,[],_,_,_,h,_,_=>(by cases h)
 |_::_,_::_,_::_,[],_,_,h,_,_=>(by cases h)
 |[],_::_,_,_,_,h,_,_,_=>(by cases h)
 |_::_,[],_,_,_,h,_,_,_=>(by cases h)
theorem zG(hl:laidOutB P=true){W g:World}(j:Below W.heap.size W g):∀(c:List TypeId) (vs:List Value) (ds:List (DataW H)) (e:List MemPlace),W7 P c=true->DataW.TrodAll enc P W 0 (λ_=>true) true c vs ds e->(∀p∈e,p.block<W.heap.size)->
 DataW.TrodAll enc P g 0 (λb=>decide (b<W.heap.size)) true c vs ds e
 |[],[],[],_,_,h,_=>h
 |t::c,v::vs,d::ds,e,hr,h,a=>by simp only[W7,B_,a_,decide_eq_true_eq]at hr;obtain⟨p,q,k,l,rfl⟩:=h;exact⟨p,q,Below.trod hl hr.1.1 hr.1.2 k j λy f=>a y (A_ _ f),zG hl j c vs ds q hr.2 l λy f=>a y (F_ _ f),rfl⟩
 |[],_::_,_,_,_,h,_=>(by cases h)
 |[],[],_::_,_,_,h,_=>(by cases h)
 |_::_,[],_,_,_,h,_=>(by cases h)
 |_::_,_::_,[],_,_,h,_=>(by cases h)
theorem DZ{a:Nat}{sp:Nat->Bool}{hd:Bool}:∀(b:List TypeId) (vs:List Value) (ds:List (DataW H)) (c:List MemPlace),DataW.TrodAll enc P w a sp hd b vs ds c->ds.length=b.length
 |[],[],[],_,_=>rfl
 |_::b,_::vs,_::ds,_,⟨_,_,_,h,_⟩=>by simp[DZ b vs ds _ h]
 |[],_::_,_,_,h=>(by cases h)
 |[],[],_::_,_,h=>(by cases h)
 |_::_,[],_,_,h=>(by cases h)
 |_::_,_::_,[],_,h=>(by cases h)
theorem RG(H:P.follows .mixedOrders=true){tbl:Nat->Option Fun'}(D:TblOk P tbl){W:World}(C:GT W){N:Nat}{us:List Ty}{xs:HD us}{vs:List Value}(hl:vs.length=(yV us xs).length) (c:∀(i:Nat) (v:Value) (x:AV),vs[i]? =some v->((yV us xs).map aT)[i]? =some x->RelA [] (λb=>b<W.heap.size) W v x) {s:S} (B:Conv tbl N (yV us xs) [] (·=some s)) (hs:aT (res s.fr.length s.fr)= .b (.pv (.sc (.bool true)))): Calls P (N%10000) vs.toArray W λe d=>e= .returned (.bool true)/\Below W.heap.size W d:=by
 obtain⟨o,rfl,A⟩:=L9 H D B;refine(A W [] (λb=>b<W.heap.size) vs (GW.of C) ⟨rfl,λb h=>h,λi j li J g n=>(by simp),λi l g n=>(by grind),λi l o n=>(by simp)⟩ (by grind) c).mono λe d E=>?_;rcases E with⟨v,r,p,θ',D',y,f,u,_,a,_⟩|⟨I,_,_,f,_⟩;·have w:some (r,p)=some (aT (res s.fr.length s.fr),s.hp.map bI):=f;simp only[h_,aB_.injEq]at w;rw[w.1,hs]at u;have z:RelP D' d v (.sc (.bool true)):=u;cases z;refine⟨y,a.os,a.tape,a.output,a.size,λk F=>a.block k F ?_⟩;rintro⟨i,l,n,_⟩;grind
 ·cases f
end
theorem wrap_i64{n:Int}(a: -9223372036854775808<=n)(b:n<=9223372036854775807):J_ .i64 n=n:=by simp only[J_,ap_,ak_];grind
theorem wrap_u8(n:Int):J_ .u8 n=n%256:=by simp[J_,ap_,ak_]
theorem wrap_u32(n:Int):J_ .u32 n=n%4294967296:=by simp[J_,ap_,ak_]
theorem ar{i:Nat}{n:Nat}(a:i<n)(hn:n<=9223372036854775807):J_ .i64 ((i:Int)+1)=((i+1:Nat):Int):=by rw[wrap_i64 (by omega) (by omega)];rfl
section
variable {α β γ σ τ:Type}
theorem Gc{xs:List α}(i:Nat):a7 xs (i:Int)=xs[i]? :=by simp[a7]
theorem mZ{m:Nat->Option α}{Q:α->Prop}{a:α}(h:∀n,m n=some a)(b:Q a):Wp m Q:=⟨a,b,0,λn _=>h n⟩
theorem Wp.imp{m:Nat->Option α}{Q z:α->Prop}(h:Wp m Q)(E:∀r,Q r->z r):Wp m z:=wp_mono h E
theorem a8{N:Nat}{body:Nat->σ->Option (σ⊕τ)}{s0:σ}{Q:τ->Prop}(I:Nat->σ->Prop)(h:I 0 s0) (c:∀i s,i<N->I i s->Wp (λn=>body n s) λr=>match r with| .inl s'=>I (i+1) s'| .inr t=>Q t) (d:∀s,I N s->Wp (λn=>body n s) λr=>match r with| .inl _=>False| .inr t=>Q t):Wp (λn=>aS n (body n) s0) Q:=by
 have key:∀(k:Nat) (i:Nat) (s:σ),i+k=N->I i s->∃t,Q t/\∃b,∀n m,b<=n->k+1<=m->aS m (body n) s=some t:=by
  intro k;induction k with
  |zero=>
   intro i s j hs;have:i=N:=by omega
   subst this;obtain⟨r,hr,b,hn⟩:=d s hs;cases r with|inl s'=>grind|inr t=>refine⟨t,hr,b,λn m f g=>?_⟩;obtain⟨a,rfl⟩:∃a,m=a+1:=⟨m - 1,by omega⟩;simp only[aS];grind
  |succ k u=>
   intro i s j hs;obtain⟨r,hr,b,hn⟩:=c i s (by omega) hs;cases r with
   |inl s'=>obtain⟨t,e,v,p⟩:=u (i+1) s' (by omega) hr;refine⟨t,e,max b v,λn m f g=>?_⟩;obtain⟨a,rfl⟩:∃a,m=a+1:=⟨m - 1,by omega⟩;simp only[aS];grind
   |inr t=>refine⟨t,hr,b,λn m f g=>?_⟩;obtain⟨a,rfl⟩:∃a,m=a+1:=⟨m - 1,by omega⟩;simp only[aS];grind
 obtain⟨t,e,b,hn⟩:=key N 0 s0 (by simp) h;exact⟨t,e,max b (N+1),λn l=>hn n n (by omega) (by omega)⟩
theorem Cu{xs:List α}{p:α->Bool}{g:α->β}{e:γ}{body:Nat->(Int×Unit)->Option ((Int×Unit)⊕β⊕γ)}{Q:β⊕γ->Prop} (h:∀(i:Nat) (x:α),xs[i]? =some x->Wp (λn=>body n ((i:Int),())) λr=>r=if p x then .inr (.inl (g x))else .inl (((i+1:Nat):Int),())) (b:Wp (λn=>body n ((xs.length:Int),())) λr=>r= .inr (.inr e)) (d:Q (match xs.find? p with|some x=>.inl (g x)|none=>.inr e)):Wp (λn=>aS n (body n) ((0:Int),())) Q:=by
 refine a8 (N:=xs.length) (I:=λi s=>s=((i:Int),())/\xs.find? p=(xs.drop i).find? p) ⟨rfl,by simp⟩ (λi s a hs=>?_) λs hs=>?_;·obtain⟨rfl,hd⟩:=hs;have c:=g_ a;refine wp_mono (h i _ c) λr hr=>?_;rw[List.drop_eq_getElem_cons a,aA_]at hd;grind
 ·obtain⟨rfl,hd⟩:=hs;refine wp_mono b λr hr=>?_;grind
end
section
variable {α β σ τ:Type}
theorem bb{b:Bool}{m k:Nat->Option α}{Q:α->Prop}(a:b=true)(h:Wp m Q):Wp (λn=>bif b then m n else k n) Q:=by subst a;exact h
theorem aw{b:Bool}{m k:Nat->Option α}{Q:α->Prop}(a:b=false)(h:Wp k Q):Wp (λn=>bif b then m n else k n) Q:=by subst a;exact h
theorem cY{a b:Bool}{m:Nat->Option Bool}{Q:Bool->Prop}(h:a=false->Wp m λr=>r=b)(c:Q (a||b)):Wp (λn=>bif a then some true else m n) Q:=by
 cases a;·exact wp_mono (h rfl) λr hr=>by grind
 ·exact aa c
theorem cy{a b:Bool}{m:Nat->Option Bool}{Q:Bool->Prop}(h:a=true->Wp m λr=>r=b)(c:Q (a&&b)):Wp (λn=>bif a then m n else some false) Q:=by
 cases a;·exact aa c
 ·exact wp_mono (h rfl) λr hr=>by grind
end
section
variable {tbl:Nat->Option Fun'}
theorem vR{f:Nat}{ars:List V}{os:List Ob}{sh:Sh}{R:HL sh.sl->Prop}(hp:∀c,wC sh (jr sh c)=some c)(h:Conv tbl f ars os λo=>∃c,o=some (jr sh c)/\R c):∃c,R c/\aJ tbl f ars os sh c:=by obtain⟨o,⟨c,rfl,hr⟩,a,hn⟩:=h;exact⟨c,hr,aC (hp c) ⟨_,rfl,a,hn⟩⟩
theorem Rj{f:Nat}{g:List V->Option S}{ars:List V}{sh:Sh}{c:HL sh.sl}(a:tbl f=some (.nat g))(hg:g ars=some (jr sh c))(hp:wC sh (jr sh c)=some c):aJ tbl f ars [] sh c:=by refine aC hp ⟨_,rfl,1,λn hn=>?_⟩;obtain⟨m,rfl⟩:∃m,n=m+1:=⟨n - 1,by omega⟩;simp only[q9,a,hg]
end
section
variable {α β γ σ τ:Type}
theorem Qn{xs:List α}{i:Nat}(h:i<xs.length):a7 xs (i:Int)=some xs[i]:=by rw[Gc];exact g_ h
theorem aN{xs:List α}{i:Nat}{f:Nat->α->Option β}{Q:β->Prop}(h:i<xs.length)(a:Wp (λn=>f n xs[i]) Q):Wp (λn=>N_ (a7 xs (i:Int)) (f n)) Q:=by rw[Qn h];grind
theorem E4{xs:List α}{i:Int}{f:Nat->α->Option β}{Q:β->Prop}(a:0<=i)(h:i.toNat<xs.length)(b:Wp (λn=>f n xs[i.toNat]) Q):Wp (λn=>N_ (a7 xs i) (f n)) Q:=by obtain⟨k,rfl⟩:=ae_ a;exact aN (by omega) b
theorem bD{i N:Nat}{m k:Nat->Option α}{Q:α->Prop}(h:i<N)(a:Wp m Q):Wp (λn=>bif decide ((i:Int)<(N:Int))then m n else k n) Q:=by rw[show decide ((i:Int)<(N:Int))=true from decide_eq_true (by omega)];grind
theorem ba{N:Nat}{m k:Nat->Option α}{Q:α->Prop}(a:Wp k Q):Wp (λn=>bif decide ((N:Int)<(N:Int))then m n else k n) Q:=by grind
theorem LH{N:Nat}{good:Nat->Prop}{e:β}{g:γ}{body:Nat->(Int×Unit)->Option ((Int×Unit)⊕β⊕γ)}{Q:β⊕γ->Prop} (h:∀i,i<N->Wp (λn=>body n ((i:Int),())) λr=>(good i/\r= .inl (((i+1:Nat):Int),()))\/(¬good i/\r= .inr (.inl e))) (a:Wp (λn=>body n ((N:Int),())) λr=>r= .inr (.inr g)) (hg:(∀i,i<N->good i)->Q (.inr g)) (d:(∃i,i<N/\¬good i)->Q (.inl e)):Wp (λn=>aS n (body n) ((0:Int),())) Q:=by
 refine a8 (N:=N) (I:=λi s=>s=((i:Int),())/\∀j,j<i->good j) ⟨rfl,λj c=>absurd c (by simp)⟩ (λi s b hs=>?_) λs hs=>?_;·obtain⟨rfl,hd⟩:=hs;refine wp_mono (h i b) λr hr=>?_;grind
 ·obtain⟨rfl,hd⟩:=hs;refine wp_mono a λr hr=>?_;grind
theorem uE{b:Bool}{good:Prop}{e:β}{s' a:σ}(c:b=true↔¬good)(hs:s'=a):Wp (λ_=>bif b then(some (.inr (.inl e)):Option (σ⊕β⊕γ))else some (.inl s')) (λr=>(good/\r= .inl a)\/(¬good/\r= .inr (.inl e))):=by
 subst hs;cases b;·exact aa (.inl ⟨V_ λh=>by grind,rfl⟩)
 ·exact aa (.inr ⟨c.1 rfl,rfl⟩)
theorem all_iff{xs:List α}{P:α->Prop}:(∀i,i<xs.length->∀x,xs[i]? =some x->P x)↔∀x∈xs,P x:=by
 constructor;·intro h x b;obtain⟨i,a,rfl⟩:=List.mem_iff_getElem.1 b;exact h i a _ (g_ a)
 grind
theorem E0{xs:List α}{P:α->Prop}{e:β}{g:γ}{body:Nat->(Int×Unit)->Option ((Int×Unit)⊕β⊕γ)}{Q:β⊕γ->Prop} (h:∀i (a:i<xs.length),Wp (λn=>body n ((i:Int),())) λr=>(P xs[i]/\r= .inl (((i+1:Nat):Int),()))\/(¬P xs[i]/\r= .inr (.inl e))) (c:Wp (λn=>body n ((xs.length:Int),())) λr=>r= .inr (.inr g)) (hg:(∀x∈xs,P x)->Q (.inr g)) (b:(¬∀x∈xs,P x)->Q (.inl e)):Wp (λn=>aS n (body n) ((0:Int),())) Q:=by refine LH (N:=xs.length) (good:=λi=>∀x,xs[i]? =some x->P x) (λi a=>?_) c (λh=>hg (all_iff.1 h)) (fun⟨i,a,hn⟩=>b λh=>hn λx d=>h x (r_ d));refine wp_mono (h i a) λr hr=>?_;grind
end
section
variable {α β γ σ τ:Type}
theorem E5{xs:List α}{i:Nat}{x:α}{f:Nat->α->Option β}{Q:β->Prop}(h:xs[i]? =some x)(a:Wp (λn=>f n x) Q):Wp (λn=>N_ (a7 xs (i:Int)) (f n)) Q:=by rw[Gc,h];grind
end
end Go.Ev
