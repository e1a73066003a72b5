import Derived.Test.YtmfolppncelceaaGreatDoorVL5
import Derived.Test.YtmfolppncelceaaGreatDoorVL3
import Derived.KernelRfl
import Derived.OpenShut
import Derived.Deep.Slices
import Derived.ChangeMaps5
import Derived.Carry
set_option linter.unusedVariables false
set_option linter.unusedSimpArgs false
open Bool renaming and_eq_true->a_,not_eq_true'->r_,or_eq_true->s_,not_true->ac_,false_or->ao_,false_eq_true->ap_,and_false->aC_,not_false->aD_
open Classical renaming byContradiction->W_
open Int renaming eq_ofNat_of_zero_le->af_
open Go.IntKind renaming wrap->A_,signed->U_,bits->ai_
open List renaming mem_append->d_,all_eq_true->f_,getElem?_eq_getElem->g_,getElem?_eq_some_iff->i_,getElem?_map->l_,map_cons->m_,mem_singleton->n_,length_map->o_,mem_cons_of_mem->p_,mem_of_getElem?->q_,getElem?_append_left->t_,mem_flatMap->u_,mem_cons->v_,map_append->w_,mapM_cons->z_,mem_append_left->B_,all_cons->C_,map_map->D_,mem_append_right->F_,mem_range->G_,range->H_,replicate->I_,map_set->J_,map_congr_left->K_,mem_cons_self->L_,append_assoc->O_,getElem?_set_self->P_,mem_map->Q_,getElem?_set_ne->R_,getElem?_append_right->V_,ext_getElem?->Y_,flatMap_cons->Z_,map_take->ad_,getElem?_cons_zero->ag_,length_cons->ah_,drop_eq_nil_of_le->aj_,take_of_length_le->ak_,getElem?_mapIdx->am_,getElem?_of_mem->an_,getElem?_set->aq_,drop_append->ar_,filter_cons->as_,isEmpty_iff->au_,not_mem_nil->av_,take_append->aw_,length->ay_,append_nil->az_,find?_cons->aA_,drop_drop->aE_,take_zero->aF_,map_drop->aG_,getD->aH_,map_nil->aI_
open Nat renaming eq_of_beq_eq_true->b_,le_of_ble_eq_true->c_,beq->j_,zero_le->M_,beq_refl->T_,ble->aa_,le_refl->ab_,zero_add->aJ_
open Option renaming map_eq_some_iff->e_,bind_eq_some_iff->k_,bind_eq_bind->x_,bind_some->y_,pure_def->E_,bind->N_,map_some->S_,isNone_iff_eq_none->X_,isSome_iff_exists->ae_,getD_some->ax_
open Option.some renaming injEq->h_,inj->al_
open Prod renaming mk->aB_
namespace Go.Ev
open Go Go.RowKit Go.Av
theorem m7:∀(l:List Slot) (c:HL l) (b:S),(∀k v,lk b.fr k=some v->v.isD=true)->∀k v,lk (unpack l c b).fr k=some v->v.isD=true
 |[],_,_,h=>h
 | .tm j t::l,c,b,h=>m7 l c.2 _ λk v a=>by
  simp only[lk]at a;cases d:j_ k j;·grind
  ·rw[d]at a;simp only[cond_true,h_]at a;subst a;rfl
 | .cell _ _ _::l,c,b,h=>m7 l c.2 _ h
 | .vec _ _ _::l,c,b,h=>m7 l c.2 _ h
 | .map _ _ _ _ _::l,c,b,h=>m7 l c.2 _ h
 | .tree _ _ _ _::l,c,b,h=>m7 l c.2 _ h
 | .treeH _ _ _ _ _ _::l,c,b,h=>m7 l c.2 _ h
theorem zgh{v:V}(h:v.isD=true):v.ids=[]/\v.ids1=[]:=by cases v<;>first|exact⟨rfl,rfl⟩|cases h
theorem zbQ{n:Nat}{fr:List (Nat×V)}(h:∀k v,lk fr k=some v->v.isD=true):(res n fr).ids=[]:=by
 have one:∀k,((lk fr k).getD .any).ids=[]/\((lk fr k).getD .any).ids1=[]:=λk=>by cases hl:lk fr k with|none=>exact⟨rfl,rfl⟩|some v=>exact zgh (h k v hl)
 unfold res;cases j_ n 1;·show(zcP fr n).flatMap V.ids1=[];rw[List.flatMap_eq_nil_iff];intro v a;obtain⟨i,_,rfl⟩:=Q_.1 a;grind
 grind
theorem SG{hp:List AObj}{bor:Bool}{x:BV}{p:PV}(h:x.toPV=some p):A9 hp bor x=some p:=by cases x<;>first|exact h|cases h
theorem Vb{hp:List AObj}{bor:Bool}{x:AV}{p:PV}(h:x.toPV=some p):oM hp bor x=some p:=by
 cases x with
 |b x=>exact SG h|agg xs=>have h':(xs.mapM BV.toPV).map PV.agg=some p:=h;obtain⟨d,a,rfl⟩:=e_.1 h';show(xs.mapM (A9 hp bor)).map PV.agg=_;rw[xg (λx _ y c=>SG c) a];rfl
 |tup xs=>exact h
section
variable {R:Type} {P:Program} {O:ak} {d:Option Nat} {s:S} {κ kp:S->Option R} {r:R}
theorem U8{bor:Bool}{a:Arg×X}{v:V}(g:a.2.wf=true)(h:Rh s bor [] a=some v)(hd:v.isD=true):∃p,((enc s).get a.2.er).bind (oM (enc s).hp bor)=some p/\AV.p p=aZ v:=by
 obtain⟨a,x⟩:=a;simp only[Rh]at h;split at h
 ·rename_i t id c;obtain⟨f,b⟩:=aV h;simp only[a_,r_]at f;split at b
  ·rename_i e u xs k;split at b;·rename_i ys d;cases b;obtain⟨j,n⟩:=bO d;refine⟨aM (.list t) ys,?_,rfl⟩;rw[aJ g c,y_];show(if bor=true then TL (enc s).hp id else none)=_;rw[f.1,if_pos rfl,TL,bR,k];show some (aM (.list u) xs)=some (aM (.list t) ys);rw[j]
   ·cases b
  ·rename_i e kk u xs k;split at b;·rename_i ys d;cases b;obtain⟨j,n⟩:=bO d;refine⟨aM (.list t) ys,?_,rfl⟩;rw[aJ g c,y_];show(if bor=true then TL (enc s).hp id else none)=_;rw[f.1,if_pos rfl,TL,bR,k];show some (aM (.list u) xs)=some (aM (.list t) ys);rw[j]
   ·cases b
  grind
 ·rename_i t l _ c;split at h;·rename_i y d;cases h;exact⟨aM t y,by rw[aJ g c,y_];exact Vb (fV d),rfl⟩
  ·cases h
 ·rename_i l c;have key:∀p:PV,aZ l=AV.p p->l=v->∃p,((enc s).get x.er).bind (oM (enc s).hp bor)=some p/\AV.p p=aZ v:=λp hp e=>by subst e;exact⟨p,by rw[aJ g c,y_,hp];exact Vb rfl,hp.symm⟩
  split at h;·cases h
  ·cases h
  ·cases h
  ·cases h
  ·rename_i vs;obtain⟨f,b⟩:=aV h;cases b;cases hd
  ·cases h;cases v<;>first|(cases hd;done)|skip
   ·grind
   ·exact key _ rfl rfl
   ·exact key _ rfl rfl
 ·cases h
theorem Ri{bor:Bool}:∀(l:List (Arg×X)) (vs:List V),nS l=true->yI s bor [] l=some vs->vs.all V.isD=true->∃b,(l.map λa=>a.2.er).mapM (λx=>((enc s).get x).bind (oM (enc s).hp bor))=some b/\b.map AV.p=vs.map aZ
 |[],vs,_,h,_=>by cases h;simp
 |a::l,vs,c,h,hd=>by
  simp only[nS,C_,a_]at c;simp only[yI]at h;split at h
  ·rename_i v e;split at h;·rename_i us d;cases h;simp only[C_,a_]at hd;obtain⟨p,f,g⟩:=U8 c.1 e hd.1;obtain⟨b,j,k⟩:=Ri l us c.2 d hd.2;refine⟨p::b,?_,by grind⟩;grind
   grind
  grind
theorem Wb{bor:Bool}(d:bor=true):∀(vs:List V) (b:List PV),((vs.map (zhy s.hp)).map aW).mapM BV.toPV=some b->(vs.map aW).mapM (A9 (enc s).hp bor)=some b
 |[],b,h=>h
 |v::vs,b,h=>by
  simp only[m_,z_,x_,k_,E_]at h⊢;obtain⟨p,a,e,f,g⟩:=h;refine⟨p,?_,e,Wb d vs e f,g⟩;cases v<;>try exact SG a
  rename_i id;show(if bor=true then TL (enc s).hp id else none)=_;rw[if_pos d,TL,bR];simp only[zhy]at a;split at a;·rename_i c;rw[c];exact a
  ·rename_i c;rw[c];exact a
  ·cases a
theorem zfS{bor:Bool}{a:Arg×X}{v:V}(b:a.2.wf=true)(h:zhf s bor a=some v)(hd:v.isD=true):∃p,((enc s).get a.2.er).bind (oM (enc s).hp bor)=some p/\AV.p p=aZ v:=by
 simp only[zhf]at h;split at h;·rename_i n e;cases h;exact U8 b e hd
 ·split at h
  ·rename_i t vs k f;obtain⟨d,h⟩:=aV h;split at h;·rename_i x g;cases h;refine⟨aM t x,?_,rfl⟩;rw[aJ b f,y_];have:=fV g;obtain⟨j,c,l⟩:=e_.1 this;show((vs.map aW).mapM (A9 (enc s).hp bor)).map PV.agg=_;rw[Wb d vs j c];grind
   grind
  grind
theorem Vf{bor:Bool}:∀(l:List (Arg×X)) (vs:List V),nS l=true->Ve s bor l=some vs->vs.all V.isD=true->∃b,(l.map λa=>a.2.er).mapM (λx=>((enc s).get x).bind (oM (enc s).hp bor))=some b/\b.map AV.p=vs.map aZ
 |[],vs,_,h,_=>by cases h;simp
 |a::l,vs,c,h,hd=>by
  simp only[nS,C_,a_]at c;simp only[Ve]at h;split at h
  ·rename_i v e;split at h;·rename_i us d;cases h;simp only[C_,a_]at hd;obtain⟨p,f,g⟩:=zfS c.1 e hd.1;obtain⟨b,j,k⟩:=Vf l us c.2 d hd.2;refine⟨p::b,?_,by grind⟩;grind
   grind
  grind
theorem zbz(hO:OracleOk P O){bor:Bool}{f:FuncId}{args:List (Arg×X)}{sh:Sh}(g:nS args=true/\sh.wfB=true)(h:evOp O d (.call bor f args sh) s κ kp=some r): Pu P s (.call bor (f%10000) (args.map λa=>a.2.er)) d κ r:=by
 simp only[evOp]at h;split at h
 ·rename_i ars u;obtain⟨b,l⟩:=aV h;simp only[a_,s_,r_]at b;obtain⟨c,hc,w⟩:=cZ l;obtain⟨y,n,p⟩:=Vf args ars g.1 u b.1.1;obtain⟨j,z⟩:=DT hO g.2 hc;rw[<-p]at j;refine⟨_,⟨y,n,j.mono λo x=>⟨_,_,x,?_,λA=>(z ?_).1,rfl⟩⟩,w⟩;·rw[<-wI];refine zbQ (m7 _ _ _ λk v e=>?_);rw[base_nil]at e;have:=au_.1 b.1.2;rw[this]at e;cases e
  grind
 grind
theorem WJ(hO:OracleOk P O){bor:Bool}{num:Nat}{x:X}{args:List (Arg×X)}{sh:Sh}(e:x.wf=true/\nS args=true/\fU P (num%10000)=true/\sh.wfB=true)(h:evOp O d (.callp bor num x args sh) s κ kp=some r): Pu P s (.callp bor x.er (args.map λa=>a.2.er)) d κ r:=by
 simp only[evOp]at h;split at h
 ·rename_i f cs ars B w;obtain⟨b,n⟩:=aV h;simp only[a_,s_,r_]at b;obtain⟨c,hc,z⟩:=cZ n;have y:=b_ b.1.1.1;subst y;obtain⟨j,p,u⟩:=Ri args ars e.2.1 w b.1.1.2;obtain⟨l,C⟩:=DT hO e.2.2.2 hc;have hcs:(ars++cs.map λc=>V.dp c.1 c.2).map aZ=(j++cs.map λc=>PV.pto (aM c.1 c.2)).map AV.p:=by rw[w_,w_,u,D_,D_];rfl
  rw[hcs]at l;refine⟨_,⟨_,aJ e.1 B,num%10000,cs.map λc=>PV.pto (aM c.1 c.2),rfl,e.2.2.1,j,p,l.mono λo A=>⟨_,_,A,?_,λD=>(C ?_).1,rfl⟩⟩,z⟩;·rw[<-wI];refine zbQ (m7 _ _ _ λk v g=>?_);rw[base_nil]at g;have:=au_.1 b.1.2;rw[this]at g;cases g
  grind
 grind
theorem LeS.refl(a:St):LeS a a:=⟨λ_ y E=>⟨y,E,.refl y⟩,rfl,λi x y H z=>by rw[H]at z;cases z;exact .refl x⟩
def XJ(P:Program)(s:S)(op:SOp)(d:Option Nat)(κ kp:S->Option R)(r:R):Prop:=
 sexec P d op (enc s) (λa=>∃s',LeS a (enc s')/\Keeps (jG d) s s'/\κ s'=some r) (λa=>∃s',a=enc s'/\Keeps (jG d) s s'/\kp s'=some r)
def Ox(P:Program)(s:S)(op:SOp)(d:Option Nat)(κ kp:S->Option R)(r:R):Prop:=
 sexec P d op (enc s) (λa=>∃s',a=enc s'/\Keeps (jG d) s s'/\κ s'=some r) (λa=>∃s',a=enc s'/\Keeps (jG d) s s'/\kp s'=some r)
theorem Ox.ob{op:SOp}(h:Ox P s op d κ kp r):XJ P s op d κ kp r:=sY h (λ_ ⟨s',z,E,H⟩=>⟨s',by rw[z];exact .refl _,E,H⟩) λ_ h=>h
theorem wd{st:St}{op:SOp}{x:AV}{K KP:St->Prop}(hs:ou P st op λy=>y=x)(b:K (st.putO d x)):sexec P d op st K KP:=by
 have a:ou P st op λy=>K (st.putO d y):=I7 hs λy c=>by grind
 unfold sexec;split<;>first|exact a|exact hs.elim
theorem Pu.ox{op:SOp}(h:Pu P s op d κ r):Ox P s op d κ kp r:=by obtain⟨v,z,E⟩:=h;exact wd z ⟨_,(kf _ _ _).symm,Keeps.put s d v,E⟩
theorem Pu.ob{op:SOp}(h:Pu P s op d κ r):XJ P s op d κ kp r:=by obtain⟨v,z,E⟩:=h;exact wd z ⟨_,by rw[kf];exact .refl _,Keeps.put s d v,E⟩
theorem Ee(s:S)(o:Ob):enc ⟨s.fr,s.hp++[o]⟩={enc s with hp:=(enc s).hp++[bV o]}:=by simp[enc]
theorem kO(s:S)(id:Nat)(o:Ob):enc ⟨s.fr,setAt s.hp id o⟩={enc s with hp:=(enc s).hp.set id (bV o)}:=by simp[enc,gZ,J_]
theorem vk(s:S):(enc s).hp.length=s.hp.length:=by simp[enc]
theorem Fe{o:Ob}{o':AObj}{x:BV}{v:V}(a:bV o=o')(b:aZ v= .b x)(h:κ (S.putO ⟨s.fr,s.hp++[o]⟩ d v)=some r): ∃s',LeS (({enc s with hp:=(enc s).hp++[o']}:St).putO d (.b x)) (enc s')/\Keeps (jG d) s s'/\κ s'=some r:=by refine⟨_,?_,(Keeps.fr (s':=⟨s.fr,s.hp++[o]⟩) rfl).trans (Keeps.put _ d v),h⟩;rw[kf,Ee,a,b];exact .refl _
theorem zbu{o:Ob}{o':AObj}{x:BV}{v:V}(a:bV o=o')(b:aZ v= .b x)(h:κ (S.putO ⟨s.fr,s.hp++[o]⟩ d v)=some r): ∃s',(({enc s with hp:=(enc s).hp++[o']}:St).putO d (.b x))=enc s'/\Keeps (jG d) s s'/\κ s'=some r:=by refine⟨_,?_,(Keeps.fr (s':=⟨s.fr,s.hp++[o]⟩) rfl).trans (Keeps.put _ d v),h⟩;rw[kf,Ee,a,b]
theorem zer{tid:TypeId}{zero:List V}(b:zero.all V.konst=true)(h:evOp O d (.alloc tid zero) s κ kp=some r):XJ P s (.alloc tid (zero.map I1)) d κ kp r:=by
 simp only[evOp]at h;refine Fe (o:=.box tid zero) ?_ ?_ h;·show AObj.box tid (zero.map aW)=AObj.box tid ((zero.map I1).map λv=>bJ v);rw[D_];congr 1;exact K_ λv a=>(Fb (f_.1 b v a)).symm
 ·rw[vk];rfl
theorem zhC{tid:TypeId}{x:X}(e:x.wf=true)(h:evOp O d (.box tid x) s κ kp=some r):XJ P s (.box tid x.er) d κ kp r:=by
 simp only[evOp]at h;split at h
 ·rename_i v f;obtain⟨a,b⟩:=aV h;obtain⟨c,g⟩:=BZ a;refine⟨_,aJ e f,c,Fe (o:=.box tid (dw v)) ?_ ?_ b⟩;·show AObj.box tid _=_;grind
  ·rw[vk];rfl
 grind
theorem zcD{tid:TypeId}{t:Ty}{len:Nat}{parts:List X}(g:parts.all X.wf=true)(h:evOp O d (.bslice true tid t len parts) s κ kp=some r):XJ P s (.bslice true tid t.sz len (parts.map X.er)) d κ kp r:=by
 simp only[evOp]at h;obtain⟨a,b⟩:=aV h;simp only[a_]at a;obtain⟨xs,c,e,f⟩:=ue parts _ g b;refine⟨_,c,?_,c_ a.1.2,c_ a.2,oQ xs,Fe (o:=.vec tid t xs) rfl ?_ f⟩;·rw[o_,e];exact b_ a.1.1
 ·rw[vk];rfl
theorem zcF{tid:TypeId}{t:Ty}{bytes:Nat}{l c:X}(b:l.wf=true/\c.wf=true/\t≠.rx)(h:evOp O d (.mslice tid t bytes l c) s κ kp=some r):XJ P s (.mslice tid t.sz bytes (wh t) l.er c.er) d κ kp r:=by
 simp only[evOp]at h;obtain⟨e,f⟩:=aV h;obtain⟨v,l',hl,g⟩:=iQ f;obtain⟨w,u,hc,j⟩:=iQ g;obtain⟨a,k⟩:=bH j;simp only[a_,decide_eq_true_eq]at a;obtain⟨n,p⟩:=XH t b.2.2;refine⟨_,aJ b.1 hl,_,aJ b.2.1 hc,_,rfl,_,rfl,_,_,rfl,_,_,rfl,a.1.1.1,a.1.1.2,a.1.2,a.2,p,c_ e,_,n,Hb t _,Fe (o:=.vec tid t (I_ l'.toNat t.zero)) ?_ ?_ k⟩;·show AObj.vec tid t.sz _=_;simp
 ·rw[vk];rfl
theorem Z2{tid:TypeId}{k:Av.K}{u:Ty}{bytes:Nat}{l c:X}(b:l.wf=true/\c.wf=true)(h:evOp O d (.msliceT tid k u bytes l c) s κ kp=some r):XJ P s (.msliceT k tid 1 bytes (.slice none 0 0) l.er c.er) d κ kp r:=by
 simp only[evOp]at h;obtain⟨e,f⟩:=aV h;obtain⟨v,l',hl,g⟩:=iQ f;obtain⟨w,p,hc,j⟩:=iQ g;obtain⟨a,n⟩:=bH j;simp only[a_,decide_eq_true_eq]at a;have hn:k.nilsB nilP.cells=true:=by simp only[Av.K.nilsB,nilP,PV.cells,ah_,List.length_nil,f_,G_];grind
 refine⟨_,aJ b.1 hl,_,aJ b.2 hc,_,rfl,_,rfl,_,_,rfl,_,_,rfl,a.1.1.1,a.1.1.2,a.1.2,a.2,rfl,Nat.one_pos,nilP,rfl,rfl,hn,Fe (o:=.tree tid k (.list u) (I_ l'.toNat []) none) ?_ ?_ n⟩
 ·show AObj.tree tid 1 k _ none=_;rw[List.map_replicate];have:k.unnil nilP= .list 0 []:=by simp[Av.K.unnil,nilP,e]
  rw[this];rfl
 ·rw[vk];rfl
theorem zaE{k:Av.K}{t:Ty}{y:t.den}(h:zhE k (jV t y)=true):k.unnil (Ed k t y)=aM t y:=by
 have key:∀(j:Nat) (p:PV),(aM t y).cells[j]? =some p->(k.at j).isSome=true->p= .list 0 []:=by
  intro j p hp a;obtain⟨w,g⟩:=eG t y;have d:j<(jV t y).length:=by rw[g,<-aO t y];grind
  simp only[zhE,f_,G_]at h;have b:=h j d;obtain⟨q,s⟩:=ae_.1 a;rw[s]at b;simp only[aH_,g_ d,ax_]at b;have c:((jV t y).map aW)[j]? =some (.pv p):=by grind
  rw[l_,g_ d]at c;split at b
  ·rename_i u l v;rw[v]at c;have hl:l=[]:=by simpa using b
   subst hl;have n:=al_ c;have r:(BV.pv (aM (.list u) []))= .pv p:=n;cases r;rfl
  ·cases b
 unfold Ed;cases e:aM t y with
 |agg cs=>
  simp only[Av.K.unnil,PV.agg.injEq];apply Y_;intro j;simp only[am_];cases hc:cs[j]? with
  |none=>rfl|some p=>
   simp only[S_];cases a:(k.at j).isSome;·rfl
   ·rw[key j p (by rw[e];exact hc) a];rfl
 |_=>
  have f:=key 0 _ (by rw[e];rfl);simp only[];cases a:(k.at 0).isSome;·simp[Av.K.unnil,a]
  ·simp only[if_true,Av.K.unnil,nilP,a];exact(f a).symm
theorem zcA(k:Av.K)(t:Ty)(y:t.den):k.nilsB (Ed k t y).cells=true:=by
 simp only[Av.K.nilsB,f_,G_];intro j a;split;·rename_i q b;rw[NA]at a⊢;simp only[List.length_mapIdx]at a;simp only[aH_,am_,g_ a,S_,ax_,b,Option.isSome_some,if_true,nilP]
 simp
theorem zbt{tid:TypeId}{k:Av.K}{t:Ty}{bytes:Nat}{x y:X}(l:x.wf=true/\y.wf=true)(h:evOp O d (.appT tid k t bytes x y) s κ kp=some r):Ox P s (.appT k tid t.sz bytes x.er y.er) d κ kp r:=by
 simp only[evOp]at h;split at h
 ·rename_i k' u D E;obtain⟨hk,n⟩:=aV h;clear h;have w:k=k':=by grind
  subst w;split at n
  ·rename_i ys hc;obtain⟨F,H⟩:=bT hc;have I:=Ty.list.inj F;subst I;have J:ys=D:=H;subst J;obtain⟨a,c⟩:=aV n;clear n;simp only[f_]at a;have f:∀p∈ys.map (Ed k u),p.ok=true/\k.nilsB p.cells=true:=λp hp=>⟨(Rt ys p hp).2,by obtain⟨z,_,rfl⟩:=Q_.1 hp;exact zcA k u z⟩
   have g:(ys.map (Ed k u)).map k.unnil=ys.map (aM u):=by rw[D_];exact K_ λz B=>zaE (a z B)
   split at c
   ·rename_i id A;split at c
    ·rename_i e k2 b C ho;split at c
     ·rename_i xs B;obtain⟨L,M⟩:=bT B;have N:=Ty.list.inj L;subst N;have Q:xs=C:=M;subst Q;obtain⟨j,R⟩:=aV c;simp only[a_,decide_eq_true_eq]at j;obtain⟨j,rfl⟩:=j;obtain⟨g3,T⟩:=bH R;have U:=b_ j;subst U;refine⟨_,aJ l.1 A,_,aJ l.2 E,.inr (.inl ⟨ys.map (Ed k b),rfl,f,.inl ⟨id,rfl,_,by rw[bR,ho];rfl,_,rfl,by grind,_,?_,(Keeps.map (jG d) s (s.moved id (.tree e k b (xs++ys) none)) (V.kill1 id) (λv hv=>by cases v<;>first|rfl|cases hv) rfl).trans (Keeps.put _ d _),T⟩⟩)⟩
      rw[kf,J4,g];have:bV (.tree e k b (xs++ys) none)= .tree e b.sz k (xs.map (aM b)++ys.map (aM b)) none:=by show AObj.tree e b.sz k ((xs++ys).map (aM b)) none=_;simp
      rw[this];rfl
     grind
    grind
   ·rename_i v A;obtain⟨h3,Y⟩:=bH c;refine⟨_,aJ l.1 A,_,aJ l.2 E,.inr (.inl ⟨ys.map (Ed k u),rfl,f,.inr ⟨rfl,by grind,zbu (o:=.tree tid k u ys none) ?_ ?_ Y⟩⟩)⟩;·rw[g];rfl
    ·rw[vk];rfl
   grind
  grind
 grind
theorem zeu{k e:TypeId}{a b:Ty}(h:evOp O d (.mkmap k e a b) s κ kp=some r):XJ P s (.mkmap k e) d κ kp r:=by simp only[evOp]at h;refine Fe (o:=.map k e a b []) rfl ?_ h;rw[vk];rfl
theorem RU{tid:TypeId}{t:Ty}{bytes:Nat}{x y:X}(f:x.wf=true/\y.wf=true)(h:evOp O d (.append tid t bytes x y) s κ kp=some r):Ox P s (.append tid t.sz bytes x.er y.er) d κ kp r:=by
 simp only[evOp]at h;obtain⟨M,ys,k,c,j⟩:=rF h;have a:∀v:V,s.get x=some v->aZ v= .b .nils\/aZ v= .b (.full (.list 0 []))->aG (decide (ys.length*bytes<=140737488355328)) (κ (S.putO ⟨s.fr,s.hp++[.vec tid t ys]⟩ d (.sl s.hp.length)))=some r->Ox P s (.append tid t.sz bytes x.er y.er) d κ kp r:=by intro v b g F;obtain⟨L,E⟩:=bH F;refine⟨_,aJ f.1 b,_,aJ f.2 k,j _ ⟨λp hp=>(oQ ys p hp).2,.inr ⟨g,by grind,zbu (o:=.vec tid t ys) rfl ?_ E⟩⟩⟩;rw[vk];rfl
 split at c
 ·rename_i id b;split at c
  ·rename_i e u xs H;split at c
   ·rename_i zs I;obtain⟨l,n⟩:=bT I;have w:=Ty.list.inj l;subst w;have z:zs=xs:=n;subst z;obtain⟨A,B⟩:=aV c;obtain⟨J,C⟩:=bH B;have D:=b_ A;subst D;refine⟨_,aJ f.1 b,_,aJ f.2 k,j _ ⟨λp hp=>(oQ ys p hp).2,.inl ⟨id,rfl,_,by rw[bR,H];rfl,_,rfl,by grind,_,?_,(Keeps.map (jG d) s (s.moved id (.vec e u (zs++ys))) (V.kill1 id) (λv g=>by cases v<;>first|rfl|cases g) rfl).trans (Keeps.put _ d _),C⟩⟩⟩
    rw[kf,J4];have:bV (.vec e u (zs++ys))= .vec e u.sz (zs.map (aM u)++ys.map (aM u)):=by show AObj.vec e u.sz ((zs++ys).map (aM u))=_;simp
    rw[this];rfl
   grind
  grind
 ·rename_i u b;exact a _ b (.inl rfl) c
 ·rename_i u b;exact a _ b (.inr rfl) c
 grind
theorem zcC{tid:TypeId}{t:Ty}{bytes:Nat}{x y:X}(a:x.wf=true/\y.wf=true)(h:evOp O d (.append tid t bytes x y) s κ kp=some r):XJ P s (.append tid t.sz bytes x.er y.er) d κ kp r:=(RU a h).ob
theorem zgr{tid:TypeId}{t:Ty}{x y:X}(g:x.wf=true/\y.wf=true)(h:evOp O d (.copy tid t x y) s κ kp=some r):XJ P s (.copy tid t.sz x.er y.er) d κ kp r:=by
 simp only[evOp]at h;split at h
 ·rename_i id v H I;obtain⟨C,D⟩:=aV h;obtain⟨M,ys,c,b,E⟩:=rF D;cases c;split at b
  ·rename_i e u xs F;split at b
   ·rename_i zs J;obtain⟨k,l⟩:=bT J;have n:=Ty.list.inj k;subst n;have w:zs=xs:=l;subst w;obtain⟨z,A⟩:=aV b;have B:=b_ z;subst B;refine⟨_,aJ g.1 H,_,aJ g.2 I,E _ ⟨λp hp=>(oQ ys p hp).2,id,rfl,λa=>?_,_,by rw[bR,F];rfl,_,rfl,_,?_,(Keeps.fr (s':=⟨s.fr,setAt s.hp id (.vec e u (ys.take zs.length++zs.drop ys.length))⟩) rfl).trans (Keeps.put _ d _),A⟩⟩
    ·cases f:v.isA
     ·rw[sB f]at a;cases v<;>simp only[aZ,aW]at a<;>first|grind|skip
      ·rename_i j;cases a;simp[T_]at C
      ·rename_i L;unfold bJ at a;grind
     ·cases v<;>first|(cases f;done)|cases a
    ·rw[kf,kO];have:bV (.vec e u (ys.take zs.length++zs.drop ys.length))= .vec e u.sz ((ys.map (aM u)).take (zs.map (aM u)).length++(zs.map (aM u)).drop (ys.map (aM u)).length):=by show AObj.vec e u.sz _=_;simp
     rw[this,o_,o_];exact .refl _
   grind
  grind
 grind
theorem zev{x:X}(a:x.wf=true)(h:evOp O d (.panic x) s κ kp=some r):XJ P s (.panic x.er) d κ kp r:=by
 simp only[evOp]at h;split at h;·rename_i b;exact⟨_,aJ a b,rfl,s,rfl,Keeps.refl _ _,h⟩
 grind
theorem WC(hO:OracleOk P O){pan bor:Bool}{B:List Nat}{f:FuncId}{args:List (Arg×X)}{sh:Sh}(b:nS args=true/\sh.wfB=true)(h:evOp O d (.callA pan bor B f args sh) s κ kp=some r): Ox P s (.callA bor B (f%10000) (args.map λa=>a.2.er)) d κ kp r:=by
 simp only[evOp]at h;split at h;·rename_i ars g;obtain⟨os,_,c,e,j⟩:=Ig hO b.2 h;refine⟨_,Ba args ars b.1 g e,_,c,?_⟩;omega
 grind
theorem zes(hO:OracleOk P O){pan bor:Bool}{B:List Nat}{f:FuncId}{args:List (Arg×X)}{sh:Sh}(b:nS args=true/\sh.wfB=true)(h:evOp O d (.callA pan bor B f args sh) s κ kp=some r): XJ P s (.callA bor B (f%10000) (args.map λa=>a.2.er)) d κ kp r:=(WC hO b h).ob
theorem WE(hO:OracleOk P O){pan bor:Bool}{B:List Nat}{num:Nat}{x:X}{args:List (Arg×X)}{sh:Sh}(n:x.wf=true/\nS args=true/\fU P (num%10000)=true/\sh.wfB=true)(h:evOp O d (.callv pan bor B num x args sh) s κ kp=some r): Ox P s (.callv bor B x.er (args.map λa=>a.2.er)) d κ kp r:=by
 have e:∀(f:FuncId) (ars caps:List V),j_ (num%10000) f=true->yI s bor B args=some ars->G3 pan O s d bor B num (ars++caps) sh κ kp=some r->fU P f=true/\aU ((args.map λa=>a.2.er).mapM λx=>((enc s).get x).bind (wE (enc s).hp bor B)) λy=>aU (B.mapM ((enc s).hp[·]?)) λos=>sexec.callK P (enc s) d bor B f (y++caps.map aZ) os (λb=>∃s',b=enc s'/\Keeps (jG d) s s'/\κ s'=some r) (λb=>∃s',b=enc s'/\Keeps (jG d) s s'/\kp s'=some r):=by
  intro f ars caps z l hc
  have u:=b_ z
  subst u
  obtain⟨os,_,j,k,A⟩:=Ig hO n.2.2.2 hc
  refine⟨n.2.2.1,_,Ba args ars n.2.1 l λv C=>k v (by grind),_,j,?_⟩
  grind
 simp only[evOp]at h;split at h;·rename_i f ids ars w l;obtain⟨j,k⟩:=aV h;obtain⟨p,g⟩:=e f ars _ j l k;refine⟨_,aJ n.1 w,f,_,.inl ⟨ids,rfl,rfl⟩,p,?_⟩;rw[D_]at g;exact g
 ·rename_i f cs ars w l;obtain⟨j,k⟩:=aV h;obtain⟨p,g⟩:=e f ars _ j l k;refine⟨_,aJ n.1 w,f,_,.inr ⟨cs.map λc=>PV.pto (aM c.1 c.2),rfl,rfl⟩,p,?_⟩;rw[D_]at g⊢;exact g
 grind
theorem zet(hO:OracleOk P O){pan bor:Bool}{B:List Nat}{num:Nat}{x:X}{args:List (Arg×X)}{sh:Sh}(b:x.wf=true/\nS args=true/\fU P (num%10000)=true/\sh.wfB=true)(h:evOp O d (.callv pan bor B num x args sh) s κ kp=some r): XJ P s (.callv bor B x.er (args.map λa=>a.2.er)) d κ kp r:=(WE hO b h).ob
theorem zcK:∀(t:Ty) (x:t.den),t.eqOk=true->(aM t x).plain=true:=by
 have hc:∀(t:Ty) (x:t.den),t.eqOk=true->(aP t x).all (λx=>match x with
  | .sc (.int _ _)=>true
  | .sc (.bool _)=>true
  | .sc (.string _)=>true
  |_=>false)=true:=by
  intro t
  induction t with|pair a b c d=>intro x h;simp only[Ty.eqOk,a_]at h;have e:aP (.pair a b) x=aP a x.1++aP b x.2:=rfl;grind|int k=>intro x _;rfl|bool=>intro x _;rfl|str=>intro x _;rfl|unit=>intro x _;rfl|list t _=>intro x h;cases h|rx=>intro x h;cases h
 intro t x h;cases t with|pair a b=>exact hc (.pair a b) x h|int k=>rfl|bool=>rfl|str=>rfl|unit=>rfl|list t=>cases h|rx=>cases h
theorem RD{a b:Ty}(y:a.den)(z:b.den):∀(kvs:List (a.den×b.den)),(jU a b kvs y=none->oU a b kvs y z=kvs++[(y,z)])/\
 (∀j d v,kvs[j]? =some (d,v)->nH a y d=true->(∀i' g,i'<j->kvs[i']? =some g->nH a y g.1=false)->oU a b kvs y z=kvs.set j (y,z))
 |[]=>⟨λ_=>rfl,λj d v h=>by grind⟩
 |(k,v)::l=>by
  obtain⟨n,r⟩:=RD y z l;refine⟨λh=>?_,λj d s f p e=>?_⟩
  ·simp only[jU]at h;cases c:nH a y k;·rw[c]at h;simp only[oU,c,cond_false,n h,List.cons_append]
   grind
  ·cases j with
   |zero=>simp at f;obtain⟨rfl,rfl⟩:=f;simp[oU,p]
   |succ j=>have c:=e 0 (k,v) (by simp) rfl;simp only[oU,c,cond_false,List.set_cons_succ];grind
theorem zcE{k e:TypeId}{a b:Ty}{m x v:X}(n:m.wf=true/\x.wf=true/\v.wf=true/\He P 64 k a=true)(h:evOp O d (.mapset k e a b m x v) s κ kp=some r):XJ P s (.mapset k e m.er x.er v.er) d κ kp r:=by
 simp only[evOp]at h;split at h
 ·rename_i id u w hm hx hv;split at h
  ·rename_i k' e' f g kvs y z ho hy hz;split at h
   ·rename_i c E;obtain⟨B,h2⟩:=aV h;simp only[a_]at B;have L:=b_ B.1.1.1;have M:=b_ B.1.1.2;have C:=B.1.2;obtain⟨N,Q⟩:=bT E;have R:=Ty.list.inj N;injection R with T U;clear h B;subst L;subst M;subst T;subst U;have Y:c=kvs:=Q;subst Y;obtain⟨_,h3⟩:=bH h2;obtain⟨g1,g2⟩:=NH (P:=P) (b:=g) n.2.2.2 y c 0;obtain⟨q1,q2⟩:=RD y z c;have A:∀l:List (PV×PV),(oU f g c y z).map (λp=>(aM f p.1,aM g p.2))=l->∃s',LeS {enc s with hp:=(enc s).hp.set id (.map k e l)} (enc s')/\Keeps (jG none) s s'/\κ s'=some r:=by rintro l rfl;refine⟨⟨s.fr,setAt s.hp id (.map k e f g (oU f g c y z))⟩,?_,Keeps.fr rfl,h3⟩;rw[kO];exact .refl _
    refine⟨_,aJ n.1 hm,_,aJ n.2.1 hx,_,aJ n.2.2.1 hv,id,_,rfl,by rw[bR,ho];rfl,_,fV hy,_,fV hz,rfl,zcK f y C,(Ti P 64 k f n.2.2.2 y y).2,Wa n.2.2.2,g1,?_⟩;rcases g2 with⟨g3,D⟩|⟨j,u',F,g3,D,H,g7,I⟩;·refine⟨_,D,λi u J=>(by grind),A _ ?_⟩;grind
    ·have hk:=Tc f y F C H;subst hk;rw[aJ_]at I;refine⟨_,I,λi u J=>?_,A _ ?_⟩;·cases J;exact⟨aM g u',by grind⟩
     ·rw[q2 j _ _ D H g7,J_]
   grind
  grind
 grind
end
theorem uw{α:Type}(xs ys:List α)(h:xs.length=ys.length):splice xs 0 ys=ys:=by simp[splice,<-h]
theorem lu:∀(u:Ty) (off:Nat) (t:Ty) (x:u.den) (y:t.den) (z:u.den),rO u off t x y=some z->off+t.sz<=u.sz/\aP u z=splice (aP u x) off (aP t y)/\(u.ag=false->t=u)
 | .pair a b,off,t,x,y,z,h=>by
  have n:=aO a x.1
  have w:=aO b x.2
  have B:=aO t y
  have hc:∀x:(Ty.pair a b).den,aP (.pair a b) x=aP a x.1++aP b x.2:=λ_=>rfl
  unfold rO at h
  cases d:(decide (Ty.pair a b=t)&&j_ off 0)
  ·rw[d]at h
   simp only[cond_false]at h
   cases e:aa_ (off+1) a.sz
   ·rw[e]at h
    simp only[cond_false]at h
    have v:a.sz<=off:=by
     have:=Nat.not_le_of_not_ble_eq_true (by rw[e];simp)
     omega
    split at h
    ·rename_i D j
     cases h
     obtain⟨s,p,_⟩:=lu b (off - a.sz) t x.2 y D j
     refine⟨by simp only[Ty.sz];omega,?_,λh=>by cases h⟩
     rw[hc,hc,p]
     simp only[splice]
     rw[aw_,ak_ (l:=aP a x.1) (by omega),n,ar_,aj_ (show(aP a x.1).length<=off+(aP t y).length by omega),n]
     grind
    grind
   ·rw[e]at h
    simp only[cond_true]at h
    have A:=c_ e
    split at h
    ·rename_i C f
     cases h
     obtain⟨s,p,_⟩:=lu a off t x.1 y C f
     refine⟨by simp only[Ty.sz];omega,?_,λh=>by cases h⟩
     rw[hc,hc,p]
     simp only[splice]
     grind
    grind
  ·rw[d]at h
   simp only[cond_true]at h
   simp only[a_,decide_eq_true_eq]at d
   have g:off=0:=b_ d.2
   subst g
   obtain⟨r,rfl⟩:=bO h
   refine⟨by simp,?_,λh=>by rfl⟩
   rw[uw _ _ (by rw[aO,aO])]
   grind
 | .rx,off,t,x,y,z,h=>by
  unfold rO at h
  obtain⟨f,j⟩:=aV h
  simp only[a_,decide_eq_true_eq]at f
  have g:off=0:=b_ f.1
  subst g
  obtain⟨r,rfl⟩:=bO j
  refine⟨by simp,?_,λ_=>rfl⟩
  rw[uw _ _ (by rw[aO,aO])]
  grind
 | .int k,off,t,x,y,z,h=>c (.int k) off t x y z h
 | .bool,off,t,x,y,z,h=>c .bool off t x y z h
 | .str,off,t,x,y,z,h=>c .str off t x y z h
 | .list a,off,t,x,y,z,h=>c (.list a) off t x y z h
 | .unit,off,t,x,y,z,h=>c .unit off t x y z h
where
 c (u:Ty) (off:Nat) (t:Ty) (x:u.den) (y:t.den) (z:u.den) (h:(bif j_ off 0 then cg t u y else none)=some z):off+t.sz<=u.sz/\aP u z=splice (aP u x) off (aP t y)/\(u.ag=false->t=u):=by
  obtain⟨f,j⟩:=aV h
  have g:off=0:=b_ f
  subst g
  obtain⟨r,rfl⟩:=bO j
  refine⟨by simp,?_,λ_=>rfl⟩
  rw[uw _ _ (by rw[aO,aO])]
  grind
theorem IG{t:Ty}{x y:t.den}(h:aP t x=aP t y):aM t x=aM t y:=by
 cases a:t.ag;·rw[fe x a,fe y a]at h;grind
 ·rw[fW x a,fW y a,h]
theorem YO{t:Ty}{v:V}{x:t.den}(h:d6 t v=some x):(aZ v).cells.length=t.sz/\∀(i:Nat) (a b:BV),(aZ v).cells[i]? =some a->((aP t x).map BV.pv)[i]? =some b->LeB a b:=by
 have hd:=fV h
 have one:∀(z:BV),(∀p,z≠.pv p)->z.toPV=some (aM t x)->t.ag=false->([z]:List BV).length=t.sz/\∀(i:Nat) (a b:BV),([z]:List BV)[i]? =some a->((aP t x).map BV.pv)[i]? =some b->LeB a b:=by
  intro z _ A w
  refine⟨by rw[jf w];rfl,λi a b g f=>?_⟩
  rw[fe x w]at f
  cases i with
  |zero=>simp at g f;subst g;subst f;exact .data _ _ A
  |succ i=>grind
 cases v with
 |d u y=>
  obtain⟨n,rfl⟩:=bO (show cg u t y=some x from h)
  refine⟨?_,λi a b g f=>?_⟩
  ·show((aP u y).map BV.pv).length=_
   rw[o_,aO]
  ·have c:((aP u y).map BV.pv)[i]? =some a:=g
   have:aP u y=aP u x:=by grind
   rw[this,f]at c
   cases c
   exact .refl _
 |agg vs=>
  have k:((vs.map aW).mapM BV.toPV).map PV.agg=some (aM t x):=hd
  obtain⟨cs,r,s⟩:=e_.1 k
  have j:t.ag=true:=by rw[<-tE t x,<-s];rfl
  have hcs:cs=aP t x:=by rw[fW x j]at s;grind
  subst hcs
  have hl:=mapM_len r
  refine⟨by show(vs.map aW).length=_;rw[<-hl,aO],λi a b g f=>?_⟩
  have c:(vs.map aW)[i]? =some a:=g
  rw[l_]at f
  obtain⟨p,hp,rfl⟩:=e_.1 f
  exact .data _ _ (IS r c hp)
 |nil u=>
  obtain⟨n,rfl⟩:=bO (show cg (.list u) t []=some x from h)
  exact one .nils (λp e=>by grind) hd rfl
 |full u y=>
  obtain⟨n,rfl⟩:=bO (show cg (.list u) t y=some x from h)
  exact one (.full _) (λp e=>by grind) hd rfl
 |_=>simp[d6,mP]at h
where
 IS {l:List BV} {m:List PV} (h:l.mapM BV.toPV=some m) {i:Nat} {a:BV} {p:PV} (g:l[i]? =some a) (hp:m[i]? =some p):a.toPV=some p:=by
  induction l generalizing m i with
  |nil=>grind
  |cons x l B=>
   simp only[z_,x_,E_,k_,h_]at h
   grind
theorem zcv{l:List BV}{m:List PV}(h:l.mapM BV.toPV=some m){i:Nat}{a:BV}{p:PV}(b:l[i]? =some a)(hp:m[i]? =some p):a.toPV=some p:=by induction l generalizing m i with|nil=>grind|cons x l c=>simp only[z_,x_,E_,k_,h_]at h;grind
def LeL(xs ys:List BV):Prop:=xs.length=ys.length/\∀(i:Nat) (a b:BV),xs[i]? =some a->ys[i]? =some b->LeB a b
theorem LeL.refl(xs:List BV):LeL xs xs:=⟨rfl,λi a b E z=>by rw[E]at z;cases z;exact .refl _⟩
theorem LeL.append{a b c e:List BV}(h:LeL a b)(k:LeL c e):LeL (a++c) (b++e):=by
 refine⟨by simp[h.1,k.1],λi x y z E=>?_⟩;rcases Nat.lt_or_ge i a.length with H|H;·rw[t_ H]at z;rw[t_ (by rw[<-h.1];omega)]at E;exact h.2 i x y z E
 ·rw[V_ H]at z;rw[V_ (by rw[<-h.1];omega),<-h.1]at E;exact k.2 _ x y z E
theorem zdC{t:Ty}{l:List V}{x:t.den}{m:List V}(h:asm t l=some (x,m)):∃c,l=c++m/\c.length=t.sz/\LeL (c.map aW) ((jV t x).map aW):=by obtain⟨c,f,d⟩:=EU t l x m h;have hl:=mapM_len d;rw[o_,aO]at hl;refine⟨c,f,hl.symm,by rw[(eG t x).1,o_,o_,aO,<-hl],λi a b g e=>?_⟩;rw[(eG t x).1,l_]at e;obtain⟨p,hp,rfl⟩:=e_.1 e;exact .data _ _ (zcv d g hp)
theorem Om{t:Ty}{y:t.den}:∀(n:Nat) (vs:List V) (m:Int) (r:List V),(m<0\/(n:Int)<=m)->Hr t y n vs m=some r->LeL (vs.map aW) (r.map aW)
 |0,vs,m,r,_,h=>by simp only[Hr,h_]at h;subst h;exact .refl _
 |n+1,vs,m,r,e,h=>by
  simp only[Hr]at h;split at h
  ·rename_i x l b;split at h;·rename_i c hr;cases h;obtain⟨f,rfl,d,a⟩:=zdC b;rw[decide_eq_false (by omega:¬m=0)];simp only[cond_false,w_];exact a.append (Om n l (m - 1) c (by omega) hr)
   grind
  grind
theorem R8{t:Ty}{y:t.den}{cs:List BV}(hcs:LeL cs ((jV t y).map aW)):∀(n:Nat) (vs:List V) (j:Nat) (r:List V),j<n->Hr t y n vs (j:Int)=some r->
 j*t.sz+t.sz<=vs.length/\LeL (splice (vs.map aW) (j*t.sz) cs) (r.map aW)
 |0,_,_,_,d,_=>absurd d (by simp)
 |n+1,vs,j,r,d,h=>by
  have p:cs.length=t.sz:=by rw[hcs.1,o_,(eG t y).2]
  simp only[Hr]at h;split at h
  ·rename_i x l s;split at h
   ·rename_i f hr;cases h;obtain⟨a,rfl,u,g⟩:=zdC s;cases j with
    |zero=>
     refine⟨by grind,?_⟩;have e:(decide (((0:Nat):Int)=0))=true:=rfl;rw[e];simp only[cond_true,w_];have:=Om n l _ f (.inl (by simp)) hr;have c:splice (a.map aW++l.map aW) (0*t.sz) cs=cs++l.map aW:=by simp only[splice,Nat.zero_mul,aF_,List.nil_append,aJ_];grind
     rw[c];exact hcs.append this
    |succ j=>
     have e:(decide (((j+1:Nat):Int)=0))=false:=decide_eq_false (by omega);rw[e];rw[show(((j+1:Nat):Int) - 1)=(j:Int) by simp]at hr;obtain⟨v,k⟩:=R8 hcs n l j f (by omega) hr;refine⟨by grind,?_⟩;simp only[cond_false,w_];have b:(a.map aW).length=t.sz:=by grind
     have c:splice (a.map aW++l.map aW) ((j+1)*t.sz) cs=a.map aW++splice (l.map aW) (j*t.sz) cs:=by simp only[splice,Nat.succ_mul];rw[aw_,ak_ (l:=a.map aW) (by omega),b,ar_,aj_ (show(a.map aW).length<=j*t.sz+t.sz+cs.length by omega),b];grind
     rw[c];exact g.append k
   grind
  grind
theorem zcZ{α:Type}(cs:List α)(off n k:Nat)(ys:List α)(h:off+n<=cs.length)(a:k+ys.length<=n):splice cs (off+k) ys=splice cs off (splice ((cs.drop off).take n) k ys):=by
 have hl:(((cs.drop off).take n).take k++ys++((cs.drop off).take n).drop (k+ys.length)).length=n:=by grind
 simp only[splice];rw[hl,List.take_take,Nat.min_eq_left (show k<=n by omega),List.drop_take,aE_,List.take_add];simp only[O_];congr 3;rw[show off+k+ys.length=off+(k+ys.length) by omega];conv=>lhs;rw[<-List.take_append_drop (n - (k+ys.length)) (cs.drop (off+(k+ys.length)))];rw[aE_,show off+(k+ys.length)+(n - (k+ys.length))=off+n by omega]
section
variable {R:Type} {P:Program} {O:ak} {d:Option Nat} {s:S} {κ kp:S->Option R} {r:R}
theorem zgj{a:St}{id:Nat}{o o':AObj}(h:LeO o o'):LeS {a with hp:=a.hp.set id o} {a with hp:=a.hp.set id o'}:=by
 refine⟨λ_ y e=>⟨y,e,.refl y⟩,by simp,λi x y b c=>?_⟩;simp only[aq_]at b c;split at b;·grind
 ·rename_i d;rw[if_neg d,b]at c;cases c;exact .refl _
theorem zew{t:Ty}{x v:X}(B:x.wf=true/\v.wf=true)(h:evOp O d (.store t x v) s κ kp=some r):XJ P s (.store t.sz x.er v.er) d κ kp r:=by
 simp only[evOp]at h;cases d with
 |some _=>grind|none=>
  simp only at h;unfold storeT at h;split at h
  ·rename_i id off C F E;split at h
   ·rename_i tid cs D;obtain⟨c,l⟩:=aV h;simp only[a_]at c;obtain⟨g,I⟩:=BZ c.2;have h5:=b_ c.1.1;have h6:=c_ c.1.2;refine⟨_,aJ B.1 F,_,aJ B.2 E,rfl,_,by rw[bR,D];rfl,tid,_,rfl,by grind,by grind,g,⟨s.fr,setAt s.hp id (.box tid (nC cs off (dw C)))⟩,?_,Keeps.fr rfl,l⟩;rw[kO];have:bV (.box tid (nC cs off (dw C)))= .box tid (splice (cs.map aW) off (aZ C).cells):=by show AObj.box tid _=_;rw[yr,I]
    rw[this];exact .refl _
   grind
  ·rename_i id off n u m C F E;split at h
   ·rename_i tid cs y D H;obtain⟨c,l⟩:=aV h;simp only[a_,decide_eq_true_eq]at c;obtain⟨⟨c,rfl⟩,hsz⟩:=c;have h6:=c_ c;split at l
    ·rename_i vs el;obtain⟨g,I⟩:=bH l;simp only[a_,decide_eq_true_eq]at g;obtain⟨j,rfl⟩:=af_ g.1;have R:j<n:=by omega
     obtain⟨d1,d2⟩:=YO H;have U:=zaZ H;have T:=BZ U;have hcs:LeL (aZ C).cells ((jV u y).map aW):=⟨by rw[d1,o_,(eG u y).2],λi a b ha hb=>d2 i a b ha (by rw[<-(eG u y).1];omega)⟩;obtain⟨r1,r2⟩:=R8 hcs n _ j vs R el;have gc:j*u.sz+u.sz<=n*u.sz:=by grind
     refine⟨_,aJ B.1 F,_,aJ B.2 E,rfl,_,by rw[bR,D];rfl,tid,_,rfl,d1,?_,T.1,⟨s.fr,setAt s.hp id (.box tid (nC cs off vs))⟩,?_,Keeps.fr rfl,I⟩;·grind
     ·rw[kO];refine zgj ?_;have N:splice (cs.map aW) (off+(j:Int).toNat*u.sz) (aZ C).cells=splice (cs.map aW) off (splice (((cs.drop off).take (n*u.sz)).map aW) (j*u.sz) (aZ C).cells):=by rw[Int.toNat_natCast,ad_,aG_];exact zcZ _ off (n*u.sz) _ _ (by grind) (by omega)
      show LeO (AObj.box tid (splice (cs.map aW) (off+(j:Int).toNat*u.sz) (aZ C).cells)) (AObj.box tid ((nC cs off vs).map aW));rw[N,yr];have key:LeL (splice (cs.map aW) off (splice (((cs.drop off).take (n*u.sz)).map aW) (j*u.sz) (aZ C).cells)) (splice (cs.map aW) off (vs.map aW)):=by unfold splice at r2⊢;rw[r2.1];exact((LeL.refl _).append r2).append (LeL.refl _)
      exact .box tid _ _ key.1 key.2
    grind
   grind
  ·rename_i id i off C F E;split at h
   ·rename_i e u xs y D H;obtain⟨c,l⟩:=aV h;obtain⟨x0,A,g⟩:=cZ l;split at g
    ·rename_i z hz;obtain⟨p1,M,p3⟩:=lu u off t x0 y z hz;have L:=(i_.1 A).1;have f:(xs.map (aM u)).getD i .any=aM u x0:=by grind
     have J:∀p,p=aM u z->∃s',LeS {enc s with hp:=(enc s).hp.set id (.vec e u.sz ((xs.map (aM u)).set i p))} (enc s')/\Keeps (jG none) s s'/\κ s'=some r:=by
      rintro p rfl;refine⟨⟨s.fr,setAt s.hp id (.vec e u (xs.set i z))⟩,?_,Keeps.fr rfl,g⟩;rw[kO];have:bV (.vec e u (xs.set i z))= .vec e u.sz ((xs.map (aM u)).set i (aM u z)):=by show AObj.vec e u.sz _=_;simp
      rw[this];exact .refl _
     refine⟨_,aJ B.1 F,_,aJ B.2 E,rfl,_,by rw[bR,D];rfl,.inl ⟨e,_,_,rfl,by grind,_,fV H,aO t y,Hb t y,?_⟩⟩;by_cases hs:t.sz=u.sz
     ·have Y:u=t:=by
       simp only[s_,decide_eq_true_eq,r_]at c;rcases c with c|c;·omega
       ·rw[hs,T_]at c;grind
      subst Y;have h0:off=0:=by omega
      subst h0;refine .inl ⟨rfl,rfl,J _ (IG ?_)⟩;rw[M,uw _ _ (by rw[aO,aO])]
     ·refine .inr ⟨hs,p1,J _ ?_⟩;have Q:u.ag=true:=by grind
      rw[f,fW z Q,M]
    grind
   ·rename_i e k u xs hole y D H;obtain⟨c,l⟩:=aV h;simp only[a_]at c;obtain⟨x0,A,g⟩:=cZ l;split at g
    ·rename_i z hz;obtain⟨p1,M,p3⟩:=lu u off t x0 y z hz;have L:=(i_.1 A).1;have f:(xs.map (aM u)).getD i .any=aM u x0:=by grind
     refine⟨_,aJ B.1 F,_,aJ B.2 E,rfl,_,by rw[bR,D];rfl,.inr ⟨e,_,k,_,_,rfl,by grind,p1,.inl ⟨c.1,by rw[f,tE];grind,_,fV H,aO t y,Hb t y,⟨s.fr,setAt s.hp id (.tree e k u (xs.set i z) hole)⟩,?_,Keeps.fr rfl,g⟩⟩⟩;rw[kO,f];have:bV (.tree e k u (xs.set i z) hole)= .tree e u.sz k ((xs.map (aM u)).set i (.agg (splice (aM u x0).cells off (aM t y).cells))) (zip hole):=by show AObj.tree e u.sz k _ _=_;rw[J_,fW z c.2,M]
     rw[this];exact .refl _
    grind
   ·rename_i e k u xs hi R w D H;split at h;·rename_i kid;obtain⟨c,l⟩:=aV h;simp only[a_]at c;obtain⟨x0,A,g⟩:=cZ l;obtain⟨I,h5⟩:=bH g;have L:=(i_.1 A).1;have N:=b_ c.1.1;have e2:=b_ c.1.2;have e3:=c_ c.2;have e4:=b_ I;clear h c l g I;subst N;subst e4;refine⟨_,aJ B.1 F,_,aJ B.2 E,rfl,_,by rw[bR,D];rfl,.inr ⟨e,_,k,_,_,rfl,by grind,by omega,.inr ⟨_,_,rfl,e2,rfl,rfl,⟨s.fr,setAt s.hp id (.tree e k u xs (some (hi,R,.sl kid)))⟩,?_,Keeps.fr rfl,h5⟩⟩⟩;rw[kO];exact .refl _
    grind
   grind
  grind
theorem zeE{t:Ty}{x v:X}(B:x.wf=true/\v.wf=true)(hp:zc0 s (.store t x v)=true)(h:evOp O d (.store t x v) s κ kp=some r):Ox P s (.store t.sz x.er v.er) d κ kp r:=by
 simp only[evOp]at h;cases d with
 |some _=>grind|none=>
  simp only at h;unfold storeT at h;split at h
  ·rename_i id off j c A;split at h
   ·rename_i tid cs b;obtain⟨a,C⟩:=aV h;simp only[a_]at a;obtain⟨l,L⟩:=BZ a.2;have R:=b_ a.1.1;have T:=c_ a.1.2;refine⟨_,aJ B.1 c,_,aJ B.2 A,rfl,_,by rw[bR,b];rfl,tid,_,rfl,by grind,by grind,l,⟨s.fr,setAt s.hp id (.box tid (nC cs off (dw j)))⟩,?_,Keeps.fr rfl,C⟩;rw[kO];have:bV (.box tid (nC cs off (dw j)))= .box tid (splice (cs.map aW) off (aZ j).cells):=by show AObj.box tid _=_;rw[yr,L]
    grind
   grind
  ·rename_i id off n u m j c A;simp only[zc0,c]at hp;grind
  ·rename_i id i off j c A;split at h
   ·rename_i e u xs y b H;obtain⟨a,C⟩:=aV h;obtain⟨x0,F,l⟩:=cZ C;split at l
    ·rename_i z N;obtain⟨Q,I,p3⟩:=lu u off t x0 y z N;have M:=(i_.1 F).1;have g:(xs.map (aM u)).getD i .any=aM u x0:=by grind
     have f:∀p,p=aM u z->∃s',{enc s with hp:=(enc s).hp.set id (.vec e u.sz ((xs.map (aM u)).set i p))}=enc s'/\Keeps (jG none) s s'/\κ s'=some r:=by
      rintro p rfl;refine⟨⟨s.fr,setAt s.hp id (.vec e u (xs.set i z))⟩,?_,Keeps.fr rfl,l⟩;rw[kO];have:bV (.vec e u (xs.set i z))= .vec e u.sz ((xs.map (aM u)).set i (aM u z)):=by show AObj.vec e u.sz _=_;simp
      grind
     refine⟨_,aJ B.1 c,_,aJ B.2 A,rfl,_,by rw[bR,b];rfl,.inl ⟨e,_,_,rfl,by grind,_,fV H,aO t y,Hb t y,?_⟩⟩;by_cases hs:t.sz=u.sz
     ·have E:u=t:=by
       simp only[s_,decide_eq_true_eq,r_]at a;rcases a with a|a;·omega
       ·rw[hs,T_]at a;grind
      subst E;have J:off=0:=by omega
      subst J;refine .inl ⟨rfl,rfl,f _ (IG ?_)⟩;rw[I,uw _ _ (by rw[aO,aO])]
     ·refine .inr ⟨hs,Q,f _ ?_⟩;have D:u.ag=true:=by grind
      rw[g,fW z D,I]
    grind
   ·rename_i e k u xs hole y b H;simp only[zc0,c,b]at hp;grind
   ·rename_i e k u xs U Y w b H;simp only[zc0,c,b]at hp;grind
   grind
  grind
theorem zcx{op:TOp}(f:op.wf P=true){g:Ob->(Nat->V)->Option R}(h:evOp.mkT s op g=some r):∃o v,g o v=some r/\Ou (enc s) op.er λob mk=>ob=bV o/\∀n,aZ (v n)= .b (mk n):=by
 unfold evOp.mkT at h;split at h;·rename_i tid zero;refine⟨_,_,h,?_,λn=>rfl⟩;show AObj.box tid ((zero.map I1).map λv=>bJ v)=AObj.box tid (zero.map aW);rw[D_];congr 1;exact K_ λv C=>Fb (f_.1 f v C)
 ·rename_i tid x;split at h;·rename_i v z;obtain⟨d,j⟩:=aV h;obtain⟨A,B⟩:=BZ d;refine⟨_,_,j,_,aJ f z,A,?_,λn=>rfl⟩;show AObj.box tid _=AObj.box tid _;grind
  grind
 ·rename_i tid t len parts;obtain⟨d,j⟩:=aV h;simp only[a_]at d;obtain⟨xs,A,B,w⟩:=ue parts _ f j;refine⟨_,_,w,_,A,?_,c_ d.1.2,c_ d.2,oQ xs,rfl,λn=>rfl⟩;rw[o_,B];exact b_ d.1.1
 ·rename_i tid t bytes l c;simp only[TOp.wf,a_,decide_eq_true_eq,ne_eq]at f;obtain⟨d,j⟩:=aV h;obtain⟨J,M,hl,A⟩:=iQ j;obtain⟨L,N,hc,B⟩:=iQ A;obtain⟨w,D⟩:=bH B;simp only[a_,decide_eq_true_eq]at w;obtain⟨H,I⟩:=XH t f.2;refine⟨_,_,D,_,aJ f.1.1 hl,_,aJ f.1.2 hc,_,rfl,_,rfl,_,_,rfl,_,_,rfl,w.1.1.1,w.1.1.2,w.1.2,w.2,I,c_ d,_,H,Hb t t.zero,?_,λn=>rfl⟩;show AObj.vec tid t.sz _=AObj.vec tid t.sz _;simp
 ·rename_i tid t bytes x y;simp only[TOp.wf,a_]at f;obtain⟨O,ys,F,d,j⟩:=rF h;have key:∀v:V,s.get x=some v->(aZ v= .b .nils\/aZ v= .b (.full (.list 0 [])))->aG (decide (ys.length*bytes<=140737488355328)) (g (.vec tid t ys) .sl)=some r->∃o v,g o v=some r/\Ou (enc s) (TOp.append tid t bytes x y).er λob mk=>ob=bV o/\∀n,aZ (v n)= .b (mk n):=by intro v z C E;obtain⟨A,B⟩:=bH E;exact⟨_,_,B,_,aJ f.1 z,_,aJ f.2 F,j _ ⟨λp hp=>(oQ ys p hp).2,C,by grind,rfl,λn=>rfl⟩⟩
  split at d;·rename_i u z;exact key _ z (.inl rfl) d
  ·rename_i u z;exact key _ z (.inr rfl) d
  grind
 ·rename_i k e a b;exact⟨_,_,h,rfl,λn=>rfl⟩
 grind
theorem zaS{k:Nat}{op:TOp}(g:op.wf P=true)(h:evOp O d (.atq k op) s κ kp=some r): ∃o v,BS P ⟨d,.atq k op.er,none⟩ (enc s) ⟨aZ v,some (k,bV o)⟩/\κ (S.putO ⟨s.fr,setAt s.hp k o⟩ d v)=some r:=by
 simp only[evOp]at h;split at h;·rename_i f;obtain⟨o,v,c,e⟩:=zcx g h;refine⟨o,v k,⟨rfl,op.er,rfl,xt e λob mk ⟨a,b⟩=>⟨a,b k,?_⟩⟩,c⟩;rw[bR,f];rfl
 grind
theorem ziy{k:Nat}{op:TOp}(l:op.wf P=true)(h:evOp O d (.atq k op) s κ kp=some r):Ox P s (.atq k op.er) d κ kp r:=by obtain⟨o,v,f,g⟩:=zaS l h;obtain⟨_,q,e,j⟩:=f;cases e;show Ou (enc s) op.er λob mk=>IX (enc s) (some k)/\∃s',((enc s).new (some k) ob).putO d (.b (mk k))=enc s'/\Keeps (jG d) s s'/\κ s'=some r;refine xt j λob mk ⟨a,b,c⟩=>⟨c,_,?_,(Keeps.fr (s':=⟨s.fr,setAt s.hp k o⟩) rfl).trans (Keeps.put _ d v),g⟩;rw[kf,kO,a,<-b];rfl
theorem NE(hO:OracleOk P O){op:TOp}(g:op.wf P=true)(h:evOp O d op s κ kp=some r):XJ P s op.er d κ kp r:=by
 cases op<;>simp only[TOp.wf,a_,decide_eq_true_eq,ne_eq]at g;case mv x=>exact(zgX g h).ob
 case pick c a b=>exact(zbL ⟨g.1.1,g.1.2,g.2⟩ h).ob
 case bin op x y=>exact(zeI g h).ob
 case eqB neg x y=>exact(zeJ g h).ob
 case eqT neg tid t x y=>exact(zeK ⟨g.1.1,g.1.2,g.2⟩ h).ob
 case un op x=>exact(zgY g h).ob
 case len b x=>exact(zeN g h).ob
 case lenM k e x=>exact(zbG g h).ob
 case idxS x i=>exact(zbE g h).ob
 case idxV n t x i=>exact(zbF g h).ob
 case idxA t x i=>exact(zbC g h).ob
 case idxP n t x i=>exact(zbD g h).ob
 case fldA off t x=>exact(zbB g h).ob
 case fld off t x=>exact(zeM g h).ob
 case load t x=>exact(zbH g h).ob
 case store t x v=>exact zew g h
 case alloc tid zero=>exact zer g h
 case box tid x=>exact zhC g h
 case boxD tid t x=>exact(zby g h).ob
 case build zero parts=>exact(WI g h).ob
 case bslice own tid t len parts=>
  cases own;·exact(R1 g h).ob
  ·exact zcD g h
 case mslice tid t b l c=>exact zcF ⟨g.1.1,g.1.2,g.2⟩ h
 case append tid t b x y=>exact zcC g h
 case cvtI k x=>exact(zbA g h).ob
 case slc full t x lo j mx=>exact(zeO ⟨g.1.1.1,g.1.1.2,g.1.2,g.2⟩ h).ob
 case slcS x lo j=>exact(zbM ⟨g.1.1,g.1.2,g.2⟩ h).ob
 case ext x i=>exact(zeL g h).ob
 case nilc x=>exact(zbK g h).ob
 case call bor f args sh=>exact(zbz hO g h).ob
 case callA pan bor B f args sh=>exact zes hO g h
 case callv pan bor B num x args sh=>exact zet hO ⟨g.1.1.1,g.1.1.2,g.1.2,g.2⟩ h
 case callp bor num x args sh=>exact(WJ hO ⟨g.1.1.1,g.1.1.2,g.1.2,g.2⟩ h).ob
 case b2s x=>exact(zeH g h).ob
 case mkfn f caps=>exact(zbI g h).ob
 case mkmap k e a b=>exact zeu h
 case lookup k e ok a b m x=>exact(R2 ⟨g.1.1.1,g.1.1.2,g.1.2,g.2⟩ h).ob
 case mapset k e a b m x v=>exact zcE ⟨g.1.1.1,g.1.1.2,g.1.2,g.2⟩ h
 case copy tid t x y=>exact zgr g h
 case mnmx mx k x ys=>exact(zbJ g h).ob
 case panic x=>exact zev g h
 case iface tid x=>exact(WK g h).ob
 case bsliceF tid t len parts=>exact(Od g h).ob
 case appD tid t b x y=>exact(zbx g h).ob
 case bsliceN tid k t len parts=>exact(Oe g h).ob
 case msliceT tid k u b l c=>exact Z2 g h
 case appT tid k t b x y=>exact(zbt g h).ob
 case atq k op=>exact(ziy g h).ob
theorem Az(hO:OracleOk P O){op:TOp}(g:op.wf P=true)(hp:op.pureB=true)(h:evOp O d op s κ kp=some r):Pu P s op.er d κ r:=by
 cases op<;>simp only[TOp.wf,a_,decide_eq_true_eq,ne_eq]at g<;>simp only[TOp.pureB]at hp<;>try (cases hp;done)
 case mv x=>exact zgX g h
 case pick c a b=>exact zbL ⟨g.1.1,g.1.2,g.2⟩ h
 case bin op x y=>exact zeI g h
 case eqB neg x y=>exact zeJ g h
 case eqT neg tid t x y=>exact zeK ⟨g.1.1,g.1.2,g.2⟩ h
 case un op x=>exact zgY g h
 case len b x=>exact zeN g h
 case lenM k e x=>exact zbG g h
 case idxS x i=>exact zbE g h
 case idxV n t x i=>exact zbF g h
 case idxA t x i=>exact zbC g h
 case idxP n t x i=>exact zbD g h
 case fldA off t x=>exact zbB g h
 case fld off t x=>exact zeM g h
 case load t x=>exact zbH g h
 case boxD tid t x=>exact zby g h
 case build zero parts=>exact WI g h
 case bslice own tid t len parts=>
  cases own;·exact R1 g h
  grind
 case cvtI k x=>exact zbA g h
 case slc full t x lo j mx=>exact zeO ⟨g.1.1.1,g.1.1.2,g.1.2,g.2⟩ h
 case slcS x lo j=>exact zbM ⟨g.1.1,g.1.2,g.2⟩ h
 case ext x i=>exact zeL g h
 case nilc x=>exact zbK g h
 case call bor f args sh=>exact zbz hO g h
 case callp bor num x args sh=>exact WJ hO ⟨g.1.1.1,g.1.1.2,g.1.2,g.2⟩ h
 case b2s x=>exact zeH g h
 case mkfn f caps=>exact zbI g h
 case lookup k e ok a b m x=>exact R2 ⟨g.1.1.1,g.1.1.2,g.1.2,g.2⟩ h
 case mnmx mx k x ys=>exact zbJ g h
 case iface tid x=>exact WK g h
 case bsliceF tid t len parts=>exact Od g h
 case appD tid t b x y=>exact zbx g h
 case bsliceN tid k t len parts=>exact Oe g h
theorem Y0(hO:OracleOk P O){op:TOp}(a:op.wf P=true)(hp:op.exB=true)(e:zc0 s op=true)(h:evOp O d op s κ kp=some r):Ox P s op.er d κ kp r:=by
 by_cases c:op.pureB=true;·exact(Az hO a c h).ox
 ·cases op<;>simp only[TOp.exB]at hp<;>try exact absurd hp c
  case append tid t b x y=>simp only[TOp.wf,a_]at a;exact RU a h
  case appT tid k t b x y=>simp only[TOp.wf,a_]at a;exact zbt a h
  case callA pan bor B f args sh=>simp only[TOp.wf,a_]at a;exact WC hO a h
  case callv pan bor B num x args sh=>simp only[TOp.wf,a_]at a;exact WE hO ⟨a.1.1.1,a.1.1.2,a.1.2,a.2⟩ h
  case store t x v=>simp only[TOp.wf,a_]at a;exact zeE a e h
end
theorem zf9{θ:List Av.Loc}{D D':Nat->Prop}{w:World}{id:Nat}{t:Ty}{xs:List t.den}{l:Av.Loc}(hl:θ[id]? =some l)(hD:∀b,D b->D' b)(L:∀g,l≠.blk g)(H:∀g,l≠.mp g) (E:∀v,l.head v->RelP D' w v (p5 t.sz (xs.map (aM t)))) {v:Value} {u:V} (h:RelB θ D w v (aW u)):RelB (θ.set id .no) D' w v (aW (frz id t xs u)):=by
 have C:∀(k:Nat) (l':Av.Loc),k≠id->θ[k]? =some l'->(θ.set id .no)[k]? =some l':=λk l' z h=>by grind
 have p:∀(x:BV),RelB θ D w v x->(∀i∈x.ids,i≠id)->RelB (θ.set id .no) D' w v x:=by
  intro x B r;cases x<;>simp only[RelB]at B⊢;·exact B.mono hD λ_ _=>rfl
  ·omega
  ·obtain⟨l',y,A⟩:=B;exact⟨l',C _ _ (r _ (by simp[BV.ids])) y,A⟩
  ·grind
  ·obtain⟨g,n,cap,sz,O,y,A⟩:=B;exact⟨g,n,cap,sz,O,C _ _ (r _ (by simp[BV.ids])) y,A⟩
  ·grind
  ·grind
  ·exact⟨B.1.mono hD λ_ _=>rfl,B.2⟩
  omega
 cases u with
 |sl k=>
  show RelB _ _ _ _ (aW (bif j_ k id then .d (.list t) xs else .sl k));rw[jD];by_cases z:k=id;·subst z;rw[decide_eq_true rfl];obtain⟨l',y,A⟩:=h;rw[hl]at y;cases y;exact E v A
  ·rw[decide_eq_false z];exact p (aW (.sl k)) h λi r=>by rw[n_.1 (show i∈[k]from r)];omega
 |elt k i o=>
  show RelB _ _ _ _ (aW (bif j_ k id then .any else .elt k i o));rw[jD];by_cases z:k=id;·rw[decide_eq_true z];exact RelP.any v
  ·rw[decide_eq_false z];exact p (aW (.elt k i o)) h λj F=>by rw[n_.1 (show j∈[k]from F)];omega
 |ptr k off=>refine p (aW (.ptr k off)) h λi r e=>?_;have s:=n_.1 (show i∈[k]from r);subst s;subst e;obtain⟨g,y,_⟩:=h;grind
 |pel k off n I m=>refine p (aW (.pel k off n I m)) h λi r e=>?_;have s:=n_.1 (show i∈[k]from r);subst s;subst e;obtain⟨g,y,_⟩:=h;grind
 |mp k=>refine p (aW (.mp k)) h λi r e=>?_;have s:=n_.1 (show i∈[k]from r);subst s;subst e;obtain⟨g,y,_⟩:=h;grind
 |clo f ids=>refine p (aW (.clo f ids)) h λi r e=>?_;subst e;obtain⟨J,y,A,_⟩:=h;obtain⟨k,z⟩:=an_ (show i∈ids from r);grind
 |raw c=>exact p (aW (.raw c)) h λi r=>by rw[show(aW (.raw c)).ids=[]from G4 c]at r;grind|d a b=>exact p (aW (.d a b)) h λi r=>by cases r|nil a=>exact p (aW (.nil a)) h λi r=>by cases r|agg a=>exact p (aW (.agg a)) h λi r=>by cases r|tup a=>exact p (aW (.tup a)) h λi r=>by cases r|dp a b=>exact p (aW (.dp a b)) h λi r=>by cases r|fnD a b=>exact p (aW (.fnD a b)) h λi r=>by cases r|full a b=>exact p (aW (.full a b)) h λi r=>by cases r|any=>exact p (aW .any) h λi r=>by cases r|lit a b c=>exact p (aW (.lit a b c)) h λi r=>by cases r|ifc=>exact p (aW .ifc) h λi r=>by cases r
theorem zf8{id:Nat}{t:Ty}{xs:List t.den}(v:V)(h:v.isA=false):(frz id t xs v).isA=false:=by cases v<;>first|rfl|(simp only[frz];cases j_ _ id<;>rfl)|cases h
theorem ze2{θ θ':List Av.Loc}{D D':Nat->Prop}{w:World}{g:V->V}(l:∀v,v.isA=false->(g v).isA=false)(hg:∀v u,RelB θ D w v (aW u)->RelB θ' D' w v (aW (g u))){v:Value}{u:V}(h:RelA θ D w v (aZ u)):RelA θ' D' w v (aZ (sR g u)):=by
 have b:∀(vs:List V) (a:Array Value),a.size=(vs.map aW).length->(∀(i:Nat) (y:Value) (x:BV),a[i]? =some y->(vs.map aW)[i]? =some x->RelB θ D w y x)->a.size=((vs.map g).map aW).length/\∀(i:Nat) (y:Value) (x:BV),a[i]? =some y->((vs.map g).map aW)[i]? =some x->RelB θ' D' w y x:=by
  grind
 cases c:u.isA;·rw[zei c,sB (l u c)];rw[sB c]at h;exact hg v u h
 ·cases u with
  |agg vs=>obtain⟨a,d,e,f⟩:=h;obtain⟨j,k⟩:=b vs a e f;exact⟨a,d,j,k⟩
  |tup vs=>obtain⟨a,d,e,f⟩:=h;obtain⟨j,k⟩:=b vs a e f;exact⟨a,d,j,k⟩
  |_=>cases c
theorem ze1{θ θ':List Av.Loc}{D D':Nat->Prop}{w:World}{g:V->V}(hD:∀b,D b->D' b)(hg:∀v u,RelB θ D w v (aW u)->RelB θ' D' w v (aW (g u))){l:Av.Loc}{o:Ob}(h:RelO θ D w l (bV o)):RelO θ' D' w l (bV (Ex g o)):=by
 cases o with
 |box t cs=>
  cases l<;>simp only[bV,Ex,RelO]at h⊢<;>try exact h
  obtain⟨c,d,p,r⟩:=h;refine⟨c,d,by grind,λi y x z s=>?_⟩;grind
 |gone=>cases l<;>trivial|free=>cases l<;>exact h|tree e k t xs hole=>
  cases l<;>try exact h
  case nil=>refine⟨h.1,?_⟩;cases hole with|none=>rfl|some q=>obtain⟨i,j,v⟩:=q;cases h.2
  case hdr=>cases hole with|none=>exact wm (θ':=θ') (hole:=none) (f:=λx=>x) (λu i j b n _=>nomatch n) hD h|some q=>obtain⟨i,j,v⟩:=q;exact wm (hole:=some (i,j,aW v)) (f:=λ_=>aW (g v)) (λu i' A b n hr=>by grind) hD h
 |vec e t xs=>have d:=h.mono (D':=D') (w':=w) hD (λ_ _=>rfl) λ_ _=>rfl;cases l<;>exact d|map k e a b kvs=>have d:=h.mono (D':=D') (w':=w) hD (λ_ _=>rfl) λ_ _=>rfl;cases l<;>exact d
theorem Lk{m:Nat}{s:S}{id:Nat}{o:Ob}{t:Ty}{xs:List t.den}(U:s.hp[id]? =some o)(r:TL (enc s).hp id=some (p5 t.sz (xs.map (aM t))))(Y:o.vary=true):Weak m (enc s) (enc ⟨(s.map (frz id t xs)).fr,setAt (s.map (frz id t xs)).hp id .gone⟩):=by
 rintro c a w _ ⟨θ,D,f⟩;have E:(enc s).hp[id]? =some (bV o):=by rw[bR,U];rfl
 have O:id<θ.length:=by rw[f.ok.len];exact(i_.1 E).1
 obtain⟨l,hl⟩:∃l,θ[id]? =some l:=⟨θ[id],g_ O⟩;have R:=f.ok.objs id l _ hl E;have F:l.fixed=false:=by
  unfold TL at r;rw[E]at r;cases o<;>first|cases r|skip
  all_goals (cases l<;>first|rfl|exact R.elim)
 have hb:∀g,l≠.blk g:=λg e=>by subst e;cases F
 have P:∀g,l≠.mp g:=λg e=>by subst e;cases F
 obtain⟨D',hD,B,hh⟩:∃D':Nat->Prop,(∀b,D b->D' b)/\(∀b,D' b->D b\/l.has b)/\(∀v,l.head v->RelP D' w v (p5 t.sz (xs.map (aM t)))):=by refine⟨λb=>D b\/l.has b,λ_ h=>.inl h,λ_ h=>h,λv Y=>?_⟩;obtain⟨l',d,y⟩:=zbS f.ok (show RelB θ D w v (.sl id)from⟨l,hl,Y⟩) r;grind
 have T:=λv u=>zf9 (w:=w) (v:=v) (u:=u) (id:=id) (t:=t) (xs:=xs) hl hD hb P hh;have p:∀(i:Nat) (l':Av.Loc),(θ.set id .no)[i]? =some l'->(i=id/\l'= .no)\/(i≠id/\θ[i]? =some l'):=λi l' z=>by grind
 refine⟨θ.set id .no,D',f.size,f.defers,⟨?_,λb n=>?_,λi j li lj g z hj H I=>?_,λi li g z hg=>?_,λi li o z Q=>?_⟩,f.keep,λb n=>hD b (f.dsub b n),λb n=>?_,λi li g z hg=>?_,λk x N=>?_,λk l' N hf=>?_⟩;·simp[enc,S.map,gZ,f.ok.len]
 ·rcases B b n with d|d;·exact f.ok.dlt b d
  ·exact(f.ok.olt id l b hl d).1
 ·rcases p i li z with⟨_,rfl⟩|⟨_,d⟩;·cases H
  ·rcases p j lj hj with⟨_,rfl⟩|⟨_,y⟩;·cases I
   ·exact f.ok.inj i j li lj g d y H I
 ·rcases p i li z with⟨_,rfl⟩|⟨C,d⟩;·cases hg
  ·obtain⟨y,L⟩:=f.ok.olt i li g d hg;refine⟨y,λhd=>?_⟩;rcases B g hd with M|M;·exact L M
   ·exact C (f.ok.inj i id li l g d hl hg M)
 ·have A:((setAt (s.hp.map (Ex (frz id t xs))) id .gone).map bV)[i]? =some o:=Q;rw[gZ,l_]at A;obtain⟨o1,d,rfl⟩:=e_.1 A;rcases p i li z with⟨rfl,rfl⟩|⟨C,y⟩;·rw[P_ (by rw[o_];exact(i_.1 U).1)]at d;cases d;trivial
  ·rw[R_ (Ne.symm C),l_]at d;obtain⟨o2,L,rfl⟩:=e_.1 d;exact ze1 hD T (f.ok.objs i li (bV o2) y (by rw[bR,L];rfl))
 ·rcases B b n with d|d;·exact f.dnew b d
  ·exact .inr (f.onew id l b hl d)
 ·rcases p i li z with⟨_,rfl⟩|⟨_,d⟩;·cases hg
  ·exact f.onew i li g d hg
 ·have J:Av.look ((s.fr.map λx=>(x.1,sR (frz id t xs) x.2)).map λx=>(x.1,aZ x.2)) k=some x:=N;rw[vZ,NR]at J;obtain⟨v1,d,rfl⟩:=e_.1 J;obtain⟨v2,y,rfl⟩:=e_.1 d;exact ze2 zf8 T (f.fr k (aZ v2) (by show Av.look (s.fr.map λx=>(x.1,aZ x.2)) k=_;rw[vZ,y];rfl))
 ·have d:=f.fix k l' N hf;grind
def Ob.empt(o:Ob):Prop:=∀θ D w,RelO θ D w (.nil none) (bV o)
theorem VN(e:TypeId)(t:Ty):(Ob.vec e t []).empt:=λ_ _ _=>rfl
theorem Ru(e:TypeId)(k:Av.K)(t:Ty):(Ob.tree e k t [] none).empt:=λ_ _ _=>⟨rfl,rfl⟩
theorem IL{c:Ctx}{θ:List Av.Loc}{D:Nat->Prop}{st:St}{a:Act}{w:World}(b:Inv c θ D st a w){o:Ob}(d:o.empt):Inv c (θ++[.nil none]) D {st with hp:=st.hp++[bV o]} a w:=b.push (l:=.nil none) (o:=bV o) (d _ _ _) (λg hg=>by cases hg)
theorem OV{m:Nat}{s:S}{k:Nat}{u:Ty}{o:Ob}(l:o.empt)(h:lk s.fr k=some (.nil u)):Weak m (enc s) (enc ⟨(k,.sl s.hp.length)::s.fr,s.hp++[o]⟩):=by
 rintro c a w _ ⟨θ,D,e⟩;have b:=IL e l;rw[<-Ee]at b;refine⟨_,D,b.size,b.defers,b.ok,b.keep,b.dsub,b.dnew,b.onew,λj x g=>?_,b.fix⟩;have d:Av.look ((k,aZ (.sl s.hp.length))::s.fr.map λx=>(x.1,aZ x.2)) j=some x:=g;simp only[Av.look]at d;split at d;·rename_i f;subst f;cases d;have n:=e.fr j (aZ (.nil u)) (by show Av.look (s.fr.map λx=>(x.1,aZ x.2)) j=_;rw[vZ,h];rfl);refine⟨.nil none,?_,n⟩;rw[<-vk,<-e.ok.len];simp
 ·exact b.fr j x d
theorem Lj{m:Nat}{s:S}{id j:Nat}{u:TypeId}{v:Ty}{cs:List V}{f:Ob}(h:f.empt)(r:s.hp[id]? =some (.box u cs))(H:cs[j]? =some (.nil v)): Weak m (enc s) (enc ⟨s.fr,setAt s.hp id (.box u (setAt cs j (.sl s.hp.length)))++[f]⟩):=by
 rintro c a w _ ⟨θ,D,n⟩;have b:=IL n h;rw[<-Ee]at b;have hid:=(i_.1 r).1;refine⟨_,D,b.size,b.defers,⟨by rw[b.ok.len];simp[enc,gZ],b.ok.dlt,b.ok.inj,b.ok.olt,λi l o p k=>?_⟩,b.keep,b.dsub,b.dnew,b.onew,b.fr,b.fix⟩;have d:((setAt s.hp id (.box u (setAt cs j (.sl s.hp.length)))++[f]).map bV)[i]? =some o:=k;rw[gZ,gZ]at d;by_cases g:i=id
 ·subst g;rw[l_,t_ (by grind),P_ hid]at d;cases d;have hr:=b.ok.objs i l (bV (.box u cs)) p (by rw[bR,t_ hid,r];rfl);cases l<;>simp only[bV,RelO]at hr⊢<;>try exact hr
  obtain⟨z,A,F,B⟩:=hr;refine⟨z,A,by grind,λq y x E e=>?_⟩;rw[J_]at e;by_cases C:q=j
  ·subst C;rw[aq_]at e;simp only[if_true]at e;split at e;·cases e;have:=B q y (aW (.nil v)) E (by grind);refine⟨.nil none,?_,this⟩;rw[<-vk,<-n.ok.len];simp
   grind
  grind
 ·refine b.ok.objs i l o p ?_;show((s.hp++[f]).map bV)[i]? =some o;grind
theorem II{ids:List Nat}{i:Nat}(h:i∈ids):ids[ids.idxOf i]? =some i:=by grind
theorem MC{θ:List Av.Loc}{ids:List Nat}{D:Nat->Prop}{w:World}{v:Value}{x:BV}(a:∀i∈x.ids,i∈ids)(h:RelB θ D w v x):RelB (ids.map λi=>θ.getD i .no) D w v (x.ren (ids.idxOf ·)):=by
 have key:∀(i:Nat) (l:Av.Loc),i∈ids->θ[i]? =some l->(ids.map λi=>θ.getD i .no)[ids.idxOf i]? =some l:=λi l b hl=>by grind
 cases x<;>simp only[RelB,BV.ren]at h⊢<;>simp only[BV.ids,n_,forall_eq]at a;·omega
 ·omega
 ·grind
 ·grind
 ·grind
 ·grind
 all_goals grind
theorem zfa{θ:List Av.Loc}{ids:List Nat}{D:Nat->Prop}{w:World}{v:Value}{x:AV}(d:∀i∈x.ids,i∈ids)(h:RelA θ D w v x):RelA (ids.map λi=>θ.getD i .no) D w v (x.ren (ids.idxOf ·)):=by
 have c:∀(xs:List BV) (a:Array Value),(∀i∈xs.flatMap BV.ids,i∈ids)->a.size=xs.length->(∀(i:Nat) (y:Value) (x:BV),a[i]? =some y->xs[i]? =some x->RelB θ D w y x)->a.size=(xs.map (BV.ren (ids.idxOf ·))).length/\∀(i:Nat) (y:Value) (x:BV),a[i]? =some y->(xs.map (BV.ren (ids.idxOf ·)))[i]? =some x->RelB (ids.map λi=>θ.getD i .no) D w y x:=by
  intro xs a r g e
  refine⟨by grind,λi y x u p=>?_⟩
  rw[l_]at p
  obtain⟨x0,f,rfl⟩:=e_.1 p
  exact MC (λj s=>r j (u_.2 ⟨x0,q_ f,s⟩)) (e i y x0 u f)
 cases x with
 |b x=>exact MC d h|agg xs=>obtain⟨a,g,e,k⟩:=h;obtain⟨l,n⟩:=c xs a d e k;exact⟨a,g,l,n⟩
 |tup xs=>obtain⟨a,g,e,k⟩:=h;obtain⟨l,n⟩:=c xs a d e k;exact⟨a,g,l,n⟩
theorem XE{m:Nat}{a b:St}(ids:List Nat)(M:ids.Nodup)(hm:∀k,k<m->ids[k]? =some k) (E:∀k y,Av.look b.fr k=some y->∃x,Av.look a.fr k=some x/\(∀i∈x.ids,i∈ids)/\y=x.ren (ids.idxOf ·)) (P:b.hp.length=ids.length) (v:∀(j:Nat) (o':AObj),b.hp[j]? =some o'->∃(i:Nat) (o:AObj),ids[j]? =some i/\a.hp[i]? =some o/\(∀i∈o.ids,i∈ids)/\o'=o.ren (ids.idxOf ·)):Weak m a b:=by
 rintro c ac w el ⟨θ,D,f⟩;have gc:∀(j:Nat) (i:Nat),ids[j]? =some i->i<θ.length:=λj i s=>by
  have J:j<b.hp.length:=by grind
  obtain⟨i',o,n,r,_⟩:=v j _ (g_ J);rw[s]at n;cases n;rw[f.ok.len];grind
 have d:∀(j:Nat) (l:Av.Loc),(ids.map λi=>θ.getD i .no)[j]? =some l->∃i,ids[j]? =some i/\θ[i]? =some l:=λj l s=>by grind
 refine⟨ids.map λi=>θ.getD i .no,D,f.size,f.defers,⟨by grind,f.ok.dlt,λi j li R g z s F H=>?_,λi l g z hg=>?_,λj l o' s N=>?_⟩,f.keep,f.dsub,f.dnew,λi l g z hg=>?_,λk y L=>?_,λk l L hf=>?_⟩;·obtain⟨i',n,r⟩:=d i li z;obtain⟨j',B,C⟩:=d j R s;have:=f.ok.inj i' j' li R g r C F H;subst this;have I:=(i_.1 n).1;exact(List.getElem?_inj I M).1 (by grind)
 ·obtain⟨i',n,r⟩:=d i l z;exact f.ok.olt i' l g r hg
 ·obtain⟨i,n,r⟩:=d j l s;obtain⟨i',o,B,C,O,rfl⟩:=v j o' N;rw[n]at B;cases B;have hr:=f.ok.objs i l o r C;cases o with
  |box t cs=>
   cases l<;>simp only[AObj.ren,RelO]at hr⊢<;>try exact hr
   obtain⟨T,U,e2,Y⟩:=hr;refine⟨T,U,by grind,λq y x hy Q=>?_⟩;rw[l_]at Q;obtain⟨x0,A,rfl⟩:=e_.1 Q;exact MC (λp hp=>O p (u_.2 ⟨x0,q_ A,hp⟩)) (Y q y x0 hy A)
  |gone=>cases l<;>trivial|free=>cases l<;>exact hr|vec e sz xs=>cases l<;>exact hr|map k e kvs=>cases l<;>exact hr|tree e sz k xs hole=>
   cases l<;>try exact hr
   case nil=>exact⟨hr.1,by have:=hr.2;subst this;rfl⟩
   case hdr=>exact wm (λu i j b hb hr=>MC (λp hp=>O p (by rw[hb];exact hp)) hr) (λ_ h=>h) hr
 ·obtain⟨i',n,r⟩:=d i l z;exact f.onew i' l g r hg
 ·obtain⟨x,n,r,rfl⟩:=E k y L;exact zfa r (f.fr k x n)
 ·have n:=f.fix k l L hf;grind
def Adj.wfB(m:Nat):Adj->Bool
 | .sel ids _=>(H_ m).all λk=>match ids[k]? with
  |some i=>j_ i k
  |none=>false
 |_=>true
def MY(m:Nat)(l:List Adj):Bool:=l.all (Adj.wfB m)
theorem Keeps.of_map{A:List Nat}{s s':S}(g:V->V)(hg:∀v,v.isD=true->g v=v)(z:∀k,lk s'.fr k=(lk s.fr k).map g\/lk s'.fr k=none):Keeps A s s':=λk _=>by grind
theorem zbe{id:Nat}{t:Ty}{xs:List t.den}{v:V}(h:v.isD=true):sR (frz id t xs) v=v:=by cases v<;>first|rfl|cases h
theorem zgi{ρ:Nat->Nat}{v:V}(h:v.isD=true):sR (V.ren ρ) v=v:=by cases v<;>first|rfl|cases h
theorem IS{α β:Type}{f:α->Option β}:∀{l:List α} {m:List β},l.mapM f=some m->m.length=l.length/\∀(i:Nat) (y:β),m[i]? =some y->∃x,l[i]? =some x/\f x=some y
 |[],m,h=>by grind
 |x::l,m,h=>by simp only[z_,x_,E_,k_,h_]at h;obtain⟨z,b,e,a,rfl⟩:=h;obtain⟨c,d⟩:=IS a;grind
theorem Y7{s:S}:∀{ks:List Nat} {fr:List (Nat×V)},ks.mapM (λk=>(lk s.fr k).map λv=>(k,v))=some fr->∀k,lk fr k=lk s.fr k\/lk fr k=none
 |[],fr,h,k=>by simp at h;subst h;exact .inr rfl
 |j::ks,fr,h,k=>by
  simp only[z_,x_,E_,k_,h_,e_]at h;obtain⟨x,⟨v,c,rfl⟩,d,a,rfl⟩:=h;simp only[lk,jD];by_cases b:k=j;·grind
  ·rw[decide_eq_false b];exact Y7 a k
theorem VU{m:Nat}{id k j:Nat}{u:Ty}{s s':S}(h:adj (.focus id k j u) s=some s'):Weak m (enc s) (enc s')/\∀A,Keeps A s s':=by
 simp only[adj]at h;split at h
 ·rename_i kk n e g t xs I w;split at h
  ·rename_i b c a d;obtain⟨l,r⟩:=aV h;simp only[a_,decide_eq_true_eq]at l;obtain⟨x,J,p⟩:=cZ r;split at p
   ·rename_i L v;cases p;have hsz:=b_ l.1;obtain⟨B,C⟩:=xl t j (.list u) x L v;have H:j<(aP t x).length:=by rw[aO];simp only[Ty.sz]at B;omega
    have z:(aM t x).cells[j]? =some (aM (.list u) L):=by
     have:((aP t x).drop j).take 1=[aM (.list u) L]:=by have:=C;rw[fe (t:=.list u) L rfl]at this;exact this
     have D:(((aP t x).drop j).take 1)[0]? =some (aM (.list u) L):=by grind
     grind
    refine⟨?_,λA=>Keeps.fr rfl⟩;have y:=zaI (m:=m) (st:=enc s) (id:=id) (i:=n.toNat) (j:=j) (k:=g) (q:=(b,c,a)) (L:=L.map (aM u)) (by rw[bR,w];rfl) (by grind) z d (by rw[hsz];rfl);have f:rD (b,c,a) (L.map (aM u))=bV (E9 b a u L):=by
     unfold rD E9;cases F:a.allF;·rw[hsz];rfl
     ·rw[hsz];rfl
    rw[f]at y;have E:enc ⟨s.fr,setAt s.hp id (.tree e g t xs (some (n.toNat,j,.sl s.hp.length)))++[E9 b a u L]⟩=⟨(enc s).fr,(enc s).hp.set id (.tree e t.sz g (xs.map (aM t)) (some (n.toNat,j,.sl (enc s).hp.length)))++[bV (E9 b a u L)]⟩:=by simp only[enc,gZ,w_,J_,m_,aI_,o_];rfl
    grind
   grind
  grind
 grind
theorem WB{e:TypeId}{k:Av.K}{u:Ty}{o:Ob}{L:List u.den}(h:My e k u o=some L):bV o=rD (e,u.sz,k) (L.map (aM u)):=by
 unfold My at h;split at h;·rename_i j t xs;obtain⟨a,g⟩:=aV h;simp only[a_]at a;obtain⟨b,c⟩:=bT g;have d:=Ty.list.inj b;subst d;have f:L=xs:=c;subst f;have:=b_ a.2;subst this;simp only[rD,a.1,if_true];rfl
 ·rename_i j n t xs;obtain⟨a,g⟩:=aV h;simp only[a_,r_,decide_eq_true_eq]at a;obtain⟨b,c⟩:=bT g;have d:=Ty.list.inj b;subst d;have f:L=xs:=c;subst f;have:=b_ a.1.2;subst this;obtain⟨⟨l,_⟩,rfl⟩:=a;simp only[rD,l,ap_,if_false];rfl
 grind
theorem Vp{m:Nat}{id:Nat}{s s':S}(h:adj (.close id) s=some s'):Weak m (enc s) (enc s')/\∀A,Keeps A s s':=by
 simp only[adj]at h;split at h
 ·rename_i e kk t xs i j kid N;cases w:j_ kid id
  ·rw[w]at h;simp only[cond_false]at h;split at h
   ·rename_i B a T o u d c M;split at h
    ·rename_i L I;obtain⟨C,D⟩:=aV h;obtain⟨x,hx,p⟩:=cZ D;split at p
     ·rename_i y R;cases p;have hsz:=b_ C;have l:kid≠id:=λe=>by rw[e,T_]at w;grind
      obtain⟨U,Y,p3⟩:=lu t j (.list u) x L y R;have z:j<(aM t x).cells.length:=by have:(aM t x).cells.length=t.sz:=aO t x;rw[this];simp only[Ty.sz]at U;omega
      refine⟨?_,λA=>Keeps.map A s _ (V.kill1 kid) (λv P=>by cases v<;>first|rfl|cases P) rfl⟩
      have g:=WB I;have Q:=zaH (m:=m) (st:=enc s) (id:=id) (kid:=kid) (i:=i) (j:=j) (k:=kk) (x:=aM t x) (q:=(B,a,T)) (L:=L.map (aM u)) (by rw[bR,N];rfl) (by grind) z d (by rw[bR,c,hsz,<-g];rfl) l;have n:(aM t x).setc j (p5 a (L.map (aM u)))=aM t y:=by
       have J:=Hv (x:=aM t x) (y:=p5 a (L.map (aM u))) z (Kd _ _);have hl:aP (.list u) L=[p5 a (L.map (aM u))]:=by rw[hsz];exact(Tu u L).1
       have f:aP t y=(aP t x).set j (p5 a (L.map (aM u))):=by rw[Y,hl];apply Y_;intro q;rw[xu _ _ _ (by grind)];grind
       cases b:t.ag
       ·have r:(aM t x).isAgg=false:=by rw[tE];omega
        have E:j=0:=by grind
        subst E;have F:(aM t x).setc 0 (p5 a (L.map (aM u)))=p5 a (L.map (aM u)):=by cases O:aM t x<;>first|rfl|(rw[O]at r;cases r)
        rw[F];have H:=f;rw[fe y b,fe x b]at H;grind
       ·rw[fW x b,fW y b];show PV.agg ((aP t x).set j _)=PV.agg (aP t y);grind
      rw[n]at Q;have he:enc ⟨(s.moved kid .gone).fr,setAt (s.moved kid .gone).hp id (.tree e kk t (xs.set i y) none)⟩=⟨(enc s).fr.map λx=>(x.1,x.2.kill kid),(((enc s).hp.map (AObj.kill kid)).set kid .gone).set id (.tree e t.sz kk ((xs.map (aM t)).set i (aM t y)) none)⟩:=by rw[kO,J4];simp only[St.moved];congr 2;show AObj.tree e t.sz kk _ _=_;rw[J_];rfl
      grind
     grind
    grind
   grind
  grind
 grind
theorem zb0{m:Nat}{l:Adj}{s s':S}(J:l.wfB m=true)(h:adj l s=some s'):Weak m (enc s) (enc s')/\∀A,Keeps A s s':=by
 cases l with
 |freeze id=>
  simp only[adj]at h;split at h;·rename_i e t xs b;cases h;refine⟨Lk b (by rw[TL,bR,b];rfl) rfl,λA=>Keeps.map A s _ (frz id t xs) (λv d=>zbe d) rfl⟩
  ·rename_i e k t xs b;cases h;refine⟨Lk b (by rw[TL,bR,b];rfl) rfl,λA=>Keeps.map A s _ (frz id t xs) (λv d=>zbe d) rfl⟩
  grind
 |focus id k j u=>exact VU h|close id=>exact Vp h|adopt k e t=>
  simp only[adj]at h;split at h
  ·rename_i u a;cases h;refine⟨OV (VN e t) a,λA j _=>?_⟩;simp only[lk,jD];by_cases c:j=k;·subst c;rw[decide_eq_true rfl,a];exact⟨λv d hd=>(by cases d;cases hd),λhn=>(by grind)⟩
   grind
  grind
 |adoptC id j e t=>
  simp only[adj]at h;split at h
  ·rename_i u cs b;split at h;·rename_i R c;cases h;exact⟨Lj (VN e t) b c,λA=>Keeps.fr rfl⟩
   grind
  grind
 |adoptT k e kk t=>
  simp only[adj]at h;split at h
  ·rename_i u a;cases h;refine⟨OV (Ru e kk t) a,λA j _=>?_⟩;simp only[lk,jD];by_cases c:j=k;·subst c;rw[decide_eq_true rfl,a];exact⟨λv d hd=>(by cases d;cases hd),λhn=>(by grind)⟩
   grind
  grind
 |adoptCT id j e kk t=>
  simp only[adj]at h;split at h
  ·rename_i u cs b;split at h;·rename_i R c;cases h;exact⟨Lj (Ru e kk t) b c,λA=>Keeps.fr rfl⟩
   grind
  grind
 |sel ids ks=>
  simp only[adj]at h;split at h
  ·rename_i os fr H f;obtain⟨I,M⟩:=aV h;cases M;simp only[a_,decide_eq_true_eq,f_]at I;obtain⟨⟨E,F⟩,C⟩:=I;simp only[Adj.wfB,f_,G_]at J;obtain⟨P,Q⟩:=IS H;refine⟨XE ids E (λk a=>?_) (λk y a=>?_) (by simp[enc,P]) λj o' c=>?_,λA=>Keeps.of_map (sR (V.ren (V2 ids))) (λv d=>zgi d) λk=>?_⟩
   ·have:=J k a;split at this;·rename_i i g;rw[g,b_ this]
    grind
   ·have r:Av.look ((fr.map λx=>(x.1,sR (V.ren (V2 ids)) x.2)).map λx=>(x.1,aZ x.2)) k=some y:=a;rw[vZ,NR]at r;obtain⟨U,w,rfl⟩:=e_.1 r;obtain⟨L,z,rfl⟩:=e_.1 w;refine⟨aZ L,?_,λi g=>?_,Ny _ L⟩;·show Av.look (s.fr.map λx=>(x.1,aZ x.2)) k=_;rw[vZ];rcases Y7 f k with B|B;all_goals grind
    ·rw[<-wI]at g;exact allIn_mem.1 (C _ (NS z)) i g
   ·have n:((os.map (Ex (V.ren (V2 ids)))).map bV)[j]? =some o':=c;simp only[l_,e_]at n;obtain⟨_,⟨o,b,rfl⟩,rfl⟩:=n;obtain⟨i,w,z⟩:=Q j o b;refine⟨i,bV o,w,by rw[bR,z];rfl,λp hp=>?_,IF _ o⟩;rw[<-NB]at hp;exact allIn_mem.1 (F o (q_ b)) p hp
   ·show lk (fr.map λx=>(x.1,sR (V.ren (V2 ids)) x.2)) k=_\/lk (fr.map λx=>(x.1,sR (V.ren (V2 ids)) x.2)) k=none;rw[NR];rcases Y7 f k with B|B;all_goals grind
  grind
 |drop ks=>
  simp only[adj,h_]at h;subst h;have D:∀(fr:List (Nat×V)) (k:Nat),lk (fr.filter λx=> !r8 ks x.1) k=lk fr k\/lk (fr.filter λx=> !r8 ks x.1) k=none:=by
   intro fr k;induction fr with
   |nil=>simp|cons x fr T=>
    obtain⟨j,v⟩:=x;simp only[as_];cases N:r8 ks j;·simp only[aD_,if_true,lk,jD];grind
    ·simp only[ac_,ap_,if_false,lk,jD];by_cases a:k=j
     ·subst a;right;have:∀(l:List (Nat×V)),lk (l.filter λx=> !r8 ks x.1) k=none:=by
       intro l;induction l with
       |nil=>rfl|cons y l O=>
        obtain⟨i,u⟩:=y;simp only[as_];cases g:r8 ks i;·simp only[aD_,if_true,lk,jD];grind
        grind
      grind
     grind
  refine⟨(LeS.frame (fr:=s.fr.map λx=>(x.1,aZ x.2)) (fr':=(s.fr.filter λx=> !r8 ks x.1).map λx=>(x.1,aZ x.2)) λk y a=>?_).weak,λA=>Keeps.of_map (λv=>v) (λ_ _=>rfl) λk=>?_⟩;·rw[vZ]at a⊢;grind
  ·rcases D s.fr k with e|e;·exact .inl (by show lk (s.fr.filter _) k=_;rw[e];simp)
   grind
theorem zfR{R:Type}{a:Adj}{s:S}{κ:S->Option R}{r:R}(h:zdv a s κ=some r):∃s',adj a s=some s'/\κ s'=some r:=by
 cases a with
 |focus id k j u=>
  simp only[zdv]at h;split at h
  ·rename_i kk n e I t xs E v;split at h
   ·rename_i C z H b;obtain⟨f,g⟩:=aV h;obtain⟨d,D⟩:=bH g;obtain⟨x,w,A⟩:=cZ D;split at A;·rename_i L l;refine⟨_,?_,A⟩;simp only[adj,E,v,b,f,d,Bool.and_self,cond_true,w,y_,l]
    grind
   grind
  grind
 |close id=>
  simp only[zdv]at h;split at h
  ·rename_i e kk t xs i j kid v;cases B:j_ kid id
   ·rw[B]at h;simp only[cond_false]at h;split at h
    ·rename_i C z H o u b c p;split at h
     ·rename_i L l;obtain⟨f,g⟩:=aV h;obtain⟨x,w,d⟩:=cZ g;split at d;·rename_i y F;refine⟨_,?_,d⟩;simp only[adj,v,B,cond_false,b,c,p,l,f,cond_true,w,y_,F]
      grind
     grind
    grind
   grind
  grind
 |_=>simp only[zdv]at h;grind
theorem H7{R:Type}:∀{l:List Adj} {s:S} {κ:S->Option R} {r:R},GM l s κ=some r->∃s',zdx l s=some s'/\κ s'=some r
 |[],s,κ,r,h=>⟨s,rfl,h⟩
 |a::l,s,κ,r,h=>by obtain⟨g,b,c⟩:=zfR h;obtain⟨e,f,d⟩:=H7 c;exact⟨e,by simp only[zdx,b];omega,d⟩
theorem A7{m:Nat}:∀{l:List Adj} {s s':S},MY m l=true->zdx l s=some s'->Weak m (enc s) (enc s')/\∀A,Keeps A s s'
 |[],s,s',_,h=>by cases h;exact⟨Weak.refl _ _,λA=>Keeps.refl A s⟩
 |a::l,s,s',b,h=>by
  simp only[MY,C_,a_]at b;simp only[zdx]at h;split at h;·rename_i j g;obtain⟨c,d⟩:=zb0 b.1 g;obtain⟨e,f⟩:=A7 b.2 h;exact⟨c.trans e,λA=>(d A).trans (f A)⟩
  grind
structure Ext(a b:St):Prop where
 hp:a.hp=b.hp
 fr:∀k y,Av.look b.fr k=some y->Av.look a.fr k=some y
theorem Ext.refl(a:St):Ext a a:=⟨rfl,λ_ _ h=>h⟩
theorem Ext.weak{m:Nat}{a b:St}(h:Ext a b):Weak m a b:=by obtain⟨af,H⟩:=a;obtain⟨I,J⟩:=b;obtain⟨z,E⟩:=h;cases z;exact(LeS.frame E).weak
theorem Ext.put{a b:St}(h:Ext a b)(d:Option Nat)(x:AV):Ext (a.putO d x) (b.putO d x):=by
 refine⟨by cases d<;>exact h.hp,λk y z=>?_⟩;rw[iq]at z⊢;by_cases hd:d=some k;·grind
 ·rw[if_neg hd]at z⊢;exact h.fr k y z
theorem Ext.get{a b:St}(h:Ext a b){x:SX}{y:AV}(z:b.get x=some y):a.get x=some y:=by
 cases x<;>simp only[St.get]at z⊢;·exact h.fr _ _ z
 all_goals omega
theorem We{α β:Type}{f g:α->Option β}(h:∀x y,f x=some y->g x=some y):∀{l:List α} {m:List β},l.mapM f=some m->l.mapM g=some m
 |[],m,a=>a
 |x::l,m,a=>by simp only[z_,x_,E_,k_,h_]at a⊢;obtain⟨z,b,d,c,rfl⟩:=a;exact⟨z,h _ _ b,d,We h c,rfl⟩
theorem Ext.bind{a b:St}(h:Ext a b){x:SX}{K:AV->Prop}(H:aU (b.get x) K):aU (a.get x) K:=let⟨y,z,E⟩:=H;⟨y,h.get z,E⟩
theorem Ext.bnd{a b:St}(h:Ext a b){x:Option SX}{d:Nat}{K:Nat->Prop}(z:bnd b x d K):bnd a x d K:=by cases x with|none=>exact z|some x=>exact h.bind z
theorem Ext.bindM{a b:St}{α β:Type}{f:St->α->Option β}(H:∀x y,f b x=some y->f a x=some y){l:List α}{K:List β->Prop}(I:aU (l.mapM (f b)) K):aU (l.mapM (f a)) K:=let⟨y,z,E⟩:=I;⟨y,We H z,E⟩
theorem zbR{P:Program}{a b:St}(h:Ext a b){op:SOp}{K:AV->Prop}(hs:ou P b op K):ou P a op K:=by
 have v:=h.hp;have d:∀{β:Type} (g:AV->Option β) (x:SX) (y:β),(b.get x).bind g=some y->(a.get x).bind g=some y:=λg x y w=>by obtain⟨u,c,l⟩:=k_.1 w;rw[h.get c];grind
 cases op<;>simp only[ou]at hs⊢<;>try rw[v]
 case mv=>exact h.bind hs
 case pick=>exact aw (h.bind hs) λ_ c=>bz c λ_ l=>ub l λ_ n=>⟨λe=>h.bind (n.1 e),λe=>h.bind (n.2 e)⟩
 case bin=>exact aw (h.bind hs) λ_ c=>h.bind c
 case eqB=>exact aw (h.bind hs) λ_ c=>h.bind c
 case un=>exact h.bind hs
 case len=>exact h.bind hs
 case lenM=>exact h.bind hs
 case idxS=>exact aw (h.bind hs) λ_ c=>h.bind c
 case idxV=>exact aw (h.bind hs) λ_ c=>h.bind c
 case idxA=>exact aw (h.bind hs) λ_ c=>h.bind c
 case idxP=>exact aw (h.bind hs) λ_ c=>h.bind c
 case fldA=>exact h.bind hs
 case fld=>exact h.bind hs
 case load=>exact h.bind hs
 case cvtI=>exact h.bind hs
 case slc=>exact aw (h.bind hs) λ_ c=>c.imp (λc=>aw c λ_ ⟨L,l,n⟩=>⟨L,l,jE (h.bnd n) λ_ p=>jE (h.bnd p) λ_ r=>h.bnd r⟩) fun⟨id,s,ob,z,e,k,L,g,l,n⟩=>⟨id,s,ob,by omega,e,k,L,g,l,jE (h.bnd n) λ_ p=>jE (h.bnd p) λ_ r=>h.bnd r⟩
 case slcS=>exact aw (h.bind hs) λ_ c=>bz c λ_ c=>xe c λ_ c=>jE (h.bnd c) λ_ c=>h.bnd c
 case ext=>exact h.bind hs
 case nilc=>exact h.bind hs
 case build=>exact Ext.bindM (f:=λst (q:Nat×Nat×SX)=>(st.get q.2.2).map λa=>(q.1,q.2.1,a)) (λq y j=>by obtain⟨u,c,l⟩:=e_.1 j;rw[h.get c,<-l];rfl) hs
 case call=>exact Ext.bindM (f:=λst x=>(St.get st x).bind (oM b.hp _)) (λq y j=>d _ q y j) hs
 case callp=>exact aw (h.bind hs) λ_ ⟨f,cs,c,l,n⟩=>⟨f,cs,c,l,Ext.bindM (f:=λst x=>(St.get st x).bind (oM b.hp _)) (λq y j=>d _ q y j) n⟩
 case boxD=>exact h.bind hs
 case b2s=>exact h.bind hs
 case bslice own e sz len A=>
  cases own;·exact Ext.bindM (f:=λst x=>(St.get st x).bind AV.toPV) (λq y j=>d _ q y j) hs
  omega
 case bsliceN=>exact Ext.bindM (f:=λst x=>(St.get st x).bind AV.toPVn) (λq y j=>d _ q y j) hs
 case mkfn=>exact Ext.bindM (f:=λst x=>St.get st x) (λq y j=>h.get j) hs
 case lookup=>exact aw (h.bind hs) λ_ c=>h.bind c
 case eqT=>exact aw (h.bind hs) λ_ c=>h.bind c
 case appD=>exact aw (h.bind hs) λ_ c=>h.bind c
 case mnmx=>exact aw (h.bind hs) λ_ c=>bz c λ_ c=>bU c λ_ _ c=>Ext.bindM (f:=λst x=>St.get st x) (λq y j=>h.get j) c
 case iface=>exact h.bind hs
inductive Sys(P:Program):List SOper->St->St->Prop
 |nil (st:St):Sys P [] st st
 |cons (o:SOper) (l:List SOper) (st st':St) (x:AV) (h:je P o st x) (k:Sys P l (st.putO o.dst x) st'):Sys P (o::l) st st'
theorem Sys.app{P:Program}{l l':List SOper}{a b c:St}(h:Sys P l a b)(k:Sys P l' b c):Sys P (l++l') a c:=by induction h with|nil=>grind|cons o l st E x h _ z=>exact .cons o _ st c x h (z k)
theorem Sys.sops{P:Program}{m:Nat}{l L:List SOper}{a b:St}{K KP:St->Prop}(h:Sys P l a b)(k:sops P m L b K KP):sops P m (l++L) a K KP:=by induction h with|nil=>grind|cons o l st E x h _ z=>exact W.mk (vo h (z k))
theorem Sys.sdraw{P:Program}{m n:Nat}{l L:List SOper}{a b:St}{K KP:St->Prop}(h:Sys P l a b)(k:sdraw P m n L b K KP):sdraw P m (l.length+n) (l++L) a K KP:=by induction h with|nil=>grind|cons o l st E x h _ z=>rw[show(o::l).length+n=(l.length+n)+1 by grind];exact⟨x,h,z k⟩
theorem nB{P:Program}{m:Nat}{l:List SOper}{a b:St}{K KP:St->Prop}(h:Weak m a b)(k:sops P m l b K KP):sops P m l a K KP:=by cases l with|nil=>exact W.from h k|cons o l=>exact W.from h k
def RC.offB:List Nat->RC->Bool
 |_,.nil=>true
 |A,.op d _ rest=>rest.offB (jG d++A)
 |_,.adj _ _=>false
 |A,.gb t _ blk ty _ _ dst rest=>r8 A t&& !r8 blk.asg t&&ty.sc&&blk.offB A&&rest.offB (dst::(blk.asg++A))
def RC.gbB:RC->Bool
 | .nil=>true
 | .op _ _ rest=>rest.gbB
 | .adj _ rest=>rest.gbB
 | .gb _ _ blk ty _ _ _ rest=>ty.sc&&blk.offB []&&blk.gbB&&rest.gbB
def Off(st:St)(g:Nat×Bool):Prop:=∃v,Av.look st.fr g.1=some (.v v)/\yv v≠some g.2
theorem Oz{P:Program}{st:St}{g:Nat×Bool}(h:Off st g)(d:Option Nat)(op:SOp):je P ⟨d,op,some g⟩ st (.v undef):=by obtain⟨v,a,b⟩:=h;exact⟨_,a,v,rfl,λe=>absurd e b,λ_=>rfl⟩
theorem Bb(d:Option Nat):(match d with|some d=>[d]|none=>[])=jG d:=by cases d<;>rfl
theorem Mx{P:Program}:∀(n:RC) (g:Nat×Bool) (A:List Nat) (st:St),n.offB A=true->Off st g->(∀k∈A,Av.look st.fr k=some (.v undef))->g.1∉n.asg->
 ∃a,Sys P (n.er (some g)) st a/\a.hp=st.hp/\(∀k,k∉n.asg->Av.look a.fr k=Av.look st.fr k)/\∀k,(k∈n.asg\/k∈A)->Av.look a.fr k=some (.v undef)
 | .nil,g,A,st,_,_,h,_=>⟨st,.nil st,rfl,λ_ _=>rfl,λk b=>h k (b.resolve_left (by simp[RC.asg]))⟩
 | .op d o rest,g,A,st,c,hg,h,hd=>by
  simp only[RC.offB]at c;simp only[RC.asg,Bb,d_,not_or]at hd;have u:∀k,Av.look (st.putO d (.v undef)).fr k=if d=some k then some (.v undef)else Av.look st.fr k:=λk=>iq st d _ k;have y:∀k,d=some k↔k∈jG d:=λk=>by cases d with|none=>simp[jG]|some j=>simp only[jG,h_,n_];omega
  obtain⟨a,p,s,z,B⟩:=Mx rest g (jG d++A) (st.putO d (.v undef)) c (by
   obtain⟨v,x,f⟩:=hg;refine⟨v,?_,f⟩;grind) (λk b=>by
   grind) hd.2
  refine⟨a,.cons _ _ st a (.v undef) (Oz hg d o.er) p,by rw[s];cases d<;>rfl,λk b=>?_,λk b=>?_⟩;·simp only[RC.asg,Bb,d_,not_or]at b;grind
  ·simp only[RC.asg,Bb,d_]at b;grind
 | .adj _ _,_,_,_,c,_,_,_=>by cases c
 | .gb t want blk ty r alt dst rest,g,A,st,c,hg,h,hd=>by
  simp only[RC.offB,a_,r_]at c;obtain⟨⟨⟨⟨F,H⟩,N⟩,I⟩,J⟩:=c;have C:t∈A:=inL_mem.1 F;have w:t∉blk.asg:=λe=>by rw[inL_mem.2 e]at H;grind
  simp only[RC.asg,d_,v_,not_or]at hd;obtain⟨st1,p,s,z,B⟩:=Mx blk (t,want) A st I ⟨undef,h t C,by intro e;cases e⟩ h w;have l:Off st1 g:=by obtain⟨v,x,f⟩:=hg;exact⟨v,by grind,f⟩
  have u:∀k,Av.look (st1.putO (some dst) (.v undef)).fr k=if some dst=some k then some (.v undef)else Av.look st1.fr k:=λk=>iq st1 (some dst) _ k;obtain⟨a,D,E,L,M⟩:=Mx rest g (dst::(blk.asg++A)) (st1.putO (some dst) (.v undef)) J (by
   obtain⟨v,x,f⟩:=l;refine⟨v,?_,f⟩;grind) (λk b=>by
   grind) hd.2.2
  refine⟨a,p.app (.cons _ _ _ a (.v undef) (Oz l _ _) D),by rw[E];exact s,λk b=>?_,λk b=>?_⟩;·simp only[RC.asg,d_,v_,not_or]at b;grind
  ·simp only[RC.asg,d_,v_]at b;grind
theorem za0{t:Ty}{v:V}{x:t.den}(a:t.sc=true)(h:d6 t v=some x):v= .d t x:=by
 cases v with
 |d u y=>obtain⟨rfl,rfl⟩:=bT (show cg u t y=some x from h);rfl
 |nil u=>obtain⟨rfl,_⟩:=bT (show cg (.list u) t []=some x from h);cases a
 |full u y=>obtain⟨rfl,_⟩:=bT (show cg (.list u) t y=some x from h);cases a
 |agg vs=>unfold d6 at h;cases t<;>first|(cases a;done)|cases h
 |_=>simp[d6,mP]at h
section
variable {P:Program} {O:ak}
def GOn(g:Option (Nat×Bool))(s:S)(A:List Nat):Prop:=match g with
 |none=>True
 |some (t,want)=>lk s.fr t=some (.d .bool want)/\t∉A
theorem cu(s:S)(k:Nat):Av.look (enc s).fr k=(lk s.fr k).map aZ:=vZ s.fr k
theorem zc2{g:Option (Nat×Bool)}{s:S}{A:List Nat}{st:St}(hg:GOn g s A)(a:Ext st (enc s)){d:Option Nat}{op:SOp}{x:AV}(h:ou P st op λy=>y=x):je P ⟨d,op,g⟩ st x:=by cases g with|none=>exact h|some g=>obtain⟨t,want⟩:=g;have:Av.look st.fr t=some (.v (.bool want)):=a.fr t _ (by rw[cu,hg.1];rfl);exact⟨_,this,_,rfl,λ_=>h,λe=>absurd rfl e⟩
theorem Hj(s:S)(d:Option Nat)(v:V)(k:Nat):lk (s.putO d v).fr k=if d=some k then some v else lk s.fr k:=by cases d with|none=>rfl|some j=>show(bif j_ k j then some v else lk s.fr k)=_;rw[jD];grind
theorem mem_dstL{d:Option Nat}{k:Nat}:d=some k↔k∈jG d:=by cases d with|none=>simp[jG]|some j=>simp only[jG,h_,n_];omega
theorem Tx(hO:OracleOk P O):∀(J:RC) (R:Type) (s:S) (κ kp:S->Option R) (r:R) (g:Option (Nat×Bool)) (st:St),J.wf P=true->J.pureB=true->J.gbB=true->Mt O R J s κ kp=some r->Ext st (enc s)->GOn g s J.asg->
 ∃s' j,Sys P (J.er g) st j/\Ext j (enc s')/\κ s'=some r/\s'.hp=s.hp/\∀k,k∉J.asg->lk s'.fr k=lk s.fr k
 | .nil,R,s,κ,kp,r,g,st,_,_,_,h,u,_=>⟨s,st,.nil st,u,h,rfl,λ_ _=>rfl⟩
 | .adj _ _,_,_,_,_,_,_,_,_,hp,_,_,_,_=>by cases hp
 | .op d o rest,R,s,κ,kp,r,g,st,L,hp,T,h,u,hg=>by
  simp only[RC.wf,a_]at L;simp only[RC.pureB,a_]at hp;simp only[RC.gbB]at T;obtain⟨v,h1,h2⟩:=Az hO L.1 hp.1 h;obtain⟨s',j,I,B,F,k4,k5⟩:=Tx hO rest R (s.putO d v) κ kp r g (st.putO d (aZ v)) L.2 hp.2 T h2 (by rw[kf];exact u.put d _) (by cases g with|none=>trivial|some g=>obtain⟨t,want⟩:=g;obtain⟨g1,Q⟩:=hg;simp only[RC.asg,Bb,d_,not_or]at Q;exact⟨by rw[Hj,if_neg λe=>Q.1 (mem_dstL.1 e)];omega,Q.2⟩)
  refine⟨s',j,.cons _ _ st j _ (zc2 hg u (zbR u h1)) I,B,F,by rw[k4];cases d<;>rfl,λk n=>?_⟩;simp only[RC.asg,Bb,d_,not_or]at n;rw[k5 k n.2,Hj,if_neg λe=>n.1 (mem_dstL.1 e)]
 | .gb t want blk ty M alt dst rest,R,s,κ,kp,r,g,st,L,hp,T,h,u,hg=>by
  simp only[RC.wf,a_]at L;obtain⟨⟨⟨⟨w1,w2⟩,w3⟩,w4⟩,w5⟩:=L;simp only[RC.pureB,a_]at hp;simp only[RC.gbB,a_]at T;obtain⟨⟨⟨b1,b2⟩,b3⟩,b4⟩:=T;simp only[Mt]at h;split at h
  ·rename_i b va Y E;split at h
   ·rename_i av H;obtain⟨l,H⟩:=aV H;have qr:=za0 b1 H;subst qr;simp only[f_,X_]at l;have ht:t∉blk.asg:=λe=>by grind
    obtain⟨c,hc,h2⟩:=cZ h;have ph:Av.look st.fr t=some (.v (.bool b)):=u.fr t _ (by rw[cu,Y];rfl);have N:∃st1,Sys P (blk.er (some (t,want))) st st1/\st1.hp=st.hp/\(∀k,lk s.fr k≠none->∀y,Av.look (enc s).fr k=some y->Av.look st1.fr k=some y)/\ou P st1 (N9 t want M.er alt.er) λy=>y=aZ (.d ty c):=by
     have f:∀(st1:St) (x y:SX),Av.look st1.fr t=some (.v (.bool b))->(b=true->st1.get x=some (aZ (.d ty c)))->(b=false->st1.get y=some (aZ (.d ty c)))->ou P st1 (.pick (.tm t) x y) λy=>y=aZ (.d ty c):=λst1 x y A D e3=>⟨_,A,_,rfl,b,rfl,λe=>⟨_,D e,rfl⟩,λe=>⟨_,e3 e,rfl⟩⟩
     have on:b=want->Mt O ty.den blk s (λs'=>match s'.get M with|some v=>d6 ty v|none=>none) (λ_=>none)=some c->(∃st1,Sys P (blk.er (some (t,want))) st st1/\st1.hp=st.hp/\(∀k,lk s.fr k≠none->∀y,Av.look (enc s).fr k=some y->Av.look st1.fr k=some y)/\ou P st1 (N9 t want M.er alt.er) λy=>y=aZ (.d ty c)):=λC gc=>by
      obtain⟨s1,st1,I,B,F,k4,k5⟩:=Tx hO blk ty.den s _ _ c (some (t,want)) st w1 w2 b3 gc u ⟨by grind,ht⟩
      split at F
      ·rename_i v hv;have:=za0 b1 F;subst this;have A:Av.look st1.fr t=some (.v (.bool b)):=B.fr t _ (by rw[cu,k5 t ht,Y];rfl);have D:st1.get M.er=some (aZ (.d ty c)):=B.get (aJ w3 hv);refine⟨st1,I,by rw[B.hp,u.hp];simp only[enc,k4],λk n y hy=>B.fr k y ?_,?_⟩;·rw[cu,k5 k λe=>n (l k e),<-cu];omega
       ·cases want with|true=>exact f st1 _ _ A (λ_=>D) λe=>by grind|false=>exact f st1 _ _ A (λe=>by grind) λ_=>D
      grind
     have off:b≠want->av=c->(∃st1,Sys P (blk.er (some (t,want))) st st1/\st1.hp=st.hp/\(∀k,lk s.fr k≠none->∀y,Av.look (enc s).fr k=some y->Av.look st1.fr k=some y)/\ou P st1 (N9 t want M.er alt.er) λy=>y=aZ (.d ty c)):=λC el=>by
      subst el
      obtain⟨st1,I,B,F,_⟩:=Mx (P:=P) blk (t,want) [] st b2 ⟨_,ph,λe=>C (al_ e)⟩ (λk n=>by grind) ht
      have A:Av.look st1.fr t=some (.v (.bool b)):=by grind
      have z:∀k,lk s.fr k≠none->∀y,Av.look (enc s).fr k=some y->Av.look st1.fr k=some y:=λk n y hy=>by rw[F k λe=>n (l k e)];exact u.fr k y hy
      have D:st1.get alt.er=some (aZ (.d ty av)):=by have:=aJ w4 E;cases alt with|tm k=>have h0:lk s.fr k=some (.d ty av):=E;exact z k (by grind) _ this|_=>exact this
      refine⟨st1,I,B,z,?_⟩
      cases want with|true=>exact f st1 _ _ A (λe=>absurd e C) λ_=>D|false=>exact f st1 _ _ A (λ_=>D) λe=>absurd e C
     grind
    obtain⟨st1,q1,q2,q3,q4⟩:=N;have w:∀p a,g=some (p,a)->lk s.fr p=some (.d .bool a)/\p∉blk.asg/\p≠dst/\p∉rest.asg:=λp a e=>by subst e;obtain⟨g1,Q⟩:=hg;simp only[RC.asg,d_,v_,not_or]at Q;grind
    have rg:je P ⟨some dst,(N9 t want M.er alt.er),g⟩ st1 (aZ (.d ty c)):=by cases g with|none=>exact q4|some g=>obtain⟨p,a⟩:=g;obtain⟨A,_⟩:=w p a rfl;have:Av.look st1.fr p=some (.v (.bool a)):=q3 p (by grind) _ (by rw[cu,A];rfl);exact⟨_,this,_,rfl,λ_=>q4,λe=>absurd rfl e⟩
    have U:Ext (st1.putO (some dst) (aZ (.d ty c))) (enc (s.put dst (.d ty c))):=by
     refine⟨by show st1.hp=(enc s).hp;rw[q2,u.hp],λk y n=>?_⟩;rw[iq];rw[cu]at n;have e:=Hj s (some dst) (.d ty c) k;rw[show s.putO (some dst) (.d ty c)=s.put dst (.d ty c)from rfl]at e;rw[e]at n;by_cases hd:some dst=some k;·grind
     ·rw[if_neg hd]at n⊢;refine q3 k (λe0=>by grind) y ?_;rw[cu];omega
    have ur:∀k,lk (s.put dst (.d ty c)).fr k=if some dst=some k then some (.d ty c)else lk s.fr k:=λk=>Hj s (some dst) (.d ty c) k;obtain⟨s',j,I,B,F,k4,k5⟩:=Tx hO rest R (s.put dst (.d ty c)) κ kp r g _ w5 hp.2 b4 h2 U (by cases g with|none=>trivial|some g=>obtain⟨p,a⟩:=g;obtain⟨A,D,e3,e4⟩:=w p a rfl;exact⟨by grind,e4⟩)
    refine⟨s',j,q1.app (.cons _ _ _ j _ rg I),B,F,k4,λk n=>?_⟩;simp only[RC.asg,d_,v_,not_or]at n;grind
   grind
  grind
def RC.adjW(m:Nat):RC->Bool
 | .nil=>true
 | .op _ _ rest=>rest.adjW m
 | .adj l rest=>MY m l&&rest.adjW m
 | .gb _ _ _ _ _ _ _ rest=>rest.adjW m
theorem Ts{A:List Nat}{s s':S}(h:∀k,k∉A->lk s'.fr k=lk s.fr k):Keeps A s s':=λk a=>by rw[h k a];exact⟨λ_ h _=>.inl h,λh=>h⟩
theorem Te:∀(b:RC) (g a:Option (Nat×Bool)),(b.er g).length=(b.er a).length
 | .nil,_,_=>rfl
 | .op d o rest,g,a=>by simp only[RC.er,ah_,Te rest g a]
 | .adj _ rest,g,a=>by simp only[RC.er,Te rest g a]
 | .gb t want blk ty r alt dst rest,g,a=>by simp only[RC.er,List.length_append,ah_,Te rest g a]
theorem zd5(hO:OracleOk P O){t:Nat}{want:Bool}{blk rest:RC}{ty:Ty}{c alt:X}{dst:Nat}{R:Type}{s:S}{κ kp:S->Option R}{r:R}{st:St}(b:(RC.gb t want blk ty c alt dst rest).wf P=true)(d:(RC.gb t want blk ty c alt dst rest).gbB=true) (h:Mt O R (.gb t want blk ty c alt dst rest) s κ kp=some r) (e:Ext st (enc s)):∃s' a,Sys P (blk.er (some (t,want))++[⟨some dst,(N9 t want c.er alt.er),none⟩]) st a/\Ext a (enc s')/\Mt O R rest s' κ kp=some r/\Keeps (blk.asg++[dst]) s s':=by simp only[RC.wf,a_]at b;simp only[RC.gbB,a_]at d;obtain⟨s',a,f,g,j,l,k⟩:=Tx hO (.gb t want blk ty c alt dst .nil) R s (λs'=>Mt O R rest s' κ kp) kp r none st (by simp only[RC.wf,b.1.1.1.1,b.1.1.1.2,b.1.1.2,b.1.2];rfl) (by simp only[RC.pureB,b.1.1.1.2];rfl) (by simp only[RC.gbB,d.1.1.1,d.1.1.2,d.1.2];rfl) h e trivial;exact⟨s',a,f,g,j,Ts k⟩
theorem nq(hO:OracleOk P O){m:Nat}:∀(p:RC) (R:Type) (s:S) (κ kp:S->Option R) (r:R) (K KP:St->Prop),p.wf P=true->p.gbB=true->p.adjW m=true->Mt O R p s κ kp=some r->
 (∀s',Keeps p.asg s s'->κ s'=some r->W m K (enc s'))->(∀s',Keeps p.asg s s'->kp s'=some r->KP (enc s'))->sops P m (p.er none) (enc s) K KP
 | .nil,R,s,κ,kp,r,K,KP,_,_,_,h,c,_=>c s (Keeps.refl _ _) h
 | .adj l rest,R,s,κ,kp,r,K,KP,g,n,j,h,c,e=>by simp only[Mt]at h;simp only[RC.adjW,a_]at j;obtain⟨u,A,h⟩:=H7 h;·obtain⟨F,D⟩:=A7 j.1 A;exact nB F (nq hO rest R u κ kp r K KP g n j.2 h (λs' a f=>c s' ((D _).trans a) f) λs' a f=>e s' ((D _).trans a) f)
 | .op d o rest,R,s,κ,kp,r,K,KP,g,n,j,h,c,e=>by
  simp only[RC.wf,a_]at g;refine W.mk ?_;simp only[m5];have b:∀k,k∈jG d\/k∈rest.asg->k∈(RC.op d o rest).asg:=λk a=>by simp only[RC.asg,Bb,d_];exact a
  refine sY (NE hO g.1 h) (λC ⟨u,x,y,z⟩=>?_) λC ⟨u,x,y,z⟩=>?_;·have v:=y.sub (B:=(RC.op d o rest).asg) λk a=>b k (.inl a);exact nB x.weak (nq hO rest R u κ kp r K KP g.2 n j z (λs' a f=>c s' (v.trans (a.sub λk a=>b k (.inr a))) f) λs' a f=>e s' (v.trans (a.sub λk a=>b k (.inr a))) f)
  ·rw[x];exact e u (y.sub λk a=>b k (.inl a)) z
 | .gb t want blk ty E alt dst rest,R,s,κ,kp,r,K,KP,g,n,j,h,c,e=>by
  obtain⟨u,st1,H,I,J,M⟩:=zd5 hO g n h (Ext.refl _);simp only[RC.wf,a_]at g;simp only[RC.gbB,a_]at n;have b:∀k,k∈blk.asg++[dst]\/k∈rest.asg->k∈(RC.gb t want blk ty E alt dst rest).asg:=λk a=>by simp only[RC.asg,d_,v_,av_,or_false]at a⊢;grind
  have w:=M.sub (B:=(RC.gb t want blk ty E alt dst rest).asg) λk a=>b k (.inl a);have:=H.sops (L:=rest.er none) (nB I.weak (nq hO rest R u κ kp r K KP g.2 n.2 j J (λs' a f=>c s' (w.trans (a.sub λk a=>b k (.inr a))) f) λs' a f=>e s' (w.trans (a.sub λk a=>b k (.inr a))) f));rw[O_]at this;exact this
def RC.drB:Nat->RC->Bool
 |0,_=>true
 |k+1,.op _ o rest=>o.pureB&&rest.drB k
 |k+1,.gb _ _ blk _ _ _ _ rest=>aa_ (blk.er none).length k&&rest.drB (k - (blk.er none).length)
 |_,_=>false
theorem zch(hO:OracleOk P O){m:Nat}:∀(p:RC) (k:Nat) (R:Type) (s:S) (κ kp:S->Option R) (r:R) (K KP:St->Prop) (st:St),p.drB k=true->p.wf P=true->p.gbB=true->p.adjW m=true->Mt O R p s κ kp=some r->Ext st (enc s)->(∀s',Keeps p.asg s s'->κ s'=some r->W m K (enc s'))->(∀s',Keeps p.asg s s'->kp s'=some r->KP (enc s'))->sdraw P m k (p.er none) st K KP:=by
 intro p;induction p with
 |nil=>intro k R s κ kp r K KP st hd f g u h j e c;cases k with|zero=>exact nB j.weak (nq hO .nil R s κ kp r K KP f g u h e c)|succ k=>cases hd
 |adj l rest _=>intro k R s κ kp r K KP st hd f g u h j e c;cases k with|zero=>have:=nB j.weak (nq hO (.adj l rest) R s κ kp r K KP f g u h e c);generalize RC.er none (RC.adj l rest)=L at this⊢;cases L<;>exact this|succ k=>cases hd
 |op d o rest A=>
  intro k R s κ kp r K KP st hd f g u h j e c;cases k with
  |zero=>exact nB j.weak (nq hO (.op d o rest) R s κ kp r K KP f g u h e c)|succ k=>
   simp only[RC.drB,a_]at hd;simp only[RC.wf,a_]at f;have a:∀k,k∈jG d\/k∈rest.asg->k∈(RC.op d o rest).asg:=λk b=>by simp only[RC.asg,Bb,d_];exact b
   obtain⟨v,C,D⟩:=Az hO f.1 hd.1 h;have x:=(Keeps.put s d v).sub (B:=(RC.op d o rest).asg) λk b=>a k (.inl b);exact⟨aZ v,zbR j C,A k R (s.putO d v) κ kp r K KP _ hd.2 f.2 g u D (by rw[kf];exact j.put d _) (λs' b w=>e s' (x.trans (b.sub λk b=>a k (.inr b))) w) λs' b w=>c s' (x.trans (b.sub λk b=>a k (.inr b))) w⟩
 |gb t want blk ty z alt dst rest _ A=>
  intro k R s κ kp r K KP st hd f g u h j e c;cases k with
  |zero=>have:=nB j.weak (nq hO (.gb t want blk ty z alt dst rest) R s κ kp r K KP f g u h e c);generalize RC.er none (RC.gb t want blk ty z alt dst rest)=L at this⊢;cases L<;>exact this|succ k=>
   simp only[RC.drB,a_]at hd;have E:=c_ hd.1;obtain⟨M,st1,F,H,I,J⟩:=zd5 hO f g h j;simp only[RC.wf,a_]at f;simp only[RC.gbB,a_]at g;have a:∀k,k∈blk.asg++[dst]\/k∈rest.asg->k∈(RC.gb t want blk ty z alt dst rest).asg:=λk b=>by simp only[RC.asg,d_,v_,av_,or_false]at b⊢;grind
   have y:=J.sub (B:=(RC.gb t want blk ty z alt dst rest).asg) λk b=>a k (.inl b);have hl:=Te blk (some (t,want)) none;have:=F.sdraw (L:=rest.er none) (n:=k - (blk.er none).length) (A _ R M κ kp r K KP st1 hd.2 f.2 g.2 u I H (λs' b w=>e s' (y.trans (b.sub λk b=>a k (.inr b))) w) λs' b w=>c s' (y.trans (b.sub λk b=>a k (.inr b))) w);rw[O_]at this;rw[show(blk.er (some (t,want))++[(⟨some dst,N9 t want z.er alt.er,none⟩:SOper)]).length+(k - (blk.er none).length)=k+1 by grind]at this
   exact this
end
theorem inL_iff{l:List Nat}{x:Nat}:r8 l x=true↔x∈l:=by unfold r8;simp
theorem Kg{l:List Nat}{x:Nat}(h:(!r8 l x)=true):x∉l:=λa=>by rw[inL_iff.2 a]at h;cases h
theorem J1(v:V):v.kids1=(aW v).kids:=by
 cases v<;>try rfl
 rename_i c;have a:∀i,i∉(aW (.raw c)).kids:=λi b=>by have:=BV.kids_ids b;rw[show(aW (.raw c)).ids=[]from G4 c]at this;grind
 exact(List.eq_nil_iff_forall_not_mem.2 a).symm
theorem NP(vs:List V):vs.flatMap V.kids1=(vs.map aW).flatMap BV.kids:=by induction vs with|nil=>rfl|cons v vs a=>simp only[Z_,m_,a,J1]
theorem E5(v:V):v.kids=(aZ v).kids:=by
 cases a:v.isA
 ·rw[sB a];have:v.kids=v.kids1:=by cases v<;>first|rfl|cases a
  rw[this];exact J1 v
 ·cases v with|agg vs=>exact NP vs|tup vs=>exact NP vs|_=>cases a
theorem J3(o:Ob):o.kids=(bV o).kids:=by
 cases o with
 |box t cs=>exact NP cs|tree e k t xs h=>cases h with|none=>rfl|some q=>obtain⟨i,j,v⟩:=q;exact J1 v
 |_=>rfl
theorem Fj(s:S)(p:PO):touch (enc s) p.so=Ux s p.so.rd p.o.er.lent:=by unfold touch Ux;congr 1;refine Ew λk _=>?_;rw[cu];cases lk s.fr k with|none=>rfl|some v=>exact(wI v).symm
theorem er_hf{o:TOp}:o.er.hf=true↔∃x,o= .mv x:=by cases o<;>simp[TOp.er,SOp.hf]
theorem OS(s:S)(p:PO)(a:p.rd=p.so.rd)(b:p.lent=p.o.er.lent):vq s p=(match p.b with|true=>fk (enc s) p.so|false=>touch (enc s) p.so):=by
 unfold vq;cases e:p.b with
 |false=>simp only;rw[Fj,a,b]|true=>
  simp only[fk];by_cases c:(∃x,p.o= .mv x)/\p.g=none;·obtain⟨⟨x,d⟩,hg⟩:=c;rw[d,hg];have:p.so.op.hf=true/\p.so.gd=none:=⟨by show p.o.er.hf=true;rw[d];rfl,hg⟩;grind
  ·have:¬(p.so.op.hf=true/\p.so.gd=none):=λh=>c ⟨er_hf.1 h.1,h.2⟩;rw[if_neg this,Fj,a,b];grind
theorem zaY{r:Av.Rec}{T:List Nat}{p:PO}(h:zdN r T p.so.rd p.o.er.lent p.d p.b=true):comm r T p.so p.b:=by
 unfold zdN at h;simp only[a_]at h;obtain⟨⟨⟨b,g⟩,j⟩,c⟩:=h;refine⟨λt a=>?_,λt a=>?_,λt a=>?_,λf t a=>?_,λf=>?_⟩;·rw[a]at b;simp only[a_]at b;refine⟨Kg b.1,λe=>?_⟩;have d:p.d=some t:=e;rw[d]at b;have:=b.2;simp only[T_]at this;grind
 ·have d:p.d=some t:=a;rw[d]at g;exact Kg g
 ·rw[a]at j;exact Kg j
 ·rw[f]at c;exact Kg (f_.1 c t a)
 ·rw[f]at c;exact λi k=>Kg (f_.1 c i k)
def PO.wf(P:Program)(p:PO):Bool:=p.o.wf P&&decide (p.rd=p.so.rd)&&decide (p.lent=p.o.er.lent)&&(match p.b with
 |true=>p.d.isSome&&(p.o.pureB||(p.o.isAt&&p.g.isNone))
 |false=>p.o.exB)
def zaF(a:List (List Nat)):List PO->Bool
 |[]=>true
 |p::l=>l.all (λq=>(a.getD q.j []).contains p.j||r8 q.us p.j)&&zaF a l
def wF(l:List PO):List Nat:=l.flatMap λp=>match p.d with|some d=>[d]|none=>[]
section
variable {R:Type} {P:Program} {O:ak}
theorem zfo(after:List (List Nat)):∀l,zaF (Py after) l=zaF (iO [] after) l
 |[]=>rfl
 |p::l=>by simp only[zaF,Mm,zfo after l]
theorem ED{s:S}{t:Nat}{v:V}(h:lk s.fr t=some v)(k:Nat):lk (s.put t v).fr k=lk s.fr k:=by
 show lk ((t,v)::s.fr) k=_;simp only[lk];cases a:j_ k t;·rfl
 ·have:=b_ a;grind
theorem MB{s:S}{t:Nat}{v:V}(h:lk s.fr t=some v):Eqs (enc (s.put t v)) (enc s):=⟨rfl,λk=>by rw[cu,cu,ED h]⟩
theorem wl{s:S}{t:Nat}{v:V}(h:lk s.fr t=some v)(A:List Nat):Keeps A s (s.put t v):=λk _=>by rw[ED h];exact⟨λv a _=>.inl a,λhn=>hn⟩
def ldS(F:List Nat)(ld:Option (Ty×Nat×Nat×V))(hp:List AObj):Prop:=∃t id off v,ld=some (t,id,off,v)/\∃s':S,hp=s'.hp.map bV/\(∀j∈NK s' id,j∈F)/\R3 s'.hp t id off=some v
def WN(a:RecV):Av.Rec×(List AObj->Prop):=(a.r,ldS a.r.F a.ld)
theorem ze8{k:Option R}{r:R}{v c:V}(h:ze7 k v c=some r):v=c/\k=some r:=by
 unfold ze7 at h;split at h
 ·rename_i t x u y;split at h;·rename_i z e;obtain⟨a,b⟩:=aV h;obtain⟨d,f⟩:=aV b;have:=Tc t x z a d;subst this;unfold cg at e;grind
  grind
 ·rename_i i o j q;obtain⟨a,b⟩:=aV h;simp only[a_]at a;rw[b_ a.1,b_ a.2];grind
 ·rename_i i j;obtain⟨a,b⟩:=aV h;rw[b_ a];grind
 grind
theorem Ff{T us:List Nat}{s':S}{k:Option R}{r:R}:∀{A:List RecV},reL T us s' k A=some r->k=some r/\∀a∈A,r8 us a.r.i=true->(∀i∈T,i∉a.r.F)\/ldS a.r.F a.ld (s'.hp.map bV)
 |[],h=>⟨h,λa w=>by grind⟩
 |a::A,h=>by
  unfold reL at h;cases hc:(!r8 us a.r.i||T.all (λt=> !r8 a.r.F t))
  ·rw[hc]at h;simp only[cond_false]at h;split at h
   ·rename_i t id off v hl;split at h
    ·rename_i x u;obtain⟨f,g⟩:=aV h;obtain⟨rfl,l⟩:=ze8 g;obtain⟨d,n⟩:=Ff l;refine⟨d,λb c e=>?_⟩;rcases v_.1 c with rfl|c;·exact .inr ⟨t,id,off,v,hl,s',rfl,λj s=>inL_iff.1 (f_.1 f j s),u⟩
     grind
    grind
   grind
  ·rw[hc]at h;simp only[cond_true]at h;obtain⟨d,n⟩:=Ff h;refine⟨d,λb c e=>?_⟩;rcases v_.1 c with rfl|c;·simp only[e,ac_,ao_]at hc;exact .inl λi p=>Kg (f_.1 hc i p)
   grind
theorem zhu(s:S)(hp:List Ob)(x:X):S.get ⟨s.fr,hp⟩ x=s.get x:=by cases x<;>rfl
theorem Z7{d:Option Nat}{t:Ty}{x:X}{s:S}{hp:List Ob}{id off:Nat}{v:V}{kp:S->Option S}(b:s.get x=some (.ptr id off))(a:R3 hp t id off=some v): evOp O d (.load t x) ⟨s.fr,hp⟩ (λs=>some s) kp=some (S.putO ⟨s.fr,hp⟩ d v):=by simp only[evOp,zhu,b,loadT];unfold R3 at a;grind
theorem zcj(hO:OracleOk P O){D:List (List Nat)}{K:St->Prop}{KC:Prop}:∀(l:List PO) (A:List RecV) (s:S) (κ kp:S->Option R) (r:R),l.all (PO.wf P)=true->zaF D l=true->(∀a∈A,∀q∈l,(D.getD q.j []).contains a.r.i=true\/r8 q.us a.r.i=true)->Ef O A l s κ kp=some r->(∀s',Keeps (wF l) s s'->κ s'=some r->K (enc s'))->(∀s',Keeps (wF l) s s'->kp s'=some r->KC)->B3 P (λi j=> !(D.getD j []).contains i) K KC (A.map WN) (l.map λp=>(p.j,p.b,p.so)) (enc s):=by
 intro l;induction l with
 |nil=>intro A s κ kp r _ _ _ h I _;exact⟨_,Eqs.refl _,I s (Keeps.refl _ _) h⟩|cons p l ih=>
  intro A s0 κ kp r hw hu hA h Bk At;simp only[C_,a_]at hw;obtain⟨GS,wr⟩:=hw;simp only[zaF,a_,f_,s_]at hu;obtain⟨RT,ur⟩:=hu;simp only[PO.wf,a_,decide_eq_true_eq]at GS;obtain⟨⟨⟨w1,w2⟩,w3⟩,w4⟩:=GS;have f:∀k,k∈jG p.d\/k∈wF l->k∈wF (p::l):=λk c=>by unfold wF at c⊢;rw[Z_,d_];refine c.imp (λh=>?_) id;cases hd:p.d<;>rw[hd]at h<;>exact h
  have DE:∀a∈A,∀q∈l,(D.getD q.j []).contains a.r.i=true\/r8 q.us a.r.i=true:=λa H q L=>hA a H q (p_ _ L);have B:∀{X:Av.Rec×(List AObj->Prop)->Prop},(∀a∈A,X (WN a))->∀r∈A.map WN,X r:=λh r hr=>by grind
  have Fm:∀a∈A,(!(D.getD p.j []).contains a.r.i)=true->r8 p.us a.r.i=true:=λa H Y=>by grind
  have Fk:∀s:S,(p.g=none\/∃t want,p.g=some (t,want)/\lk s.fr t=some (.d .bool want))->JK A s p=true->evOp O p.d p.o s (λs'=>reK A s s' p (Ef O (Kl A s s' p) l s' κ kp)) kp=some r->(∀s',Keeps (wF (p::l)) s s'->κ s'=some r->K (enc s'))->(∀s',Keeps (wF (p::l)) s s'->kp s'=some r->KC)->B3 P (λi j=> !(D.getD j []).contains i) K KC (A.map WN) ((p::l).map λp=>(p.j,p.b,p.so)) (enc s):=by
   intro s hg h1 z I N;simp only[JK,a_]at h1;obtain⟨⟨⟨c1,c2⟩,c3⟩,c4⟩:=h1;rw[w2,w3]at c1;simp only[Kl,reK,w2,w3]at z;have hT:=OS s p w2 w3;have g:∀a∈A,(!(D.getD p.j []).contains a.r.i)=true->comm a.r (match p.b with|true=>fk (enc s) p.so|false=>touch (enc s) p.so) p.so p.b:=λa H Y=>by
    have:=f_.1 c1 a H;simp only[s_]at this;rcases hA a H p (L_ ..)with h3|h3;·grind
    ·rw[h3]at this;rcases this with h4|h4;·grind
     ·rw[<-hT];exact zaY h4
   have Pc:∀{X X':St->Prop},sexec P p.d p.o.er (enc s) X X'->m5 P p.so (enc s) X X':=fun{X X'} hx=>by
    unfold m5;rcases hg with hg|⟨t,want,hg,hl⟩;·rw[show p.so.gd=none from hg];exact hx
    ·rw[show p.so.gd=some (t,want)from hg];exact⟨_,by rw[cu,hl];rfl,_,rfl,λ_=>hx,λQ=>absurd rfl Q⟩
   have PA:∀{x:AV},ou P (enc s) p.o.er (λy=>y=x)->je P p.so (enc s) x:=fun{x} hx=>by
    unfold je;rcases hg with hg|⟨t,want,hg,hl⟩;·rw[show p.so.gd=none from hg];exact hx
    ·rw[show p.so.gd=some (t,want)from hg];exact⟨_,by rw[cu,hl];rfl,_,rfl,λ_=>hx,λQ=>absurd rfl Q⟩
   cases hb:p.b with
   |false=>
    rw[hb]at w4 z g;simp only[cond_false]at z;simp only[m_,hb];refine⟨B g,?_⟩;have hx:=Y0 hO w1 w4 c3 z;refine Pc (sY hx (λPJ ⟨s',e1,e2,e3⟩=>?_) λPJ ⟨s',e1,e2,e3⟩=>N s' (e2.sub λk c=>f k (.inl c)) e3);rw[e1];obtain⟨e3,e9⟩:=Ff e3;refine⟨B λa H Y=>?_,?_⟩;·rw[Fj];exact e9 a H (Fm a H Y)
    exact ih A s' κ kp r wr ur DE e3 (λC c F=>I C ((e2.sub λk c=>f k (.inl c)).trans (c.sub λk c=>f k (.inr c))) F) λC c F=>N C ((e2.sub λk c=>f k (.inl c)).trans (c.sub λk c=>f k (.inr c))) F
   |true=>
    rw[hb]at w4 z g c2 hT;simp only at g hT;simp only[a_]at w4;obtain⟨KK,Pb⟩:=w4;obtain⟨dk,qr⟩:=ae_.1 KK;simp only[cond_true]at z;simp only[ac_,ao_]at c2;simp only[m_,hb];have Pa:∃E v s',BS P p.so (enc s) E/\E.x=aZ v/\E.slot.map (·.1)=Hw p.o/\enc s'=(enc s).app p.d E/\lk s'.fr dk=some v/\Keeps (jG p.d) s s'/\Ef O (A++[⟨⟨p.j,p.d,p.so.rd,Hw p.o,WM s s' p.d (vq s p),zcO s s' p.so.rd p.d⟩,Tt s s' p⟩]) l s' κ kp=some r:=by
     rcases Bool.or_eq_true_iff.1 Pb with T|el
     ·obtain⟨v,e1,e2⟩:=Az hO w1 T z;have rg:Hw p.o=none:=by cases L:p.o<;>first|rfl|(rw[L]at T;cases T)
      refine⟨⟨aZ v,none⟩,v,s.putO p.d v,PA e1,rfl,by grind,kf _ _ _,?_,Keeps.put _ _ _,e2⟩;rw[qr];simp only[Hj,if_true]
     ·simp only[a_]at el;obtain⟨el,gc⟩:=el;have gc:=X_.1 gc;cases L:p.o<;>(try (rw[L]at el;cases el;done))
      rename_i k op;rw[L]at z w1;obtain⟨ob,v,e1,e2⟩:=zaS (P:=P) (k:=k) (op:=op) w1 z;refine⟨⟨aZ v,some (k,bV ob)⟩,v,_,?_,rfl,rfl,?_,?_,(Keeps.fr (s':=⟨s.fr,setAt s.hp k ob⟩) rfl).trans (Keeps.put _ p.d v),e2⟩
      ·have:p.so=⟨p.d,.atq k op.er,none⟩:=by unfold PO.so;rw[L,gc];rfl
       grind
      ·rw[kf,kO];rfl
      ·rw[qr];simp only[Hj,if_true]
    obtain⟨E,v,s',e1,e2,e3,e4,e5,e6,e7⟩:=Pa;have RK:za9 s' p.d=v.kids:=by unfold za9;grind
    have DQ:∀i∈E.x.kids,i∈WM s s' p.d (vq s p):=λi n=>by rw[e2,<-E5]at n;exact d_.2 (.inr (by grind))
    have DH:∀t∈p.so.rd,∀y,Av.look (enc s).fr t=some y->∀i∈y.kids,i∈zcO s s' p.so.rd p.d:=λt ht y M i n=>by rw[cu]at M;refine d_.2 (.inl (u_.2 ⟨t,ht,?_⟩));cases hl:lk s.fr t with|none=>grind|some w=>rw[hl]at M;simp only[S_,h_]at M;rw[<-M,<-E5]at n;omega
    have JT:zia (A.map WN) (ldS (WM s s' p.d (vq s p)) (Tt s s' p)) (zcO s s' p.so.rd p.d) E:=λk ob c=>by
     have CT:Hw p.o=some k:=by rw[<-e3,c];rfl
     refine⟨λj hj=>?_,λhp F=>?_,B λa H hp hf F=>?_⟩;·unfold BS at e1;rw[c]at e1;obtain⟨_,u,hu,hm⟩:=e1;obtain⟨t,ht,y,M,Nd⟩:=zff (ob:=ob) (xt hm λo m h=>h) j hj;exact DH t (by unfold SOper.rd;rw[hu];exact d_.2 (.inl ht)) y M j Nd
     ·obtain⟨t,id,off,v,hl,_⟩:=F;cases L:p.o<;>rw[L]at CT<;>try (cases CT;done)
      unfold Tt at hl;rw[L]at hl;cases hl
     ·obtain⟨t,id,off,v,hl,C,BT,J,U⟩:=F;have Q:id≠k:=λe=>by unfold zg3 at c4;rw[CT]at c4;have:=f_.1 c4 a H;rw[hl,e]at this;simp at this
      have DM:(C.hp.set k .free)[id]? =C.hp[id]? :=R_ Q.symm;refine⟨t,id,off,v,hl,⟨C.fr,C.hp.set k .free⟩,?_,?_,?_⟩
      ·have:(hp.set k ob).set k .free=hp:=by
        rw[List.set_set];refine Y_ λi=>?_;by_cases n:k=i;·subst n;rw[P_ (i_.1 hf).1,hf]
        ·rw[R_ n]
       rw[J_,<-BT];exact this.symm
      ·unfold NK at J⊢;rw[DM];exact J
      ·unfold R3 at U⊢;rw[DM];exact U
    refine⟨B g,E,WM s s' p.d (vq s p),zcO s s' p.so.rd p.d,ldS (WM s s' p.d (vq s p)) (Tt s s' p),e1,⟨λi n=>?_,DQ⟩,⟨λi n=>?_,DH⟩,λIn hS Bx=>?_,JT,?_⟩;·rw[<-hT]at n;have CD:=f_.1 c2 i n;have ph:i<s.hp.length:=c_ CD;refine⟨d_.2 (.inl (d_.2 (.inl n))),_,by rw[bR,g_ ph];rfl,λj hj=>?_⟩;rw[<-J3]at hj;refine d_.2 (.inl (d_.2 (.inr (u_.2 ⟨i,n,?_⟩))));unfold NK;grind
    ·rw[e2,<-E5]at n;exact d_.2 (.inr (by grind))
    ·obtain⟨t,id,off,v2,hl,C,BT,J,U⟩:=hS;unfold Tt at hl;split at hl;case h_2=>grind
     rename_i t' x d ho gc hd;split at hl;case h_2=>grind
     rename_i RW Rg So hx Fr;cases hl;rw[qr]at hd;cases hd;rw[e5]at Fr;cases Fr;have rg:E.slot=none:=by rw[ho]at e3;cases hs:E.slot with|none=>rfl|some q=>rw[hs]at e3;cases e3
     have DA:p.so=⟨some dk,.load t.sz t.ag x.er,none⟩:=by unfold PO.so;rw[ho,gc,qr];rfl
     rw[ho]at w1;obtain⟨v3,g1,g2⟩:=Az (P:=P) (O:=O) hO w1 (by rfl) (Z7 (O:=O) (d:=some dk) (t:=t) (kp:=λ_=>none) hx U);have PB:v3=v:=by have:=congrArg (λs:S=>lk s.fr dk) (al_ g2);simpa only[Hj,if_true,h_]using this
     subst PB;have MT:∀i∈fk In p.so,i=id:=λi n=>by
      rw[DA]at n;unfold fk at n;rw[if_neg (λh=>by grind)]at n;unfold touch at n;simp only[SOp.lent,az_]at n;obtain⟨k,c,h0⟩:=u_.1 n;have DP:k∈x.er.rd:=by simpa[SOper.rd,SOp.rd]using c
      rw[Bx k (by grind),cu]at h0;cases x with
      |tm k0=>
       have:k=k0:=by simpa[X.er,SX.rd]using DP
       subst this;rw[show lk s.fr k=some (.ptr id off)from hx]at h0;exact n_.1 h0
      |_=>cases DP
     refine⟨?_,λi n=>?_,DQ⟩;·unfold BS;rw[rg,DA,e2];refine I6 ⟨λk c y M=>?_,λk c y M i n ob DS=>by rw[BT];exact DS⟩ g1;rw[Bx k (by rw[DA];exact d_.2 (.inl c))];exact M
     ·have h1:=n;rw[AR Bx,<-hT]at h1;have:=MT i n;subst this;refine⟨d_.2 (.inl (d_.2 (.inl h1))),?_⟩;unfold R3 at U;split at U;case h_2=>grind
      rename_i tid cs DS;refine⟨bV (.box tid cs),by grind,λj hj=>J j ?_⟩;rw[<-J3]at hj;unfold NK;grind
    ·rw[e3];have:=ih _ s' κ kp r wr ur (λa H q L=>?_) e7 (λC c F=>I C ((e6.sub λk c=>f k (.inl c)).trans (c.sub λk c=>f k (.inr c))) F) λC c F=>N C ((e6.sub λk c=>f k (.inl c)).trans (c.sub λk c=>f k (.inr c))) F;·rw[w_,e4]at this;exact this
     grind
  have Dg:∀(s:S) t want b,p.g=some (t,want)->lk s.fr t=some (.d .bool b)->(want==b)=false->JK A s p=true->reK A s (s.putO p.d (.raw Go.undef)) p (Ef O (Kl A s (s.putO p.d (.raw Go.undef)) p) l (s.putO p.d (.raw Go.undef)) κ kp)=some r->(∀s',Keeps (wF (p::l)) s s'->κ s'=some r->K (enc s'))->(∀s',Keeps (wF (p::l)) s s'->kp s'=some r->KC)->B3 P (λi j=> !(D.getD j []).contains i) K KC (A.map WN) ((p::l).map λp=>(p.j,p.b,p.so)) (enc s):=by
   intro s t want b hg hl Q h1 z I N;simp only[JK,a_]at h1;obtain⟨⟨⟨c1,c2⟩,c3⟩,c4⟩:=h1;rw[w2,w3]at c1;simp only[Kl,reK,w2,w3]at z;have hT:=OS s p w2 w3;have g:∀a∈A,(!(D.getD p.j []).contains a.r.i)=true->comm a.r (match p.b with|true=>fk (enc s) p.so|false=>touch (enc s) p.so) p.so p.b:=λa H Y=>by
    have:=f_.1 c1 a H;simp only[s_]at this;rcases hA a H p (L_ ..)with h3|h3;·grind
    ·rw[h3]at this;rcases this with h4|h4;·grind
     ·rw[<-hT];exact zaY h4
   have Hx:yv (.bool b)≠some want:=λe=>by
    have:b=want:=by simpa[yv]using e
    grind
   have e4:enc (s.putO p.d (.raw Go.undef))=(enc s).putO p.d (.v Go.undef):=kf _ _ _;have e6:Keeps (jG p.d) s (s.putO p.d (.raw Go.undef)):=Keeps.put _ _ _;cases hb:p.b with
   |false=>
    rw[hb]at z g;simp only[cond_false]at z;simp only[m_,hb];refine⟨B g,?_⟩;unfold m5;rw[show p.so.gd=some (t,want)from hg];obtain⟨z,e9⟩:=Ff z;refine⟨_,by rw[cu,hl];rfl,_,rfl,λhe=>absurd he Hx,λ_=>?_⟩;show zds _ _ _ _ ((enc s).putO p.d (.v Go.undef)).hp/\B3 P _ K KC (A.map WN) _ ((enc s).putO p.d (.v Go.undef));rw[<-e4];refine⟨B λa H Y=>?_,?_⟩;·rw[Fj];exact e9 a H (Fm a H Y)
    exact ih A _ κ kp r wr ur DE z (λC c F=>I C ((e6.sub λk c=>f k (.inl c)).trans (c.sub λk c=>f k (.inr c))) F) λC c F=>N C ((e6.sub λk c=>f k (.inl c)).trans (c.sub λk c=>f k (.inr c))) F
   |true=>
    rw[hb]at w4 z g c2 hT;simp only at g hT;simp only[a_]at w4;simp only[cond_true]at z;simp only[ac_,ao_]at c2;simp only[m_,hb];have rg:Hw p.o=none:=by
     have T:p.o.pureB=true:=by grind
     cases L:p.o<;>first|rfl|(rw[L]at T;cases T)
    have RM:Tt s (s.putO p.d (.raw Go.undef)) p=none:=by unfold Tt;grind
    refine⟨B g,⟨.v Go.undef,none⟩,WM s (s.putO p.d (.raw Go.undef)) p.d (vq s p),zcO s (s.putO p.d (.raw Go.undef)) p.so.rd p.d,ldS (WM s (s.putO p.d (.raw Go.undef)) p.d (vq s p)) (Tt s (s.putO p.d (.raw Go.undef)) p),?_,⟨λi n=>?_,λi n=>?_⟩,⟨λi n=>(by cases n),λt ht y M i n=>?_⟩,λIn hS=>?_,λk ob e=>(by cases e),?_⟩;·show je P p.so (enc s) (.v Go.undef);unfold je;rw[show p.so.gd=some (t,want)from hg];exact⟨_,by rw[cu,hl];rfl,_,rfl,λhe=>absurd he Hx,λ_=>rfl⟩
    ·rw[<-hT]at n;have CD:=f_.1 c2 i n;have ph:i<s.hp.length:=c_ CD;refine⟨d_.2 (.inl (d_.2 (.inl n))),_,by rw[bR,g_ ph];rfl,λj hj=>?_⟩;rw[<-J3]at hj;refine d_.2 (.inl (d_.2 (.inr (u_.2 ⟨i,n,?_⟩))));unfold NK;grind
    ·cases n
    ·rw[cu]at M;refine d_.2 (.inl (u_.2 ⟨t,ht,?_⟩));cases hl:lk s.fr t with|none=>grind|some w=>rw[hl]at M;simp only[S_,h_]at M;rw[<-M,<-E5]at n;omega
    ·obtain⟨_,_,_,_,hl,_⟩:=hS;grind
    ·have:=ih _ _ κ kp r wr ur (λa H q L=>?_) z (λC c F=>I C ((e6.sub λk c=>f k (.inl c)).trans (c.sub λk c=>f k (.inr c))) F) λC c F=>N C ((e6.sub λk c=>f k (.inl c)).trans (c.sub λk c=>f k (.inr c))) F;·rw[w_,e4]at this;show B3 P _ K KC (A.map WN++[(⟨p.j,p.d,p.so.rd,none,_,_⟩,_)]) _ ((enc s).putO p.d (.v Go.undef));rw[<-rg];exact this
     grind
  simp only[Ef]at h;cases hg:p.g with
  |none=>grind|some q=>
   obtain⟨t,want⟩:=q;rw[hg]at h;simp only at h;split at h
   ·rename_i b hl;rcases DB:(want==b)with _|_
    ·rw[DB]at h;have hb:b= !want:=by cases b<;>cases want<;>first|rfl|grind
     subst hb;obtain⟨h1,z⟩:=aV h;refine AM _ _ _ _ (MB hl) ?_;exact Dg _ t want _ hg (by rw[ED hl];omega) DB h1 z (λs' c=>Bk s' ((wl hl _).trans c)) λs' c=>At s' ((wl hl _).trans c)
    ·rw[DB]at h;have:want=b:=by grind
     subst this;obtain⟨h1,z⟩:=aV h;refine AM _ _ _ _ (MB hl) ?_;exact Fk _ (.inr ⟨t,want,hg,by rw[ED hl];omega⟩) h1 z (λs' c=>Bk s' ((wl hl _).trans c)) λs' c=>At s' ((wl hl _).trans c)
   grind
theorem J6(hO:OracleOk P O){m:Nat}{K KP:St->Prop}:∀(l:List PO) (s:S) (κ kp:S->Option R) (r:R),l.all (λp=>p.o.wf P)=true->evL O l s κ kp=some r->
 (∀s',Keeps (wF l) s s'->κ s'=some r->W m K (enc s'))->(∀s',Keeps (wF l) s s'->kp s'=some r->KP (enc s'))->sops P m (l.map PO.so) (enc s) K KP
 |[],s,κ,kp,r,_,h,j,_=>j s (Keeps.refl _ _) h
 |p::l,s0,κ,kp,r,z,h,v,u=>by
  rw[C_,a_]at z;have f:∀k,k∈jG p.d\/k∈wF l->k∈wF (p::l):=λk d=>by simp only[wF,Z_,d_];exact d
  have I:∀(s:S),(∀s',Keeps (wF (p::l)) s s'->κ s'=some r->W m K (enc s'))->(∀s',Keeps (wF (p::l)) s s'->kp s'=some r->KP (enc s'))->evOp O p.d p.o s (λs'=>evL O l s' κ kp) kp=some r->sexec P p.d p.o.er (enc s) (λst=>sops P m (l.map PO.so) st K KP) KP:=by
   intro s j n h
   refine sY (NE hO z.1 h) (λy ⟨H,A,C,D⟩=>?_) λy ⟨H,A,C,D⟩=>?_
   ·have g:=C.sub (B:=wF (p::l)) λk d=>f k (.inl d);exact nB A.weak (J6 hO l H κ kp r z.2 D (λs' d x=>j s' (g.trans (d.sub λk d=>f k (.inr d))) x) λs' d x=>n s' (g.trans (d.sub λk d=>f k (.inr d))) x)
   ·rw[A];exact n H (C.sub λk d=>f k (.inl d)) D
  have skip:∀(s:S),(∀s',Keeps (wF (p::l)) s s'->κ s'=some r->W m K (enc s'))->(∀s',Keeps (wF (p::l)) s s'->kp s'=some r->KP (enc s'))->evL O l (s.putO p.d (.raw Go.undef)) κ kp=some r->sops P m (l.map PO.so) ((enc s).putO p.d (.v Go.undef)) K KP:=by
   intro s j n h
   have M:enc (s.putO p.d (.raw Go.undef))=(enc s).putO p.d (.v Go.undef):=kf _ _ _
   have N:Keeps (jG p.d) s (s.putO p.d (.raw Go.undef)):=Keeps.put _ _ _
   have g:=N.sub (B:=wF (p::l)) λk d=>f k (.inl d)
   rw[<-M]
   exact J6 hO l _ κ kp r z.2 h (λs' d x=>j s' (g.trans (d.sub λk d=>f k (.inr d))) x) λs' d x=>n s' (g.trans (d.sub λk d=>f k (.inr d))) x
  show W m (λst=>m5 P p.so st (λy=>sops P m (l.map PO.so) y K KP) KP) (enc s0);simp only[evL]at h;split at h;·rename_i hg;refine W.mk ?_;unfold m5;rw[show p.so.gd=none from hg];exact I s0 v u h
  ·rename_i t want hg;split at h
   ·rename_i b hl;have e:Weak m (enc s0) (enc (s0.put t (.d .bool b))):=λc a w _ hr=>Rel.congr (MB hl).1 (MB hl).2 hr;refine W.to _ e ?_;unfold m5;rw[show p.so.gd=some (t,want)from hg];have F:Av.look (enc (s0.put t (.d .bool b))).fr t=some (.b (.pv (.sc (.bool b)))):=by rw[cu,ED hl,hl];rfl
    have J:∀s',Keeps (wF (p::l)) (s0.put t (.d .bool b)) s'->κ s'=some r->W m K (enc s'):=λs' d=>v s' ((wl hl _).trans d);have L:∀s',Keeps (wF (p::l)) (s0.put t (.d .bool b)) s'->kp s'=some r->KP (enc s'):=λs' d=>u s' ((wl hl _).trans d);refine⟨_,F,.bool b,rfl,λE=>?_,λE=>?_⟩;·cases b<;>cases want<;>first|(exact I _ J L h)|(exact absurd E (by decide))
    ·cases b<;>cases want<;>first|(exact skip _ J L h)|(exact absurd rfl E)
   grind
theorem Sl{m:Nat}{s:S}:∀(r:Nat),Weak m (enc s) (enc ⟨s.fr,s.hp++I_ r .free⟩)
 |0=>by rw[List.replicate_zero,az_];exact Weak.refl _ _
 |r+1=>by
  refine(Sl r).trans ?_;rintro c a w _ ⟨θ,D,b⟩;refine⟨θ++[.no],D,?_⟩;have:=b.push (l:=.no) (o:=.free) trivial λg hg=>by cases hg
  rw[List.replicate_succ',<-O_];have e:=Ee ⟨s.fr,s.hp++I_ r .free⟩ .free;simp only at e;rw[e];exact this
theorem zee{pre:List PO}(hn:(pre.map (·.j)).Nodup){p:PO}(hp:p∈pre)(b:p.j<pre.length)(tl:List SOper):(Qn pre++tl).getD p.j default=p.so:=by
 have hl:(Qn pre).length=pre.length:=by simp[Qn]
 have c:pre.find? (λq=>j_ q.j p.j)=some p:=by
  clear hl b;induction pre with
  |nil=>grind|cons q pre d=>
   rw[m_,List.nodup_cons]at hn;rw[aA_];rcases v_.1 hp with rfl|hp;·simp
   ·have:j_ q.j p.j=false:=by cases a:j_ q.j p.j with|false=>rfl|true=>exact absurd (Q_.2 ⟨p,hp,(b_ a).symm⟩) hn.1
    grind
 rw[aH_,t_ (by omega)];unfold Qn;grind
end
def zh7(xs:List (Nat×Sh)):Bool:=xs.all λx=>x.2.wfB
def TC.wf(P:Program)(m:Nat):TC->Bool
 | .region ops=>ops.wf P&&ops.gbB&&ops.adjW m
 | .draw k ops _=>ops.wf P&&ops.gbB&&ops.adjW m&&ops.drB k
 | .draw2 _ pre tl af=>tl.wf P&&tl.gbB&&tl.adjW m&&pre.all (PO.wf P)&&zaF (Py af) pre&&decide (pre.map (·.j)).Nodup&&pre.all (λp=>decide (p.j<pre.length))
 | .regL pre=>pre.all λp=>p.o.wf P
 | .seq a b=>a.wf P m&&b.wf P m
 | .cond x a b=>x.wf&&a.wf P m&&b.wf P m
 | .block _ a=>a.wf P m
 | .loop sh xs a=>sh.wfB&&zh7 xs&&a.wf P m
 | .adj l a=>MY m l&&a.wf P m
 | .after a l=>MY m l&&a.wf P m
 | .cut xs a=>zh7 xs&&a.wf P m
 |_=>true
section
variable {P:Program} {O:ak} {n m:Nat}
theorem zdD{x:AC}{Q:AE->St->Prop}:∀{a b:St},Weak m a b->UA P m x Q b->UA P m x Q a:=by induction x generalizing Q with|skip=>exact λh k=>W.from h k|region f=>exact λh k=>nB h k|draw k f af=>exact λh k=>W.from h k|draw2 ord f af=>exact λh k=>W.from h k|seq a b d e=>exact λh k=>d h k|cond c a b d e=>exact λh k=>W.from h k|block id a d=>exact λh k=>d h k|loop a d=>exact λh k=>W.from h k|exit id=>exact λh k=>W.from h k|ret=>exact λh k=>W.from h k
theorem qi{fr:List (Nat×V)}:∀{l:List Nat} {k:Nat} {v:V},lk (fg fr l) k=some v->k∈l/\lk fr k=some v/\v.isD=true
 |[],k,v,h=>by cases h
 |j::l,k,v,h=>by
  simp only[fg]at h;split at h
  ·rename_i u d;cases hd:u.isD;·rw[hd]at h;obtain⟨a,b⟩:=qi h;grind
   ·rw[hd]at h;simp only[cond_true,lk,jD]at h;by_cases c:k=j;·grind
    ·rw[decide_eq_false c]at h;obtain⟨a,b⟩:=qi h;grind
  ·obtain⟨a,b⟩:=qi h;grind
theorem s3:∀(l:List Slot) (c:HL l) (b:S) (k:Nat),(∀t,Slot.tm k t∉l)->lk (unpack l c b).fr k=lk b.fr k
 |[],_,_,_,_=>rfl
 | .tm j t::l,c,b,k,h=>by have:=s3 l c.2 ⟨(j,.d t c.1)::b.fr,b.hp⟩ k λt a=>h t (p_ _ a);show lk (unpack l c.2 ⟨(j,.d t c.1)::b.fr,b.hp⟩).fr k=_;rw[this];simp only[lk,jD];grind
 | .cell _ _ _::l,c,b,k,h=>s3 l c.2 _ k λt a=>h t (p_ _ a)
 | .vec _ _ _::l,c,b,k,h=>s3 l c.2 _ k λt a=>h t (p_ _ a)
 | .map _ _ _ _ _::l,c,b,k,h=>s3 l c.2 _ k λt a=>h t (p_ _ a)
 | .tree _ _ _ _::l,c,b,k,h=>s3 l c.2 _ k λt a=>h t (p_ _ a)
 | .treeH _ _ _ _ _ _::l,c,b,k,h=>s3 l c.2 _ k λt a=>h t (p_ _ a)
theorem Y9{A:List Nat}{fr:List (Nat×V)}{k:Nat}(h:wa A fr k=true):k∈A\/∃v,lk fr k=some v/\v.isD=false:=by
 simp only[wa,s_]at h;rcases h with h|h;·exact .inl (inL_mem.1 h)
 grind
theorem zh2{fr:List (Nat×V)}{k:Nat}(h:lk fr k≠none):∃v,(k,v)∈fr:=by cases a:lk fr k with|none=>exact absurd a h|some v=>exact⟨v,NS a⟩
structure OkAt(sh:Sh)(A:List Nat)(s:S):Prop where
 keep:∀k∈sh.keep,k∉A
 tm:∀k t,Slot.tm k t∈sh.sl->wa A s.fr k=true
 sk:∀x∈sh.sk.fr,wa A s.fr x.1=true
theorem zbr{sh:Sh}{A:List Nat}{s:S}(h:sh.okAt A s=true):OkAt sh A s:=by simp only[Sh.okAt,a_,f_,r_]at h;refine⟨λk a e=>?_,λk t a=>h.1.2 _ a,h.2⟩;have:=h.1.1 k a;rw[inL_mem.2 e]at this;grind
theorem zdE{sh:Sh}{A:List Nat}{s:S}(d:OkAt sh A s)(c:HL sh.sl){k:Nat}(p:k∉A):(∀v,lk s.fr k=some v->v.isD=true->lk (unpack sh.sl c (sh.base s)).fr k=lk (fg s.fr sh.keep) k)/\(lk s.fr k=none->lk (unpack sh.sl c (sh.base s)).fr k=none):=by
 have a:(∀v,lk s.fr k=some v->v.isD=true)->wa A s.fr k≠true:=λhd e=>by rcases Y9 e with h|⟨v,l,n⟩;all_goals grind
 have step:(∀v,lk s.fr k=some v->v.isD=true)->lk (unpack sh.sl c (sh.base s)).fr k=lk (fg s.fr sh.keep) k:=λhd=>by
  rw[s3 _ _ _ _ λt g=>a hd (d.tm k t g)];show lk (fg s.fr sh.keep++sh.sk.fr) k=_;rw[RI];have:lk sh.sk.fr k=none:=W_ λe=>by obtain⟨v,f⟩:=zh2 e;exact a hd (d.sk _ f)
  grind
 refine⟨λv f hd=>step λu j=>by grind,λhn=>?_⟩;rw[step λu j=>by grind];cases b:lk (fg s.fr sh.keep) k with|none=>rfl|some v=>have:=(qi b).2.1;grind
theorem M5{sh:Sh}{A:List Nat}{s:S}(f:OkAt sh A s)(c:HL sh.sl):Keeps A s (unpack sh.sl c (sh.base s)):=λk e=>by obtain⟨b,d⟩:=zdE f c e;refine⟨λv g hd=>?_,d⟩;rw[b v g hd];cases a:lk (fg s.fr sh.keep) k with|none=>simp|some u=>have:=(qi a).2.1;grind
theorem kept{sh:Sh}{A:List Nat}{s s':S}{c:HL sh.sl}(j:OkAt sh A s)(g:Keeps A s s')(hp:pack sh s'=some c):∀k v,lk (fg s.fr sh.keep) k=some v->lk s'.fr k=some v:=λk v h=>by
 obtain⟨a,e,f⟩:=qi h;rcases(g k (j.keep k a)).1 v e f with b|b;·omega
 ·unfold pack at hp;split at hp;·rename_i d;simp only[a_,f_]at d;have:=d.2 k a;simp only[zd6,b]at this;grind
  grind
theorem IJ{R:Type}{s s':S}{κ:Nat->S->Option R}{r:R}:∀{xs:List (Nat×Sh)} {key:Nat} {c:XT xs},inj xs key s'=some c->oP s κ xs c=some r->∃sh,(key,sh)∈xs/\∃d:HL sh.sl,pack sh s'=some d/\κ key (unpack sh.sl d (sh.base s))=some r
 |[],key,c,h,_=>by grind
 |[(k,sh)],key,c,h,hd=>by
  simp only[inj,jD]at h;by_cases e:k=key;·subst e;rw[decide_eq_true rfl]at h;exact⟨sh,L_ ..,c,h,hd⟩
  grind
 |(k,sh)::a::l,key,c,h,hd=>by
  simp only[inj,jD]at h;by_cases e:k=key
  ·subst e;rw[decide_eq_true rfl]at h;simp only[cond_true]at h;split at h;·rename_i d b;cases h;exact⟨sh,L_ ..,d,b,hd⟩
   grind
  ·rw[decide_eq_false e]at h;simp only[cond_false]at h;split at h;·rename_i d b;cases h;obtain⟨f,g,j⟩:=IJ (xs:=a::l) b hd;grind
   grind
structure Post(D2:Prop)(m:Nat)(A:List Nat)(s:S){R:Type}(Q:AE->St->Prop)(kn:S->Option R)(kx:Nat->S->Option R)(kr kp:S->Option R)(r:R):Prop where
 n:∀s',Keeps A s s'->kn s'=some r->W m (Q .normal) (enc s')
 x:∀i s',Keeps A s s'->kx i s'=some r->W m (Q (.exit i)) (enc s')
 rt:∀s',Keeps A s s'->kr s'=some r->W m (Q .ret) (enc s')
 p:∀s',Keeps A s s'->kp s'=some r->Q .pan (enc s')
 c:∀st,W m (Q .pan) st->Q .pan st
 d:D2->∀st st',Q .pan st->Q .pan st'
theorem Post.sub{D2:Prop}{A B:List Nat}{s:S}{R:Type}{Q:AE->St->Prop}{kn:S->Option R}{kx:Nat->S->Option R}{kr kp:S->Option R}{r:R}(h:Post D2 m A s Q kn kx kr kp r)(hs:∀k∈B,k∈A):Post D2 m B s Q kn kx kr kp r:=⟨λs' z=>h.n s' (z.sub hs),λi s' z=>h.x i s' (z.sub hs),λs' z=>h.rt s' (z.sub hs),λs' z=>h.p s' (z.sub hs),h.c,h.d⟩
theorem Post.from{D2:Prop}{A:List Nat}{s H:S}{R:Type}{Q:AE->St->Prop}{kn:S->Option R}{kx:Nat->S->Option R}{kr kp:S->Option R}{r:R}(h:Post D2 m A s Q kn kx kr kp r)(z:Keeps A s H):Post D2 m A H Q kn kx kr kp r:=⟨λs' E=>h.n s' (z.trans E),λi s' E=>h.x i s' (z.trans E),λs' E=>h.rt s' (z.trans E),λs' E=>h.p s' (z.trans E),h.c,h.d⟩
theorem YQ{D2:Prop}{A:List Nat}{s s':S}{R:Type}{Q:AE->St->Prop}{kn:S->Option R}{kx:Nat->S->Option R}{kr kp:S->Option R}{r:R}{xs:List (Nat×Sh)}{c:XT xs}{key:Nat}(a:Post D2 m A s Q kn kx kr kp r)(j:zh7 xs=true)(h:xs.all (λx=>x.2.okAt A s)=true) (u:Keeps A s s') (p:inj xs key s'=some c) (hd:oP s (λkey s=>match key with|0=>kn s|1=>kr s|2=>kp s|i+3=>kx i s) xs c=some r): match key with|0=>W m (Q .normal) (enc s')|1=>W m (Q .ret) (enc s')|2=>Q .pan (enc s')|i+3=>W m (Q (.exit i)) (enc s'):=by
 obtain⟨sh,k,n,l,b⟩:=IJ p hd
 have f:=zbr (f_.1 h _ k)
 have g:sh.wfB=true:=f_.1 j _ k
 have e:=(TB (s0:=s) g l (kept f u l)).weak (m:=m)
 have d:=M5 f n
 match key,b with|0,b=>exact W.from e (a.n _ d b)|1,b=>exact W.from e (a.rt _ d b)|2,b=>exact a.c _ (W.to _ e (a.p _ d b))|i+3,b=>exact W.from e (a.x i _ d b)
theorem E6{D2:Prop}(hO:OracleOk P O):∀(M:TC) (R:Type) (s:S) (kn:S->Option R) (kx:Nat->S->Option R) (kr kp:S->Option R) (r:R) (Q:AE->St->Prop),M.wf P m=true->(M.noD2=false->D2)->LZ O n R M s kn kx kr kp=some r->Post D2 m M.asg s Q kn kx kr kp r->UA P m M.er Q (enc s):=by
 intro M;induction M with
 |skip=>intro R s kn kx kr kp r Q _ _ h hp;exact hp.n s (Keeps.refl _ _) h|region ops=>intro R s kn kx kr kp r Q g y h hp;simp only[TC.wf,a_]at g;exact nq hO ops R s kn kp r _ _ g.1.1 g.1.2 g.2 h (λs' d f=>hp.n s' d f) λs' d f=>hp.p s' d f|draw k ops af=>intro R s kn kx kr kp r Q g y h hp;simp only[TC.wf,a_]at g;exact W.mk (zch hO ops k R s kn kp r _ _ _ g.2 g.1.1.1 g.1.1.2 g.1.2 h (Ext.refl _) (λs' d f=>hp.n s' d f) λs' d f=>hp.p s' d f)|draw2 r0 pre tl af=>
  intro R s kn kx kr kp r Q g y h hp;simp only[TC.wf,zfo,a_,decide_eq_true_eq]at g;obtain⟨⟨⟨⟨⟨⟨w1,w2⟩,w3⟩,w4⟩,w5⟩,w6⟩,w7⟩:=g;have B:∀k,k∈wF pre\/k∈tl.asg->k∈(TC.draw2 r0 pre tl af).asg:=λk d=>d_.2 d;refine W.to _ (Sl (s:=s) r0) ?_;have hl:(Qn pre).length=pre.length:=by simp[Qn]
  have hd:(Qn pre++tl.er none).drop (pre.map λp=>(p.j,p.b)).length=tl.er none:=by grind
  have hm:((pre.map λp=>(p.j,p.b)).map λu=>(u.1,u.2,(Qn pre++tl.er none).getD u.1 default))=pre.map λp=>(p.j,p.b,p.so):=by rw[D_];refine K_ λp el=>?_;simp only[Function.comp];rw[zee w6 el (by grind)]
  show B3 P _ (λst=>sops P m ((Qn pre++tl.er none).drop (pre.map λp=>(p.j,p.b)).length) st (Q .normal) (Q .pan)) _ [] _ _;rw[hm,hd];have k0:∀{A:List Nat} {s':S},Keeps A ⟨s.fr,s.hp++I_ r0 .free⟩ s'->Keeps A s s':=λd=>(Keeps.fr (s':=⟨s.fr,s.hp++I_ r0 .free⟩) rfl).trans d;refine zcj hO pre [] _ _ kp r w4 w5 (λa qr=>by grind) h (λs' d f=>?_) λs' d f=>?_;·exact nq hO tl R s' kn kp r _ _ w1 w2 w3 f (λs2 H F=>hp.n s2 (((k0 d).sub λk d=>B k (.inl d)).trans (H.sub λk d=>B k (.inr d))) F) λs2 H F=>hp.p s2 (((k0 d).sub λk d=>B k (.inl d)).trans (H.sub λk d=>B k (.inr d))) F
  ·exact λst=>hp.d (y rfl) _ _ (hp.p s' ((k0 d).sub λk d=>B k (.inl d)) f)
 |regL pre=>intro R s kn kx kr kp r Q g y h hp;exact J6 hO pre s kn kp r g h (λs' d f=>hp.n s' d f) λs' d f=>hp.p s' d f|seq a b j L=>intro R s kn kx kr kp r Q g y h hp;simp only[TC.wf,a_]at g;have B:∀k∈a.asg,k∈(TC.seq a b).asg:=λk d=>B_ _ d;have hb:∀k∈b.asg,k∈(TC.seq a b).asg:=λk d=>F_ _ d;refine j R s _ kx kr kp r (AE.then m (UA P m b.er Q) Q) g.1 (λe=>y (by rw[TC.noD2,e];rfl)) h ⟨λs' d f=>?_,λi s' d f=>hp.x i s' (d.sub B) f,λs' d f=>hp.rt s' (d.sub B) f,λs' d f=>hp.p s' (d.sub B) f,hp.c,hp.d⟩;exact W.mk (W.mk (L R s' kn kx kr kp r Q g.2 (λe=>y (by rw[TC.noD2,e,aC_])) f ((hp.from (d.sub B)).sub hb)))|cond x a b j L=>
  intro R s kn kx kr kp r Q g y h hp;simp only[TC.wf,a_]at g;have B:∀k∈a.asg,k∈(TC.cond x a b).asg:=λk d=>B_ _ d;have hb:∀k∈b.asg,k∈(TC.cond x a b).asg:=λk d=>F_ _ d;simp only[LZ]at h;split at h
  ·rename_i t hx;refine W.mk ⟨_,aJ g.1.1 hx,_,rfl,t,rfl,λe=>?_,λe=>?_⟩;·subst e;exact j R s kn kx kr kp r Q g.1.2 (λe=>y (by rw[TC.noD2,e];rfl)) h (hp.sub B)
   ·subst e;exact L R s kn kx kr kp r Q g.2 (λe=>y (by rw[TC.noD2,e,aC_])) h (hp.sub hb)
  grind
 |block id a j=>
  intro R s kn kx kr kp r Q g y h hp;refine j R s kn _ kr kp r (AE.inBlock id Q) g y h ⟨hp.n,λi s' d f=>?_,hp.rt,hp.p,hp.c,hp.d⟩;have C:(bif j_ i id then kn s' else kx i s')=some r:=f;rw[jD]at C;show W m (λst=>if i=id then Q .normal st else Q (.exit i) st) (enc s');by_cases hi:i=id;·subst hi;rw[decide_eq_true rfl]at C;simp only[if_true];exact hp.n s' d C
  ·rw[decide_eq_false hi]at C;simp only[if_neg hi];exact hp.x i s' d C
 |loop sh xs a j=>
  intro R s kn kx kr kp r Q g y h hp;simp only[TC.wf,a_]at g;obtain⟨⟨U,J⟩,gc⟩:=g;simp only[LZ]at h;split at h
  ·rename_i c hc;obtain⟨w,h2⟩:=aV h;simp only[a_]at w;have E:=zbr w.1;obtain⟨t,ht,hd⟩:=cZ h2;have T:Weak m (enc s) (enc (unpack sh.sl c (sh.base s))):=(TB (s0:=s) U hc λk v d=>(qi d).2.1).weak;refine W.to _ T ⟨n,?_⟩;have key:∀(N:Nat) (c:HL sh.sl),aL N (λc=>LZ O n (HL sh.sl⊕XT xs) a (unpack sh.sl c (sh.base s)) (λs=>match pack sh s with|some c=>some (.inl c)|none=>none) (λi s=>match inj xs (i+3) s with|some c=>some (.inr c)|none=>none) (λs=>match inj xs 1 s with|some c=>some (.inr c)|none=>none) (λs=>match inj xs 2 s with|some c=>some (.inr c)|none=>none)) c=some t->U5 m (UA P m a.er) Q N (enc (unpack sh.sl c (sh.base s))):=by
    intro N
    induction N with
    |zero=>intro c h;cases h|succ N ph=>
     intro c h;simp only[aL]at h;obtain⟨o,ho,h1⟩:=cZ h;have D:=M5 E c;refine j _ (unpack sh.sl c (sh.base s)) _ _ _ _ o (AE.then m (U5 m (UA P m a.er) Q N) Q) gc y ho ⟨λs' d f=>?_,λi s' d f=>?_,λs' d f=>?_,λs' d f=>?_,hp.c,hp.d⟩
     ·split at f;·rename_i Y z;cases f;exact W.mk (W.to _ (TB (s0:=s) U z (kept E (D.trans d) z)).weak (ph Y h1))
      grind
     ·split at f;·rename_i Y z;cases f;cases h1;exact YQ hp J w.2 (D.trans d) z hd
      grind
     ·split at f;·rename_i Y z;cases f;cases h1;exact YQ hp J w.2 (D.trans d) z hd
      grind
     ·split at f;·rename_i Y z;cases f;cases h1;exact YQ hp J w.2 (D.trans d) z hd
      grind
   exact key n c ht
  grind
 |exit id=>intro R s kn kx kr kp r Q _ _ h hp;exact hp.x id s (Keeps.refl _ _) h|ret=>intro R s kn kx kr kp r Q _ _ h hp;exact hp.rt s (Keeps.refl _ _) h|adj l a j=>intro R s kn kx kr kp r Q g y h hp;simp only[TC.wf,a_]at g;simp only[LZ]at h;obtain⟨s1,I,h⟩:=H7 h;obtain⟨e1,e2⟩:=A7 g.1 I;exact zdD e1 (j R s1 kn kx kr kp r Q g.2 y h (hp.from (e2 _)))
 |after a l j=>intro R s kn kx kr kp r Q g y h hp;simp only[TC.wf,a_]at g;refine j R s _ kx kr kp r Q g.2 y h ⟨λs' d f=>?_,hp.x,hp.rt,hp.p,hp.c,hp.d⟩;obtain⟨s1,I,f⟩:=H7 f;obtain⟨e1,e2⟩:=A7 g.1 I;exact W.from e1 (hp.n s1 (d.trans (e2 _)) f)
 |cut xs a j=>intro R s kn kx kr kp r Q g y h hp;simp only[TC.wf,a_]at g;simp only[LZ]at h;obtain⟨w,h2⟩:=aV h;obtain⟨t,ht,hd⟩:=cZ h2;exact j _ s _ _ _ _ t Q g.2 y ht ⟨λs' d f=>YQ hp g.1 w d f hd,λi s' d f=>YQ hp g.1 w d f hd,λs' d f=>YQ hp g.1 w d f hd,λs' d f=>YQ hp g.1 w d f hd,hp.c,hp.d⟩
end
theorem bI{α:Type}{a:α}(b:α)(h:a=b:=by kernel_rfl):a=b:=h
def Wp{α:Type}(m:Nat->Option α)(Q:α->Prop):Prop:=∃a,Q a/\∃b,∀n,b<=n->m n=some a
def Conv(tbl:Nat->Option Fun')(f:Nat)(ars:List V)(os:List Ob)(Q:Option S->Prop):Prop:=Wp (λn=>sC tbl n f ars os) Q
section
variable {α β:Type}
theorem aa{a:α}{Q:α->Prop}(h:Q a):Wp (λ_=>some a) Q:=⟨a,h,0,λ_ _=>rfl⟩
theorem ae{m:Nat->Option α}{f:Nat->α->Option β}{Q:β->Prop}(h:Wp m λa=>Wp (λn=>f n a) Q):Wp (λn=>N_ (m n) (f n)) Q:=by obtain⟨a,⟨b,c,e,j⟩,d,g⟩:=h;refine⟨b,c,max d e,λn hn=>?_⟩;grind
theorem wp_mono{m:Nat->Option α}{Q b:α->Prop}(h:Wp m Q)(d:∀a,Q a->b a):Wp m b:=let⟨a,c,r⟩:=h;⟨a,d a c,r⟩
theorem aD{b:Bool}{m:Nat->Option α}{Q:α->Prop}(a:b=true)(h:Wp m Q):Wp (λn=>aG b (m n)) Q:=by subst a;exact h
theorem ao{b:Bool}{m k:Nat->Option α}{Q:α->Prop}(c:b=true->Wp m Q)(a:b=false->Wp k Q):Wp (λn=>bif b then m n else k n) Q:=by cases b;all_goals grind
theorem jh{xs:List α}{i:Int}{f:Nat->α->Option β}{Q:β->Prop}{x:α}(a:0<=i)(b:xs[i.toNat]? =some x)(h:Wp (λn=>f n x) Q):Wp (λn=>N_ (aR xs i) (f n)) Q:=by
 have:aR xs i=some x:=by simp[aR,a,b]
 grind
theorem m9{xs:List α}{i:Nat}{f:Nat->α->Option β}{Q:β->Prop}{x:α}(a:xs[i]? =some x)(h:Wp (λn=>f n x) Q):Wp (λn=>N_ xs[i]? (f n)) Q:=by grind
theorem wp_loop{σ τ:Type}{body:Nat->σ->Option (σ⊕τ)}{s0:σ}{Q:τ->Prop}(I:σ->Prop)(c:σ->Nat)(g:I s0) (h:∀s,I s->Wp (λn=>body n s) λr=>match r with| .inl s'=>I s'/\c s'<c s| .inr t=>Q t):Wp (λn=>aL n (body n) s0) Q:=by
 have key:∀(k:Nat) (s:σ),I s->c s<=k->∃t,Q t/\∃b,∀n m,b<=n->k+1<=m->aL m (body n) s=some t:=by
  intro k;induction k with
  |zero=>intro s hs j;obtain⟨r,hr,b,hn⟩:=h s hs;cases r with|inl s'=>omega|inr t=>refine⟨t,hr,b,λn m e f=>?_⟩;obtain⟨a,rfl⟩:∃a,m=a+1:=⟨m - 1,by omega⟩;simp only[aL];grind
  |succ k u=>
   intro s hs j;obtain⟨r,hr,b,hn⟩:=h s hs;cases r with
   |inl s'=>obtain⟨t,d,v,p⟩:=u s' hr.1 (by omega);refine⟨t,d,max b v,λn m e f=>?_⟩;obtain⟨a,rfl⟩:∃a,m=a+1:=⟨m - 1,by omega⟩;simp only[aL];grind
   |inr t=>refine⟨t,hr,b,λn m e f=>?_⟩;obtain⟨a,rfl⟩:∃a,m=a+1:=⟨m - 1,by omega⟩;simp only[aL];grind
 obtain⟨t,d,b,hn⟩:=key (c s0) s0 g (ab_ _);exact⟨t,d,max b (c s0+1),λn l=>hn n n (by omega) (by omega)⟩
end
section
variable {tbl:Nat->Option Fun'}
theorem aA{f:Nat}{c:TF}{ars:List V}{os:List Ob}{G:ak->Nat->Option (Option S)}{Q:Option S->Prop}(d:tbl f=some (.code c))(hl:(j_ os.length c.m&&aa_ ars.length c.ntmps)=true)(j:∀O n,YW O n c ars os=G O n)(h:Wp (λn=>G (sC tbl n) n) Q):Conv tbl f ars os Q:=by obtain⟨a,b,e,hn⟩:=h;refine⟨a,b,e+1,λn g=>?_⟩;obtain⟨m,rfl⟩:∃m,n=m+1:=⟨n - 1,by omega⟩;simp only[sC,d,hl,cond_true];grind
theorem zdP{f:Nat}{d:TD}{ars:List V}{G:ak->Nat->Option (Option S)}{Q:Option S->Prop}(e:tbl f=some (.dfr d))(hl:aa_ ars.length d.c.ntmps=true)(k:∀O n,zdZ O n d ars=G O n)(h:Wp (λn=>G (sC tbl n) n) Q):Conv tbl f ars [] Q:=by
 obtain⟨a,c,g,hn⟩:=h;refine⟨a,c,g+1,λn j=>?_⟩;obtain⟨m,rfl⟩:∃m,n=m+1:=⟨n - 1,by omega⟩;have b:(j_ ([]:List Ob).length 0&&aa_ ars.length d.c.ntmps)=true:=by rw[hl];rfl
 simp only[sC,e,b,cond_true];grind
def EB(sh:Sh)(s:S):Option (HL sh.sl):=bif j_ s.fr.length sh.n&&Wy sh.n s.fr then pack sh s else none
def aC(tbl:Nat->Option Fun')(f:Nat)(ars:List V)(os:List Ob)(sh:Sh)(c:HL sh.sl):Prop:=∃a,∀n,a<=n->au (sC tbl n) f ars os sh=some c
theorem ap{f:Nat}{ars:List V}{os:List Ob}{sh:Sh}{c:HL sh.sl}(hp:EB sh (jm sh c)=some c)(h:Conv tbl f ars os (·=some (jm sh c))):aC tbl f ars os sh c:=by obtain⟨o,rfl,b,hn⟩:=h;refine⟨b,λn a=>?_⟩;have e:sC tbl n f ars os=some (some (jm sh c)):=hn n a;unfold au;rw[e];exact hp
theorem aj{f:Nat}{ars:List V}{os:List Ob}{sh:Sh}{β:Type}{k:Nat->HL sh.sl->Option β}{Q:β->Prop}{c:HL sh.sl}(h:aC tbl f ars os sh c)(a:Wp (λn=>k n c) Q):Wp (λn=>N_ (au (sC tbl n) f ars os sh) (k n)) Q:=by obtain⟨b,hn⟩:=h;exact ae ⟨c,a,b,hn⟩
theorem zcc{f:Nat}{ars:List V}{os:List Ob}{Q a:Option S->Prop}(h:Conv tbl f ars os Q)(b:∀o,Q o->a o):Conv tbl f ars os a:=wp_mono h b
end
def RX.er:RX->RV
 | .tm t=>.tm t
 | .cell a t=>.cell a t.sz t.ag
structure Entry(P:Program)(f:Nat)(c:TF):Prop where
 body:∃fn,P.funcs[f]? =some fn/\fn.ntmps=c.ntmps/\fn.body.bind (cp P fn.ntmps)=some c.code.er.canon/\fn.results.toList.mapM (ra P)=some (c.res.map RX.er)
 ok:(c.code.er.okB&&c.code.wf P c.m&&c.sh.wfB&&aa_ c.m c.sh.sk.hp.length)=true
theorem bN{P:Program}{f:Nat}{c:TF}{fn:Func}(a:P.funcs[f]? =some fn)(h:(fn.ntmps,fn.body.bind (cp P fn.ntmps),fn.results.toList.mapM (ra P),(c.code.er.okB&&c.code.wf P c.m&&c.sh.wfB&&aa_ c.m c.sh.sk.hp.length))=(c.ntmps,some c.code.er.canon,some (c.res.map RX.er),true)):Entry P f c:=by simp only[aB_.injEq]at h;exact⟨⟨fn,a,h.1,h.2.1,h.2.2.1⟩,h.2.2.2⟩
section
variable {P:Program} {O:ak} {n:Nat}
theorem EH{s:S}:∀{l:List RX} {vs:List V},R6 s l=some vs->(l.map RX.er).mapM (Qq (enc s))=some (vs.map aZ)
 |[],vs,h=>by cases h;rfl
 | .tm t::l,vs,h=>by
  simp only[R6]at h;split at h
  ·rename_i v d;split at h
   ·rename_i us c;cases h;rw[m_,z_,EH c];have:Qq (enc s) (RX.tm t).er=some (aZ v):=by show Av.look (enc s).fr t=_;rw[cu,d];rfl
    grind
   grind
  grind
 | .cell a t::l,vs,h=>by
  simp only[R6]at h;split at h
  ·rename_i id off d;split at h
   ·rename_i tid cs j;obtain⟨f,e⟩:=aV h;have g:=c_ f;split at e
    ·rename_i us c;cases e;rw[m_,z_,EH c];have:Qq (enc s) (RX.cell a t).er=some (aZ (whole t ((cs.drop off).take t.sz))):=by
      show(Av.look (enc s).fr a).bind _=_;rw[cu,d];show(match(enc s).hp[id]? with
       |some (.box _ cs)=>if off+t.sz<=cs.length/\(t.ag=false->t.sz=1)then some (tG t.ag ((cs.drop off).take t.sz))else none
       |_=>none)=_
      rw[bR,j];show(if off+t.sz<=(cs.map aW).length/\(t.ag=false->t.sz=1)then some (tG t.ag (((cs.map aW).drop off).take t.sz))else none)=_;rw[if_pos ⟨by grind,jf⟩,KH,ad_,aG_];intro b;exact Kf g (jf b)
     grind
    grind
   grind
  grind
theorem zU:∀(vs:List V) (k:Nat),(fY k vs).map (λx=>(x.1,aZ x.2))=DN k (vs.map aZ)
 |[],_=>rfl
 |v::vs,k=>by simp only[fY,m_,DN,zU vs (k+1)]
theorem Ld:∀(vs:List V) (k i:Nat),lk (fY k vs) (k+i)=vs[i]?
 |[],_,_=>by simp[fY,lk]
 |v::vs,k,i=>by simp only[fY,lk,jD];cases i with|zero=>simp|succ i=>rw[decide_eq_false (by simp:¬k+(i+1)=k)];simp only[cond_false,List.getElem?_cons_succ];rw[show k+(i+1)=(k+1)+i by omega];exact Ld vs (k+1) i
theorem p8:∀(l:List Slot) (c:HL l) (b:S),(unpack l c b).fr.length=b.fr.length+(l.filter λx=>match x with| .tm _ _=>true|_=>false).length
 |[],_,_=>rfl
 | .tm j t::l,c,b=>by show(unpack l c.2 ⟨(j,.d t c.1)::b.fr,b.hp⟩).fr.length=_;rw[p8 l];grind
 | .cell id j t::l,c,b=>by show(unpack l c.2 ⟨b.fr,_⟩).fr.length=_;rw[p8 l];simp
 | .vec _ _ _::l,c,b=>by show(unpack l c.2 ⟨b.fr,_⟩).fr.length=_;rw[p8 l];simp
 | .map _ _ _ _ _::l,c,b=>by show(unpack l c.2 ⟨b.fr,_⟩).fr.length=_;rw[p8 l];simp
 | .tree _ _ _ _::l,c,b=>by show(unpack l c.2 ⟨b.fr,_⟩).fr.length=_;rw[p8 l];simp
 | .treeH _ _ _ _ _ _::l,c,b=>by show(unpack l c.2 ⟨b.fr,_⟩).fr.length=_;rw[p8 l];simp
theorem zeD(sh:Sh)(c:HL sh.sl):(jm sh c).fr.length=sh.n:=by unfold jm;rw[p8,base_nil];rfl
def Tz(v:V):BV:=match v with
 | .agg vs=>.pv ((aZ (.agg vs)).toPV.getD .any)
 |v=>aW v
theorem zbs{v:V}(h:v.one=true):aZ v= .b (Tz v)\/∃p,(aZ v).toPV=some p/\Tz v= .pv p:=by
 cases v with
 |agg vs=>
  obtain⟨cs,hcs⟩:=EX vs h;have:(aZ (.agg vs)).toPV=some (.agg cs):=by show((vs.map aW).mapM BV.toPV).map PV.agg=_;grind
  exact .inr ⟨_,this,by simp only[Tz,this];rfl⟩
 |tup vs=>cases h|_=>exact .inl rfl
theorem zeB{v:V}(h:v.one=true):∀i∈(Tz v).ids,i∈v.ids:=λi a=>by
 rw[wI];rcases zbs h with e|⟨p,_,e⟩;·rw[e];exact a
 ·rw[e]at a;cases a
theorem zhD{v d:V}(h:v.one=true)(a:LeA (aZ v) (aZ d)):LeB (Tz v) (aW d):=by
 cases f:v.isA
 ·have e:Tz v=aW v:=by cases v<;>first|rfl|cases f
  rw[sB f]at a;rw[e];exact zgW a
 ·cases v with
  |agg vs=>
   obtain⟨cs,hcs⟩:=EX vs h;have j:(AV.agg (vs.map aW)).toPV=some (.agg cs):=by show((vs.map aW).mapM BV.toPV).map PV.agg=_;grind
   have e:Tz (.agg vs)= .pv (.agg cs):=by show BV.pv ((AV.agg (vs.map aW)).toPV.getD .any)=_;grind
   rw[e];cases c:d.isA;·rw[sB c]at a;generalize aW d=z at a⊢;have b:LeA (.agg (vs.map aW)) (.b z):=a;cases b with|data _ q g=>rw[j]at g;cases g;exact .refl _|any=>exact .any _
   ·cases d with|agg vs=>exact .any _|tup vs=>exact .any _|_=>cases c
  |tup vs=>cases h|_=>cases f
theorem Km{L:Nat}{x:BV}(h:∀i∈x.ids,i<L):x.ren ((H_ L).idxOf ·)=x:=by
 have key:∀i,i<L->(H_ L).idxOf i=i:=λi b=>by have c:=II (ids:=H_ L) (i:=i) (G_.2 b);grind
 cases x<;>simp only[BV.ren]<;>simp only[BV.ids,n_,forall_eq]at h<;>first
  |rfl
  |grind
  |skip
 rename_i f ids;congr 1;have:∀l:List Nat,(∀i∈l,i<L)->l.map ((H_ L).idxOf ·)=l:=by intro l hl;induction l with|nil=>rfl|cons a l d=>grind
 grind
theorem B2{L:Nat}:∀{xs:List BV},(∀i∈xs.flatMap BV.ids,i<L)->xs.map (BV.ren ((H_ L).idxOf ·))=xs
 |[],_=>rfl
 |x::xs,h=>by rw[m_,Km λi a=>h i (by grind),B2 λi a=>h i (by grind)]
theorem zab{L:Nat}{x:AV}(h:∀i∈x.ids,i<L):x.ren ((H_ L).idxOf ·)=x:=by cases x with|b x=>simp only[AV.ren,Km h]|agg xs=>simp only[AV.ren,B2 h]|tup xs=>simp only[AV.ren,B2 h]
theorem zac{L:Nat}{o:AObj}(h:∀i∈o.ids,i<L):o.ren ((H_ L).idxOf ·)=o:=by
 cases o with
 |box t cs=>simp only[AObj.ren,B2 h]|tree e sz k xs hole=>cases hole with|none=>rfl|some q=>obtain⟨i,j,b⟩:=q;simp only[AObj.ren,Tw,Km (show ∀i∈b.ids,i<L from h)]
 |_=>rfl
theorem zc5{m L T:Nat}{r:AV}{hp:List AObj}(l:L<=hp.length)(n:m<=L)(hr:∀i∈r.ids,i<L)(e:∀o∈hp.take L,∀i∈o.ids,i<L):Weak m ⟨[(T,r)],hp⟩ ⟨[(T,r)],hp.take L⟩:=by
 refine XE (H_ L) List.nodup_range (λk b=>by grind) (λk y b=>⟨y,b,λi d=>?_,?_⟩) (by grind) λj o' f=>?_;·simp only[Av.look]at b;grind
 ·simp only[Av.look]at b;split at b;·cases b;rw[zab hr]
  grind
 ·have c:(hp.take L)[j]? =some o':=f;have h:=(i_.1 c).1;have g:j<L:=by grind
  have a:=q_ c;refine⟨j,o',by grind,?_,λi d=>G_.2 (e o' a i d),(zac (e o' a)).symm⟩;grind
def Rc(o:Option S)(a:MV):Prop:=match o with
 |some s=>a=some (aZ (res s.fr.length s.fr),s.hp.map bV)
 |none=>a=none
theorem sQ{c:TF}{s:S}{o:Option S}{m:Nat}(hw:c.sh.wfB=true)(hm:m<=c.sh.sk.hp.length)(h:NG c s=some o):W m (La m (c.res.map RX.er) (Rc o) .normal) (enc s):=by
 unfold NG at h;split at h
 ·rename_i vs Y;obtain⟨h1,M⟩:=aV h;simp only[a_,f_,s_]at h1;obtain⟨⟨⟨⟨g1,g2⟩,g3⟩,g4⟩,E⟩:=h1;have hL:=c_ g1;have hn:=b_ g4;generalize gc:c.sh.sk.hp.length=L at*;split at M
  ·rename_i x hx;unfold ar at M;cases M;have Q:∀k v,lk (fg (⟨[],[]⟩:S).fr c.sh.keep) k=some v->lk (fY 0 vs) k=some v:=by intro k v e;have:=(qi e).2.1;cases this
   have F:=N8 (s0:=⟨[],[]⟩) hw hx Q;have hS:=F.le;have R:∀i,lk (fY 0 vs) i=vs[i]? :=λi=>by have:=Ld vs 0 i;grind
   have el:(jm c.sh x).hp.length=L:=by have:(s.hp.take L).length=(jm c.sh x).hp.length:=F.len;grind
   obtain⟨r,r1,r2,r3⟩:∃r:AV,RB (vs.map aZ) r/\(∀i∈r.ids,i<L)/\LeA r (aZ (res (jm c.sh x).fr.length (jm c.sh x).fr)):=by
    rw[zeD,hn];have l:∀v∈vs,∀i∈v.ids,i<L:=λv e i n=>c_ (g3 v e i n);have d:vs.length≠1->∃r:AV,(∃J:List BV,r= .tup J/\J.length=(vs.map aZ).length/\∀(i:Nat) (x:AV) (b:BV),(vs.map aZ)[i]? =some x->J[i]? =some b->x= .b b\/∃p,x.toPV=some p/\b= .pv p)/\(∀i∈r.ids,i<L)/\LeA r (aZ (res vs.length (jm c.sh x).fr)):=by
     intro U;have f:∀v∈vs,v.one=true:=λv e=>by
      rcases E with E|E;·exact absurd (b_ E) U
      grind
     refine⟨.tup (vs.map Tz),⟨_,rfl,by simp,λi y b hy g=>?_⟩,λi n=>?_,?_⟩;·simp only[l_,e_]at hy g;obtain⟨v,e,rfl⟩:=hy;obtain⟨I,D,rfl⟩:=g;rw[e]at D;cases D;exact zbs (f v (q_ e))
     ·obtain⟨b,g,O⟩:=u_.1 (show i∈(vs.map Tz).flatMap BV.ids from n);obtain⟨v,e,rfl⟩:=Q_.1 g;exact l v e i (zeB (f v e) i O)
     ·unfold res;have:j_ vs.length 1=false:=by rw[jD];grind
      rw[this];refine .tup _ _ (by simp[zcP]) λi a b H g=>?_;simp only[zcP,l_,e_]at H g;obtain⟨v,e,rfl⟩:=H;obtain⟨w,⟨j,hj,rfl⟩,rfl⟩:=g;have P:=(i_.1 e).1;rw[List.getElem?_range P]at hj;cases hj;cases hl:lk (jm c.sh x).fr i with|none=>exact .any _|some I=>obtain⟨u,hu,A⟩:=F.fr i I hl;have C:lk (fY 0 vs) i=some u:=hu;rw[R,e]at C;cases C;exact zhD (f v (q_ e)) A
    match vs,d with
    |[v0],_=>refine⟨aZ v0,rfl,λi n=>l v0 (by simp) i (by rw[wI];omega),?_⟩;show LeA _ (aZ ((lk (jm c.sh x).fr 0).getD .any));cases hl:lk (jm c.sh x).fr 0 with|none=>exact .any _|some I=>obtain⟨u,hu,A⟩:=F.fr 0 I hl;grind
    |[],d=>exact d (by simp)|_::_::_,d=>exact d (by simp)
   refine W.mk (W.mk ⟨_,r,EH Y,r1,_,_,λT=>?_,rfl,by grind⟩);have N:L<=(enc s).hp.length:=by rw[vk];omega
   refine(zc5 N hm r2 λo ho i n=>?_).trans (LeS.weak ⟨λk y hk=>?_,?_,λi a b H g=>hS.hp i a b ?_ g⟩);·have B:o∈(s.hp.map bV).take L:=ho;rw[<-ad_]at B;obtain⟨o1,h3,rfl⟩:=Q_.1 B;rw[<-NB]at n;exact c_ (g2 o1 h3 i n)
   ·simp only[Av.look]at hk⊢;grind
   ·grind
   ·have z:((s.hp.map bV).take L)[i]? =some a:=H;rw[<-ad_]at z;exact z
  grind
 grind
theorem YX(x:P.follows .mixedOrders=true)(hO:OracleOk P O){f:Nat}{c:TF}{ars:List V}{os:List Ob}{o:Option S}(k:Entry P f c)(y:os.length=c.m)(l:ars.length<=c.ntmps)(h:YW O n c ars os=some o):ACalls P f (ars.map aZ) (os.map bV) (Rc o):=by
 obtain⟨fn,s,C,e,w⟩:=k.body;obtain⟨code,u,v⟩:=k_.1 e;have d:=k.ok;simp only[a_]at d;obtain⟨⟨⟨z,A⟩,p⟩,B⟩:=d;have r:=c_ B;have j:(os.map bV).length=c.m:=by grind
 have b:(⟨DN 0 (ars.map aZ),os.map bV⟩:St)=enc ⟨fY 0 ars,os⟩:=by simp only[enc,zU]
 refine zbZ x s u v z w (by grind) ?_;rw[b,j];refine E6 (D2:=True) hO c.code (Option S) _ _ _ _ _ o _ A (λ_=>trivial) h ⟨λs' _ a=>sQ p r a,λi s' _ a=>(by grind),λs' _ a=>sQ p r a,λs' _ a=>?_,λ_ ⟨_,_,g⟩=>g,λ_ _ _ g=>g⟩;cases a;exact rfl
structure EntryD(P:Program)(f:Nat)(d:TD):Prop where
 body:∃fn CA CB CH h j y3 p3 a3 y4 p4 a4,P.funcs[f]? =some fn/\fn.ntmps=d.c.ntmps/\
  fn.body=some (.seq CA (.seq (.region j #[⟨some d.t8,.makeFunc (.func h) #[] #[.tmp d.ta,.tmp d.tb],y3,p3,a3,none⟩,⟨none,.defer {callee:=.value (.tmp d.t8),args:= #[],argTypes:= #[]},y4,p4,a4,none⟩] false) CB))/\
  cp P fn.ntmps CA=some d.a.er.canon/\cp P fn.ntmps CB=some d.c.code.er.canon/\Catch P h CH/\cp P 5 CH=some d.h.er.canon/\fn.results.toList.mapM (ra P)=some (d.c.res.map RX.er)
 ok:(d.a.er.okB&&d.a.wf P 0&&d.c.code.er.okB&&d.c.code.wf P 2&&d.h.er.okB&&d.h.wf P 2&&d.c.sh.wfB&&aa_ (d.t8+1) d.c.ntmps&&d.c.code.noD2)=true
theorem IM{s:S}{t i:Nat}(h:GP s t i=true):Av.look (enc s).fr t=some (.b (.ptr i 0)):=by
 unfold GP at h;split at h;·rename_i j o a;rw[a_]at h;rw[cu,a,b_ h.1,b_ h.2];rfl
 grind
theorem zhB{s:S}{t:Nat}(h:noT s t=true):Av.look (enc s).fr t=none:=by
 unfold noT at h;split at h;·cases h
 ·rename_i a;rw[cu,a];rfl
theorem BL{a:List RV}{K:MV->Prop}{st:St}(h:W 0 (La 0 a K .normal) st):La 0 a K .normal st:=let⟨_,b,c⟩:=h;W.from b c
theorem YY(M:P.follows .mixedOrders=true)(hO:OracleOk P O){f:Nat}{d:TD}{ars:List V}{o:Option S}(r:EntryD P f d)(s:ars.length<=d.c.ntmps)(h:zdZ O n d ars=some o):ACalls P f (ars.map aZ) [] (Rc o):=by
 obtain⟨fn,CA,CB,CH,a,j,y3,p3,a3,y4,p4,a4,C,D,E,F,H,I,J,L⟩:=r.body;have c:=r.ok;simp only[a_]at c;obtain⟨⟨⟨⟨⟨⟨⟨⟨N,Q⟩,R⟩,T⟩,U⟩,Y⟩,g⟩,k8⟩,k9⟩:=c;have b:(⟨DN 0 (ars.map aZ),[]⟩:St)=enc ⟨fY 0 ars,[]⟩:=by simp only[enc,zU,aI_]
 refine XU M C E F N H R J U I L (by grind) (by rw[D];exact c_ k8) ?_;rw[b];refine E6 (D2:=True) hO d.a (Option S) _ _ _ _ _ o _ Q (λ_=>trivial) h ⟨λs1 _ a=>?_,λi s' _ a=>(by grind),λs' _ a=>(by grind),λs' _ a=>(by grind),λ_ ⟨_,_,l,_⟩=>(by grind),λ_ _ _ ⟨l,_⟩=>(by grind)⟩;obtain⟨p,A⟩:=aV a;simp only[a_]at p;obtain⟨⟨⟨u,v⟩,w⟩,x⟩:=p;refine W.mk ⟨rfl,⟨zhB w,IM u,IM v,by rw[vk];exact b_ x⟩,?_⟩;refine E6 (D2:=False) hO d.c.code (Option S) _ _ _ _ _ o _ T (λe=>by grind) A ⟨λs' _ a=>?_,λi s' _ a=>(by grind),λs' _ a=>?_,λs2 _ a=>?_,λst ⟨s1,y,z⟩=>W.from y z,λh=>h.elim⟩;·exact W.mk (BL (sQ g (M_ _) a))
 ·exact W.mk (BL (sQ g (M_ _) a))
 ·obtain⟨k,B⟩:=aV a;simp only[a_]at k;refine W.mk ⟨IM k.1,IM k.2,?_⟩;exact E6 (D2:=True) hO d.h (Option S) _ _ _ _ _ o _ Y (λ_=>trivial) B ⟨λs' _ a=>W.mk ⟨.inl rfl,BL (sQ g (M_ _) a)⟩,λi s' _ a=>(by grind),λs' _ a=>W.mk ⟨.inr rfl,BL (sQ g (M_ _) a)⟩,λs' _ a=>(by grind),λ_ ⟨_,_,l,_⟩=>(by grind),λ_ _ _ ⟨l,_⟩=>(by grind)⟩
def MU(P:Program)(f:Nat)(g:List V->Option S):Prop:=∀ars s,g ars=some s->ACalls P f (ars.map aZ) [] (Rc (some s))
structure TblOk(P:Program)(tbl:Nat->Option Fun'):Prop where
 code:∀f c,tbl f=some (.code c)->Entry P (f%10000) c
 nat:∀f g,tbl f=some (.nat g)->MU P (f%10000) g
 dfr:∀f d,tbl f=some (.dfr d)->EntryD P (f%10000) d
theorem RR(k:P.follows .mixedOrders=true){tbl:Nat->Option Fun'}(j:TblOk P tbl):∀n,OracleOk P (sC tbl n):=by
 have key:∀n f ars os o,sC tbl n f ars os=some o->ACalls P (f%10000) (ars.map aZ) (os.map bV) (Rc o):=by
  intro n;induction n with
  |zero=>intro f ars os o h;cases h|succ n l=>
   intro f ars os o h;have hO:OracleOk P (sC tbl n):=⟨λf ars os s b=>l f ars os (some s) b,λf ars os b=>l f ars os none b⟩;simp only[sC]at h;split at h;·rename_i c hc;obtain⟨a,e⟩:=aV h;rw[a_]at a;exact YX k hO (j.code f c hc) (b_ a.1) (c_ a.2) e
   ·rename_i d hd;obtain⟨a,e⟩:=aV h;rw[a_]at a;obtain rfl:=List.eq_nil_of_length_eq_zero (b_ a.1);exact YY k hO (j.dfr f d hd) (c_ a.2) e
   ·rename_i g hg;split at h
    ·split at h;·rename_i s hs;cases h;exact j.nat f g hg ars s hs
     grind
    grind
   grind
 exact λn=>⟨λf ars os s b=>key n f ars os (some s) b,λf ars os b=>key n f ars os none b⟩
theorem K2(d:P.follows .mixedOrders=true){tbl:Nat->Option Fun'}(c:TblOk P tbl){f:Nat}{ars:List V}{os:List Ob}{Q:Option S->Prop}(h:Conv tbl f ars os Q):∃o,Q o/\ACalls P (f%10000) (ars.map aZ) (os.map bV) (Rc o):=by obtain⟨o,e,a,hn⟩:=h;have b:=hn a (ab_ _);refine⟨o,e,?_⟩;cases o with|some s=>exact(RR d c a).ret f ars os s b|none=>exact(RR d c a).pan f ars os b
def RJ:List (Nat×Fun')->Nat->Option Fun'
 |[],_=>none
 |(k,e)::l,f=>bif j_ f k then some e else RJ l f
def OkE(P:Program)(k:Nat):Fun'->Prop
 | .code c=>Entry P (k%10000) c
 | .dfr d=>EntryD P (k%10000) d
 | .nat g=>MU P (k%10000) g
def AllOk(P:Program):List (Nat×Fun')->Prop
 |[]=>True
 |(k,e)::l=>OkE P k e/\AllOk P l
theorem AllOk.get{l:List (Nat×Fun')}(h:AllOk P l){f:Nat}{e:Fun'}(z:RJ l f=some e):OkE P f e:=by
 induction l with
 |nil=>cases z|cons x l H=>
  obtain⟨k,I⟩:=x;simp only[RJ,jD]at z;by_cases E:f=k;·subst E;rw[decide_eq_true rfl]at z;cases z;exact h.1
  ·rw[decide_eq_false E]at z;exact H h.2 z
theorem AllOk.tbl{l:List (Nat×Fun')}(h:AllOk P l):TblOk P (RJ l):=⟨λ_ _ z=>h.get z,λ_ _ z=>h.get z,λ_ _ z=>h.get z⟩
end
open Go Go.RowKit Go.Av Go.Deep Go.WideShapes
mutual
def zez:Rx->Prop
 | .mk k l h ks=>(IntKind.i64.min<=k/\k<=IntKind.i64.max)/\(IntKind.i64.min<=l/\l<=IntKind.i64.max)/\(IntKind.i64.min<=h/\h<=IntKind.i64.max)/\ks.length<=maxLen/\Wx ks
def Wx:List Rx->Prop
 |[]=>True
 |r::a=>zez r/\Wx a
end
def okD:(t:Ty)->t.den->Prop
 | .int k,x=>k.min<=x/\x<=k.max
 | .bool,_=>True
 | .str,x=>ay_ x<=maxLen
 | .list t,x=>ay_ x<=maxLen/\∀y∈x,okD t y
 | .unit,_=>True
 | .pair a b,x=>okD a x.1/\okD b x.2
 | .rx,x=>zez x
theorem Kj:∀(l:List Rx),Wx l↔∀r∈l,zez r
 |[]=>by simp[Wx]
 |r::a=>by simp[Wx,Kj a]
def fT:(t:Ty)->t.den->Nat
 | .int _,_=>1
 | .bool,_=>1
 | .str,x=>ay_ x+1
 | .list t,x=>(List.map (fT t) x).sum+1
 | .unit,_=>0
 | .pair a b,x=>fT a x.1+fT b x.2
 | .rx,_=>1
section
variable {H:Type}
mutual
def eN:DataW H->Nat
 | .lit (.string bytes)=>bytes.length+1
 | .lit _=>1
 | .nil=>1
 | .ptr d=>eN d+1
 | .slice b c=>nT b+nT c+1
 | .agg parts=>nT parts+1
 | .iface _ d=>eN d+1
 | .map a=>M6 a+1
 | .held _=>1
def nT:List (DataW H)->Nat
 |[]=>0
 |d::r=>eN d+nT r
def M6:List (Lit×DataW H)->Nat
 |[]=>0
 |x::r=>X1 x+M6 r
def X1:Lit×DataW H->Nat
 |(.string bytes,d)=>bytes.length+eN d+1
 |(_,d)=>eN d+1
end
theorem EW(d:DataW H):1<=eN d:=by cases d with|lit l=>cases l<;>simp[eN]|nil=>simp[eN]|ptr d=>simp[eN]|slice b c=>simp[eN]|agg parts=>simp[eN]|iface t d=>simp[eN]|map a=>simp[eN]|held h=>simp[eN]
theorem Vm{α β:Type}{f:α->Nat}{g:β->DataW H}:∀(xs:List α) (ds:List β),xs.length=ds.length->(∀(i:Nat) (x:α),xs[i]? =some x->∃d:β,ds[i]? =some d/\f x<=eN (g d))->(xs.map f).sum<=nT (ds.map g)
 |[],[],_,_=>ab_ _
 |x::xs,d::ds,hl,h=>by obtain⟨b,a,c⟩:=h 0 x rfl;cases a;have:=Vm xs ds (by grind) λi x e=>h (i+1) x (by grind);simp only[m_,List.sum_cons,nT];omega
 |[],_::_,h,_=>(by simp)
 |_::_,[],h,_=>(by grind)
end
def rxB(P:Program)(t:TypeId):Bool:=match P.underlying t with
 |some (.struct d)=>match d.toList with
  |[a,b,f2,c]=>(match P.underlying a.type,P.underlying b.type,P.underlying f2.type,P.underlying c.type with
   |some (.int .i64),some (.int .i64),some (.int .i64),some (.slice e)=>j_ e t
   |_,_,_,_=>false)&&j_ a.offset 0&&j_ b.offset 1&&j_ f2.offset 2&&j_ c.offset 3&&
    j_ (P.cellsOf a.type) 1&&j_ (P.cellsOf b.type) 1&&j_ (P.cellsOf f2.type) 1&&j_ (P.cellsOf c.type) 1&&j_ (P.cellsOf t) 4
  |_=>false
 |_=>false
def fsB(P:Program)(c:TypeId->Ty->Bool):List Field->Nat->Ty->Bool
 |[],_,.unit=>true
 |f::l,off,.pair a b=>j_ f.offset off&&j_ (P.cellsOf f.type) a.sz&&c f.type a&&fsB P c l (off+a.sz) b
 |_,_,_=>false
def arB(P:Program)(c:TypeId->Ty->Bool)(e:TypeId):Nat->Ty->Bool
 |0,.unit=>true
 |n+1,.pair a b=>j_ (P.cellsOf e) a.sz&&c e a&&arB P c e n b
 |_,_=>false
def w9(P:Program):Nat->TypeId->Ty->Bool
 |0,_,_=>false
 |d+1,t,u=>match u with
  | .rx=>rxB P t
  | .bool=>(match P.underlying t with|some .bool=>true|_=>false)
  | .int k=>(match P.underlying t with|some (.int c)=>decide (k=c)|_=>false)
  | .str=>(match P.underlying t with|some .string=>true|_=>false)
  | .list a=>(match P.underlying t with|some (.slice e)=>j_ (P.cellsOf e) a.sz&&aa_ 1 a.sz&&w9 P d e a|_=>false)
  |u=>(match P.underlying t with
   |some (.struct b)=>j_ (P.cellsOf t) u.sz&&fsB P (w9 P d) b.toList 0 u
   |some (.array n e)=>j_ (P.cellsOf t) u.sz&&arB P (w9 P d) e n u
   |_=>false)
theorem zbi{α:Type}{p:Nat->α->Prop}:∀(n:Nat),(∀i,i<n->∃x,p i x)->∃xs:List α,xs.length=n/\∀i x,xs[i]? =some x->p i x
 |0,_=>⟨[],rfl,λi x h=>by grind⟩
 |n+1,h=>by obtain⟨xs,a,b⟩:=zbi (p:=p) n λi c=>h i (by omega);obtain⟨x,d⟩:=h n (by simp);refine⟨xs++[x],by grind,λi y e=>?_⟩;grind
section
variable {H:Type} {enc:TypeId×Value->H} {P:Program} {w:World}
abbrev Rd(w:World)(u:Ty)(cs:List Value)(x:u.den):Prop:=okD u x/\cs.length=u.sz/\∀(j:Nat) (y:PV),(aP u x)[j]? =some y->∃c,cs[j]? =some c/\RelP (λb=>b<w.heap.size) w c y
theorem To{k:IntKind}{n:Int}(b:(Lit.int k n).wf=true):Rd w (.int k) [.int k n] n:=by
 refine⟨?_,rfl,λj y a=>?_⟩;·show k.min<=n/\n<=k.max;simpa[Lit.wf]using b
 ·match j,a with|0,a=>cases a;exact⟨_,rfl,.sc _⟩
theorem WU{a:Ty}{e:TypeId}{n:Nat}{cs:List Value}{x:DataW H×List MemPlace}{t:TypeId}(ht:P.underlying t=some (.slice e))(C:P.cellsOf e=a.sz)(I:1<=a.sz) (ih:∀(m:Nat) (cs:List Value) (d:DataW H) (ps:List MemPlace),m<n->DataW.trod enc P w 0 (λ_=>true) true m e cs=some (d,ps)->(∀p∈ps,p.block<w.heap.size)->∃x:a.den,Rd w a cs x/\fT a x<=eN d) (h:DataW.trod enc P w 0 (λ_=>true) true n t cs=some x) (Y:∀p∈x.2,p.block<w.heap.size):∃xs:List a.den,Rd w (.list a) cs xs/\fT (.list a) xs<=eN x.1:=by
 have h':=DataW.trod_slice ht h;obtain⟨X,hX⟩:∃X,X=x:=⟨_,rfl⟩;rcases open_slice ht h with⟨rfl,_⟩|⟨B,len,cap,m,n',D,Pl,rfl,_,hl,hm,F,rfl,J⟩
 ·refine⟨[],⟨⟨M_ _,λy l=>by grind⟩,rfl,λj y l=>?_⟩,EW _⟩
  match j,l with|0,l=>cases l;exact⟨_,rfl,.nil none 0⟩
 ·simp only[if_true]at F;subst F;obtain⟨k,rest,A,el,L,E,s⟩:∃(k rest:List (DataW H×List MemPlace)) (A:Nat),A<n/\X=(.slice (k.map (·.1)) (rest.map (·.1)),MemPlace.row B ((k.length+rest.length)*P.cellsOf e)++(k++rest).flatMap (·.2))/\k.length=len/\∀i,i<len->(w.cells? 0 (B.add (i*P.cellsOf e)) (P.cellsOf e)).bind (DataW.trod enc P w 0 (λ_=>true) true A e)=k[i]? :=by
   rcases h' with⟨hc,_⟩|⟨a',qr,ph,k,rest,A,rfl,hc,L,_,_,_,E,s,_⟩
   ·grind
   ·simp only[List.cons.injEq,Value.slice.injEq,h_,and_true]at hc;obtain⟨rfl,rfl,rfl⟩:=hc;exact⟨k,rest,A,by simp,hX.trans L,E,s⟩
  have step:∀i,i<len->∃x:a.den,(∃d,k[i]? =some d/\fT a x<=eN d.1)/\∃r,w.cells? 0 (B.add (i*a.sz)) a.sz=some r/\Rd w a r x:=by
   intro i hi;have O:=s i hi;rw[g_ (by omega)]at O;obtain⟨r,h5,Q⟩:=k_.1 O;rw[C]at h5;obtain⟨y,l,hb⟩:=ih A r _ _ el Q λp hp=>by grind
   grind
  obtain⟨xs,At,z⟩:=zbi len step;have R:fT (.list a) xs<=eN (DataW.slice (H:=H) (k.map (·.1)) (rest.map (·.1))):=by have:=Vm (f:=fT a) (g:=λd:DataW H×List MemPlace=>d.1) xs k (by omega) λi x J=>(z i x J).1;simp only[fT,eN];omega
  refine⟨xs,⟨⟨by omega,λy l=>?_⟩,rfl,λj y l=>?_⟩,by grind⟩;·obtain⟨i,hi⟩:=an_ l;grind
  ·rw[fe (t:=.list a) xs rfl]at l
   match j,l with
   |0,l=>
    cases l;refine⟨_,rfl,?_⟩;have u:(xs.map (aM a)).length=len:=by grind
    show RelP _ w (.slice (some B) len m) (p5 a.sz (xs.map (aM a)));rw[<-u];refine gG (by omega) λhp=>?_;rw[u]at hp;obtain⟨x0,gc⟩:∃x0,xs[0]? =some x0:=⟨xs[0]'(by omega),g_ (by omega)⟩;obtain⟨_,rg,T,wr⟩:=z 0 x0 gc;obtain⟨b,off,M⟩:=B;have v:M=none:=by obtain⟨_,ur,U⟩:=World.cells?_some T;have N:=U 0 (by omega);rw[g_ (by omega)]at N;simpa[Addr.add]using World.cell?_spot N
    subst v;refine⟨b,off,rfl,?_,λp hp=>?_,λi j x y J l=>?_⟩;·refine Y (.cell b off) (B_ _ (MemPlace.mem_row.2 ⟨0,?_,by simp⟩));rw[C];exact Nat.mul_pos (by omega) I
    ·obtain⟨q,_,rfl⟩:=Q_.1 hp;exact aO a q
    ·rw[l_]at J;obtain⟨q,hq,rfl⟩:=e_.1 J;obtain⟨_,r,N,h2,h3,O⟩:=z i q hq;obtain⟨c,h5,Q⟩:=O j y l;refine⟨c,?_,Q⟩;have hj:j<a.sz:=by grind
     have h7:=(World.cells?_some N).2.2 j hj;rw[add_plain,add_plain]at h7;grind
theorem zgV{n d:Nat}{cs:List Value}(C:∀(t:TypeId) (u:Ty) (cs:List Value) (A:DataW H) (D:List MemPlace),w9 P d t u=true->DataW.trod enc P w 0 (λ_=>true) true n t cs=some (A,D)->(∀p∈D,p.block<w.heap.size)->∃x:u.den,Rd w u cs x/\fT u x<=eN A):
 ∀(l:List Field) (k:List (DataW H×List MemPlace)) (off:Nat) (u:Ty),fsB P (w9 P d) l off u=true->k.length=l.length->(∀(i:Nat) (f:Field),l[i]? =some f->∃d:DataW H×List MemPlace,k[i]? =some d/\DataW.trod enc P w 0 (λ_=>true) true n f.type ((cs.drop f.offset).take (P.cellsOf f.type))=some d/\∀p∈d.2,p.block<w.heap.size)->∃x:u.den,okD u x/\fT u x<=nT (k.map (·.1))/\∀(j:Nat) (y:PV),(aP u x)[j]? =some y->∃c,cs[off+j]? =some c/\RelP (λb=>b<w.heap.size) w c y
 |[],_,off,u,e,_,_=>by
  cases u<;>simp only[fsB]at e<;>try cases e
  exact⟨(),trivial,M_ _,λj y s=>by simp[aP,aM,PV.cells]at s⟩
 |f::l,[],_,_,_,h,_=>by simp at h
 |f::l,v::k,off,u,e,O,hl=>by
  cases u<;>simp only[fsB]at e<;>try cases e
  rename_i a b;simp only[a_]at e;obtain⟨⟨⟨I,J⟩,L⟩,M⟩:=e;have E:=b_ I;have F:=b_ J;obtain⟨U,r,B,N⟩:=hl 0 f rfl;cases r;rw[E,F]at B;obtain⟨x,⟨R,Y,x3⟩,x4⟩:=C f.type a _ v.1 v.2 L B N;obtain⟨z,T,z3,z2⟩:=zgV C l k (off+a.sz) b M (by grind) λi g hg=>by simpa using hl (i+1) g (by simpa using hg)
  refine⟨(x,z),⟨R,T⟩,by simp only[fT,m_,nT];omega,λj y s=>?_⟩;have hc:aP (.pair a b) (x,z)=aP a x++aP b z:=rfl;rw[hc]at s;have Q:=aO a x;grind
theorem zgR{n d:Nat}{e:TypeId}{cs:List Value}(C:∀(t:TypeId) (u:Ty) (cs:List Value) (A:DataW H) (D:List MemPlace),w9 P d t u=true->DataW.trod enc P w 0 (λ_=>true) true n t cs=some (A,D)->(∀p∈D,p.block<w.heap.size)->∃x:u.den,Rd w u cs x/\fT u x<=eN A):
 ∀(k g:Nat) (l:List (DataW H×List MemPlace)) (u:Ty),arB P (w9 P d) e k u=true->l.length=k->(∀(i:Nat),i<k->∃d:DataW H×List MemPlace,l[i]? =some d/\DataW.trod enc P w 0 (λ_=>true) true n e ((cs.drop ((g+i)*P.cellsOf e)).take (P.cellsOf e))=some d/\∀p∈d.2,p.block<w.heap.size)->∃x:u.den,okD u x/\fT u x<=nT (l.map (·.1))/\∀(j:Nat) (y:PV),(aP u x)[j]? =some y->∃c,cs[g*P.cellsOf e+j]? =some c/\RelP (λb=>b<w.heap.size) w c y
 |0,g,_,u,f,_,_=>by
  cases u<;>simp only[arB]at f<;>try cases f
  exact⟨(),trivial,M_ _,λj y s=>by simp[aP,aM,PV.cells]at s⟩
 |k+1,_,[],_,_,h,_=>by simp at h
 |k+1,g,v::l,u,f,L,hl=>by
  cases u<;>simp only[arB]at f<;>try cases f
  rename_i a b;simp only[a_]at f;obtain⟨⟨E,F⟩,I⟩:=f;have R:=b_ E;obtain⟨Q,r,B,J⟩:=hl 0 (by omega);cases r;rw[Nat.add_zero]at B;obtain⟨x,⟨N,U,Y⟩,x4⟩:=C e a _ v.1 v.2 F B J;obtain⟨z,O,z3,z2⟩:=zgR C k (g+1) l b I (by grind) λi T=>by have:=hl (i+1) (by omega);rw[show g+(i+1)=g+1+i by omega]at this;simpa using this
  refine⟨(x,z),⟨N,O⟩,by simp only[fT,m_,nT];omega,λj y s=>?_⟩;have hc:aP (.pair a b) (x,z)=aP a x++aP b z:=rfl;rw[hc]at s;have M:=aO a x;grind
theorem zgC:∀(n:Nat) (d:Nat) (t:TypeId) (u:Ty) (cs:List Value) (C:DataW H) (r:List MemPlace),w9 P d t u=true->DataW.trod enc P w 0 (λ_=>true) true n t cs=some (C,r)->(∀p∈r,p.block<w.heap.size)->∃x:u.den,Rd w u cs x/\fT u x<=eN C:=by
 intro n;induction n using Nat.strongRecOn with|ind n O=>
 intro d t u cs C r g h B;cases d with|zero=>cases g|succ d=>
 have agg:(∀a b,u= .pair a b->True)->u.ag=true->u≠.rx->(match P.underlying t with
  |some (.struct I)=>j_ (P.cellsOf t) u.sz&&fsB P (w9 P d) I.toList 0 u
  |some (.array n e)=>j_ (P.cellsOf t) u.sz&&arB P (w9 P d) e n u
  |_=>false)=true->∃x:u.den,Rd w u cs x/\fT u x<=eN C:=by
  intro _ _ _ g
  split at g
  ·rename_i I v;rw[a_]at g;have e1:=b_ g.1;obtain⟨xs,m,rfl,E,J,D,F⟩:=DataW.trod_struct v h;simp only[aB_.injEq]at E;obtain⟨rfl,rfl⟩:=E;obtain⟨x,x1,xb,x2⟩:=zgV (n:=m) (cs:=cs) (λt u cs C r g h B=>O m (by simp) d t u cs C r g h B) I.toList xs 0 u g.2 (by omega) λi f hi=>by
    have qr:I[i]? =some f:=by grind
    have h1:=F i f qr;have rg:i<xs.length:=by grind
    rw[g_ rg]at h1;grind
   refine⟨x,⟨x1,by omega,λj y l=>?_⟩,by simp only[eN];omega⟩;grind
  ·rename_i k e v;rw[a_]at g;have e1:=b_ g.1;obtain⟨xs,m,rfl,E,J,D,F⟩:=DataW.trod_array v h;simp only[aB_.injEq]at E;obtain⟨rfl,rfl⟩:=E;obtain⟨x,x1,xb,x2⟩:=zgR (n:=m) (cs:=cs) (e:=e) (λt u cs C r g h B=>O m (by simp) d t u cs C r g h B) k 0 xs u g.2 D λi hi=>by grind
   refine⟨x,⟨x1,by omega,λj y l=>?_⟩,by simp only[eN];omega⟩;grind
  grind
 cases u with
 |bool=>
  simp only[w9]at g;split at g
  ·rename_i v;obtain⟨b,rfl,_⟩:=DataW.trod_bool v h;refine⟨b,⟨trivial,rfl,λj y l=>?_⟩,EW _⟩
   match j,l with|0,l=>cases l;exact⟨_,rfl,.sc _⟩
  grind
 |int k=>
  simp only[w9]at g;split at g
  ·rename_i k' v;have:k=k':=by grind
   subst this;obtain⟨z,rfl,_,hw⟩:=DataW.trod_int v h;exact⟨z,To hw,EW _⟩
  grind
 |str=>
  simp only[w9]at g;split at g
  ·rename_i v;obtain⟨s,rfl,Y,hs⟩:=DataW.trod_string v h;refine⟨s.data.toList,⟨by simpa[okD]using hs,rfl,λj y l=>?_⟩,by cases Y;exact ab_ _⟩
   match j,l with
   |0,l=>
    cases l;refine⟨_,rfl,?_⟩;show RelP _ w (.string s) (.sc (.string ⟨s.data.toList.toArray⟩));have:(⟨s.data.toList.toArray⟩:ByteArray)=s:=by simp
    rw[this];exact .sc _
  grind
 |list a=>
  simp only[w9]at g;split at g;·rename_i e v;simp only[a_]at g;exact WU v (b_ g.1.1) (c_ g.1.2) (λm cs Q r hm h hl=>O m hm d e a cs Q r g.2 h hl) h B
  grind
 |unit=>exact agg (λ_ _ h=>by simp) rfl (by simp) g|pair a b=>exact agg (λ_ _ _=>trivial) rfl (by simp) g|rx=>
  have gc:rxB P t=true:=g;have A:=gc;unfold rxB at A;split at A
  ·rename_i I v;split at A
   ·rename_i R T f2 U Bx;simp only[a_]at A;obtain⟨⟨⟨⟨⟨⟨⟨⟨⟨hu,o0⟩,o1⟩,o2⟩,o3⟩,c0⟩,c1⟩,c2⟩,c3⟩,c4⟩:=A;split at hu
    ·rename_i e u0 u1 u2 u3;have el:=b_ hu;subst el;obtain⟨xs,m,rfl,E,J,D,F⟩:=DataW.trod_struct v h;simp only[aB_.injEq]at E;obtain⟨rfl,rfl⟩:=E;have ph:I= #[R,T,f2,U]:=by grind
     subst ph;have h4:xs.length=4:=D;have e4:=b_ c4;have get:∀(i:Nat) (f:Field),(#[R,T,f2,U]:Array Field)[i]? =some f->P.cellsOf f.type=1->∃C r,DataW.trod enc P w 0 (λ_=>true) true m f.type ((cs.drop f.offset).take 1)=some (C,r)/\∀p∈r,p.block<w.heap.size:=by grind
     obtain⟨d0,p0,g0,_⟩:=get 0 R rfl (b_ c0);obtain⟨d1,p1,g1,_⟩:=get 1 T rfl (b_ c1);obtain⟨d2,p2,g2,_⟩:=get 2 f2 rfl (b_ c2);obtain⟨d3,p3,g3,l3⟩:=get 3 U rfl (b_ c3);rw[b_ o0]at g0;rw[b_ o1]at g1;rw[b_ o2]at g2;rw[b_ o3]at g3;obtain⟨z0,L,_,w0⟩:=DataW.trod_int u0 g0;obtain⟨z1,M,_,w1⟩:=DataW.trod_int u1 g1;obtain⟨z2,N,_,w2⟩:=DataW.trod_int u2 g2;obtain⟨ks,⟨k1,k2,k3⟩,_⟩:=WU (a:=.rx) u3 e4 (by decide) (λm' cs Q r hm h hl=>O m' (by omega) (d+1) e .rx cs Q r g h hl) g3 l3
     match cs,(show cs.length=4 by omega)with
     |[q0,q1,q2,q3],_=>
      simp only[List.drop_zero,List.drop_succ_cons,List.take_succ_cons,aF_,List.cons.injEq,and_true]at L M N
      subst L;subst M;subst N
      have wr:=(To (w:=w) w0).1
      have At:=(To (w:=w) w1).1
      have Bk:=(To (w:=w) w2).1
      refine⟨.mk z0 z1 z2 ks,⟨⟨wr,At,Bk,k1.1,(Kj ks).2 k1.2⟩,rfl,λj y l=>?_⟩,EW _⟩
      rw[AK]at l
      match j,l with|0,l=>cases l;exact⟨_,rfl,.sc _⟩|1,l=>cases l;exact⟨_,rfl,.sc _⟩|2,l=>cases l;exact⟨_,rfl,.sc _⟩|3,l=>have ur:some (aM (.list .rx) ks)=some y:=l;cases ur;obtain⟨c,e1,e2⟩:=k3 0 (aM (.list .rx) ks) (by rw[fe (t:=.list .rx) ks rfl];rfl);grind
    grind
   grind
  grind
end
open Go Go.RowKit Go.Av Go.WideShapes
@[reducible] def HD:List Ty->Type
 |[]=>Unit
 |t::l=>t.den×HD l
def GN:(us:List Ty)->HD us->List V
 |[],_=>[]
 |t::l,x=>.d t x.1::GN l x.2
def zex:(us:List Ty)->HD us->Prop
 |[],_=>True
 |t::l,x=>okD t x.1/\zex l x.2
def Mo:(us:List Ty)->HD us->Nat
 |[],_=>0
 |t::l,x=>fT t x.1+Mo l x.2
def fitAll(P:Program):List TypeId->List Ty->Bool
 |[],[]=>true
 |t::a,u::us=>w9 P 64 t u&&fitAll P a us
 |_,_=>false
def zg2(P:Program)(a:List TypeId):Bool:=a.all λt=>P.readableRec t&&decide (t<P.types.size)
section
variable {H:Type} {enc:TypeId×Value->H} {P:Program} {w:World}
theorem zeY{d:Nat}{t:TypeId}{u:Ty}{r:Reach}{I:Nat}{v:Value}{B:DataW H}{D:List MemPlace}(g:w9 P d t u=true)(s:Value.okWide P w r I t v)(h:DataW.Trod enc P w 0 (λ_=>true) true t v B D)(C:∀p∈D,p.block<w.heap.size): ∃x:u.den,(okD u x/\RelP (λb=>b<w.heap.size) w v (aM u x))/\fT u x<=eN B:=by
 obtain⟨n,hn⟩:=h;obtain⟨x,⟨J,E,F⟩,L⟩:=zgC n d t u _ B D g hn C;refine⟨x,⟨J,?_⟩,L⟩;have one:u.ag=false->v.cells= #[v]->RelP (λb=>b<w.heap.size) w v (aM u x):=λA hc=>by obtain⟨c,M,N⟩:=F 0 (aM u x) (by rw[fe x A];rfl);grind
 have j:u.ag=true->(∃cs,v= .agg cs)->RelP (λb=>b<w.heap.size) w v (aM u x):=λA ⟨cs,hc⟩=>by subst hc;rw[fW x A];have e:(Value.agg cs).cells=cs:=rfl;rw[e]at E F;refine .agg cs _ (by rw[aO,<-E];simp) λi a y A O=>?_;grind
 cases d with
 |zero=>simp[w9]at g|succ d=>
  cases u with
  |bool=>
   simp only[w9]at g;split at g;·rename_i f;obtain⟨b,rfl⟩:=okWide_bool f s;exact one rfl rfl
   grind
  |int k=>
   simp only[w9]at g;split at g;·rename_i f;obtain⟨b,rfl⟩:=okWide_int f s;exact one rfl rfl
   grind
  |str=>
   simp only[w9]at g;split at g;·rename_i f;obtain⟨b,rfl⟩:=okWide_string f s;exact one rfl rfl
   grind
  |list a=>
   simp only[w9]at g;split at g;·rename_i f;obtain⟨a,l,c,rfl⟩:=okWide_slice f s;exact one rfl rfl
   grind
  |unit=>
   simp only[w9]at g;refine j rfl ?_;split at g;·rename_i f;simp only[Value.okWide,f]at s;grind
   ·rename_i f;simp only[Value.okWide,f]at s;grind
   grind
  |pair a b=>
   simp only[w9]at g;refine j rfl ?_;split at g;·rename_i f;simp only[Value.okWide,f]at s;grind
   ·rename_i f;simp only[Value.okWide,f]at s;grind
   grind
  |rx=>
   have z:rxB P t=true:=g;refine j rfl ?_;unfold rxB at z;split at z;·rename_i f;simp only[Value.okWide,f]at s;grind
   grind
theorem WL:∀(f:List TypeId) (us:List Ty) (vs:List Value) (ds:List (DataW H)) (g:List MemPlace),fitAll P f us=true->DataW.TrodAll enc P w 0 (λ_=>true) true f vs ds g->(∀(j:Nat) (t:TypeId) (v:Value),f[j]? =some t->vs[j]? =some v->∃r n,Value.okWide P w r n t v)->(∀p∈g,p.block<w.heap.size)->
 ∃xs:HD us,(zex us xs/\Mo us xs<=nT ds)/\vs.length=(GN us xs).length/\∀(i:Nat) (v:Value) (x:AV),vs[i]? =some v->((GN us xs).map aZ)[i]? =some x->RelA [] (λb=>b<w.heap.size) w v x
 |[],[],[],[],g,_,_,_,_=>⟨(),⟨trivial,ab_ _⟩,rfl,λi v x l=>by grind⟩
 |t::f,u::us,v::vs,d::ds,g,k,A,l,e=>by simp only[fitAll,a_]at k;obtain⟨p,q,s,z,rfl⟩:=A;obtain⟨r,n,B⟩:=l 0 t v rfl rfl;obtain⟨x,⟨D,E⟩,M⟩:=zeY k.1 B s λy c=>e y (B_ _ c);obtain⟨xs,⟨F,N⟩,I,J⟩:=WL f us vs ds q k.2 z (λj t v L a=>l (j+1) t v (by grind) (by grind)) λy c=>e y (F_ _ c);refine⟨(x,xs),⟨⟨D,F⟩,by simp only[Mo,nT];omega⟩,by simp[GN,I],λi C y a c=>?_⟩;cases i with|zero=>simp only[ag_,h_]at a;simp only[GN,m_,ag_,h_]at c;subst a;subst c;exact E|succ i=>exact J i C y (by grind) (by simpa[GN]using c)
 |[],[],_::_,_,_,_,h,_,_=>(by cases h)
 |[],[],[],_::_,_,_,h,_,_=>(by cases h)
 |_::_,_::_,[],_,_,_,h,_,_=>(by cases h)
 |_::_,_::_,_::_,[],_,_,h,_,_=>(by cases h)
 |[],_::_,_,_,_,h,_,_,_=>(by cases h)
 |_::_,[],_,_,_,h,_,_,_=>(by cases h)
theorem GR(hl:laidOutB P=true){W g:World}(j:Below W.heap.size W g):∀(c:List TypeId) (vs:List Value) (ds:List (DataW H)) (e:List MemPlace),zg2 P c=true->DataW.TrodAll enc P W 0 (λ_=>true) true c vs ds e->(∀p∈e,p.block<W.heap.size)->
 DataW.TrodAll enc P g 0 (λb=>decide (b<W.heap.size)) true c vs ds e
 |[],[],[],_,_,h,_=>h
 |t::c,v::vs,d::ds,e,hr,h,a=>by simp only[zg2,C_,a_,decide_eq_true_eq]at hr;obtain⟨p,q,k,l,rfl⟩:=h;exact⟨p,q,Below.trod hl hr.1.1 hr.1.2 k j λy f=>a y (B_ _ f),GR hl j c vs ds q hr.2 l λy f=>a y (F_ _ f),rfl⟩
 |[],_::_,_,_,_,h,_=>(by cases h)
 |[],[],_::_,_,_,h,_=>(by cases h)
 |_::_,[],_,_,_,h,_=>(by cases h)
 |_::_,_::_,[],_,_,h,_=>(by cases h)
theorem Li{a:Nat}{sp:Nat->Bool}{hd:Bool}:∀(b:List TypeId) (vs:List Value) (ds:List (DataW H)) (c:List MemPlace),DataW.TrodAll enc P w a sp hd b vs ds c->ds.length=b.length
 |[],[],[],_,_=>rfl
 |_::b,_::vs,_::ds,_,⟨_,_,_,h,_⟩=>by simp[Li b vs ds _ h]
 |[],_::_,_,_,h=>(by cases h)
 |[],[],_::_,_,h=>(by cases h)
 |_::_,[],_,_,h=>(by cases h)
 |_::_,_::_,[],_,h=>(by cases h)
theorem zct(H:P.follows .mixedOrders=true){tbl:Nat->Option Fun'}(D:TblOk P tbl){W:World}(C:GT W){N:Nat}{us:List Ty}{xs:HD us}{vs:List Value}(hl:vs.length=(GN us xs).length) (c:∀(i:Nat) (v:Value) (x:AV),vs[i]? =some v->((GN us xs).map aZ)[i]? =some x->RelA [] (λb=>b<W.heap.size) W v x) {s:S} (B:Conv tbl N (GN us xs) [] (·=some s)) (hs:aZ (res s.fr.length s.fr)= .b (.pv (.sc (.bool true)))): Calls P (N%10000) vs.toArray W λe d=>e= .returned (.bool true)/\Below W.heap.size W d:=by
 obtain⟨o,rfl,A⟩:=K2 H D B;refine(A W [] (λb=>b<W.heap.size) vs (GW.of C) ⟨rfl,λb h=>h,λi j li J g n=>(by simp),λi l g n=>(by grind),λi l o n=>(by simp)⟩ (by grind) c).mono λe d E=>?_;rcases E with⟨v,r,p,θ',D',y,f,u,_,a,_⟩|⟨I,_,_,f,_⟩;·have w:some (r,p)=some (aZ (res s.fr.length s.fr),s.hp.map bV):=f;simp only[h_,aB_.injEq]at w;rw[w.1,hs]at u;have z:RelP D' d v (.sc (.bool true)):=u;cases z;refine⟨y,a.os,a.tape,a.output,a.size,λk F=>a.block k F ?_⟩;rintro⟨i,l,n,_⟩;grind
 ·cases f
end
theorem wrap_i64{n:Int}(a: -9223372036854775808<=n)(b:n<=9223372036854775807):A_ .i64 n=n:=by simp only[A_,ai_,U_];grind
theorem wrap_u8(n:Int):A_ .u8 n=n%256:=by simp[A_,ai_,U_]
theorem wrap_u32(n:Int):A_ .u32 n=n%4294967296:=by simp[A_,ai_,U_]
theorem wrap_u64(n:Int):A_ .u64 n=n%18446744073709551616:=by simp[A_,ai_,U_]
theorem aB{i:Nat}{n:Nat}(a:i<n)(hn:n<=9223372036854775807):A_ .i64 ((i:Int)+1)=((i+1:Nat):Int):=by rw[wrap_i64 (by omega) (by omega)];rfl
section
variable {α β γ σ τ:Type}
theorem VV{xs:List α}(i:Nat):aR xs (i:Int)=xs[i]? :=by simp[aR]
theorem eO{m:Nat->Option α}{Q:α->Prop}{a:α}(h:∀n,m n=some a)(b:Q a):Wp m Q:=⟨a,b,0,λn _=>h n⟩
theorem Wp.imp{m:Nat->Option α}{Q z:α->Prop}(h:Wp m Q)(E:∀r,Q r->z r):Wp m z:=wp_mono h E
theorem a8{N:Nat}{body:Nat->σ->Option (σ⊕τ)}{s0:σ}{Q:τ->Prop}(I:Nat->σ->Prop)(h:I 0 s0) (c:∀i s,i<N->I i s->Wp (λn=>body n s) λr=>match r with| .inl s'=>I (i+1) s'| .inr t=>Q t) (d:∀s,I N s->Wp (λn=>body n s) λr=>match r with| .inl _=>False| .inr t=>Q t):Wp (λn=>aL n (body n) s0) Q:=by
 have key:∀(k:Nat) (i:Nat) (s:σ),i+k=N->I i s->∃t,Q t/\∃b,∀n m,b<=n->k+1<=m->aL m (body n) s=some t:=by
  intro k;induction k with
  |zero=>
   intro i s j hs;have:i=N:=by omega
   subst this;obtain⟨r,hr,b,hn⟩:=d s hs;cases r with|inl s'=>grind|inr t=>refine⟨t,hr,b,λn m f g=>?_⟩;obtain⟨a,rfl⟩:∃a,m=a+1:=⟨m - 1,by omega⟩;simp only[aL];grind
  |succ k u=>
   intro i s j hs;obtain⟨r,hr,b,hn⟩:=c i s (by omega) hs;cases r with
   |inl s'=>obtain⟨t,e,v,p⟩:=u (i+1) s' (by omega) hr;refine⟨t,e,max b v,λn m f g=>?_⟩;obtain⟨a,rfl⟩:∃a,m=a+1:=⟨m - 1,by omega⟩;simp only[aL];grind
   |inr t=>refine⟨t,hr,b,λn m f g=>?_⟩;obtain⟨a,rfl⟩:∃a,m=a+1:=⟨m - 1,by omega⟩;simp only[aL];grind
 obtain⟨t,e,b,hn⟩:=key N 0 s0 (by simp) h;exact⟨t,e,max b (N+1),λn l=>hn n n (by omega) (by omega)⟩
theorem yt{xs:List α}{p:α->Bool}{g:α->β}{e:γ}{body:Nat->(Int×Unit)->Option ((Int×Unit)⊕β⊕γ)}{Q:β⊕γ->Prop} (h:∀(i:Nat) (x:α),xs[i]? =some x->Wp (λn=>body n ((i:Int),())) λr=>r=if p x then .inr (.inl (g x))else .inl (((i+1:Nat):Int),())) (b:Wp (λn=>body n ((xs.length:Int),())) λr=>r= .inr (.inr e)) (d:Q (match xs.find? p with|some x=>.inl (g x)|none=>.inr e)):Wp (λn=>aL n (body n) ((0:Int),())) Q:=by
 refine a8 (N:=xs.length) (I:=λi s=>s=((i:Int),())/\xs.find? p=(xs.drop i).find? p) ⟨rfl,by simp⟩ (λi s a hs=>?_) λs hs=>?_;·obtain⟨rfl,hd⟩:=hs;have c:=g_ a;refine wp_mono (h i _ c) λr hr=>?_;rw[List.drop_eq_getElem_cons a,aA_]at hd;grind
 ·obtain⟨rfl,hd⟩:=hs;refine wp_mono b λr hr=>?_;grind
end
section
variable {α β σ τ:Type}
theorem aE{b:Bool}{m k:Nat->Option α}{Q:α->Prop}(a:b=true)(h:Wp m Q):Wp (λn=>bif b then m n else k n) Q:=by subst a;exact h
theorem an{b:Bool}{m k:Nat->Option α}{Q:α->Prop}(a:b=false)(h:Wp k Q):Wp (λn=>bif b then m n else k n) Q:=by subst a;exact h
theorem bn{a b:Bool}{m:Nat->Option Bool}{Q:Bool->Prop}(h:a=false->Wp m λr=>r=b)(c:Q (a||b)):Wp (λn=>bif a then some true else m n) Q:=by
 cases a;·exact wp_mono (h rfl) λr hr=>by grind
 ·exact aa c
theorem bb{a b:Bool}{m:Nat->Option Bool}{Q:Bool->Prop}(h:a=true->Wp m λr=>r=b)(c:Q (a&&b)):Wp (λn=>bif a then m n else some false) Q:=by
 cases a;·exact aa c
 ·exact wp_mono (h rfl) λr hr=>by grind
end
section
variable {tbl:Nat->Option Fun'}
theorem oN{f:Nat}{ars:List V}{os:List Ob}{sh:Sh}{R:HL sh.sl->Prop}(hp:∀c,EB sh (jm sh c)=some c)(h:Conv tbl f ars os λo=>∃c,o=some (jm sh c)/\R c):∃c,R c/\aC tbl f ars os sh c:=by obtain⟨o,⟨c,rfl,hr⟩,a,hn⟩:=h;exact⟨c,hr,ap (hp c) ⟨_,rfl,a,hn⟩⟩
theorem As{f:Nat}{g:List V->Option S}{ars:List V}{sh:Sh}{c:HL sh.sl}(a:tbl f=some (.nat g))(hg:g ars=some (jm sh c))(hp:EB sh (jm sh c)=some c):aC tbl f ars [] sh c:=by refine ap hp ⟨_,rfl,1,λn hn=>?_⟩;obtain⟨m,rfl⟩:∃m,n=m+1:=⟨n - 1,by omega⟩;simp only[sC,a,hg]
end
section
variable {α β γ σ τ:Type}
theorem zgc{xs:List α}{i:Nat}(h:i<xs.length):aR xs (i:Int)=some xs[i]:=by rw[VV];exact g_ h
theorem aF{xs:List α}{i:Nat}{f:Nat->α->Option β}{Q:β->Prop}(h:i<xs.length)(a:Wp (λn=>f n xs[i]) Q):Wp (λn=>N_ (aR xs (i:Int)) (f n)) Q:=by rw[zgc h];grind
theorem Uz{xs:List α}{i:Int}{f:Nat->α->Option β}{Q:β->Prop}(a:0<=i)(h:i.toNat<xs.length)(b:Wp (λn=>f n xs[i.toNat]) Q):Wp (λn=>N_ (aR xs i) (f n)) Q:=by obtain⟨k,rfl⟩:=af_ a;exact aF (by omega) b
theorem a6{i N:Nat}{m k:Nat->Option α}{Q:α->Prop}(h:i<N)(a:Wp m Q):Wp (λn=>bif decide ((i:Int)<(N:Int))then m n else k n) Q:=by rw[show decide ((i:Int)<(N:Int))=true from decide_eq_true (by omega)];grind
theorem aT{N:Nat}{m k:Nat->Option α}{Q:α->Prop}(a:Wp k Q):Wp (λn=>bif decide ((N:Int)<(N:Int))then m n else k n) Q:=by grind
theorem Uy{N:Nat}{good:Nat->Prop}{e:β}{g:γ}{body:Nat->(Int×Unit)->Option ((Int×Unit)⊕β⊕γ)}{Q:β⊕γ->Prop} (h:∀i,i<N->Wp (λn=>body n ((i:Int),())) λr=>(good i/\r= .inl (((i+1:Nat):Int),()))\/(¬good i/\r= .inr (.inl e))) (a:Wp (λn=>body n ((N:Int),())) λr=>r= .inr (.inr g)) (hg:(∀i,i<N->good i)->Q (.inr g)) (d:(∃i,i<N/\¬good i)->Q (.inl e)):Wp (λn=>aL n (body n) ((0:Int),())) Q:=by
 refine a8 (N:=N) (I:=λi s=>s=((i:Int),())/\∀j,j<i->good j) ⟨rfl,λj c=>absurd c (by simp)⟩ (λi s b hs=>?_) λs hs=>?_;·obtain⟨rfl,hd⟩:=hs;refine wp_mono (h i b) λr hr=>?_;grind
 ·obtain⟨rfl,hd⟩:=hs;refine wp_mono a λr hr=>?_;grind
theorem pE{b:Bool}{good:Prop}{e:β}{s' a:σ}(c:b=true↔¬good)(hs:s'=a):Wp (λ_=>bif b then(some (.inr (.inl e)):Option (σ⊕β⊕γ))else some (.inl s')) (λr=>(good/\r= .inl a)\/(¬good/\r= .inr (.inl e))):=by
 subst hs;cases b;·exact aa (.inl ⟨W_ λh=>by grind,rfl⟩)
 ·exact aa (.inr ⟨c.1 rfl,rfl⟩)
theorem all_iff{xs:List α}{P:α->Prop}:(∀i,i<xs.length->∀x,xs[i]? =some x->P x)↔∀x∈xs,P x:=by
 constructor;·intro h x b;obtain⟨i,a,rfl⟩:=List.mem_iff_getElem.1 b;exact h i a _ (g_ a)
 grind
theorem wg{xs:List α}{P:α->Prop}{e:β}{g:γ}{body:Nat->(Int×Unit)->Option ((Int×Unit)⊕β⊕γ)}{Q:β⊕γ->Prop} (h:∀i (a:i<xs.length),Wp (λn=>body n ((i:Int),())) λr=>(P xs[i]/\r= .inl (((i+1:Nat):Int),()))\/(¬P xs[i]/\r= .inr (.inl e))) (c:Wp (λn=>body n ((xs.length:Int),())) λr=>r= .inr (.inr g)) (hg:(∀x∈xs,P x)->Q (.inr g)) (b:(¬∀x∈xs,P x)->Q (.inl e)):Wp (λn=>aL n (body n) ((0:Int),())) Q:=by refine Uy (N:=xs.length) (good:=λi=>∀x,xs[i]? =some x->P x) (λi a=>?_) c (λh=>hg (all_iff.1 h)) (fun⟨i,a,hn⟩=>b λh=>hn λx d=>h x (q_ d));refine wp_mono (h i a) λr hr=>?_;grind
end
section
variable {α β γ σ τ:Type}
theorem Jr{xs:List α}{i:Nat}{x:α}{f:Nat->α->Option β}{Q:β->Prop}(h:xs[i]? =some x)(a:Wp (λn=>f n x) Q):Wp (λn=>N_ (aR xs (i:Int)) (f n)) Q:=by rw[VV,h];grind
end
end Go.Ev
