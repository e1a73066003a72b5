import Derived.Test.YthjnceggmnicmaaGreatDoorML5
import Derived.Test.YthjnceggmnicmaaGreatDoorML3
import Derived.OpenShut
import Derived.Deep.Slices
import Derived.ChangeMaps5
import Derived.Carry
set_option linter.unusedVariables false
set_option linter.unusedSimpArgs false
open Array renaming getElem?_eq_some_iff->al_,getElem?_toList->aC_
open Bool renaming and_eq_true->a_,not_eq_true'->y_,or_eq_true->A_,false_eq_true->ab_,not_true->ai_,or_eq_true_iff->aF_,false_or->aG_,and_false->aT_,not_false->aU_
open Classical renaming byContradiction->ap_
open Int renaming toNat_natCast->aI_
open Go.IntKind renaming wrap->I_,signed->am_,bits->aw_
open List renaming getElem?_eq_getElem->c_,mem_append->d_,length_map->f_,getElem?_map->h_,getElem?_eq_some_iff->i_,all_eq_true->j_,map_cons->l_,getElem?_append_left->m_,mem_cons_of_mem->o_,mem_singleton->p_,mem_of_getElem?->r_,map_append->s_,getElem?_append_right->t_,mem_flatMap->u_,mem_cons->v_,getElem?_set_ne->x_,mapM_cons->z_,filter_cons->B_,mem_cons_self->C_,mem_append_left->D_,append_assoc->E_,mem_append_right->H_,all_cons->J_,length_cons->K_,mem_range->L_,getElem?_set_self->N_,map_map->O_,map_set->P_,range->R_,replicate->S_,mem_map->T_,getElem?_range->X_,map_congr_left->Y_,getElem?_take_of_lt->Z_,length_append->ac_,getD->ad_,flatMap_cons->af_,getElem_mem->ag_,length_take->ah_,map_take->aj_,getElem?_drop->an_,map_replicate->ao_,getElem?_cons_zero->au_,drop_eq_nil_of_le->ax_,take_of_length_le->ay_,length_nil->aA_,nil_append->aB_,getElem?_mapIdx->aD_,getElem?_of_mem->aE_,map_drop->aH_,ext_getElem?->aJ_,getElem?_set->aK_,drop_append->aL_,isEmpty_iff->aM_,not_mem_nil->aN_,take_append->aO_,length->aP_,append_nil->aQ_,find?_cons->aR_,drop_drop->aV_,take_zero->aW_,map_nil->aX_
open Nat renaming eq_of_beq_eq_true->b_,le_of_ble_eq_true->g_,beq->n_,beq_refl->U_,zero_add->V_,zero_le->ae_,lt_or_ge->ak_,ble->aq_,le_refl->ar_,succ_mul->az_,zero_mul->aY_
open Option renaming map_eq_some_iff->e_,bind_eq_some_iff->q_,bind_eq_bind->F_,bind_some->G_,bind->M_,pure_def->Q_,isNone_iff_eq_none->W_,map_some->aa_,isSome_iff_exists->as_,getD_some->av_
open Option.some renaming injEq->k_,inj->w_
open Prod renaming mk->aS_
namespace Go.Ev
open Go Go.RowKit Go.Av
theorem iH:∀(l:List Slot) (c:HL l) (b:S),(∀k v,lk b.fr k=some v->v.isD=true)->∀k v,lk (unpack l c b).fr k=some v->v.isD=true
 |[],_,_,h=>h
 | .tm j t::l,c,b,h=>iH l c.2 _ λk v a=>by
  simp only[lk]at a;cases d:n_ k j;·rw[d]at a;exact h k v a
  ·rw[d]at a;simp only[cond_true,k_]at a;subst a;rfl
 | .cell _ _ _::l,c,b,h=>iH l c.2 _ h
 | .vec _ _ _::l,c,b,h=>iH l c.2 _ h
 | .map _ _ _ _ _::l,c,b,h=>iH l c.2 _ h
 | .tree _ _ _ _::l,c,b,h=>iH l c.2 _ h
 | .treeH _ _ _ _ _ _::l,c,b,h=>iH l c.2 _ h
theorem Tl{v:V}(h:v.isD=true):v.ids=[]/\v.ids1=[]:=by cases v<;>first|exact⟨rfl,rfl⟩|cases h
theorem OP{n:Nat}{fr:List (Nat×V)}(h:∀k v,lk fr k=some v->v.isD=true):(res n fr).ids=[]:=by
 have one:∀k,((lk fr k).getD .any).ids=[]/\((lk fr k).getD .any).ids1=[]:=λk=>by cases hl:lk fr k with|none=>exact⟨rfl,rfl⟩|some v=>exact Tl (h k v hl)
 unfold res;cases n_ n 1;·show(PT fr n).flatMap V.ids1=[];rw[List.flatMap_eq_nil_iff];intro v a;obtain⟨i,_,rfl⟩:=T_.1 a;exact(one i).2
 ·exact(one 0).1
theorem IF{hp:List AObj}{bor:Bool}{x:BV}{p:PV}(h:x.toPV=some p):za hp bor x=some p:=by cases x<;>first|exact h|cases h
theorem Ku{hp:List AObj}{bor:Bool}{x:AV}{p:PV}(h:x.toPV=some p):kF hp bor x=some p:=by
 cases x with
 |b x=>exact IF h|agg xs=>have h':(xs.mapM BV.toPV).map PV.agg=some p:=h;obtain⟨d,a,rfl⟩:=e_.1 h';show(xs.mapM (za hp bor)).map PV.agg=_;rw[oZ (λx _ y c=>IF c) a];rfl
 |tup xs=>exact h
section
variable {R:Type} {P:Program} {O:ak} {d:Option Nat} {s:S} {κ kp:S->Option R} {r:R}
theorem Kr{bor:Bool}{a:Arg×X}{v:V}(g:a.2.wf=true)(h:Hj s bor [] a=some v)(hd:v.isD=true):∃p,((enc s).get a.2.er).bind (kF (enc s).hp bor)=some p/\AV.p p=aS v:=by
 obtain⟨a,x⟩:=a;simp only[Hj]at h;split at h
 ·rename_i t id c;obtain⟨f,b⟩:=aN h;simp only[a_,y_]at f;split at b
  ·rename_i e u xs k;split at b;·rename_i ys d;cases b;obtain⟨j,n⟩:=bw d;refine⟨aG (.list t) ys,?_,rfl⟩;rw[au g c,G_];show(if bor=true then J5 (enc s).hp id else none)=_;rw[f.1,if_pos rfl,J5,bA,k];show some (aG (.list u) xs)=some (aG (.list t) ys);rw[j]
   ·cases b
  ·rename_i e kk u xs k;split at b;·rename_i ys d;cases b;obtain⟨j,n⟩:=bw d;refine⟨aG (.list t) ys,?_,rfl⟩;rw[au g c,G_];show(if bor=true then J5 (enc s).hp id else none)=_;rw[f.1,if_pos rfl,J5,bA,k];show some (aG (.list u) xs)=some (aG (.list t) ys);rw[j]
   ·cases b
  ·cases b
 ·rename_i t l _ c;split at h;·rename_i y d;cases h;exact⟨aG t y,by rw[au g c,G_];exact Ku (dH d),rfl⟩
  ·cases h
 ·rename_i l c;have key:∀p:PV,aS l=AV.p p->l=v->∃p,((enc s).get x.er).bind (kF (enc s).hp bor)=some p/\AV.p p=aS v:=λp hp e=>by subst e;exact⟨p,by rw[au g c,G_,hp];exact Ku rfl,hp.symm⟩
  split at h;·cases h
  ·cases h
  ·cases h
  ·cases h
  ·rename_i vs;obtain⟨f,b⟩:=aN h;cases b;cases hd
  ·cases h;cases v<;>first|(cases hd;done)|skip
   ·exact key _ rfl rfl
   ·exact key _ rfl rfl
   ·exact key _ rfl rfl
 ·cases h
theorem Hk{bor:Bool}:∀(l:List (Arg×X)) (vs:List V),jm l=true->qK s bor [] l=some vs->vs.all V.isD=true->∃b,(l.map λa=>a.2.er).mapM (λx=>((enc s).get x).bind (kF (enc s).hp bor))=some b/\b.map AV.p=vs.map aS
 |[],vs,_,h,_=>by cases h;exact⟨[],rfl,rfl⟩
 |a::l,vs,c,h,hd=>by
  simp only[jm,J_,a_]at c;simp only[qK]at h;split at h
  ·rename_i v k;split at h;·rename_i us j;cases h;simp only[J_,a_]at hd;obtain⟨p,d,e⟩:=Kr c.1 k hd.1;obtain⟨b,f,g⟩:=Hk l us c.2 j hd.2;refine⟨p::b,?_,by rw[l_,l_,e,g]⟩;rw[l_,z_,d,f];rfl
   ·cases h
  ·cases h
theorem Lo{bor:Bool}(d:bor=true):∀(vs:List V) (b:List PV),((vs.map (UI s.hp)).map aO).mapM BV.toPV=some b->(vs.map aO).mapM (za (enc s).hp bor)=some b
 |[],b,h=>h
 |v::vs,b,h=>by
  simp only[l_,z_,F_,q_,Q_]at h⊢;obtain⟨p,a,e,f,g⟩:=h;refine⟨p,?_,e,Lo d vs e f,g⟩;cases v<;>try exact IF a
  rename_i id;show(if bor=true then J5 (enc s).hp id else none)=_;rw[if_pos d,J5,bA];simp only[UI]at a;split at a;·rename_i c;rw[c];exact a
  ·rename_i c;rw[c];exact a
  ·cases a
theorem S1{bor:Bool}{a:Arg×X}{v:V}(b:a.2.wf=true)(h:Uz s bor a=some v)(hd:v.isD=true):∃p,((enc s).get a.2.er).bind (kF (enc s).hp bor)=some p/\AV.p p=aS v:=by
 simp only[Uz]at h;split at h;·rename_i n f;cases h;exact Kr b f hd
 ·split at h
  ·rename_i t vs l g;obtain⟨e,h⟩:=aN h;split at h;·rename_i x j;cases h;refine⟨aG t x,?_,rfl⟩;rw[au b g,G_];have:=dH j;obtain⟨k,c,d⟩:=e_.1 this;show((vs.map aO).mapM (za (enc s).hp bor)).map PV.agg=_;rw[Lo e vs k c];exact congrArg some d
   ·cases h
  ·cases h
theorem Kx{bor:Bool}:∀(l:List (Arg×X)) (vs:List V),jm l=true->Kw s bor l=some vs->vs.all V.isD=true->∃b,(l.map λa=>a.2.er).mapM (λx=>((enc s).get x).bind (kF (enc s).hp bor))=some b/\b.map AV.p=vs.map aS
 |[],vs,_,h,_=>by cases h;exact⟨[],rfl,rfl⟩
 |a::l,vs,c,h,hd=>by
  simp only[jm,J_,a_]at c;simp only[Kw]at h;split at h
  ·rename_i v k;split at h;·rename_i us j;cases h;simp only[J_,a_]at hd;obtain⟨p,d,e⟩:=S1 c.1 k hd.1;obtain⟨b,f,g⟩:=Kx l us c.2 j hd.2;refine⟨p::b,?_,by rw[l_,l_,e,g]⟩;rw[l_,z_,d,f];rfl
   ·cases h
  ·cases h
theorem Oy(hO:OracleOk P O){bor:Bool}{f:FuncId}{args:List (Arg×X)}{sh:Sh}(j:jm args=true/\sh.wfB=true)(h:evOp O d (.call bor f args sh) s κ kp=some r): Pu P s (.call bor (f%10000) (args.map λa=>a.2.er)) d κ r:=by
 simp only[evOp]at h;split at h
 ·rename_i ars w;obtain⟨b,n⟩:=aN h;simp only[a_,A_,y_]at b;obtain⟨c,hc,y⟩:=ca n;obtain⟨A,p,u⟩:=Kx args ars j.1 w b.1.1;obtain⟨l,B⟩:=uo hO j.2 hc;rw[<-u]at l;refine⟨_,⟨A,p,l.mono λo z=>⟨_,_,z,?_,λx=>(B ?_).1,rfl⟩⟩,y⟩;·rw[<-oQ];refine OP (iH _ _ _ λk v g=>?_);rw[base_nil]at g;have:=aM_.1 b.1.2;rw[this]at g;cases g
  ·rcases b.2 with e|e;·rw[x]at e;cases e
   ·exact e
 ·cases h
theorem LG(hO:OracleOk P O){bor:Bool}{num:Nat}{x:X}{args:List (Arg×X)}{sh:Sh}(g:x.wf=true/\jm args=true/\dG P (num%10000)=true/\sh.wfB=true)(h:evOp O d (.callp bor num x args sh) s κ kp=some r): Pu P s (.callp bor x.er (args.map λa=>a.2.er)) d κ r:=by
 simp only[evOp]at h;split at h
 ·rename_i f cs ars D y;obtain⟨b,p⟩:=aN h;simp only[a_,A_,y_]at b;obtain⟨c,hc,B⟩:=ca p;have A:=b_ b.1.1.1;subst A;obtain⟨l,u,w⟩:=Hk args ars g.2.1 y b.1.1.2;obtain⟨n,E⟩:=uo hO g.2.2.2 hc;have hcs:(ars++cs.map λc=>V.dp c.1 c.2).map aS=(l++cs.map λc=>PV.pto (aG c.1 c.2)).map AV.p:=by rw[s_,s_,w,O_,O_];rfl
  rw[hcs]at n;refine⟨_,⟨_,au g.1 D,num%10000,cs.map λc=>PV.pto (aG c.1 c.2),rfl,g.2.2.1,l,u,n.mono λo C=>⟨_,_,C,?_,λz=>(E ?_).1,rfl⟩⟩,B⟩;·rw[<-oQ];refine OP (iH _ _ _ λk v j=>?_);rw[base_nil]at j;have:=aM_.1 b.1.2;rw[this]at j;cases j
  ·rcases b.2 with e|e;·rw[z]at e;cases e
   ·exact e
 ·cases h
theorem LeS.refl(a:St):LeS a a:=⟨λ_ y E=>⟨y,E,.refl y⟩,rfl,λi x y H z=>by rw[H]at z;cases z;exact .refl x⟩
def Ms(P:Program)(s:S)(op:SOp)(d:Option Nat)(κ kp:S->Option R)(r:R):Prop:=
 sexec P d op (enc s) (λa=>∃s',LeS a (enc s')/\Keeps (fN d) s s'/\κ s'=some r) (λa=>∃s',a=enc s'/\Keeps (fN d) s s'/\kp s'=some r)
def Ox(P:Program)(s:S)(op:SOp)(d:Option Nat)(κ kp:S->Option R)(r:R):Prop:=
 sexec P d op (enc s) (λa=>∃s',a=enc s'/\Keeps (fN d) s s'/\κ s'=some r) (λa=>∃s',a=enc s'/\Keeps (fN d) s s'/\kp s'=some r)
theorem Ox.ob{op:SOp}(h:Ox P s op d κ kp r):Ms P s op d κ kp r:=mh h (λ_ ⟨s',z,E,H⟩=>⟨s',by rw[z];exact .refl _,E,H⟩) λ_ h=>h
theorem oz{st:St}{op:SOp}{x:AV}{K KP:St->Prop}(hs:jp P st op λy=>y=x)(b:K (st.putO d x)):sexec P d op st K KP:=by
 have a:jp P st op λy=>K (st.putO d y):=AA hs λy c=>by rw[c];exact b
 unfold sexec;split<;>first|exact a|exact hs.elim
theorem Pu.ox{op:SOp}(h:Pu P s op d κ r):Ox P s op d κ kp r:=by obtain⟨v,z,E⟩:=h;exact oz z ⟨_,(gv _ _ _).symm,Keeps.put s d v,E⟩
theorem Pu.ob{op:SOp}(h:Pu P s op d κ r):Ms P s op d κ kp r:=by obtain⟨v,z,E⟩:=h;exact oz z ⟨_,by rw[gv];exact .refl _,Keeps.put s d v,E⟩
theorem uH(s:S)(o:Ob):enc ⟨s.fr,s.hp++[o]⟩={enc s with hp:=(enc s).hp++[bC o]}:=by simp[enc]
theorem gG(s:S)(id:Nat)(o:Ob):enc ⟨s.fr,setAt s.hp id o⟩={enc s with hp:=(enc s).hp.set id (bC o)}:=by simp[enc,et,P_]
theorem nB(s:S):(enc s).hp.length=s.hp.length:=by simp[enc]
theorem vW{o:Ob}{o':AObj}{x:BV}{v:V}(a:bC o=o')(b:aS v= .b x)(h:κ (S.putO ⟨s.fr,s.hp++[o]⟩ d v)=some r): ∃s',LeS (({enc s with hp:=(enc s).hp++[o']}:St).putO d (.b x)) (enc s')/\Keeps (fN d) s s'/\κ s'=some r:=by refine⟨_,?_,(Keeps.fr (s':=⟨s.fr,s.hp++[o]⟩) rfl).trans (Keeps.put _ d v),h⟩;rw[gv,uH,a,b];exact .refl _
theorem Ou{o:Ob}{o':AObj}{x:BV}{v:V}(a:bC o=o')(b:aS v= .b x)(h:κ (S.putO ⟨s.fr,s.hp++[o]⟩ d v)=some r): ∃s',(({enc s with hp:=(enc s).hp++[o']}:St).putO d (.b x))=enc s'/\Keeps (fN d) s s'/\κ s'=some r:=by refine⟨_,?_,(Keeps.fr (s':=⟨s.fr,s.hp++[o]⟩) rfl).trans (Keeps.put _ d v),h⟩;rw[gv,uH,a,b]
theorem Ru{tid:TypeId}{zero:List V}(b:zero.all V.konst=true)(h:evOp O d (.alloc tid zero) s κ kp=some r):Ms P s (.alloc tid (zero.map Au)) d κ kp r:=by
 simp only[evOp]at h;refine vW (o:=.box tid zero) ?_ ?_ h;·show AObj.box tid (zero.map aO)=AObj.box tid ((zero.map Au).map λv=>bn v);rw[O_];congr 1;exact Y_ λv a=>(vU (j_.1 b v a)).symm
 ·rw[nB];rfl
theorem UO{tid:TypeId}{x:X}(f:x.wf=true)(h:evOp O d (.box tid x) s κ kp=some r):Ms P s (.box tid x.er) d κ kp r:=by
 simp only[evOp]at h;split at h
 ·rename_i v g;obtain⟨a,b⟩:=aN h;obtain⟨c,e⟩:=sC a;refine⟨_,au f g,c,vW (o:=.box tid (cn v)) ?_ ?_ b⟩;·show AObj.box tid _=_;rw[e]
  ·rw[nB];rfl
 ·cases h
theorem PF{tid:TypeId}{t:Ty}{len:Nat}{parts:List X}(g:parts.all X.wf=true)(h:evOp O d (.bslice true tid t len parts) s κ kp=some r):Ms P s (.bslice true tid t.sz len (parts.map X.er)) d κ kp r:=by
 simp only[evOp]at h;obtain⟨a,b⟩:=aN h;simp only[a_]at a;obtain⟨xs,c,e,f⟩:=ng parts _ g b;refine⟨_,c,?_,g_ a.1.2,g_ a.2,ju xs,vW (o:=.vec tid t xs) rfl ?_ f⟩;·rw[f_,e];exact b_ a.1.1
 ·rw[nB];rfl
theorem PH{tid:TypeId}{t:Ty}{bytes:Nat}{l c:X}(b:l.wf=true/\c.wf=true/\t≠.rx)(h:evOp O d (.mslice tid t bytes l c) s κ kp=some r):Ms P s (.mslice tid t.sz bytes (oA t) l.er c.er) d κ kp r:=by
 simp only[evOp]at h;obtain⟨e,f⟩:=aN h;obtain⟨v,l',hl,g⟩:=fb f;obtain⟨w,u,hc,j⟩:=fb g;obtain⟨a,k⟩:=bm j;simp only[a_,decide_eq_true_eq]at a;obtain⟨n,p⟩:=Mr t b.2.2;refine⟨_,au b.1 hl,_,au b.2.1 hc,_,rfl,_,rfl,_,_,rfl,_,_,rfl,a.1.1.1,a.1.1.2,a.1.2,a.2,p,g_ e,_,n,x6 t _,vW (o:=.vec tid t (S_ l'.toNat t.zero)) ?_ ?_ k⟩;·show AObj.vec tid t.sz _=_;rw[ao_]
 ·rw[nB];rfl
theorem M8{tid:TypeId}{k:Av.K}{u:Ty}{bytes:Nat}{l c:X}(b:l.wf=true/\c.wf=true)(h:evOp O d (.msliceT tid k u bytes l c) s κ kp=some r):Ms P s (.msliceT k tid 1 bytes (.slice none 0 0) l.er c.er) d κ kp r:=by
 simp only[evOp]at h;obtain⟨e,f⟩:=aN h;obtain⟨x,l',hl,g⟩:=fb f;obtain⟨y,v,hc,n⟩:=fb g;obtain⟨a,p⟩:=bm n;simp only[a_,decide_eq_true_eq]at a;have hn:k.nilsB nilP.cells=true:=by
  simp only[Av.K.nilsB,nilP,PV.cells,K_,aA_,j_,L_];intro j w;obtain rfl:j=0:=by omega
  split<;>rfl
 refine⟨_,au b.1 hl,_,au b.2 hc,_,rfl,_,rfl,_,_,rfl,_,_,rfl,a.1.1.1,a.1.1.2,a.1.2,a.2,rfl,Nat.one_pos,nilP,rfl,rfl,hn,vW (o:=.tree tid k (.list u) (S_ l'.toNat []) none) ?_ ?_ p⟩
 ·show AObj.tree tid 1 k _ none=_;rw[ao_];have:k.unnil nilP= .list 0 []:=by simp[Av.K.unnil,nilP,e]
  rw[this];rfl
 ·rw[nB];rfl
theorem NL{k:Av.K}{t:Ty}{y:t.den}(h:UQ k (fY t y)=true):k.unnil (uG k t y)=aG t y:=by
 have key:∀(j:Nat) (p:PV),(aG t y).cells[j]? =some p->(k.at j).isSome=true->p= .list 0 []:=by
  intro j p hp a;obtain⟨g,n⟩:=cW t y;have d:j<(fY t y).length:=by rw[n,<-aD t y];exact(i_.1 hp).1
  simp only[UQ,j_,L_]at h;have b:=h j d;obtain⟨q,v⟩:=as_.1 a;rw[v]at b;simp only[ad_,c_ d,av_]at b;have c:((fY t y).map aO)[j]? =some (.pv p):=by rw[g,h_,hp];rfl
  rw[h_,c_ d]at c;split at b
  ·rename_i u l w;rw[w]at c;have hl:l=[]:=by simpa using b
   subst hl;have r:=w_ c;have s:(BV.pv (aG (.list u) []))= .pv p:=r;cases s;rfl
  ·cases b
 unfold uG;cases e:aG t y with
 |agg cs=>
  simp only[Av.K.unnil,PV.agg.injEq];apply aJ_;intro j;simp only[aD_];cases hc:cs[j]? with
  |none=>rfl|some p=>
   simp only[aa_];cases a:(k.at j).isSome;·rfl
   ·rw[key j p (by rw[e];exact hc) a];rfl
 |_=>
  have f:=key 0 _ (by rw[e];rfl);simp only[];cases a:(k.at 0).isSome;·simp[Av.K.unnil,a]
  ·simp only[if_true,Av.K.unnil,nilP,a];exact(f a).symm
theorem PD(k:Av.K)(t:Ty)(y:t.den):k.nilsB (uG k t y).cells=true:=by
 simp only[Av.K.nilsB,j_,L_];intro j a;split;·rename_i q b;rw[Ei]at a⊢;simp only[List.length_mapIdx]at a;simp only[ad_,aD_,c_ a,aa_,av_,b,Option.isSome_some,if_true,nilP]
 ·rfl
theorem Ot{tid:TypeId}{k:Av.K}{t:Ty}{bytes:Nat}{x y:X}(n:x.wf=true/\y.wf=true)(h:evOp O d (.appT tid k t bytes x y) s κ kp=some r):Ox P s (.appT k tid t.sz bytes x.er y.er) d κ kp r:=by
 simp only[evOp]at h;split at h
 ·rename_i k' u D E;obtain⟨hk,l⟩:=aN h;clear h;have w:k=k':=by simpa using hk
  subst w;split at l
  ·rename_i ys hc;obtain⟨F,H⟩:=bD hc;have I:=Ty.list.inj F;subst I;have J:ys=D:=H;subst J;obtain⟨b,a⟩:=aN l;clear l;simp only[j_]at b;have f:∀p∈ys.map (uG k u),p.ok=true/\k.nilsB p.cells=true:=λp hp=>⟨(Hv ys p hp).2,by obtain⟨z,_,rfl⟩:=T_.1 hp;exact PD k u z⟩
   have g:(ys.map (uG k u)).map k.unnil=ys.map (aG u):=by rw[O_];exact Y_ λz B=>NL (b z B)
   split at a
   ·rename_i id A;split at a
    ·rename_i e k2 c C ho;split at a
     ·rename_i xs B;obtain⟨L,M⟩:=bD B;have N:=Ty.list.inj L;subst N;have Q:xs=C:=M;subst Q;obtain⟨j,R⟩:=aN a;simp only[a_,decide_eq_true_eq]at j;obtain⟨j,rfl⟩:=j;obtain⟨T,U⟩:=bm R;have Y:=b_ j;subst Y;refine⟨_,au n.1 A,_,au n.2 E,.inr (.inl ⟨ys.map (uG k c),rfl,f,.inl ⟨id,rfl,_,by rw[bA,ho];rfl,_,rfl,by rw[f_,f_];simpa using T,_,?_,(Keeps.map (fN d) s (s.moved id (.tree e k c (xs++ys) none)) (V.kill1 id) (λv hv=>by cases v<;>first|rfl|cases hv) rfl).trans (Keeps.put _ d _),U⟩⟩)⟩
      rw[gv,By,g];have:bC (.tree e k c (xs++ys) none)= .tree e c.sz k (xs.map (aG c)++ys.map (aG c)) none:=by show AObj.tree e c.sz k ((xs++ys).map (aG c)) none=_;rw[s_]
      rw[this];rfl
     ·cases a
    ·cases a
   ·rename_i v A;obtain⟨h3,h4⟩:=bm a;refine⟨_,au n.1 A,_,au n.2 E,.inr (.inl ⟨ys.map (uG k u),rfl,f,.inr ⟨rfl,by rw[f_];simpa using h3,Ou (o:=.tree tid k u ys none) ?_ ?_ h4⟩⟩)⟩;·rw[g];rfl
    ·rw[nB];rfl
   ·cases a
  ·cases l
 ·cases h
theorem Ry{k e:TypeId}{a b:Ty}(h:evOp O d (.mkmap k e a b) s κ kp=some r):Ms P s (.mkmap k e) d κ kp r:=by simp only[evOp]at h;refine vW (o:=.map k e a b []) rfl ?_ h;rw[nB];rfl
theorem HU{tid:TypeId}{t:Ty}{bytes:Nat}{x y:X}(f:x.wf=true/\y.wf=true)(h:evOp O d (.append tid t bytes x y) s κ kp=some r):Ox P s (.append tid t.sz bytes x.er y.er) d κ kp r:=by
 simp only[evOp]at h;obtain⟨M,ys,k,a,j⟩:=lf h;have b:∀v:V,s.get x=some v->aS v= .b .nils\/aS v= .b (.full (.list 0 []))->aK (decide (ys.length*bytes<=140737488355328)) (κ (S.putO ⟨s.fr,s.hp++[.vec tid t ys]⟩ d (.sl s.hp.length)))=some r->Ox P s (.append tid t.sz bytes x.er y.er) d κ kp r:=by intro v c g I;obtain⟨F,H⟩:=bm I;refine⟨_,au f.1 c,_,au f.2 k,j _ ⟨λp hp=>(ju ys p hp).2,.inr ⟨g,by rw[f_];simpa using F,Ou (o:=.vec tid t ys) rfl ?_ H⟩⟩⟩;rw[nB];rfl
 split at a
 ·rename_i id c;split at a
  ·rename_i e u xs J;split at a
   ·rename_i zs L;obtain⟨l,n⟩:=bD L;have w:=Ty.list.inj l;subst w;have z:zs=xs:=n;subst z;obtain⟨A,B⟩:=aN a;obtain⟨C,D⟩:=bm B;have E:=b_ A;subst E;refine⟨_,au f.1 c,_,au f.2 k,j _ ⟨λp hp=>(ju ys p hp).2,.inl ⟨id,rfl,_,by rw[bA,J];rfl,_,rfl,by rw[f_,f_];simpa using C,_,?_,(Keeps.map (fN d) s (s.moved id (.vec e u (zs++ys))) (V.kill1 id) (λv g=>by cases v<;>first|rfl|cases g) rfl).trans (Keeps.put _ d _),D⟩⟩⟩
    rw[gv,By];have:bC (.vec e u (zs++ys))= .vec e u.sz (zs.map (aG u)++ys.map (aG u)):=by show AObj.vec e u.sz ((zs++ys).map (aG u))=_;rw[s_]
    rw[this];rfl
   ·cases a
  ·cases a
 ·rename_i u c;exact b _ c (.inl rfl) a
 ·rename_i u c;exact b _ c (.inr rfl) a
 ·cases a
theorem PE{tid:TypeId}{t:Ty}{bytes:Nat}{x y:X}(a:x.wf=true/\y.wf=true)(h:evOp O d (.append tid t bytes x y) s κ kp=some r):Ms P s (.append tid t.sz bytes x.er y.er) d κ kp r:=(HU a h).ob
theorem Tt{tid:TypeId}{t:Ty}{x y:X}(g:x.wf=true/\y.wf=true)(h:evOp O d (.copy tid t x y) s κ kp=some r):Ms P s (.copy tid t.sz x.er y.er) d κ kp r:=by
 simp only[evOp]at h;split at h
 ·rename_i id v H I;obtain⟨C,D⟩:=aN h;obtain⟨M,ys,c,b,E⟩:=lf D;cases c;split at b
  ·rename_i e u xs F;split at b
   ·rename_i zs J;obtain⟨k,l⟩:=bD J;have n:=Ty.list.inj k;subst n;have w:zs=xs:=l;subst w;obtain⟨z,A⟩:=aN b;have B:=b_ z;subst B;refine⟨_,au g.1 H,_,au g.2 I,E _ ⟨λp hp=>(ju ys p hp).2,id,rfl,λa=>?_,_,by rw[bA,F];rfl,_,rfl,_,?_,(Keeps.fr (s':=⟨s.fr,setAt s.hp id (.vec e u (ys.take zs.length++zs.drop ys.length))⟩) rfl).trans (Keeps.put _ d _),A⟩⟩
    ·cases f:v.isA
     ·rw[l7 f]at a;cases v<;>simp only[aS,aO]at a<;>first|(cases a;done)|skip
      ·rename_i j;cases a;simp[U_]at C
      ·rename_i L;unfold bn at a;split at a<;>cases a
     ·cases v<;>first|(cases f;done)|cases a
    ·rw[gv,gG];have:bC (.vec e u (ys.take zs.length++zs.drop ys.length))= .vec e u.sz ((ys.map (aG u)).take (zs.map (aG u)).length++(zs.map (aG u)).drop (ys.map (aG u)).length):=by show AObj.vec e u.sz _=_;rw[s_,aj_,aH_,f_,f_]
     rw[this,f_,f_];exact .refl _
   ·cases b
  ·cases b
 ·cases h
theorem Rz{x:X}(a:x.wf=true)(h:evOp O d (.panic x) s κ kp=some r):Ms P s (.panic x.er) d κ kp r:=by
 simp only[evOp]at h;split at h;·rename_i b;exact⟨_,au a b,rfl,s,rfl,Keeps.refl _ _,h⟩
 ·cases h
theorem LB(hO:OracleOk P O){pan bor:Bool}{B:List Nat}{f:FuncId}{args:List (Arg×X)}{sh:Sh}(c:jm args=true/\sh.wfB=true)(h:evOp O d (.callA pan bor B f args sh) s κ kp=some r): Ox P s (.callA bor B (f%10000) (args.map λa=>a.2.er)) d κ kp r:=by
 simp only[evOp]at h;split at h
 ·rename_i ars x;obtain⟨os,_,u,v,w⟩:=zg hO c.2 h;refine⟨_,rX args ars c.1 x v,_,u,?_⟩;obtain⟨k,l,n,p⟩:=w;refine⟨k,l,n,p.mono λo b=>?_⟩
  match o,b with|some (_,_),b=>exact⟨b.1,let⟨s',e,g,j⟩:=b.2;⟨s',by rw[e],g,j⟩⟩|none,b=>exact b
 ·cases h
theorem Rv(hO:OracleOk P O){pan bor:Bool}{B:List Nat}{f:FuncId}{args:List (Arg×X)}{sh:Sh}(b:jm args=true/\sh.wfB=true)(h:evOp O d (.callA pan bor B f args sh) s κ kp=some r): Ms P s (.callA bor B (f%10000) (args.map λa=>a.2.er)) d κ kp r:=(LB hO b h).ob
theorem LC(hO:OracleOk P O){pan bor:Bool}{B:List Nat}{num:Nat}{x:X}{args:List (Arg×X)}{sh:Sh}(u:x.wf=true/\jm args=true/\dG P (num%10000)=true/\sh.wfB=true)(h:evOp O d (.callv pan bor B num x args sh) s κ kp=some r): Ox P s (.callv bor B x.er (args.map λa=>a.2.er)) d κ kp r:=by
 have j:∀(f:FuncId) (ars caps:List V),n_ (num%10000) f=true->qK s bor B args=some ars->xU pan O s d bor B num (ars++caps) sh κ kp=some r->dG P f=true/\aM ((args.map λa=>a.2.er).mapM λx=>((enc s).get x).bind (s8 (enc s).hp bor B)) λA=>aM (B.mapM ((enc s).hp[·]?)) λos=>sexec.callK P (enc s) d bor B f (A++caps.map aS) os (λe=>∃s',e=enc s'/\Keeps (fN d) s s'/\κ s'=some r) (λe=>∃s',e=enc s'/\Keeps (fN d) s s'/\kp s'=some r):=by
  intro f ars caps I p hc
  have w:=b_ I
  subst w
  obtain⟨os,_,l,n,H⟩:=zg hO u.2.2.2 hc
  refine⟨u.2.2.1,_,rX args ars u.2.1 p λv J=>n v (by simp[J]),_,l,?_⟩
  obtain⟨k,b,F,z⟩:=H
  rw[s_]at b z
  refine⟨k,b,F,z.mono λo g=>?_⟩
  match o,g with|some (_,_),g=>exact⟨g.1,let⟨s',C,D,E⟩:=g.2;⟨s',by rw[C],D,E⟩⟩|none,g=>exact g
 simp only[evOp]at h;split at h;·rename_i f ids ars y p;obtain⟨l,n⟩:=aN h;obtain⟨k,b⟩:=j f ars _ l p n;refine⟨_,au u.1 y,f,_,.inl ⟨ids,rfl,rfl⟩,k,?_⟩;rw[O_]at b;exact b
 ·rename_i f cs ars y p;obtain⟨l,n⟩:=aN h;obtain⟨k,b⟩:=j f ars _ l p n;refine⟨_,au u.1 y,f,_,.inr ⟨cs.map λc=>PV.pto (aG c.1 c.2),rfl,rfl⟩,k,?_⟩;rw[O_]at b⊢;exact b
 ·cases h
theorem Rw(hO:OracleOk P O){pan bor:Bool}{B:List Nat}{num:Nat}{x:X}{args:List (Arg×X)}{sh:Sh}(b:x.wf=true/\jm args=true/\dG P (num%10000)=true/\sh.wfB=true)(h:evOp O d (.callv pan bor B num x args sh) s κ kp=some r): Ms P s (.callv bor B x.er (args.map λa=>a.2.er)) d κ kp r:=(LC hO b h).ob
theorem PM:∀(t:Ty) (x:t.den),t.eqOk=true->(aG t x).plain=true:=by
 have hc:∀(t:Ty) (x:t.den),t.eqOk=true->(aC t x).all (λx=>match x with
  | .sc (.int _ _)=>true
  | .sc (.bool _)=>true
  | .sc (.string _)=>true
  |_=>false)=true:=by
  intro t
  induction t with|pair a b c d=>intro x h;simp only[Ty.eqOk,a_]at h;have e:aC (.pair a b) x=aC a x.1++aC b x.2:=rfl;rw[e,List.all_append,c x.1 h.1,d x.2 h.2];rfl|int k=>intro x _;rfl|bool=>intro x _;rfl|str=>intro x _;rfl|unit=>intro x _;rfl|list t _=>intro x h;cases h|rx=>intro x h;cases h
 intro t x h;cases t with|pair a b=>exact hc (.pair a b) x h|int k=>rfl|bool=>rfl|str=>rfl|unit=>rfl|list t=>cases h|rx=>cases h
theorem HH{a b:Ty}(y:a.den)(z:b.den):∀(kvs:List (a.den×b.den)),(oX a b kvs y=none->Aa a b kvs y z=kvs++[(y,z)])/\
 (∀j e v,kvs[j]? =some (e,v)->oR a y e=true->(∀i' f,i'<j->kvs[i']? =some f->oR a y f.1=false)->Aa a b kvs y z=kvs.set j (y,z))
 |[]=>⟨λ_=>rfl,λj e v h=>by simp at h⟩
 |(k,v)::l=>by
  obtain⟨r,s⟩:=HH y z l;refine⟨λh=>?_,λj e w g p d=>?_⟩
  ·simp only[oX]at h;cases c:oR a y k;·rw[c]at h;simp only[Aa,c,cond_false,r h,List.cons_append]
   ·rw[c]at h;cases h
  ·cases j with
   |zero=>simp at g;obtain⟨rfl,rfl⟩:=g;simp[Aa,p]
   |succ j=>have c:=d 0 (k,v) (by omega) rfl;simp only[Aa,c,cond_false,List.set_cons_succ];rw[s j e w (by simpa using g) p λi' f u n=>d (i'+1) f (by omega) (by simpa using n)]
theorem PG{k e:TypeId}{a b:Ty}{m x v:X}(n:m.wf=true/\x.wf=true/\v.wf=true/\x7 P 64 k a=true)(h:evOp O d (.mapset k e a b m x v) s κ kp=some r):Ms P s (.mapset k e m.er x.er v.er) d κ kp r:=by
 simp only[evOp]at h;split at h
 ·rename_i id u w hm hx hv;split at h
  ·rename_i k' e' f g kvs y z ho hy hz;split at h
   ·rename_i c F;obtain⟨B,h2⟩:=aN h;simp only[a_]at B;have M:=b_ B.1.1.1;have N:=b_ B.1.1.2;have C:=B.1.2;obtain⟨Q,R⟩:=bD F;have T:=Ty.list.inj Q;injection T with U Y;clear h B;subst M;subst N;subst U;subst Y;have e8:c=kvs:=R;subst e8;obtain⟨_,h3⟩:=bm h2;obtain⟨g1,g2⟩:=Ep (P:=P) (b:=g) n.2.2.2 y c 0;obtain⟨q1,q2⟩:=HH y z c;have A:∀l:List (PV×PV),(Aa f g c y z).map (λp=>(aG f p.1,aG g p.2))=l->∃s',LeS {enc s with hp:=(enc s).hp.set id (.map k e l)} (enc s')/\Keeps (fN none) s s'/\κ s'=some r:=by rintro l rfl;refine⟨⟨s.fr,setAt s.hp id (.map k e f g (Aa f g c y z))⟩,?_,Keeps.fr rfl,h3⟩;rw[gG];exact .refl _
    refine⟨_,au n.1 hm,_,au n.2.1 hx,_,au n.2.2.1 hv,id,_,rfl,by rw[bA,ho];rfl,_,dH hy,_,dH hz,rfl,PM f y C,(Jf P 64 k f n.2.2.2 y y).2,Ln n.2.2.2,g1,?_⟩;rcases g2 with⟨I,D⟩|⟨j,u',H,I,D,J,g7,L⟩;·refine⟨_,D,λi u E=>(by cases E),A _ ?_⟩;rw[q1 I,s_];rfl
    ·have hk:=Jb f y H C J;subst hk;rw[V_]at L;refine⟨_,L,λi u E=>?_,A _ ?_⟩;·cases E;exact⟨aG g u',by rw[h_,D];rfl⟩
     ·rw[q2 j _ _ D J g7,P_]
   ·cases h
  ·cases h
 ·cases h
end
theorem nu{α:Type}(xs ys:List α)(h:xs.length=ys.length):splice xs 0 ys=ys:=by simp[splice,<-h]
theorem gM:∀(u:Ty) (off:Nat) (t:Ty) (x:u.den) (y:t.den) (z:u.den),lG u off t x y=some z->off+t.sz<=u.sz/\aC u z=splice (aC u x) off (aC t y)/\(u.ag=false->t=u)
 | .pair a b,off,t,x,y,z,h=>by
  have p:=aD a x.1
  have w:=aD b x.2
  have B:=aD t y
  have hc:∀x:(Ty.pair a b).den,aC (.pair a b) x=aC a x.1++aC b x.2:=λ_=>rfl
  unfold lG at h
  cases d:(decide (Ty.pair a b=t)&&n_ off 0)
  ·rw[d]at h
   simp only[cond_false]at h
   cases e:aq_ (off+1) a.sz
   ·rw[e]at h
    simp only[cond_false]at h
    have v:a.sz<=off:=by
     have:=Nat.not_le_of_not_ble_eq_true (by rw[e];simp)
     omega
    split at h
    ·rename_i D n
     cases h
     obtain⟨s,r,_⟩:=gM b (off - a.sz) t x.2 y D n
     refine⟨by simp only[Ty.sz];omega,?_,λh=>by cases h⟩
     rw[hc,hc,r]
     simp only[splice]
     rw[aO_,ay_ (l:=aC a x.1) (by omega),p,aL_,ax_ (show(aC a x.1).length<=off+(aC t y).length by omega),p]
     simp only[aB_,E_]
     rw[show off+(aC t y).length - a.sz=off - a.sz+(aC t y).length by omega]
    ·cases h
   ·rw[e]at h
    simp only[cond_true]at h
    have A:=g_ e
    split at h
    ·rename_i C f
     cases h
     obtain⟨s,r,_⟩:=gM a off t x.1 y C f
     refine⟨by simp only[Ty.sz];omega,?_,λh=>by cases h⟩
     rw[hc,hc,r]
     simp only[splice]
     rw[List.take_append_of_le_length (by omega),List.drop_append_of_le_length (by omega)]
     simp only[E_]
    ·cases h
  ·rw[d]at h
   simp only[cond_true]at h
   simp only[a_,decide_eq_true_eq]at d
   have j:off=0:=b_ d.2
   subst j
   obtain⟨g,rfl⟩:=bw h
   refine⟨by omega,?_,λh=>by cases h⟩
   rw[nu _ _ (by rw[aD,aD])]
   simp only[aC,g]
 | .rx,off,t,x,y,z,h=>by
  unfold lG at h
  obtain⟨f,n⟩:=aN h
  simp only[a_,decide_eq_true_eq]at f
  have j:off=0:=b_ f.1
  subst j
  obtain⟨g,rfl⟩:=bw n
  refine⟨by omega,?_,λ_=>rfl⟩
  rw[nu _ _ (by rw[aD,aD])]
  simp only[aC,g]
 | .int k,off,t,x,y,z,h=>c (.int k) off t x y z h
 | .bool,off,t,x,y,z,h=>c .bool off t x y z h
 | .str,off,t,x,y,z,h=>c .str off t x y z h
 | .list a,off,t,x,y,z,h=>c (.list a) off t x y z h
 | .unit,off,t,x,y,z,h=>c .unit off t x y z h
where
 c (u:Ty) (off:Nat) (t:Ty) (x:u.den) (y:t.den) (z:u.den) (h:(bif n_ off 0 then bP t u y else none)=some z):off+t.sz<=u.sz/\aC u z=splice (aC u x) off (aC t y)/\(u.ag=false->t=u):=by
  obtain⟨f,n⟩:=aN h
  have j:off=0:=b_ f
  subst j
  obtain⟨g,rfl⟩:=bw n
  refine⟨by omega,?_,λ_=>rfl⟩
  rw[nu _ _ (by rw[aD,aD])]
  simp only[aC,g]
theorem zK{t:Ty}{x y:t.den}(h:aC t x=aC t y):aG t x=aG t y:=by
 cases a:t.ag;·rw[dc x a,dc y a]at h;exact List.cons.inj h |>.1
 ·rw[dI x a,dI y a,h]
theorem ML{t:Ty}{v:V}{x:t.den}(h:cG t v=some x):(aS v).cells.length=t.sz/\∀(i:Nat) (a b:BV),(aS v).cells[i]? =some a->((aC t x).map BV.pv)[i]? =some b->LeB a b:=by
 have hd:=dH h
 have one:∀(z:BV),(∀p,z≠.pv p)->z.toPV=some (aG t x)->t.ag=false->([z]:List BV).length=t.sz/\∀(i:Nat) (a b:BV),([z]:List BV)[i]? =some a->((aC t x).map BV.pv)[i]? =some b->LeB a b:=by
  intro z _ A w
  refine⟨by rw[eA w];rfl,λi a b c g=>?_⟩
  rw[dc x w]at g
  cases i with
  |zero=>simp at c g;subst c;subst g;exact .data _ _ A
  |succ i=>simp at c
 cases v with
 |d u y=>
  obtain⟨n,rfl⟩:=bw (show bP u t y=some x from h)
  refine⟨?_,λi a b c g=>?_⟩
  ·show((aC u y).map BV.pv).length=_
   rw[f_,aD]
  ·have f:((aC u y).map BV.pv)[i]? =some a:=c
   have:aC u y=aC u x:=by simp only[aC,n]
   rw[this,g]at f
   cases f
   exact .refl _
 |agg vs=>
  have s:((vs.map aO).mapM BV.toPV).map PV.agg=some (aG t x):=hd
  obtain⟨cs,k,j⟩:=e_.1 s
  have r:t.ag=true:=by rw[<-mD t x,<-j];rfl
  have hcs:cs=aC t x:=by rw[dI x r]at j;exact PV.agg.inj j
  subst hcs
  have hl:=mapM_len k
  refine⟨by show(vs.map aO).length=_;rw[<-hl,aD],λi a b c g=>?_⟩
  have f:(vs.map aO)[i]? =some a:=c
  rw[h_]at g
  obtain⟨p,hp,rfl⟩:=e_.1 g
  exact .data _ _ (Ad k f hp)
 |nil u=>
  obtain⟨n,rfl⟩:=bw (show bP (.list u) t []=some x from h)
  exact one .nils (λp e=>by cases e) hd rfl
 |full u y=>
  obtain⟨n,rfl⟩:=bw (show bP (.list u) t y=some x from h)
  exact one (.full _) (λp e=>by cases e) hd rfl
 |_=>simp[cG,iy]at h
where
 Ad {l:List BV} {m:List PV} (h:l.mapM BV.toPV=some m) {i:Nat} {a:BV} {p:PV} (c:l[i]? =some a) (hp:m[i]? =some p):a.toPV=some p:=by
  induction l generalizing m i with
  |nil=>simp at c
  |cons x l B=>
   simp only[z_,F_,Q_,q_,k_]at h
   obtain⟨q,k,C,j,rfl⟩:=h
   cases i with
   |zero=>simp at c hp;subst c;subst hp;exact k
   |succ i=>exact B j (by simpa using c) (by simpa using hp)
theorem Pw{l:List BV}{m:List PV}(h:l.mapM BV.toPV=some m){i:Nat}{a:BV}{p:PV}(b:l[i]? =some a)(hp:m[i]? =some p):a.toPV=some p:=by induction l generalizing m i with|nil=>simp at b|cons x l e=>simp only[z_,F_,Q_,q_,k_]at h;obtain⟨q,c,f,d,rfl⟩:=h;cases i with|zero=>simp at b hp;subst b;subst hp;exact c|succ i=>exact e d (by simpa using b) (by simpa using hp)
def LeL(xs ys:List BV):Prop:=xs.length=ys.length/\∀(i:Nat) (a b:BV),xs[i]? =some a->ys[i]? =some b->LeB a b
theorem LeL.refl(xs:List BV):LeL xs xs:=⟨rfl,λi a b E z=>by rw[E]at z;cases z;exact .refl _⟩
theorem LeL.append{a b c e:List BV}(h:LeL a b)(k:LeL c e):LeL (a++c) (b++e):=by
 refine⟨by simp[h.1,k.1],λi x y E H=>?_⟩;rcases ak_ i a.length with z|z;·rw[m_ z]at E;rw[m_ (by rw[<-h.1];exact z)]at H;exact h.2 i x y E H
 ·rw[t_ z]at E;rw[t_ (by rw[<-h.1];exact z),<-h.1]at H;exact k.2 _ x y E H
theorem QH{t:Ty}{l:List V}{x:t.den}{m:List V}(h:NT t l=some (x,m)):∃c,l=c++m/\c.length=t.sz/\LeL (c.map aO) ((fY t x).map aO):=by obtain⟨c,f,d⟩:=vI t l x m h;have hl:=mapM_len d;rw[f_,aD]at hl;refine⟨c,f,hl.symm,by rw[(cW t x).1,f_,f_,aD,<-hl],λi a b g e=>?_⟩;rw[(cW t x).1,h_]at e;obtain⟨p,hp,rfl⟩:=e_.1 e;exact .data _ _ (Pw d g hp)
theorem EU{t:Ty}{y:t.den}:∀(n:Nat) (vs:List V) (m:Int) (r:List V),(m<0\/(n:Int)<=m)->yg t y n vs m=some r->LeL (vs.map aO) (r.map aO)
 |0,vs,m,r,_,h=>by simp only[yg,k_]at h;subst h;exact .refl _
 |n+1,vs,m,r,e,h=>by
  simp only[yg]at h;split at h
  ·rename_i x l b;split at h;·rename_i c hr;cases h;obtain⟨f,rfl,d,a⟩:=QH b;rw[decide_eq_false (by omega:¬m=0)];simp only[cond_false,s_];exact a.append (EU n l (m - 1) c (by omega) hr)
   ·cases h
  ·cases h
theorem H3{t:Ty}{y:t.den}{cs:List BV}(hcs:LeL cs ((fY t y).map aO)):∀(n:Nat) (vs:List V) (j:Nat) (r:List V),j<n->yg t y n vs (j:Int)=some r->
 j*t.sz+t.sz<=vs.length/\LeL (splice (vs.map aO) (j*t.sz) cs) (r.map aO)
 |0,_,_,_,g,_=>absurd g (by omega)
 |n+1,vs,j,r,g,h=>by
  have f:cs.length=t.sz:=by rw[hcs.1,f_,(cW t y).2]
  simp only[yg]at h;split at h
  ·rename_i x l u;split at h
   ·rename_i k hr;cases h;obtain⟨a,rfl,c,p⟩:=QH u;cases j with
    |zero=>
     refine⟨by simp[c],?_⟩;have e:(decide (((0:Nat):Int)=0))=true:=rfl;rw[e];simp only[cond_true,s_];have:=EU n l _ k (.inl (by simp)) hr;have d:splice (a.map aO++l.map aO) (0*t.sz) cs=cs++l.map aO:=by simp only[splice,aY_,aW_,aB_,V_];rw[f,List.drop_left' (by simpa using c)]
     rw[d];exact hcs.append this
    |succ j=>
     have e:(decide (((j+1:Nat):Int)=0))=false:=decide_eq_false (by omega);rw[e];rw[show(((j+1:Nat):Int) - 1)=(j:Int) by omega]at hr;obtain⟨v,s⟩:=H3 hcs n l j k (by omega) hr;refine⟨by rw[ac_,c,az_];omega,?_⟩;simp only[cond_false,s_];have b:(a.map aO).length=t.sz:=by simpa using c
     have d:splice (a.map aO++l.map aO) ((j+1)*t.sz) cs=a.map aO++splice (l.map aO) (j*t.sz) cs:=by simp only[splice,az_];rw[aO_,ay_ (l:=a.map aO) (by omega),b,aL_,ax_ (show(a.map aO).length<=j*t.sz+t.sz+cs.length by omega),b];simp only[aB_,E_];rw[show j*t.sz+t.sz - t.sz=j*t.sz by omega,show j*t.sz+t.sz+cs.length - t.sz=j*t.sz+cs.length by omega]
     rw[d];exact p.append s
   ·cases h
  ·cases h
theorem P4{α:Type}(cs:List α)(off n k:Nat)(ys:List α)(h:off+n<=cs.length)(a:k+ys.length<=n):splice cs (off+k) ys=splice cs off (splice ((cs.drop off).take n) k ys):=by
 have hl:(((cs.drop off).take n).take k++ys++((cs.drop off).take n).drop (k+ys.length)).length=n:=by simp only[ac_,ah_,List.length_drop];omega
 simp only[splice];rw[hl,List.take_take,Nat.min_eq_left (show k<=n by omega),List.drop_take,aV_,List.take_add];simp only[E_];congr 3;rw[show off+k+ys.length=off+(k+ys.length) by omega];conv=>lhs;rw[<-List.take_append_drop (n - (k+ys.length)) (cs.drop (off+(k+ys.length)))];rw[aV_,show off+(k+ys.length)+(n - (k+ys.length))=off+n by omega]
section
variable {R:Type} {P:Program} {O:ak} {d:Option Nat} {s:S} {κ kp:S->Option R} {r:R}
theorem Tn{a:St}{id:Nat}{o o':AObj}(h:LeO o o'):LeS {a with hp:=a.hp.set id o} {a with hp:=a.hp.set id o'}:=by
 refine⟨λ_ y e=>⟨y,e,.refl y⟩,by simp,λi x y b c=>?_⟩;simp only[aK_]at b c;split at b
 ·rename_i d;rw[if_pos d]at c;split at b;·rename_i hl;rw[if_pos hl]at c;cases b;cases c;exact h
  ·cases b
 ·rename_i d;rw[if_neg d,b]at c;cases c;exact .refl _
theorem RA{t:Ty}{x v:X}(C:x.wf=true/\v.wf=true)(h:evOp O d (.store t x v) s κ kp=some r):Ms P s (.store t.sz x.er v.er) d κ kp r:=by
 simp only[evOp]at h;cases d with
 |some _=>cases h|none=>
  simp only at h;unfold storeT at h;split at h
  ·rename_i id off D I H;split at h
   ·rename_i tid cs E;obtain⟨c,A⟩:=aN h;simp only[a_]at c;obtain⟨f,F⟩:=sC c.2;have T:=b_ c.1.1;have U:=g_ c.1.2;refine⟨_,au C.1 I,_,au C.2 H,rfl,_,by rw[bA,E];rfl,tid,_,rfl,by rw[<-F,f_,T],by simpa using U,f,⟨s.fr,setAt s.hp id (.box tid (i7 cs off (cn D)))⟩,?_,Keeps.fr rfl,A⟩;rw[gG];have:bC (.box tid (i7 cs off (cn D)))= .box tid (splice (cs.map aO) off (aS D).cells):=by show AObj.box tid _=_;rw[qy,F]
    rw[this];exact .refl _
   ·cases h
  ·rename_i id off n u m D I H;split at h
   ·rename_i tid cs y E J;obtain⟨c,A⟩:=aN h;simp only[a_,decide_eq_true_eq]at c;obtain⟨⟨c,rfl⟩,hsz⟩:=c;have U:=g_ c;split at A
    ·rename_i vs rg;obtain⟨f,F⟩:=bm A;simp only[a_,decide_eq_true_eq]at f;obtain⟨j,rfl⟩:=Int.eq_ofNat_of_zero_le f.1;have M:j<n:=by omega
     obtain⟨Q,d2⟩:=ML J;have ph:=N1 J;have gc:=sC ph;have hcs:LeL (aS D).cells ((fY u y).map aO):=⟨by rw[Q,f_,(cW u y).2],λi a b ha hb=>d2 i a b ha (by rw[<-(cW u y).1];exact hb)⟩;obtain⟨r1,r2⟩:=H3 hcs n _ j vs M rg;have el:j*u.sz+u.sz<=n*u.sz:=by have:=Nat.mul_le_mul_right u.sz (show j+1<=n from M);rw[az_]at this;exact this
     refine⟨_,au C.1 I,_,au C.2 H,rfl,_,by rw[bA,E];rfl,tid,_,rfl,Q,?_,gc.1,⟨s.fr,setAt s.hp id (.box tid (i7 cs off vs))⟩,?_,Keeps.fr rfl,F⟩;·simp only[f_];show off+(j:Int).toNat*u.sz+u.sz<=cs.length;rw[aI_];omega
     ·rw[gG];refine Tn ?_;have R:splice (cs.map aO) (off+(j:Int).toNat*u.sz) (aS D).cells=splice (cs.map aO) off (splice (((cs.drop off).take (n*u.sz)).map aO) (j*u.sz) (aS D).cells):=by rw[aI_,aj_,aH_];exact P4 _ off (n*u.sz) _ _ (by simpa using U) (by rw[Q];exact el)
      show LeO (AObj.box tid (splice (cs.map aO) (off+(j:Int).toNat*u.sz) (aS D).cells)) (AObj.box tid ((i7 cs off vs).map aO));rw[R,qy];have key:LeL (splice (cs.map aO) off (splice (((cs.drop off).take (n*u.sz)).map aO) (j*u.sz) (aS D).cells)) (splice (cs.map aO) off (vs.map aO)):=by unfold splice at r2⊢;rw[r2.1];exact((LeL.refl _).append r2).append (LeL.refl _)
      exact .box tid _ _ key.1 key.2
    ·cases A
   ·cases h
  ·rename_i id i off D I H;split at h
   ·rename_i e u xs y E J;obtain⟨c,A⟩:=aN h;obtain⟨x0,g,f⟩:=ca A;split at f
    ·rename_i z hz;obtain⟨p1,N,p3⟩:=gM u off t x0 y z hz;have B:=(i_.1 g).1;have l:(xs.map (aG u)).getD i .any=aG u x0:=by simp[ad_,g]
     have L:∀p,p=aG u z->∃s',LeS {enc s with hp:=(enc s).hp.set id (.vec e u.sz ((xs.map (aG u)).set i p))} (enc s')/\Keeps (fN none) s s'/\κ s'=some r:=by
      rintro p rfl;refine⟨⟨s.fr,setAt s.hp id (.vec e u (xs.set i z))⟩,?_,Keeps.fr rfl,f⟩;rw[gG];have:bC (.vec e u (xs.set i z))= .vec e u.sz ((xs.map (aG u)).set i (aG u z)):=by show AObj.vec e u.sz _=_;rw[P_]
      rw[this];exact .refl _
     refine⟨_,au C.1 I,_,au C.2 H,rfl,_,by rw[bA,E];rfl,.inl ⟨e,_,_,rfl,by simpa using B,_,dH J,aD t y,x6 t y,?_⟩⟩;by_cases hs:t.sz=u.sz
     ·have qr:u=t:=by
       simp only[A_,decide_eq_true_eq,y_]at c;rcases c with c|c;·exact c
       ·rw[hs,U_]at c;cases c
      subst qr;have h0:off=0:=by omega
      subst h0;refine .inl ⟨rfl,rfl,L _ (zK ?_)⟩;rw[N,nu _ _ (by rw[aD,aD])]
     ·refine .inr ⟨hs,p1,L _ ?_⟩;have Y:u.ag=true:=by
       cases hu:u.ag;·exact absurd (by rw[p3 hu]) hs
       ·rfl
      rw[l,dI z Y,N]
    ·cases f
   ·rename_i e k u xs hole y E J;obtain⟨c,A⟩:=aN h;simp only[a_]at c;obtain⟨x0,g,f⟩:=ca A;split at f
    ·rename_i z hz;obtain⟨p1,N,p3⟩:=gM u off t x0 y z hz;have B:=(i_.1 g).1;have l:(xs.map (aG u)).getD i .any=aG u x0:=by simp[ad_,g]
     refine⟨_,au C.1 I,_,au C.2 H,rfl,_,by rw[bA,E];rfl,.inr ⟨e,_,k,_,_,rfl,by simpa using B,p1,.inl ⟨c.1,by rw[l,mD];exact c.2,_,dH J,aD t y,x6 t y,⟨s.fr,setAt s.hp id (.tree e k u (xs.set i z) hole)⟩,?_,Keeps.fr rfl,f⟩⟩⟩;rw[gG,l];have:bC (.tree e k u (xs.set i z) hole)= .tree e u.sz k ((xs.map (aG u)).set i (.agg (splice (aG u x0).cells off (aG t y).cells))) (VC hole):=by show AObj.tree e u.sz k _ _=_;rw[P_,dI z c.2,N]
     rw[this];exact .refl _
    ·cases f
   ·rename_i e k u xs hi M w E J;split at h;·rename_i kid;obtain⟨c,A⟩:=aN h;simp only[a_]at c;obtain⟨x0,g,f⟩:=ca A;obtain⟨F,T⟩:=bm f;have B:=(i_.1 g).1;have R:=b_ c.1.1;have e2:=b_ c.1.2;have e3:=g_ c.2;have e4:=b_ F;clear h c A f F;subst R;subst e4;refine⟨_,au C.1 I,_,au C.2 H,rfl,_,by rw[bA,E];rfl,.inr ⟨e,_,k,_,_,rfl,by simpa using B,by rw[e2];exact e3,.inr ⟨_,_,rfl,e2,rfl,rfl,⟨s.fr,setAt s.hp id (.tree e k u xs (some (hi,M,.sl kid)))⟩,?_,Keeps.fr rfl,T⟩⟩⟩;rw[gG];exact .refl _
    ·cases h
   ·cases h
  ·cases h
theorem RI{t:Ty}{x v:X}(C:x.wf=true/\v.wf=true)(hp:P5 s (.store t x v)=true)(h:evOp O d (.store t x v) s κ kp=some r):Ox P s (.store t.sz x.er v.er) d κ kp r:=by
 simp only[evOp]at h;cases d with
 |some _=>cases h|none=>
  simp only at h;unfold storeT at h;split at h
  ·rename_i id off A c B;split at h
   ·rename_i tid cs b;obtain⟨a,D⟩:=aN h;simp only[a_]at a;obtain⟨g,J⟩:=sC a.2;have N:=b_ a.1.1;have Q:=g_ a.1.2;refine⟨_,au C.1 c,_,au C.2 B,rfl,_,by rw[bA,b];rfl,tid,_,rfl,by rw[<-J,f_,N],by simpa using Q,g,⟨s.fr,setAt s.hp id (.box tid (i7 cs off (cn A)))⟩,?_,Keeps.fr rfl,D⟩;rw[gG];have:bC (.box tid (i7 cs off (cn A)))= .box tid (splice (cs.map aO) off (aS A).cells):=by show AObj.box tid _=_;rw[qy,J]
    rw[this]
   ·cases h
  ·rename_i id off n u m A c B;simp only[P5,c]at hp;cases hp
  ·rename_i id i off A c B;split at h
   ·rename_i e u xs y b I;obtain⟨a,D⟩:=aN h;obtain⟨x0,l,g⟩:=ca D;split at g
    ·rename_i z T;obtain⟨U,L,Y⟩:=gM u off t x0 y z T;have F:=(i_.1 l).1;have j:(xs.map (aG u)).getD i .any=aG u x0:=by simp[ad_,l]
     have f:∀p,p=aG u z->∃s',{enc s with hp:=(enc s).hp.set id (.vec e u.sz ((xs.map (aG u)).set i p))}=enc s'/\Keeps (fN none) s s'/\κ s'=some r:=by
      rintro p rfl;refine⟨⟨s.fr,setAt s.hp id (.vec e u (xs.set i z))⟩,?_,Keeps.fr rfl,g⟩;rw[gG];have:bC (.vec e u (xs.set i z))= .vec e u.sz ((xs.map (aG u)).set i (aG u z)):=by show AObj.vec e u.sz _=_;rw[P_]
      rw[this]
     refine⟨_,au C.1 c,_,au C.2 B,rfl,_,by rw[bA,b];rfl,.inl ⟨e,_,_,rfl,by simpa using F,_,dH I,aD t y,x6 t y,?_⟩⟩;by_cases hs:t.sz=u.sz
     ·have H:u=t:=by
       simp only[A_,decide_eq_true_eq,y_]at a;rcases a with a|a;·exact a
       ·rw[hs,U_]at a;cases a
      subst H;have M:off=0:=by omega
      subst M;refine .inl ⟨rfl,rfl,f _ (zK ?_)⟩;rw[L,nu _ _ (by rw[aD,aD])]
     ·refine .inr ⟨hs,U,f _ ?_⟩;have E:u.ag=true:=by
       cases R:u.ag;·exact absurd (by rw[Y R]) hs
       ·rfl
      rw[j,dI z E,L]
    ·cases g
   ·rename_i e k u xs hole y b I;simp only[P5,c,b]at hp;cases hp
   ·rename_i e k u xs hi hj w b I;simp only[P5,c,b]at hp;cases hp
   ·cases h
  ·cases h
theorem Py{op:TOp}(f:op.wf P=true){g:Ob->(Nat->V)->Option R}(h:evOp.mkT s op g=some r):∃o v,g o v=some r/\GG (enc s) op.er λob mk=>ob=bC o/\∀n,aS (v n)= .b (mk n):=by
 unfold evOp.mkT at h;split at h;·rename_i tid zero;refine⟨_,_,h,?_,λn=>rfl⟩;show AObj.box tid ((zero.map Au).map λv=>bn v)=AObj.box tid (zero.map aO);rw[O_];congr 1;exact Y_ λv C=>vU (j_.1 f v C)
 ·rename_i tid x;split at h;·rename_i v B;obtain⟨d,j⟩:=aN h;obtain⟨w,z⟩:=sC d;refine⟨_,_,j,_,au f B,w,?_,λn=>rfl⟩;show AObj.box tid _=AObj.box tid _;rw[z]
  ·cases h
 ·rename_i tid t len parts;obtain⟨d,j⟩:=aN h;simp only[a_]at d;obtain⟨xs,w,z,A⟩:=ng parts _ f j;refine⟨_,_,A,_,w,?_,g_ d.1.2,g_ d.2,ju xs,rfl,λn=>rfl⟩;rw[f_,z];exact b_ d.1.1
 ·rename_i tid t bytes l c;simp only[TOp.wf,a_,decide_eq_true_eq,ne_eq]at f;obtain⟨d,j⟩:=aN h;obtain⟨J,M,hl,w⟩:=fb j;obtain⟨L,N,hc,z⟩:=fb w;obtain⟨A,D⟩:=bm z;simp only[a_,decide_eq_true_eq]at A;obtain⟨H,I⟩:=Mr t f.2;refine⟨_,_,D,_,au f.1.1 hl,_,au f.1.2 hc,_,rfl,_,rfl,_,_,rfl,_,_,rfl,A.1.1.1,A.1.1.2,A.1.2,A.2,I,g_ d,_,H,x6 t t.zero,?_,λn=>rfl⟩;show AObj.vec tid t.sz _=AObj.vec tid t.sz _;rw[ao_]
 ·rename_i tid t bytes x y;simp only[TOp.wf,a_]at f;obtain⟨O,ys,F,d,j⟩:=lf h;have key:∀v:V,s.get x=some v->(aS v= .b .nils\/aS v= .b (.full (.list 0 [])))->aK (decide (ys.length*bytes<=140737488355328)) (g (.vec tid t ys) .sl)=some r->∃o v,g o v=some r/\GG (enc s) (TOp.append tid t bytes x y).er λob mk=>ob=bC o/\∀n,aS (v n)= .b (mk n):=by intro v B C E;obtain⟨w,z⟩:=bm E;exact⟨_,_,z,_,au f.1 B,_,au f.2 F,j _ ⟨λp hp=>(ju ys p hp).2,C,by rw[f_];simpa using w,rfl,λn=>rfl⟩⟩
  split at d;·rename_i u B;exact key _ B (.inl rfl) d
  ·rename_i u B;exact key _ B (.inr rfl) d
  ·cases d
 ·rename_i k e a b;exact⟨_,_,h,rfl,λn=>rfl⟩
 ·cases h
theorem NU{k:Nat}{op:TOp}(g:op.wf P=true)(h:evOp O d (.atq k op) s κ kp=some r): ∃o v,tM P ⟨d,.atq k op.er,none⟩ (enc s) ⟨aS v,some (k,bC o)⟩/\κ (S.putO ⟨s.fr,setAt s.hp k o⟩ d v)=some r:=by
 simp only[evOp]at h;split at h;·rename_i f;obtain⟨o,v,c,e⟩:=Py g h;refine⟨o,v k,⟨rfl,op.er,rfl,rB e λob mk ⟨a,b⟩=>⟨a,b k,?_⟩⟩,c⟩;rw[bA,f];rfl
 ·cases h
theorem VJ{k:Nat}{op:TOp}(l:op.wf P=true)(h:evOp O d (.atq k op) s κ kp=some r):Ox P s (.atq k op.er) d κ kp r:=by obtain⟨o,v,f,g⟩:=NU l h;obtain⟨_,q,e,j⟩:=f;cases e;show GG (enc s) op.er λob mk=>Ai (enc s) (some k)/\∃s',((enc s).new (some k) ob).putO d (.b (mk k))=enc s'/\Keeps (fN d) s s'/\κ s'=some r;refine rB j λob mk ⟨a,b,c⟩=>⟨c,_,?_,(Keeps.fr (s':=⟨s.fr,setAt s.hp k o⟩) rfl).trans (Keeps.put _ d v),g⟩;rw[gv,gG,a,<-b];rfl
theorem Em(hO:OracleOk P O){op:TOp}(g:op.wf P=true)(h:evOp O d op s κ kp=some r):Ms P s op.er d κ kp r:=by
 cases op<;>simp only[TOp.wf,a_,decide_eq_true_eq,ne_eq]at g;case mv x=>exact(T2 g h).ob
 case pick c a b=>exact(OK ⟨g.1.1,g.1.2,g.2⟩ h).ob
 case bin op x y=>exact(RP g h).ob
 case eqB neg x y=>exact(RR g h).ob
 case eqT neg tid t x y=>exact(RS ⟨g.1.1,g.1.2,g.2⟩ h).ob
 case un op x=>exact(T3 g h).ob
 case len b x=>exact(RZ g h).ob
 case lenM k e x=>exact(OF g h).ob
 case idxS x i=>exact(OD g h).ob
 case idxV n t x i=>exact(OE g h).ob
 case idxA t x i=>exact(OB g h).ob
 case idxP n t x i=>exact(OC g h).ob
 case fldA off t x=>exact(OA g h).ob
 case fld off t x=>exact(RY g h).ob
 case load t x=>exact(OG g h).ob
 case store t x v=>exact RA g h
 case alloc tid zero=>exact Ru g h
 case box tid x=>exact UO g h
 case boxD tid t x=>exact(Ow g h).ob
 case build zero parts=>exact(LF g h).ob
 case bslice own tid t len parts=>
  cases own;·exact(HX g h).ob
  ·exact PF g h
 case mslice tid t b l c=>exact PH ⟨g.1.1,g.1.2,g.2⟩ h
 case append tid t b x y=>exact PE g h
 case cvtI k x=>exact(Oz g h).ob
 case slc full t x lo j mx=>exact(R0 ⟨g.1.1.1,g.1.1.2,g.1.2,g.2⟩ h).ob
 case slcS x lo j=>exact(OL ⟨g.1.1,g.1.2,g.2⟩ h).ob
 case ext x i=>exact(RU g h).ob
 case nilc x=>exact(OJ g h).ob
 case call bor f args sh=>exact(Oy hO g h).ob
 case callA pan bor B f args sh=>exact Rv hO g h
 case callv pan bor B num x args sh=>exact Rw hO ⟨g.1.1.1,g.1.1.2,g.1.2,g.2⟩ h
 case callp bor num x args sh=>exact(LG hO ⟨g.1.1.1,g.1.1.2,g.1.2,g.2⟩ h).ob
 case b2s x=>exact(RO g h).ob
 case mkfn f caps=>exact(OH g h).ob
 case mkmap k e a b=>exact Ry h
 case lookup k e ok a b m x=>exact(HY ⟨g.1.1.1,g.1.1.2,g.1.2,g.2⟩ h).ob
 case mapset k e a b m x v=>exact PG ⟨g.1.1.1,g.1.1.2,g.1.2,g.2⟩ h
 case copy tid t x y=>exact Tt g h
 case mnmx mx k x ys=>exact(OI g h).ob
 case panic x=>exact Rz g h
 case iface tid x=>exact(LH g h).ob
 case bsliceF tid t len parts=>exact(EM g h).ob
 case appD tid t b x y=>exact(Ov g h).ob
 case bsliceN tid k t len parts=>exact(EN g h).ob
 case msliceT tid k u b l c=>exact M8 g h
 case appT tid k t b x y=>exact(Ot g h).ob
 case atq k op=>exact(VJ g h).ob
theorem re(hO:OracleOk P O){op:TOp}(g:op.wf P=true)(hp:op.pureB=true)(h:evOp O d op s κ kp=some r):Pu P s op.er d κ r:=by
 cases op<;>simp only[TOp.wf,a_,decide_eq_true_eq,ne_eq]at g<;>simp only[TOp.pureB]at hp<;>try (cases hp;done)
 case mv x=>exact T2 g h
 case pick c a b=>exact OK ⟨g.1.1,g.1.2,g.2⟩ h
 case bin op x y=>exact RP g h
 case eqB neg x y=>exact RR g h
 case eqT neg tid t x y=>exact RS ⟨g.1.1,g.1.2,g.2⟩ h
 case un op x=>exact T3 g h
 case len b x=>exact RZ g h
 case lenM k e x=>exact OF g h
 case idxS x i=>exact OD g h
 case idxV n t x i=>exact OE g h
 case idxA t x i=>exact OB g h
 case idxP n t x i=>exact OC g h
 case fldA off t x=>exact OA g h
 case fld off t x=>exact RY g h
 case load t x=>exact OG g h
 case boxD tid t x=>exact Ow g h
 case build zero parts=>exact LF g h
 case bslice own tid t len parts=>
  cases own;·exact HX g h
  ·cases hp
 case cvtI k x=>exact Oz g h
 case slc full t x lo j mx=>exact R0 ⟨g.1.1.1,g.1.1.2,g.1.2,g.2⟩ h
 case slcS x lo j=>exact OL ⟨g.1.1,g.1.2,g.2⟩ h
 case ext x i=>exact RU g h
 case nilc x=>exact OJ g h
 case call bor f args sh=>exact Oy hO g h
 case callp bor num x args sh=>exact LG hO ⟨g.1.1.1,g.1.1.2,g.1.2,g.2⟩ h
 case b2s x=>exact RO g h
 case mkfn f caps=>exact OH g h
 case lookup k e ok a b m x=>exact HY ⟨g.1.1.1,g.1.1.2,g.1.2,g.2⟩ h
 case mnmx mx k x ys=>exact OI g h
 case iface tid x=>exact LH g h
 case bsliceF tid t len parts=>exact EM g h
 case appD tid t b x y=>exact Ov g h
 case bsliceN tid k t len parts=>exact EN g h
theorem M0(hO:OracleOk P O){op:TOp}(a:op.wf P=true)(hp:op.exB=true)(e:P5 s op=true)(h:evOp O d op s κ kp=some r):Ox P s op.er d κ kp r:=by
 by_cases c:op.pureB=true;·exact(re hO a c h).ox
 ·cases op<;>simp only[TOp.exB]at hp<;>try exact absurd hp c
  case append tid t b x y=>simp only[TOp.wf,a_]at a;exact HU a h
  case appT tid k t b x y=>simp only[TOp.wf,a_]at a;exact Ot a h
  case callA pan bor B f args sh=>simp only[TOp.wf,a_]at a;exact LB hO a h
  case callv pan bor B num x args sh=>simp only[TOp.wf,a_]at a;exact LC hO ⟨a.1.1.1,a.1.1.2,a.1.2,a.2⟩ h
  case store t x v=>simp only[TOp.wf,a_]at a;exact RI a e h
end
theorem Tf{θ:List Av.Loc}{D D':Nat->Prop}{w:World}{id:Nat}{t:Ty}{xs:List t.den}{l:Av.Loc}(hl:θ[id]? =some l)(hD:∀b,D b->D' b)(E:∀g,l≠.blk g)(F:∀g,l≠.mp g) (M:∀v,l.head v->RelP D' w v (mb t.sz (xs.map (aG t)))) {v:Value} {u:V} (h:RelB θ D w v (aO u)):RelB (θ.set id .no) D' w v (aO (Qi id t xs u)):=by
 have C:∀(k:Nat) (l':Av.Loc),k≠id->θ[k]? =some l'->(θ.set id .no)[k]? =some l':=λk l' z h=>by rw[x_ (Ne.symm z)];exact h
 have p:∀(x:BV),RelB θ D w v x->(∀i∈x.ids,i≠id)->RelB (θ.set id .no) D' w v x:=by
  intro x B r;cases x<;>simp only[RelB]at B⊢;·exact B.mono hD λ_ _=>rfl
  ·exact B
  ·obtain⟨l',s,y⟩:=B;exact⟨l',C _ _ (r _ (by simp[BV.ids])) s,y⟩
  ·obtain⟨g,s,y⟩:=B;exact⟨g,C _ _ (r _ (by simp[BV.ids])) s,y⟩
  ·obtain⟨g,n,cap,sz,O,s,y⟩:=B;exact⟨g,n,cap,sz,O,C _ _ (r _ (by simp[BV.ids])) s,y⟩
  ·obtain⟨I,s,y,L⟩:=B;exact⟨I,s,λk i g H J=>C _ _ (r _ (by simp only[BV.ids];exact r_ H)) (y k i g H J),L⟩
  ·obtain⟨g,s,y⟩:=B;exact⟨g,C _ _ (r _ (by simp[BV.ids])) s,y⟩
  ·exact⟨B.1.mono hD λ_ _=>rfl,B.2⟩
  ·exact B
 cases u with
 |sl k=>
  show RelB _ _ _ _ (aO (bif n_ k id then .d (.list t) xs else .sl k));rw[fI];by_cases z:k=id;·subst z;rw[decide_eq_true rfl];obtain⟨l',s,y⟩:=h;rw[hl]at s;cases s;exact M v y
  ·rw[decide_eq_false z];exact p (aO (.sl k)) h λi r=>by rw[p_.1 (show i∈[k]from r)];exact z
 |elt k i o=>
  show RelB _ _ _ _ (aO (bif n_ k id then .any else .elt k i o));rw[fI];by_cases z:k=id;·rw[decide_eq_true z];exact RelP.any v
  ·rw[decide_eq_false z];exact p (aO (.elt k i o)) h λj N=>by rw[p_.1 (show j∈[k]from N)];exact z
 |ptr k off=>refine p (aO (.ptr k off)) h λi r e=>?_;have A:=p_.1 (show i∈[k]from r);subst A;subst e;obtain⟨g,s,_⟩:=h;rw[hl]at s;cases s;exact E g rfl
 |pel k off n P m=>refine p (aO (.pel k off n P m)) h λi r e=>?_;have A:=p_.1 (show i∈[k]from r);subst A;subst e;obtain⟨g,s,_⟩:=h;rw[hl]at s;cases s;exact E g rfl
 |mp k=>refine p (aO (.mp k)) h λi r e=>?_;have A:=p_.1 (show i∈[k]from r);subst A;subst e;obtain⟨g,s,_⟩:=h;rw[hl]at s;cases s;exact F g rfl
 |clo f ids=>refine p (aO (.clo f ids)) h λi r e=>?_;subst e;obtain⟨I,s,y,_⟩:=h;obtain⟨k,z⟩:=aE_ (show i∈ids from r);obtain⟨g,hg⟩:=bb s z;have:=y k i g z hg;rw[hl]at this;cases this;exact E g rfl
 |raw c=>exact p (aO (.raw c)) h λi r=>by rw[show(aO (.raw c)).ids=[]from xV c]at r;cases r|d a b=>exact p (aO (.d a b)) h λi r=>by cases r|nil a=>exact p (aO (.nil a)) h λi r=>by cases r|agg a=>exact p (aO (.agg a)) h λi r=>by cases r|tup a=>exact p (aO (.tup a)) h λi r=>by cases r|dp a b=>exact p (aO (.dp a b)) h λi r=>by cases r|fnD a b=>exact p (aO (.fnD a b)) h λi r=>by cases r|full a b=>exact p (aO (.full a b)) h λi r=>by cases r|any=>exact p (aO .any) h λi r=>by cases r|lit a b c=>exact p (aO (.lit a b c)) h λi r=>by cases r|ifc=>exact p (aO .ifc) h λi r=>by cases r
theorem Te{id:Nat}{t:Ty}{xs:List t.den}(v:V)(h:v.isA=false):(Qi id t xs v).isA=false:=by cases v<;>first|rfl|(simp only[Qi];cases n_ _ id<;>rfl)|cases h
theorem Se{θ θ':List Av.Loc}{D D':Nat->Prop}{w:World}{g:V->V}(n:∀v,v.isA=false->(g v).isA=false)(hg:∀v u,RelB θ D w v (aO u)->RelB θ' D' w v (aO (g u))){v:Value}{u:V}(h:RelA θ D w v (aS u)):RelA θ' D' w v (aS (mc g u)):=by
 have b:∀(vs:List V) (a:Array Value),a.size=(vs.map aO).length->(∀(i:Nat) (y:Value) (x:BV),a[i]? =some y->(vs.map aO)[i]? =some x->RelB θ D w y x)->a.size=((vs.map g).map aO).length/\∀(i:Nat) (y:Value) (x:BV),a[i]? =some y->((vs.map g).map aO)[i]? =some x->RelB θ' D' w y x:=by
  intro vs a c d
  refine⟨by simpa using c,λi y x r l=>?_⟩
  simp only[h_,e_]at l
  obtain⟨_,⟨u,p,rfl⟩,rfl⟩:=l
  exact hg y u (d i y _ r (by simp[p]))
 cases e:u.isA;·rw[Ri e,l7 (n u e)];rw[l7 e]at h;exact hg v u h
 ·cases u with
  |agg vs=>obtain⟨a,c,d,f⟩:=h;obtain⟨j,k⟩:=b vs a d f;exact⟨a,c,j,k⟩
  |tup vs=>obtain⟨a,c,d,f⟩:=h;obtain⟨j,k⟩:=b vs a d f;exact⟨a,c,j,k⟩
  |_=>cases e
theorem Sd{θ θ':List Av.Loc}{D D':Nat->Prop}{w:World}{g:V->V}(hD:∀b,D b->D' b)(hg:∀v u,RelB θ D w v (aO u)->RelB θ' D' w v (aO (g u))){l:Av.Loc}{o:Ob}(h:RelO θ D w l (bC o)):RelO θ' D' w l (bC (uT g o)):=by
 cases o with
 |box t cs=>
  cases l<;>simp only[bC,uT,RelO]at h⊢<;>try exact h
  obtain⟨c,d,r,s⟩:=h;refine⟨c,d,by simpa using r,λi y x A p=>?_⟩;simp only[h_,e_]at p;obtain⟨_,⟨u,z,rfl⟩,rfl⟩:=p;exact hg y u (s i y _ A (by simp[z]))
 |gone=>cases l<;>trivial|free=>cases l<;>exact h|tree e k t xs hole=>
  cases l<;>try exact h
  case nil=>refine⟨h.1,?_⟩;cases hole with|none=>rfl|some q=>obtain⟨i,j,v⟩:=q;cases h.2
  case hdr=>cases hole with|none=>exact oF (θ':=θ') (hole:=none) (f:=λx=>x) (λu i j b n _=>nomatch n) hD h|some q=>obtain⟨i,j,v⟩:=q;exact oF (hole:=some (i,j,aO v)) (f:=λ_=>aO (g v)) (λu i' B b n hr=>by cases n;exact hg u v hr) hD h
 |vec e t xs=>have d:=h.mono (D':=D') (w':=w) hD (λ_ _=>rfl) λ_ _=>rfl;cases l<;>exact d|map k e a b kvs=>have d:=h.mono (D':=D') (w':=w) hD (λ_ _=>rfl) λ_ _=>rfl;cases l<;>exact d
theorem Cq{m:Nat}{s:S}{id:Nat}{o:Ob}{t:Ty}{xs:List t.den}(ho:s.hp[id]? =some o)(z:J5 (enc s).hp id=some (mb t.sz (xs.map (aG t))))(hv:o.vary=true):Weak m (enc s) (enc ⟨(s.map (Qi id t xs)).fr,setAt (s.map (Qi id t xs)).hp id .gone⟩):=by
 rintro c a w _ ⟨θ,D,f⟩;have H:(enc s).hp[id]? =some (bC o):=by rw[bA,ho];rfl
 have N:id<θ.length:=by rw[f.ok.len];exact(i_.1 H).1
 obtain⟨l,hl⟩:∃l,θ[id]? =some l:=⟨θ[id],c_ N⟩;have Y:=f.ok.objs id l _ hl H;have C:l.fixed=false:=by
  unfold J5 at z;rw[H]at z;cases o<;>first|cases z|skip
  all_goals (cases l<;>first|rfl|exact Y.elim)
 have hb:∀g,l≠.blk g:=λg e=>by subst e;cases C
 have T:∀g,l≠.mp g:=λg e=>by subst e;cases C
 obtain⟨D',hD,B,hh⟩:∃D':Nat->Prop,(∀b,D b->D' b)/\(∀b,D' b->D b\/l.has b)/\(∀v,l.head v->RelP D' w v (mb t.sz (xs.map (aG t)))):=by refine⟨λb=>D b\/l.has b,λ_ h=>.inl h,λ_ h=>h,λv hv=>?_⟩;obtain⟨l',d,y⟩:=OS f.ok (show RelB θ D w v (.sl id)from⟨l,hl,hv⟩) z;rw[hl]at d;cases d;exact y _ (λ_ h=>.inl h) (λ_ h=>.inr h)
 have hB:=λv u=>Tf (w:=w) (v:=v) (u:=u) (id:=id) (t:=t) (xs:=xs) hl hD hb T hh;have r:∀(i:Nat) (l':Av.Loc),(θ.set id .no)[i]? =some l'->(i=id/\l'= .no)\/(i≠id/\θ[i]? =some l'):=λi l' n=>by
  by_cases E:i=id;·subst E;rw[N_ N]at n;cases n;exact .inl ⟨rfl,rfl⟩
  ·rw[x_ (Ne.symm E)]at n;exact .inr ⟨E,n⟩
 refine⟨θ.set id .no,D',f.size,f.defers,⟨?_,λb p=>?_,λi j li lj g n hj I J=>?_,λi li g n hg=>?_,λi li o n U=>?_⟩,f.keep,λb p=>hD b (f.dsub b p),λb p=>?_,λi li g n hg=>?_,λk x R=>?_,λk l' R Q=>?_⟩;·simp[enc,S.map,et,f.ok.len]
 ·rcases B b p with d|d;·exact f.ok.dlt b d
  ·exact(f.ok.olt id l b hl d).1
 ·rcases r i li n with⟨_,rfl⟩|⟨_,d⟩;·cases I
  ·rcases r j lj hj with⟨_,rfl⟩|⟨_,y⟩;·cases J
   ·exact f.ok.inj i j li lj g d y I J
 ·rcases r i li n with⟨_,rfl⟩|⟨F,d⟩;·cases hg
  ·obtain⟨y,O⟩:=f.ok.olt i li g d hg;refine⟨y,λhd=>?_⟩;rcases B g hd with P|P;·exact O P
   ·exact F (f.ok.inj i id li l g d hl hg P)
 ·have A:((setAt (s.hp.map (uT (Qi id t xs))) id .gone).map bC)[i]? =some o:=U;rw[et,h_]at A;obtain⟨o1,d,rfl⟩:=e_.1 A;rcases r i li n with⟨rfl,rfl⟩|⟨F,y⟩;·rw[N_ (by rw[f_];exact(i_.1 ho).1)]at d;cases d;trivial
  ·rw[x_ (Ne.symm F),h_]at d;obtain⟨o2,O,rfl⟩:=e_.1 d;exact Sd hD hB (f.ok.objs i li (bC o2) y (by rw[bA,O];rfl))
 ·rcases B b p with d|d;·exact f.dnew b d
  ·exact .inr (f.onew id l b hl d)
 ·rcases r i li n with⟨_,rfl⟩|⟨_,d⟩;·cases hg
  ·exact f.onew i li g d hg
 ·have L:Av.look ((s.fr.map λx=>(x.1,mc (Qi id t xs) x.2)).map λx=>(x.1,aS x.2)) k=some x:=R;rw[ov,Ez]at L;obtain⟨v1,d,rfl⟩:=e_.1 L;obtain⟨v2,y,rfl⟩:=e_.1 d;exact Se Te hB (f.fr k (aS v2) (by show Av.look (s.fr.map λx=>(x.1,aS x.2)) k=_;rw[ov,y];rfl))
 ·have d:=f.fix k l' R Q;by_cases M:k=id;·subst M;rw[hl]at d;cases d;rw[C]at Q;cases Q
  ·rw[x_ (Ne.symm M)];exact d
def Ob.empt(o:Ob):Prop:=∀θ D w,RelO θ D w (.nil none) (bC o)
theorem K5(e:TypeId)(t:Ty):(Ob.vec e t []).empt:=λ_ _ _=>rfl
theorem Hw(e:TypeId)(k:Av.K)(t:Ty):(Ob.tree e k t [] none).empt:=λ_ _ _=>⟨rfl,rfl⟩
theorem z7{c:Ctx}{θ:List Av.Loc}{D:Nat->Prop}{st:St}{a:Act}{w:World}(b:Inv c θ D st a w){o:Ob}(d:o.empt):Inv c (θ++[.nil none]) D {st with hp:=st.hp++[bC o]} a w:=b.push (l:=.nil none) (o:=bC o) (d _ _ _) (λg hg=>by cases hg)
theorem Fh{m:Nat}{s:S}{k:Nat}{u:Ty}{o:Ob}(l:o.empt)(h:lk s.fr k=some (.nil u)):Weak m (enc s) (enc ⟨(k,.sl s.hp.length)::s.fr,s.hp++[o]⟩):=by
 rintro c a w _ ⟨θ,D,e⟩;have b:=z7 e l;rw[<-uH]at b;refine⟨_,D,b.size,b.defers,b.ok,b.keep,b.dsub,b.dnew,b.onew,λj x g=>?_,b.fix⟩;have d:Av.look ((k,aS (.sl s.hp.length))::s.fr.map λx=>(x.1,aS x.2)) j=some x:=g;simp only[Av.look]at d;split at d;·rename_i f;subst f;cases d;have n:=e.fr j (aS (.nil u)) (by show Av.look (s.fr.map λx=>(x.1,aS x.2)) j=_;rw[ov,h];rfl);refine⟨.nil none,?_,n⟩;rw[<-nB,<-e.ok.len];simp
 ·exact b.fr j x d
theorem Cp{m:Nat}{s:S}{id j:Nat}{u:TypeId}{C:Ty}{cs:List V}{h:Ob}(k:h.empt)(z:s.hp[id]? =some (.box u cs))(H:cs[j]? =some (.nil C)): Weak m (enc s) (enc ⟨s.fr,setAt s.hp id (.box u (setAt cs j (.sl s.hp.length)))++[h]⟩):=by
 rintro c a w _ ⟨θ,D,r⟩;have b:=z7 r k;rw[<-uH]at b;have hid:=(i_.1 z).1;refine⟨_,D,b.size,b.defers,⟨by rw[b.ok.len];simp[enc,et],b.ok.dlt,b.ok.inj,b.ok.olt,λi l o v n=>?_⟩,b.keep,b.dsub,b.dnew,b.onew,b.fr,b.fix⟩;have d:((setAt s.hp id (.box u (setAt cs j (.sl s.hp.length)))++[h]).map bC)[i]? =some o:=n;rw[et,et]at d;by_cases g:i=id
 ·subst g;rw[h_,m_ (by simpa using hid),N_ hid]at d;cases d;have hr:=b.ok.objs i l (bC (.box u cs)) v (by rw[bA,m_ hid,z];rfl);cases l<;>simp only[bC,RelO]at hr⊢<;>try exact hr
  obtain⟨E,f,F,p⟩:=hr;refine⟨E,f,by simpa using F,λq y x B e=>?_⟩;rw[P_]at e;by_cases A:q=j
  ·subst A;rw[aK_]at e;simp only[if_true]at e;split at e;·cases e;have:=p q y (aO (.nil C)) B (by rw[h_,H];rfl);refine⟨.nil none,?_,this⟩;rw[<-nB,<-r.ok.len];simp
   ·cases e
  ·rw[x_ (Ne.symm A)]at e;exact p q y x B e
 ·refine b.ok.objs i l o v ?_;show((s.hp++[h]).map bC)[i]? =some o;rw[<-d];simp only[h_];congr 1;rcases ak_ i s.hp.length with f|f;·rw[m_ f,m_ (by simpa using f),x_ (Ne.symm g)]
  ·rw[t_ f,t_ (by simpa using f)];simp
theorem ql{ids:List Nat}{i:Nat}(h:i∈ids):ids[ids.idxOf i]? =some i:=by have a:=List.idxOf_lt_length_of_mem h;rw[c_ a];simp
theorem Di{θ:List Av.Loc}{ids:List Nat}{D:Nat->Prop}{w:World}{v:Value}{x:BV}(a:∀i∈x.ids,i∈ids)(h:RelB θ D w v x):RelB (ids.map λi=>θ.getD i .no) D w v (x.ren (ids.idxOf ·)):=by
 have key:∀(i:Nat) (l:Av.Loc),i∈ids->θ[i]? =some l->(ids.map λi=>θ.getD i .no)[ids.idxOf i]? =some l:=λi l r hl=>by rw[h_,ql r];simp[ad_,hl]
 cases x<;>simp only[RelB,BV.ren]at h⊢<;>simp only[BV.ids,p_,forall_eq]at a;·exact h
 ·exact h
 ·obtain⟨l,b,c⟩:=h;exact⟨l,key _ _ a b,c⟩
 ·obtain⟨g,b,c⟩:=h;exact⟨g,key _ _ a b,c⟩
 ·obtain⟨g,n,cap,sz,O,b,c⟩:=h;exact⟨g,n,cap,sz,O,key _ _ a b,c⟩
 ·obtain⟨j,b,c,p⟩:=h;refine⟨j,by simpa using b,λk i g d f=>?_,p⟩;rw[h_]at d;obtain⟨i',e,rfl⟩:=e_.1 d;exact key _ _ (a i' (r_ e)) (c k i' g e f)
 ·obtain⟨g,b,c⟩:=h;exact⟨g,key _ _ a b,c⟩
 ·exact h
 ·exact h
theorem Sn{θ:List Av.Loc}{ids:List Nat}{D:Nat->Prop}{w:World}{v:Value}{x:AV}(d:∀i∈x.ids,i∈ids)(h:RelA θ D w v x):RelA (ids.map λi=>θ.getD i .no) D w v (x.ren (ids.idxOf ·)):=by
 have c:∀(xs:List BV) (a:Array Value),(∀i∈xs.flatMap BV.ids,i∈ids)->a.size=xs.length->(∀(i:Nat) (y:Value) (x:BV),a[i]? =some y->xs[i]? =some x->RelB θ D w y x)->a.size=(xs.map (BV.ren (ids.idxOf ·))).length/\∀(i:Nat) (y:Value) (x:BV),a[i]? =some y->(xs.map (BV.ren (ids.idxOf ·)))[i]? =some x->RelB (ids.map λi=>θ.getD i .no) D w y x:=by
  intro xs a r e f
  refine⟨by simpa using e,λi y x u p=>?_⟩
  rw[h_]at p
  obtain⟨x0,g,rfl⟩:=e_.1 p
  exact Di (λj s=>r j (u_.2 ⟨x0,r_ g,s⟩)) (f i y x0 u g)
 cases x with
 |b x=>exact Di d h|agg xs=>obtain⟨a,e,f,k⟩:=h;obtain⟨l,n⟩:=c xs a d f k;exact⟨a,e,l,n⟩
 |tup xs=>obtain⟨a,e,f,k⟩:=h;obtain⟨l,n⟩:=c xs a d f k;exact⟨a,e,l,n⟩
theorem Mh{m:Nat}{a b:St}(ids:List Nat)(Q:ids.Nodup)(hm:∀k,k<m->ids[k]? =some k) (I:∀k y,Av.look b.fr k=some y->∃x,Av.look a.fr k=some x/\(∀i∈x.ids,i∈ids)/\y=x.ren (ids.idxOf ·)) (v:b.hp.length=ids.length) (z:∀(j:Nat) (o':AObj),b.hp[j]? =some o'->∃(i:Nat) (o:AObj),ids[j]? =some i/\a.hp[i]? =some o/\(∀i∈o.ids,i∈ids)/\o'=o.ren (ids.idxOf ·)):Weak m a b:=by
 rintro c ac w H ⟨θ,D,r⟩;have N:∀(j:Nat) (i:Nat),ids[j]? =some i->i<θ.length:=λj i s=>by
  have O:j<b.hp.length:=by rw[v];exact(i_.1 s).1
  obtain⟨i',o,f,n,_⟩:=z j _ (c_ O);rw[s]at f;cases f;rw[r.ok.len];exact(i_.1 n).1
 have d:∀(j:Nat) (l:Av.Loc),(ids.map λi=>θ.getD i .no)[j]? =some l->∃i,ids[j]? =some i/\θ[i]? =some l:=λj l s=>by rw[h_]at s;obtain⟨i,f,n⟩:=e_.1 s;refine⟨i,f,?_⟩;have:=N j i f;rw[<-n];simp[ad_,c_ this]
 refine⟨ids.map λi=>θ.getD i .no,D,r.size,r.defers,⟨by rw[f_,v],r.ok.dlt,λi j li Y g A s J L=>?_,λi l g A hg=>?_,λj l o' s R=>?_⟩,r.keep,r.dsub,r.dnew,λi l g A hg=>?_,λk y E=>?_,λk l E hf=>?_⟩;·obtain⟨i',f,n⟩:=d i li A;obtain⟨j',C,F⟩:=d j Y s;have:=r.ok.inj i' j' li Y g n F J L;subst this;have M:=(i_.1 f).1;exact(List.getElem?_inj M Q).1 (by rw[f,C])
 ·obtain⟨i',f,n⟩:=d i l A;exact r.ok.olt i' l g n hg
 ·obtain⟨i,f,n⟩:=d j l s;obtain⟨i',o,C,F,T,rfl⟩:=z j o' R;rw[f]at C;cases C;have hr:=r.ok.objs i l o n F;cases o with
  |box t cs=>
   cases l<;>simp only[AObj.ren,RelO]at hr⊢<;>try exact hr
   obtain⟨cv,e1,e2,e3⟩:=hr;refine⟨cv,e1,by simpa using e2,λq y x hy U=>?_⟩;rw[h_]at U;obtain⟨x0,B,rfl⟩:=e_.1 U;exact Di (λp hp=>T p (u_.2 ⟨x0,r_ B,hp⟩)) (e3 q y x0 hy B)
  |gone=>cases l<;>trivial|free=>cases l<;>exact hr|vec e sz xs=>cases l<;>exact hr|map k e kvs=>cases l<;>exact hr|tree e sz k xs hole=>
   cases l<;>try exact hr
   case nil=>exact⟨hr.1,by have:=hr.2;subst this;rfl⟩
   case hdr=>exact oF (λu i j b hb hr=>Di (λp hp=>T p (by rw[hb];exact hp)) hr) (λ_ h=>h) hr
 ·obtain⟨i',f,n⟩:=d i l A;exact r.onew i' l g n hg
 ·obtain⟨x,f,n,rfl⟩:=I k y E;exact Sn n (r.fr k x f)
 ·have f:=r.fix k l E hf;have P:k<m:=Nat.lt_of_lt_of_le (i_.1 E).1 H;rw[h_,hm k P];simp[ad_,f]
def Adj.wfB(m:Nat):Adj->Bool
 | .sel ids _=>(R_ m).all λk=>match ids[k]? with
  |some i=>n_ i k
  |none=>false
 |_=>true
def DD(m:Nat)(l:List Adj):Bool:=l.all (Adj.wfB m)
theorem Keeps.of_map{A:List Nat}{s s':S}(g:V->V)(hg:∀v,v.isD=true->g v=v)(z:∀k,lk s'.fr k=(lk s.fr k).map g\/lk s'.fr k=none):Keeps A s s':=λk _=>by
 rcases z k with h|h;·rw[h];exact⟨λv E hd=>.inl (by rw[E];simp[hg v hd]),λhn=>by rw[hn];rfl⟩
 ·rw[h];exact⟨λ_ _ _=>.inr rfl,λ_=>rfl⟩
theorem Od{id:Nat}{t:Ty}{xs:List t.den}{v:V}(h:v.isD=true):mc (Qi id t xs) v=v:=by cases v<;>first|rfl|cases h
theorem Tm{ρ:Nat->Nat}{v:V}(h:v.isD=true):mc (V.ren ρ) v=v:=by cases v<;>first|rfl|cases h
theorem Ad{α β:Type}{f:α->Option β}:∀{l:List α} {m:List β},l.mapM f=some m->m.length=l.length/\∀(i:Nat) (y:β),m[i]? =some y->∃x,l[i]? =some x/\f x=some y
 |[],m,h=>by simp at h;subst h;exact⟨rfl,λi y h=>by simp at h⟩
 |x::l,m,h=>by simp only[z_,F_,Q_,q_,k_]at h;obtain⟨z,b,g,c,rfl⟩:=h;obtain⟨d,e⟩:=Ad c;refine⟨by simp[d],λi y a=>?_⟩;cases i with|zero=>simp at a;subst a;exact⟨x,rfl,b⟩|succ i=>simpa using e i y (by simpa using a)
theorem M6{s:S}:∀{ks:List Nat} {fr:List (Nat×V)},ks.mapM (λk=>(lk s.fr k).map λv=>(k,v))=some fr->∀k,lk fr k=lk s.fr k\/lk fr k=none
 |[],fr,h,k=>by simp at h;subst h;exact .inr rfl
 |j::ks,fr,h,k=>by
  simp only[z_,F_,Q_,q_,k_,e_]at h;obtain⟨x,⟨v,c,rfl⟩,d,b,rfl⟩:=h;simp only[lk,fI];by_cases a:k=j;·subst a;rw[decide_eq_true rfl];exact .inl c.symm
  ·rw[decide_eq_false a];exact M6 b k
theorem Lc{m:Nat}{id k j:Nat}{u:Ty}{s s':S}(h:adj (.focus id k j u) s=some s'):Weak m (enc s) (enc s')/\∀A,Keeps A s s':=by
 simp only[adj]at h;split at h
 ·rename_i kk n e l t xs J B;split at h
  ·rename_i b c a f;obtain⟨p,w⟩:=aN h;simp only[a_,decide_eq_true_eq]at p;obtain⟨x,C,d⟩:=ca w;split at d
   ·rename_i L y;cases d;have hsz:=b_ p.1;obtain⟨E,F⟩:=o9 t j (.list u) x L y;have I:j<(aC t x).length:=by rw[aD];simp only[Ty.sz]at E;omega
    have D:(aG t x).cells[j]? =some (aG (.list u) L):=by
     have:((aC t x).drop j).take 1=[aG (.list u) L]:=by have:=F;rw[dc (t:=.list u) L rfl]at this;exact this
     have r:(((aC t x).drop j).take 1)[0]? =some (aG (.list u) L):=by rw[this];rfl
     rw[List.getElem?_take,if_pos (by omega),an_]at r;exact r
    refine⟨?_,λA=>Keeps.fr rfl⟩;have v:=NN (m:=m) (st:=enc s) (id:=id) (i:=n.toNat) (j:=j) (k:=l) (q:=(b,c,a)) (L:=L.map (aG u)) (by rw[bA,B];rfl) (by rw[h_,C];rfl) D f (by rw[hsz];rfl);have g:lc (b,c,a) (L.map (aG u))=bC (vS b a u L):=by
     unfold lc vS;cases H:a.allF;·rw[hsz];rfl
     ·rw[hsz];rfl
    rw[g]at v;have z:enc ⟨s.fr,setAt s.hp id (.tree e l t xs (some (n.toNat,j,.sl s.hp.length)))++[vS b a u L]⟩=⟨(enc s).fr,(enc s).hp.set id (.tree e t.sz l (xs.map (aG t)) (some (n.toNat,j,.sl (enc s).hp.length)))++[bC (vS b a u L)]⟩:=by simp only[enc,et,s_,P_,l_,aX_,f_];rfl
    rw[z];exact v
   ·cases d
  ·cases h
 ·cases h
theorem LA{e:TypeId}{k:Av.K}{u:Ty}{o:Ob}{L:List u.den}(h:De e k u o=some L):bC o=lc (e,u.sz,k) (L.map (aG u)):=by
 unfold De at h;split at h;·rename_i j t xs;obtain⟨a,g⟩:=aN h;simp only[a_]at a;obtain⟨b,c⟩:=bD g;have d:=Ty.list.inj b;subst d;have f:L=xs:=c;subst f;have:=b_ a.2;subst this;simp only[lc,a.1,if_true];rfl
 ·rename_i j n t xs;obtain⟨a,g⟩:=aN h;simp only[a_,y_,decide_eq_true_eq]at a;obtain⟨b,c⟩:=bD g;have d:=Ty.list.inj b;subst d;have f:L=xs:=c;subst f;have:=b_ a.1.2;subst this;obtain⟨⟨l,_⟩,rfl⟩:=a;simp only[lc,l,ab_,if_false];rfl
 ·cases h
theorem KI{m:Nat}{id:Nat}{s s':S}(h:adj (.close id) s=some s'):Weak m (enc s) (enc s')/\∀A,Keeps A s s':=by
 simp only[adj]at h;split at h
 ·rename_i e kk t xs i j kid Q;cases f:n_ kid id
  ·rw[f]at h;simp only[cond_false]at h;split at h
   ·rename_i E a Y o u r d P;split at h
    ·rename_i L M;obtain⟨F,H⟩:=aN h;obtain⟨x,T,n⟩:=ca H;split at n
     ·rename_i y U;cases n;have hsz:=b_ F;have z:kid≠id:=λe=>by rw[e,U_]at f;cases f
      obtain⟨p1,p2,p3⟩:=gM t j (.list u) x L y U;have g:j<(aG t x).cells.length:=by have:(aG t x).cells.length=t.sz:=aD t x;rw[this];simp only[Ty.sz]at p1;omega
      refine⟨?_,λA=>Keeps.map A s _ (V.kill1 kid) (λv R=>by cases v<;>first|rfl|cases R) rfl⟩
      have w:=LA M;have D:=NM (m:=m) (st:=enc s) (id:=id) (kid:=kid) (i:=i) (j:=j) (k:=kk) (x:=aG t x) (q:=(E,a,Y)) (L:=L.map (aG u)) (by rw[bA,Q];rfl) (by rw[h_,T];rfl) g r (by rw[bA,d,hsz,<-w];rfl) z;have B:(aG t x).setc j (mb a (L.map (aG u)))=aG t y:=by
       have N:=yj (x:=aG t x) (y:=mb a (L.map (aG u))) g (BG _ _);have hl:aC (.list u) L=[mb a (L.map (aG u))]:=by rw[hsz];exact(Jm u L).1
       have c:aC t y=(aC t x).set j (mb a (L.map (aG u))):=by
        rw[p2,hl];apply aJ_;intro q;rw[mi _ _ _ (by simp only[K_,aA_];show j+1<=(aG t x).cells.length;omega)];by_cases l:q=j;·subst l;rw[if_pos (by simp),N_ g];simp
        ·rw[if_neg (by simp;omega),x_ (Ne.symm l)]
       cases b:t.ag
       ·have C:(aG t x).isAgg=false:=by rw[mD];exact b
        have I:j=0:=by have:(aG t x).cells.length=t.sz:=aD t x;rw[this,eA b]at g;omega
        subst I;have J:(aG t x).setc 0 (mb a (L.map (aG u)))=mb a (L.map (aG u)):=by cases l:aG t x<;>first|rfl|(rw[l]at C;cases C)
        rw[J];have p:=c;rw[dc y b,dc x b]at p;simp at p;exact p.symm
       ·rw[dI x b,dI y b];show PV.agg ((aC t x).set j _)=PV.agg (aC t y);rw[c]
      rw[B]at D;have O:enc ⟨(s.moved kid .gone).fr,setAt (s.moved kid .gone).hp id (.tree e kk t (xs.set i y) none)⟩=⟨(enc s).fr.map λx=>(x.1,x.2.kill kid),(((enc s).hp.map (AObj.kill kid)).set kid .gone).set id (.tree e t.sz kk ((xs.map (aG t)).set i (aG t y)) none)⟩:=by rw[gG,By];simp only[St.moved];congr 2;show AObj.tree e t.sz kk _ _=_;rw[P_];rfl
      rw[O];exact D
     ·cases n
    ·cases h
   ·cases h
  ·rw[f]at h;cases h
 ·cases h
theorem O5{m:Nat}{l:Adj}{s s':S}(N:l.wfB m=true)(h:adj l s=some s'):Weak m (enc s) (enc s')/\∀A,Keeps A s s':=by
 cases l with
 |freeze id=>
  simp only[adj]at h;split at h;·rename_i e t xs b;cases h;refine⟨Cq b (by rw[J5,bA,b];rfl) rfl,λA=>Keeps.map A s _ (Qi id t xs) (λv d=>Od d) rfl⟩
  ·rename_i e k t xs b;cases h;refine⟨Cq b (by rw[J5,bA,b];rfl) rfl,λA=>Keeps.map A s _ (Qi id t xs) (λv d=>Od d) rfl⟩
  ·cases h
 |focus id k j u=>exact Lc h|close id=>exact KI h|adopt k e t=>
  simp only[adj]at h;split at h
  ·rename_i u a;cases h;refine⟨Fh (K5 e t) a,λA j _=>?_⟩;simp only[lk,fI];by_cases c:j=k;·subst c;rw[decide_eq_true rfl,a];exact⟨λv d hd=>(by cases d;cases hd),λhn=>(by cases hn)⟩
   ·rw[decide_eq_false c];exact⟨λ_ h _=>.inl h,λh=>h⟩
  ·cases h
 |adoptC id j e t=>
  simp only[adj]at h;split at h
  ·rename_i u cs b;split at h;·rename_i U c;cases h;exact⟨Cp (K5 e t) b c,λA=>Keeps.fr rfl⟩
   ·cases h
  ·cases h
 |adoptT k e kk t=>
  simp only[adj]at h;split at h
  ·rename_i u a;cases h;refine⟨Fh (Hw e kk t) a,λA j _=>?_⟩;simp only[lk,fI];by_cases c:j=k;·subst c;rw[decide_eq_true rfl,a];exact⟨λv d hd=>(by cases d;cases hd),λhn=>(by cases hn)⟩
   ·rw[decide_eq_false c];exact⟨λ_ h _=>.inl h,λh=>h⟩
  ·cases h
 |adoptCT id j e kk t=>
  simp only[adj]at h;split at h
  ·rename_i u cs b;split at h;·rename_i U c;cases h;exact⟨Cp (Hw e kk t) b c,λA=>Keeps.fr rfl⟩
   ·cases h
  ·cases h
 |sel ids ks=>
  simp only[adj]at h;split at h
  ·rename_i os fr L r;obtain⟨M,Q⟩:=aN h;cases Q;simp only[a_,decide_eq_true_eq,j_]at M;obtain⟨⟨I,J⟩,F⟩:=M;simp only[Adj.wfB,j_,L_]at N;obtain⟨R,T⟩:=Ad L;refine⟨Mh ids I (λk a=>?_) (λk y a=>?_) (by simp[enc,R]) λj o' c=>?_,λA=>Keeps.of_map (mc (V.ren (Lg ids))) (λv d=>Tm d) λk=>?_⟩
   ·have:=N k a;split at this;·rename_i i g;rw[g,b_ this]
    ·cases this
   ·have z:Av.look ((fr.map λx=>(x.1,mc (V.ren (Lg ids)) x.2)).map λx=>(x.1,aS x.2)) k=some y:=a;rw[ov,Ez]at z;obtain⟨Y,E,rfl⟩:=e_.1 z;obtain⟨P,n,rfl⟩:=e_.1 E;refine⟨aS P,?_,λi g=>?_,Eg _ P⟩
    ·show Av.look (s.fr.map λx=>(x.1,aS x.2)) k=_;rw[ov];rcases M6 r k with f|f;·rw[<-f,n];rfl
     ·rw[f]at n;cases n
    ·rw[<-oQ]at g;exact allIn_mem.1 (F _ (EA n)) i g
   ·have w:((os.map (uT (V.ren (Lg ids)))).map bC)[j]? =some o':=c;simp only[h_,e_]at w;obtain⟨_,⟨o,b,rfl⟩,rfl⟩:=w;obtain⟨i,E,n⟩:=T j o b;refine⟨i,bC o,E,by rw[bA,n];rfl,λp hp=>?_,zJ _ o⟩;rw[<-Ej]at hp;exact allIn_mem.1 (J o (r_ b)) p hp
   ·show lk (fr.map λx=>(x.1,mc (V.ren (Lg ids)) x.2)) k=_\/lk (fr.map λx=>(x.1,mc (V.ren (Lg ids)) x.2)) k=none;rw[Ez];rcases M6 r k with f|f;·exact .inl (by rw[f])
    ·exact .inr (by rw[f];rfl)
  ·cases h
 |drop ks=>
  simp only[adj,k_]at h;subst h;have C:∀(fr:List (Nat×V)) (k:Nat),lk (fr.filter λx=> !lQ ks x.1) k=lk fr k\/lk (fr.filter λx=> !lQ ks x.1) k=none:=by
   intro fr k;induction fr with
   |nil=>exact .inl rfl|cons x fr O=>
    obtain⟨j,v⟩:=x;simp only[B_];cases H:lQ ks j
    ·simp only[aU_,if_true,lk,fI];by_cases a:k=j;·subst a;rw[decide_eq_true rfl];exact .inl rfl
     ·rw[decide_eq_false a];exact O
    ·simp only[ai_,ab_,if_false,lk,fI];by_cases a:k=j
     ·subst a;right;have:∀(l:List (Nat×V)),lk (l.filter λx=> !lQ ks x.1) k=none:=by
       intro l;induction l with
       |nil=>rfl|cons y l D=>
        obtain⟨i,u⟩:=y;simp only[B_];cases g:lQ ks i
        ·simp only[aU_,if_true,lk,fI];by_cases B:k=i;·subst B;rw[H]at g;cases g
         ·rw[decide_eq_false B];exact D
        ·simp only[ai_,ab_,if_false];exact D
      exact this fr
     ·rw[decide_eq_false a];exact O
  refine⟨(LeS.frame (fr:=s.fr.map λx=>(x.1,aS x.2)) (fr':=(s.fr.filter λx=> !lQ ks x.1).map λx=>(x.1,aS x.2)) λk y a=>?_).weak,λA=>Keeps.of_map (λv=>v) (λ_ _=>rfl) λk=>?_⟩
  ·rw[ov]at a⊢;rcases C s.fr k with e|e;·rw[<-e];exact a
   ·rw[e]at a;cases a
  ·rcases C s.fr k with e|e;·exact .inl (by show lk (s.fr.filter _) k=_;rw[e];simp)
   ·exact .inr e
theorem S0{R:Type}{a:Adj}{s:S}{κ:S->Option R}{r:R}(h:QB a s κ=some r):∃s',adj a s=some s'/\κ s'=some r:=by
 cases a with
 |focus id k j u=>
  simp only[QB]at h;split at h
  ·rename_i kk n e J t xs E z;split at h
   ·rename_i C B H b;obtain⟨c,g⟩:=aN h;obtain⟨d,D⟩:=bm g;obtain⟨x,A,l⟩:=ca D;split at l;·rename_i L p;refine⟨_,?_,l⟩;simp only[adj,E,z,b,c,d,Bool.and_self,cond_true,A,G_,p]
    ·cases l
   ·cases h
  ·cases h
 |close id=>
  simp only[QB]at h;split at h
  ·rename_i e kk t xs i j kid z;cases v:n_ kid id
   ·rw[v]at h;simp only[cond_false]at h;split at h
    ·rename_i C B H o u b f w;split at h
     ·rename_i L p;obtain⟨c,g⟩:=aN h;obtain⟨x,A,d⟩:=ca g;split at d;·rename_i y F;refine⟨_,?_,d⟩;simp only[adj,z,v,cond_false,b,f,w,p,c,cond_true,A,G_,F]
      ·cases d
     ·cases h
    ·cases h
   ·rw[v]at h;cases h
  ·cases h
 |_=>
  simp only[QB]at h;split at h;·rename_i I c;exact⟨I,c,h⟩
  ·cases h
theorem y8{R:Type}:∀{l:List Adj} {s:S} {κ:S->Option R} {r:R},w8 l s κ=some r->∃s',QC l s=some s'/\κ s'=some r
 |[],s,κ,r,h=>⟨s,rfl,h⟩
 |a::l,s,κ,r,h=>by obtain⟨g,b,c⟩:=S0 h;obtain⟨f,d,e⟩:=y8 c;exact⟨f,by simp only[QC,b];exact d,e⟩
theorem rV{m:Nat}:∀{l:List Adj} {s s':S},DD m l=true->QC l s=some s'->Weak m (enc s) (enc s')/\∀A,Keeps A s s'
 |[],s,s',_,h=>by cases h;exact⟨Weak.refl _ _,λA=>Keeps.refl A s⟩
 |a::l,s,s',b,h=>by
  simp only[DD,J_,a_]at b;simp only[QC]at h;split at h;·rename_i j g;obtain⟨c,d⟩:=O5 b.1 g;obtain⟨e,f⟩:=rV b.2 h;exact⟨c.trans e,λA=>(d A).trans (f A)⟩
  ·cases h
structure Ext(a b:St):Prop where
 hp:a.hp=b.hp
 fr:∀k y,Av.look b.fr k=some y->Av.look a.fr k=some y
theorem Ext.refl(a:St):Ext a a:=⟨rfl,λ_ _ h=>h⟩
theorem Ext.weak{m:Nat}{a b:St}(h:Ext a b):Weak m a b:=by obtain⟨af,H⟩:=a;obtain⟨I,J⟩:=b;obtain⟨z,E⟩:=h;cases z;exact(LeS.frame E).weak
theorem Ext.put{a b:St}(h:Ext a b)(d:Option Nat)(x:AV):Ext (a.putO d x) (b.putO d x):=by
 refine⟨by cases d<;>exact h.hp,λk y z=>?_⟩;rw[eC]at z⊢;by_cases hd:d=some k;·rw[if_pos hd]at z⊢;exact z
 ·rw[if_neg hd]at z⊢;exact h.fr k y z
theorem Ext.get{a b:St}(h:Ext a b){x:SX}{y:AV}(z:b.get x=some y):a.get x=some y:=by
 cases x<;>simp only[St.get]at z⊢;·exact h.fr _ _ z
 all_goals exact z
theorem Lr{α β:Type}{f g:α->Option β}(h:∀x y,f x=some y->g x=some y):∀{l:List α} {m:List β},l.mapM f=some m->l.mapM g=some m
 |[],m,a=>a
 |x::l,m,a=>by simp only[z_,F_,Q_,q_,k_]at a⊢;obtain⟨z,b,d,c,rfl⟩:=a;exact⟨z,h _ _ b,d,Lr h c,rfl⟩
theorem Ext.bind{a b:St}(h:Ext a b){x:SX}{K:AV->Prop}(H:aM (b.get x) K):aM (a.get x) K:=let⟨y,z,E⟩:=H;⟨y,h.get z,E⟩
theorem Ext.bnd{a b:St}(h:Ext a b){x:Option SX}{d:Nat}{K:Nat->Prop}(z:bnd b x d K):bnd a x d K:=by cases x with|none=>exact z|some x=>exact h.bind z
theorem Ext.bindM{a b:St}{α β:Type}{f:St->α->Option β}(H:∀x y,f b x=some y->f a x=some y){l:List α}{K:List β->Prop}(I:aM (l.mapM (f b)) K):aM (l.mapM (f a)) K:=let⟨y,z,E⟩:=I;⟨y,Lr H z,E⟩
theorem OR{P:Program}{a b:St}(h:Ext a b){op:SOp}{K:AV->Prop}(hs:jp P b op K):jp P a op K:=by
 have v:=h.hp;have d:∀{β:Type} (g:AV->Option β) (x:SX) (y:β),(b.get x).bind g=some y->(a.get x).bind g=some y:=λg x y z=>by obtain⟨u,c,l⟩:=q_.1 z;rw[h.get c];exact l
 cases op<;>simp only[jp]at hs⊢<;>try rw[v]
 case mv=>exact h.bind hs
 case pick=>exact ae (h.bind hs) λ_ c=>be c λ_ l=>na l λ_ n=>⟨λe=>h.bind (n.1 e),λe=>h.bind (n.2 e)⟩
 case bin=>exact ae (h.bind hs) λ_ c=>h.bind c
 case eqB=>exact ae (h.bind hs) λ_ c=>h.bind c
 case un=>exact h.bind hs
 case len=>exact h.bind hs
 case lenM=>exact h.bind hs
 case idxS=>exact ae (h.bind hs) λ_ c=>h.bind c
 case idxV=>exact ae (h.bind hs) λ_ c=>h.bind c
 case idxA=>exact ae (h.bind hs) λ_ c=>h.bind c
 case idxP=>exact ae (h.bind hs) λ_ c=>h.bind c
 case fldA=>exact h.bind hs
 case fld=>exact h.bind hs
 case load=>exact h.bind hs
 case cvtI=>exact h.bind hs
 case slc=>exact ae (h.bind hs) λ_ c=>c.imp (λc=>ae c λ_ ⟨L,l,n⟩=>⟨L,l,fJ (h.bnd n) λ_ p=>fJ (h.bnd p) λ_ r=>h.bnd r⟩) fun⟨id,s,ob,w,e,k,L,g,l,n⟩=>⟨id,s,ob,by simpa[h.hp]using w,e,k,L,g,l,fJ (h.bnd n) λ_ p=>fJ (h.bnd p) λ_ r=>h.bnd r⟩
 case slcS=>exact ae (h.bind hs) λ_ c=>be c λ_ c=>oW c λ_ c=>fJ (h.bnd c) λ_ c=>h.bnd c
 case ext=>exact h.bind hs
 case nilc=>exact h.bind hs
 case build=>exact Ext.bindM (f:=λst (q:Nat×Nat×SX)=>(st.get q.2.2).map λa=>(q.1,q.2.1,a)) (λq y j=>by obtain⟨u,c,l⟩:=e_.1 j;rw[h.get c,<-l];rfl) hs
 case call=>exact Ext.bindM (f:=λst x=>(St.get st x).bind (kF b.hp _)) (λq y j=>d _ q y j) hs
 case callp=>exact ae (h.bind hs) λ_ ⟨f,cs,c,l,n⟩=>⟨f,cs,c,l,Ext.bindM (f:=λst x=>(St.get st x).bind (kF b.hp _)) (λq y j=>d _ q y j) n⟩
 case boxD=>exact h.bind hs
 case b2s=>exact h.bind hs
 case bslice own e sz len A=>
  cases own;·exact Ext.bindM (f:=λst x=>(St.get st x).bind AV.toPV) (λq y j=>d _ q y j) hs
  ·exact hs
 case bsliceN=>exact Ext.bindM (f:=λst x=>(St.get st x).bind AV.toPVn) (λq y j=>d _ q y j) hs
 case mkfn=>exact Ext.bindM (f:=λst x=>St.get st x) (λq y j=>h.get j) hs
 case lookup=>exact ae (h.bind hs) λ_ c=>h.bind c
 case eqT=>exact ae (h.bind hs) λ_ c=>h.bind c
 case appD=>exact ae (h.bind hs) λ_ c=>h.bind c
 case mnmx=>exact ae (h.bind hs) λ_ c=>be c λ_ c=>bE c λ_ _ c=>Ext.bindM (f:=λst x=>St.get st x) (λq y j=>h.get j) c
 case iface=>exact h.bind hs
inductive Sys(P:Program):List SOper->St->St->Prop
 |nil (st:St):Sys P [] st st
 |cons (o:SOper) (l:List SOper) (st st':St) (x:AV) (h:fq P o st x) (k:Sys P l (st.putO o.dst x) st'):Sys P (o::l) st st'
theorem Sys.app{P:Program}{l l':List SOper}{a b c:St}(h:Sys P l a b)(k:Sys P l' b c):Sys P (l++l') a c:=by induction h with|nil=>exact k|cons o l st E x h _ z=>exact .cons o _ st c x h (z k)
theorem Sys.sops{P:Program}{m:Nat}{l L:List SOper}{a b:St}{K KP:St->Prop}(h:Sys P l a b)(k:sops P m L b K KP):sops P m (l++L) a K KP:=by induction h with|nil=>exact k|cons o l st E x h _ z=>exact W.mk (nD h (z k))
theorem Sys.sdraw{P:Program}{m n:Nat}{l L:List SOper}{a b:St}{K KP:St->Prop}(h:Sys P l a b)(k:sdraw P m n L b K KP):sdraw P m (l.length+n) (l++L) a K KP:=by induction h with|nil=>rw[aA_,V_];exact k|cons o l st E x h _ z=>rw[show(o::l).length+n=(l.length+n)+1 by simp only[K_];omega];exact⟨x,h,z k⟩
theorem i6{P:Program}{m:Nat}{l:List SOper}{a b:St}{K KP:St->Prop}(h:Weak m a b)(k:sops P m l b K KP):sops P m l a K KP:=by cases l with|nil=>exact W.from h k|cons o l=>exact W.from h k
def RC.offB:List Nat->RC->Bool
 |_,.nil=>true
 |A,.op d _ rest=>rest.offB (fN d++A)
 |_,.adj _ _=>false
 |A,.gb t _ blk ty _ _ dst rest=>lQ A t&& !lQ blk.asg t&&ty.sc&&blk.offB A&&rest.offB (dst::(blk.asg++A))
def RC.gbB:RC->Bool
 | .nil=>true
 | .op _ _ rest=>rest.gbB
 | .adj _ rest=>rest.gbB
 | .gb _ _ blk ty _ _ _ rest=>ty.sc&&blk.offB []&&blk.gbB&&rest.gbB
def Off(st:St)(g:Nat×Bool):Prop:=∃v,Av.look st.fr g.1=some (.v v)/\yv v≠some g.2
theorem E4{P:Program}{st:St}{g:Nat×Bool}(h:Off st g)(d:Option Nat)(op:SOp):fq P ⟨d,op,some g⟩ st (.v undef):=by obtain⟨v,a,b⟩:=h;exact⟨_,a,v,rfl,λe=>absurd e b,λ_=>rfl⟩
theorem rY(d:Option Nat):(match d with|some d=>[d]|none=>[])=fN d:=by cases d<;>rfl
theorem Dd{P:Program}:∀(w:RC) (g:Nat×Bool) (A:List Nat) (st:St),w.offB A=true->Off st g->(∀k∈A,Av.look st.fr k=some (.v undef))->g.1∉w.asg->
 ∃b,Sys P (w.er (some g)) st b/\b.hp=st.hp/\(∀k,k∉w.asg->Av.look b.fr k=Av.look st.fr k)/\∀k,(k∈w.asg\/k∈A)->Av.look b.fr k=some (.v undef)
 | .nil,g,A,st,_,_,n,_=>⟨st,.nil st,rfl,λ_ _=>rfl,λk a=>n k (a.resolve_left (by simp[RC.asg]))⟩
 | .op d o rest,g,A,st,l,hg,n,hd=>by
  simp only[RC.offB]at l;simp only[RC.asg,rY,d_,not_or]at hd;have f:∀k,Av.look (st.putO d (.v undef)).fr k=if d=some k then some (.v undef)else Av.look st.fr k:=λk=>eC st d _ k;have h:∀k,d=some k↔k∈fN d:=λk=>by cases d with|none=>simp[fN]|some j=>simp only[fN,k_,p_];exact eq_comm
  obtain⟨b,y,z,x,B⟩:=Dd rest g (fN d++A) (st.putO d (.v undef)) l (by
   obtain⟨v,p,s⟩:=hg;refine⟨v,?_,s⟩;rw[f,if_neg λe=>hd.1 ((h _).1 e)];exact p) (λk a=>by
   rw[f];by_cases c:d=some k;·rw[if_pos c]
   ·rw[if_neg c];exact n k ((d_.1 a).resolve_left λe=>c ((h k).2 e))) hd.2
  refine⟨b,.cons _ _ st b (.v undef) (E4 hg d o.er) y,by rw[z];cases d<;>rfl,λk a=>?_,λk a=>?_⟩;·simp only[RC.asg,rY,d_,not_or]at a;rw[x k a.2,f,if_neg λe=>a.1 ((h _).1 e)]
  ·simp only[RC.asg,rY,d_]at a;refine B k ?_;simp only[d_];rcases a with(a|a)|a;·exact .inr (.inl a)
   ·exact .inl a
   ·exact .inr (.inr a)
 | .adj _ _,_,_,_,l,_,_,_=>by cases l
 | .gb t want blk ty r alt dst rest,g,A,st,l,hg,n,hd=>by
  simp only[RC.offB,a_,y_]at l;obtain⟨⟨⟨⟨L,D⟩,O⟩,M⟩,N⟩:=l;have E:t∈A:=inL_mem.1 L;have C:t∉blk.asg:=λe=>by rw[inL_mem.2 e]at D;cases D
  simp only[RC.asg,d_,v_,not_or]at hd;obtain⟨st1,y,z,x,B⟩:=Dd blk (t,want) A st M ⟨undef,n t E,by intro e;cases e⟩ n C;have u:Off st1 g:=by obtain⟨v,p,s⟩:=hg;exact⟨v,by rw[x _ hd.1];exact p,s⟩
  have f:∀k,Av.look (st1.putO (some dst) (.v undef)).fr k=if some dst=some k then some (.v undef)else Av.look st1.fr k:=λk=>eC st1 (some dst) _ k;obtain⟨b,F,H,I,J⟩:=Dd rest g (dst::(blk.asg++A)) (st1.putO (some dst) (.v undef)) N (by
   obtain⟨v,p,s⟩:=u;refine⟨v,?_,s⟩;rw[f,if_neg λe=>hd.2.1 (w_ e).symm];exact p) (λk a=>by
   rw[f];by_cases c:some dst=some k;·rw[if_pos c]
   ·rw[if_neg c];refine B k ?_;rcases v_.1 a with rfl|a;·exact absurd rfl c
    ·exact(d_.1 a)) hd.2.2
  refine⟨b,y.app (.cons _ _ _ b (.v undef) (E4 u _ _) F),by rw[H];exact z,λk a=>?_,λk a=>?_⟩;·simp only[RC.asg,d_,v_,not_or]at a;rw[I k a.2.2,f,if_neg λe=>a.2.1 (w_ e).symm,x k a.1]
  ·simp only[RC.asg,d_,v_]at a;refine J k ?_;simp only[d_,v_];rcases a with(a|rfl|a)|a;·exact .inr (.inr (.inl a))
   ·exact .inr (.inl rfl)
   ·exact .inl a
   ·exact .inr (.inr (.inr a))
theorem N2{t:Ty}{v:V}{x:t.den}(a:t.sc=true)(h:cG t v=some x):v= .d t x:=by
 cases v with
 |d u y=>obtain⟨rfl,rfl⟩:=bD (show bP u t y=some x from h);rfl
 |nil u=>obtain⟨rfl,_⟩:=bD (show bP (.list u) t []=some x from h);cases a
 |full u y=>obtain⟨rfl,_⟩:=bD (show bP (.list u) t y=some x from h);cases a
 |agg vs=>unfold cG at h;cases t<;>first|(cases a;done)|cases h
 |_=>simp[cG,iy]at h
section
variable {P:Program} {O:ak}
def WH(g:Option (Nat×Bool))(s:S)(A:List Nat):Prop:=match g with
 |none=>True
 |some (t,want)=>lk s.fr t=some (.d .bool want)/\t∉A
theorem bS(s:S)(k:Nat):Av.look (enc s).fr k=(lk s.fr k).map aS:=ov s.fr k
theorem P7{g:Option (Nat×Bool)}{s:S}{A:List Nat}{st:St}(hg:WH g s A)(a:Ext st (enc s)){d:Option Nat}{op:SOp}{x:AV}(h:jp P st op λy=>y=x):fq P ⟨d,op,g⟩ st x:=by cases g with|none=>exact h|some g=>obtain⟨t,want⟩:=g;have:Av.look st.fr t=some (.v (.bool want)):=a.fr t _ (by rw[bS,hg.1];rfl);exact⟨_,this,_,rfl,λ_=>h,λe=>absurd rfl e⟩
theorem ya(s:S)(d:Option Nat)(v:V)(k:Nat):lk (s.putO d v).fr k=if d=some k then some v else lk s.fr k:=by
 cases d with
 |none=>simp[S.putO]|some j=>
  show(bif n_ k j then some v else lk s.fr k)=_;rw[fI];by_cases h:k=j;·subst h;simp
  ·rw[decide_eq_false h,if_neg λe=>h (w_ e).symm];rfl
theorem mem_dstL{d:Option Nat}{k:Nat}:d=some k↔k∈fN d:=by cases d with|none=>simp[fN]|some j=>simp only[fN,k_,p_];exact eq_comm
theorem Jp(hO:OracleOk P O):∀(N:RC) (R:Type) (s:S) (κ kp:S->Option R) (r:R) (g:Option (Nat×Bool)) (st:St),N.wf P=true->N.pureB=true->N.gbB=true->C9 O R N s κ kp=some r->Ext st (enc s)->WH g s N.asg->
 ∃s' n,Sys P (N.er g) st n/\Ext n (enc s')/\κ s'=some r/\s'.hp=s.hp/\∀k,k∉N.asg->lk s'.fr k=lk s.fr k
 | .nil,R,s,κ,kp,r,g,st,_,_,_,h,z,_=>⟨s,st,.nil st,z,h,rfl,λ_ _=>rfl⟩
 | .adj _ _,_,_,_,_,_,_,_,_,hp,_,_,_,_=>by cases hp
 | .op d o rest,R,s,κ,kp,r,g,st,Q,hp,hb,h,z,hg=>by
  simp only[RC.wf,a_]at Q;simp only[RC.pureB,a_]at hp;simp only[RC.gbB]at hb;obtain⟨v,h1,h2⟩:=re hO Q.1 hp.1 h;obtain⟨s',n,M,D,E,k4,T⟩:=Jp hO rest R (s.putO d v) κ kp r g (st.putO d (aS v)) Q.2 hp.2 hb h2 (by rw[gv];exact z.put d _) (by cases g with|none=>trivial|some g=>obtain⟨t,want⟩:=g;obtain⟨g1,H⟩:=hg;simp only[RC.asg,rY,d_,not_or]at H;exact⟨by rw[ya,if_neg λe=>H.1 (mem_dstL.1 e)];exact g1,H.2⟩)
  refine⟨s',n,.cons _ _ st n _ (P7 hg z (OR z h1)) M,D,E,by rw[k4];cases d<;>rfl,λk f=>?_⟩;simp only[RC.asg,rY,d_,not_or]at f;rw[T k f.2,ya,if_neg λe=>f.1 (mem_dstL.1 e)]
 | .gb t want blk ty U alt dst rest,R,s,κ,kp,r,g,st,Q,hp,hb,h,z,hg=>by
  simp only[RC.wf,a_]at Q;obtain⟨⟨⟨⟨w1,w2⟩,w3⟩,w4⟩,w5⟩:=Q;simp only[RC.pureB,a_]at hp;simp only[RC.gbB,a_]at hb;obtain⟨⟨⟨b1,b2⟩,b3⟩,b4⟩:=hb;simp only[C9]at h;split at h
  ·rename_i b va B I;split at h
   ·rename_i av L;obtain⟨j,L⟩:=aN L;have rg:=N2 b1 L;subst rg;simp only[j_,W_]at j;have ht:t∉blk.asg:=λe=>by rw[j t e]at B;cases B
    obtain⟨c,hc,h2⟩:=ca h;have gc:Av.look st.fr t=some (.v (.bool b)):=z.fr t _ (by rw[bS,B];rfl);have Y:∃st1,Sys P (blk.er (some (t,want))) st st1/\st1.hp=st.hp/\(∀k,lk s.fr k≠none->∀y,Av.look (enc s).fr k=some y->Av.look st1.fr k=some y)/\jp P st1 (EK t want U.er alt.er) λy=>y=aS (.d ty c):=by
     have l:∀(st1:St) (x y:SX),Av.look st1.fr t=some (.v (.bool b))->(b=true->st1.get x=some (aS (.d ty c)))->(b=false->st1.get y=some (aS (.d ty c)))->jp P st1 (.pick (.tm t) x y) λy=>y=aS (.d ty c):=λst1 x y u F e3=>⟨_,u,_,rfl,b,rfl,λe=>⟨_,F e,rfl⟩,λe=>⟨_,e3 e,rfl⟩⟩
     have on:b=want->C9 O ty.den blk s (λs'=>match s'.get U with|some v=>cG ty v|none=>none) (λ_=>none)=some c->(∃st1,Sys P (blk.er (some (t,want))) st st1/\st1.hp=st.hp/\(∀k,lk s.fr k≠none->∀y,Av.look (enc s).fr k=some y->Av.look st1.fr k=some y)/\jp P st1 (EK t want U.er alt.er) λy=>y=aS (.d ty c)):=λp qr=>by
      obtain⟨s1,st1,M,D,E,k4,T⟩:=Jp hO blk ty.den s _ _ c (some (t,want)) st w1 w2 b3 qr z ⟨by rw[<-p];exact B,ht⟩
      split at E
      ·rename_i v hv;have:=N2 b1 E;subst this;have u:Av.look st1.fr t=some (.v (.bool b)):=D.fr t _ (by rw[bS,T t ht,B];rfl);have F:st1.get U.er=some (aS (.d ty c)):=D.get (au w3 hv);refine⟨st1,M,by rw[D.hp,z.hp];simp only[enc,k4],λk f y hy=>D.fr k y ?_,?_⟩;·rw[bS,T k λe=>f (j k e),<-bS];exact hy
       ·cases want with|true=>exact l st1 _ _ u (λ_=>F) λe=>by rw[p]at e;cases e|false=>exact l st1 _ _ u (λe=>by rw[p]at e;cases e) λ_=>F
      ·cases E
     have off:b≠want->av=c->(∃st1,Sys P (blk.er (some (t,want))) st st1/\st1.hp=st.hp/\(∀k,lk s.fr k≠none->∀y,Av.look (enc s).fr k=some y->Av.look st1.fr k=some y)/\jp P st1 (EK t want U.er alt.er) λy=>y=aS (.d ty c)):=λp ph=>by
      subst ph
      obtain⟨st1,M,D,E,_⟩:=Dd (P:=P) blk (t,want) [] st b2 ⟨_,gc,λe=>p (w_ e)⟩ (λk f=>by cases f) ht
      have u:Av.look st1.fr t=some (.v (.bool b)):=by rw[E t ht];exact gc
      have C:∀k,lk s.fr k≠none->∀y,Av.look (enc s).fr k=some y->Av.look st1.fr k=some y:=λk f y hy=>by rw[E k λe=>f (j k e)];exact z.fr k y hy
      have F:st1.get alt.er=some (aS (.d ty av)):=by have:=au w4 I;cases alt with|tm k=>have h0:lk s.fr k=some (.d ty av):=I;exact C k (by rw[h0];simp) _ this|_=>exact this
      refine⟨st1,M,D,C,?_⟩
      cases want with|true=>exact l st1 _ _ u (λe=>absurd e p) λ_=>F|false=>exact l st1 _ _ u (λ_=>F) λe=>absurd e p
     cases want with
     |true=>cases b with|true=>exact on rfl hc|false=>exact off (by simp) (w_ hc)
     |false=>cases b with|true=>exact off (by simp) (w_ hc)|false=>exact on rfl hc
    obtain⟨st1,q1,q2,q3,q4⟩:=Y;have A:∀w a,g=some (w,a)->lk s.fr w=some (.d .bool a)/\w∉blk.asg/\w≠dst/\w∉rest.asg:=λw a e=>by subst e;obtain⟨g1,H⟩:=hg;simp only[RC.asg,d_,v_,not_or]at H;exact⟨g1,H.1,H.2.1,H.2.2⟩
    have ur:fq P ⟨some dst,(EK t want U.er alt.er),g⟩ st1 (aS (.d ty c)):=by cases g with|none=>exact q4|some g=>obtain⟨w,a⟩:=g;obtain⟨u,_⟩:=A w a rfl;have:Av.look st1.fr w=some (.v (.bool a)):=q3 w (by rw[u];simp) _ (by rw[bS,u];rfl);exact⟨_,this,_,rfl,λ_=>q4,λe=>absurd rfl e⟩
    have el:Ext (st1.putO (some dst) (aS (.d ty c))) (enc (s.put dst (.d ty c))):=by
     refine⟨by show st1.hp=(enc s).hp;rw[q2,z.hp],λk y f=>?_⟩;rw[eC];rw[bS]at f;have e:=ya s (some dst) (.d ty c) k;rw[show s.putO (some dst) (.d ty c)=s.put dst (.d ty c)from rfl]at e;rw[e]at f;by_cases hd:some dst=some k;·rw[if_pos hd]at f⊢;exact f
     ·rw[if_neg hd]at f⊢;refine q3 k (λe0=>by rw[e0]at f;cases f) y ?_;rw[bS];exact f
    have J:∀k,lk (s.put dst (.d ty c)).fr k=if some dst=some k then some (.d ty c)else lk s.fr k:=λk=>ya s (some dst) (.d ty c) k;obtain⟨s',n,M,D,E,k4,T⟩:=Jp hO rest R (s.put dst (.d ty c)) κ kp r g _ w5 hp.2 b4 h2 el (by cases g with|none=>trivial|some g=>obtain⟨w,a⟩:=g;obtain⟨u,F,e3,e4⟩:=A w a rfl;exact⟨by rw[J,if_neg λe=>e3 (w_ e).symm];exact u,e4⟩)
    refine⟨s',n,q1.app (.cons _ _ _ n _ ur M),D,E,k4,λk f=>?_⟩;simp only[RC.asg,d_,v_,not_or]at f;rw[T k f.2.2,J,if_neg λe=>f.2.1 (w_ e).symm]
   ·cases h
  ·cases h
def RC.adjW(m:Nat):RC->Bool
 | .nil=>true
 | .op _ _ rest=>rest.adjW m
 | .adj l rest=>DD m l&&rest.adjW m
 | .gb _ _ _ _ _ _ _ rest=>rest.adjW m
theorem Jk{A:List Nat}{s s':S}(h:∀k,k∉A->lk s'.fr k=lk s.fr k):Keeps A s s':=λk a=>by rw[h k a];exact⟨λ_ h _=>.inl h,λh=>h⟩
theorem Jd:∀(b:RC) (g a:Option (Nat×Bool)),(b.er g).length=(b.er a).length
 | .nil,_,_=>rfl
 | .op d o rest,g,a=>by simp only[RC.er,K_,Jd rest g a]
 | .adj _ rest,g,a=>by simp only[RC.er,Jd rest g a]
 | .gb t want blk ty r alt dst rest,g,a=>by simp only[RC.er,ac_,K_,Jd rest g a]
theorem Q3(hO:OracleOk P O){t:Nat}{want:Bool}{blk rest:RC}{ty:Ty}{c alt:X}{dst:Nat}{R:Type}{s:S}{κ kp:S->Option R}{r:R}{st:St}(b:(RC.gb t want blk ty c alt dst rest).wf P=true)(d:(RC.gb t want blk ty c alt dst rest).gbB=true) (h:C9 O R (.gb t want blk ty c alt dst rest) s κ kp=some r) (e:Ext st (enc s)):∃s' a,Sys P (blk.er (some (t,want))++[⟨some dst,(EK t want c.er alt.er),none⟩]) st a/\Ext a (enc s')/\C9 O R rest s' κ kp=some r/\Keeps (blk.asg++[dst]) s s':=by simp only[RC.wf,a_]at b;simp only[RC.gbB,a_]at d;obtain⟨s',a,f,g,j,l,k⟩:=Jp hO (.gb t want blk ty c alt dst .nil) R s (λs'=>C9 O R rest s' κ kp) kp r none st (by simp only[RC.wf,b.1.1.1.1,b.1.1.1.2,b.1.1.2,b.1.2];rfl) (by simp only[RC.pureB,b.1.1.1.2];rfl) (by simp only[RC.gbB,d.1.1.1,d.1.1.2,d.1.2];rfl) h e trivial;exact⟨s',a,f,g,j,Jk k⟩
theorem iT(hO:OracleOk P O){m:Nat}:∀(p:RC) (R:Type) (s:S) (κ kp:S->Option R) (r:R) (K KP:St->Prop),p.wf P=true->p.gbB=true->p.adjW m=true->C9 O R p s κ kp=some r->
 (∀s',Keeps p.asg s s'->κ s'=some r->W m K (enc s'))->(∀s',Keeps p.asg s s'->kp s'=some r->KP (enc s'))->sops P m (p.er none) (enc s) K KP
 | .nil,R,s,κ,kp,r,K,KP,_,_,_,h,c,_=>c s (Keeps.refl _ _) h
 | .adj l rest,R,s,κ,kp,r,K,KP,g,n,j,h,c,e=>by simp only[C9]at h;simp only[RC.adjW,a_]at j;obtain⟨u,A,h⟩:=y8 h;·obtain⟨F,D⟩:=rV j.1 A;exact i6 F (iT hO rest R u κ kp r K KP g n j.2 h (λs' a f=>c s' ((D _).trans a) f) λs' a f=>e s' ((D _).trans a) f)
 | .op d o rest,R,s,κ,kp,r,K,KP,g,n,j,h,c,e=>by
  simp only[RC.wf,a_]at g;refine W.mk ?_;simp only[iF];have b:∀k,k∈fN d\/k∈rest.asg->k∈(RC.op d o rest).asg:=λk a=>by simp only[RC.asg,rY,d_];exact a
  refine mh (Em hO g.1 h) (λC ⟨u,x,y,z⟩=>?_) λC ⟨u,x,y,z⟩=>?_;·have v:=y.sub (B:=(RC.op d o rest).asg) λk a=>b k (.inl a);exact i6 x.weak (iT hO rest R u κ kp r K KP g.2 n j z (λs' a f=>c s' (v.trans (a.sub λk a=>b k (.inr a))) f) λs' a f=>e s' (v.trans (a.sub λk a=>b k (.inr a))) f)
  ·rw[x];exact e u (y.sub λk a=>b k (.inl a)) z
 | .gb t want blk ty E alt dst rest,R,s,κ,kp,r,K,KP,g,n,j,h,c,e=>by
  obtain⟨u,st1,H,I,J,M⟩:=Q3 hO g n h (Ext.refl _);simp only[RC.wf,a_]at g;simp only[RC.gbB,a_]at n;have b:∀k,k∈blk.asg++[dst]\/k∈rest.asg->k∈(RC.gb t want blk ty E alt dst rest).asg:=λk a=>by
   simp only[RC.asg,d_,v_,aN_,or_false]at a⊢;rcases a with(a|a)|a;·exact .inl a
   ·exact .inr (.inl a)
   ·exact .inr (.inr a)
  have w:=M.sub (B:=(RC.gb t want blk ty E alt dst rest).asg) λk a=>b k (.inl a);have:=H.sops (L:=rest.er none) (i6 I.weak (iT hO rest R u κ kp r K KP g.2 n.2 j J (λs' a f=>c s' (w.trans (a.sub λk a=>b k (.inr a))) f) λs' a f=>e s' (w.trans (a.sub λk a=>b k (.inr a))) f));rw[E_]at this;exact this
def RC.drB:Nat->RC->Bool
 |0,_=>true
 |k+1,.op _ o rest=>o.pureB&&rest.drB k
 |k+1,.gb _ _ blk _ _ _ _ rest=>aq_ (blk.er none).length k&&rest.drB (k - (blk.er none).length)
 |_,_=>false
theorem Pk(hO:OracleOk P O){m:Nat}:∀(p:RC) (k:Nat) (R:Type) (s:S) (κ kp:S->Option R) (r:R) (K KP:St->Prop) (st:St),p.drB k=true->p.wf P=true->p.gbB=true->p.adjW m=true->C9 O R p s κ kp=some r->Ext st (enc s)->(∀s',Keeps p.asg s s'->κ s'=some r->W m K (enc s'))->(∀s',Keeps p.asg s s'->kp s'=some r->KP (enc s'))->sdraw P m k (p.er none) st K KP:=by
 intro p;induction p with
 |nil=>intro k R s κ kp r K KP st hd f g u h j e c;cases k with|zero=>exact i6 j.weak (iT hO .nil R s κ kp r K KP f g u h e c)|succ k=>cases hd
 |adj l rest _=>intro k R s κ kp r K KP st hd f g u h j e c;cases k with|zero=>have:=i6 j.weak (iT hO (.adj l rest) R s κ kp r K KP f g u h e c);generalize RC.er none (RC.adj l rest)=L at this⊢;cases L<;>exact this|succ k=>cases hd
 |op d o rest A=>
  intro k R s κ kp r K KP st hd f g u h j e c;cases k with
  |zero=>exact i6 j.weak (iT hO (.op d o rest) R s κ kp r K KP f g u h e c)|succ k=>
   simp only[RC.drB,a_]at hd;simp only[RC.wf,a_]at f;have b:∀k,k∈fN d\/k∈rest.asg->k∈(RC.op d o rest).asg:=λk a=>by simp only[RC.asg,rY,d_];exact a
   obtain⟨v,C,D⟩:=re hO f.1 hd.1 h;have x:=(Keeps.put s d v).sub (B:=(RC.op d o rest).asg) λk a=>b k (.inl a);exact⟨aS v,OR j C,A k R (s.putO d v) κ kp r K KP _ hd.2 f.2 g u D (by rw[gv];exact j.put d _) (λs' a w=>e s' (x.trans (a.sub λk a=>b k (.inr a))) w) λs' a w=>c s' (x.trans (a.sub λk a=>b k (.inr a))) w⟩
 |gb t want blk ty z alt dst rest _ A=>
  intro k R s κ kp r K KP st hd f g u h j e c;cases k with
  |zero=>have:=i6 j.weak (iT hO (.gb t want blk ty z alt dst rest) R s κ kp r K KP f g u h e c);generalize RC.er none (RC.gb t want blk ty z alt dst rest)=L at this⊢;cases L<;>exact this|succ k=>
   simp only[RC.drB,a_]at hd;have E:=g_ hd.1;obtain⟨M,st1,F,H,I,J⟩:=Q3 hO f g h j;simp only[RC.wf,a_]at f;simp only[RC.gbB,a_]at g;have b:∀k,k∈blk.asg++[dst]\/k∈rest.asg->k∈(RC.gb t want blk ty z alt dst rest).asg:=λk a=>by
    simp only[RC.asg,d_,v_,aN_,or_false]at a⊢;rcases a with(a|a)|a;·exact .inl a
    ·exact .inr (.inl a)
    ·exact .inr (.inr a)
   have y:=J.sub (B:=(RC.gb t want blk ty z alt dst rest).asg) λk a=>b k (.inl a);have hl:=Jd blk (some (t,want)) none;have:=F.sdraw (L:=rest.er none) (n:=k - (blk.er none).length) (A _ R M κ kp r K KP st1 hd.2 f.2 g.2 u I H (λs' a w=>e s' (y.trans (a.sub λk a=>b k (.inr a))) w) λs' a w=>c s' (y.trans (a.sub λk a=>b k (.inr a))) w);rw[E_]at this;rw[show(blk.er (some (t,want))++[(⟨some dst,EK t want z.er alt.er,none⟩:SOper)]).length+(k - (blk.er none).length)=k+1 by rw[ac_,hl,List.length_singleton];omega]at this
   exact this
end
theorem inL_iff{l:List Nat}{x:Nat}:lQ l x=true↔x∈l:=by unfold lQ;simp only[List.any_eq_true];exact⟨fun⟨y,a,b⟩=>(b_ b)▸a,λh=>⟨x,h,U_ x⟩⟩
theorem BJ{l:List Nat}{x:Nat}(h:(!lQ l x)=true):x∉l:=λa=>by rw[inL_iff.2 a]at h;cases h
theorem Bu(v:V):v.kids1=(aO v).kids:=by
 cases v<;>try rfl
 rename_i c;have a:∀i,i∉(aO (.raw c)).kids:=λi b=>by have:=BV.kids_ids b;rw[show(aO (.raw c)).ids=[]from xV c]at this;cases this
 exact(List.eq_nil_iff_forall_not_mem.2 a).symm
theorem Ew(vs:List V):vs.flatMap V.kids1=(vs.map aO).flatMap BV.kids:=by induction vs with|nil=>rfl|cons v vs a=>simp only[af_,l_,a,Bu]
theorem vO(v:V):v.kids=(aS v).kids:=by
 cases a:v.isA
 ·rw[l7 a];have:v.kids=v.kids1:=by cases v<;>first|rfl|cases a
  rw[this];exact Bu v
 ·cases v with|agg vs=>exact Ew vs|tup vs=>exact Ew vs|_=>cases a
theorem Bw(o:Ob):o.kids=(bC o).kids:=by
 cases o with
 |box t cs=>exact Ew cs|tree e k t xs h=>cases h with|none=>rfl|some q=>obtain⟨i,j,v⟩:=q;exact Bu v
 |_=>rfl
theorem wc(s:S)(p:PO):touch (enc s) p.so=JQ s p.so.rd p.o.er.lent:=by unfold touch JQ;congr 1;refine uR λk _=>?_;rw[bS];cases lk s.fr k with|none=>rfl|some v=>exact(oQ v).symm
theorem er_hf{o:TOp}:o.er.hf=true↔∃x,o= .mv x:=by cases o<;>simp[TOp.er,SOp.hf]
theorem Fe(s:S)(p:PO)(c:p.rd=p.so.rd)(d:p.lent=p.o.er.lent):px s p=(match p.b with|true=>dj (enc s) p.so|false=>touch (enc s) p.so):=by
 unfold px;cases e:p.b with
 |false=>simp only;rw[wc,c,d]|true=>
  simp only[dj];by_cases b:(∃x,p.o= .mv x)/\p.g=none;·obtain⟨⟨x,a⟩,hg⟩:=b;rw[a,hg];have:p.so.op.hf=true/\p.so.gd=none:=⟨by show p.o.er.hf=true;rw[a];rfl,hg⟩;rw[if_pos this]
  ·have:¬(p.so.op.hf=true/\p.so.gd=none):=λh=>b ⟨er_hf.1 h.1,h.2⟩;rw[if_neg this,wc,c,d];split;·rename_i x _ a hg;exact absurd ⟨⟨x,a⟩,hg⟩ b
   ·rfl
theorem N0{r:Av.Rec}{T:List Nat}{p:PO}(h:QP r T p.so.rd p.o.er.lent p.d p.b=true):comm r T p.so p.b:=by
 unfold QP at h;simp only[a_]at h;obtain⟨⟨⟨c,g⟩,j⟩,b⟩:=h;refine⟨λt a=>?_,λt a=>?_,λt a=>?_,λf t a=>?_,λf=>?_⟩;·rw[a]at c;simp only[a_]at c;refine⟨BJ c.1,λe=>?_⟩;have d:p.d=some t:=e;rw[d]at c;have:=c.2;simp only[U_]at this;cases this
 ·have d:p.d=some t:=a;rw[d]at g;exact BJ g
 ·rw[a]at j;exact BJ j
 ·rw[f]at b;exact BJ (j_.1 b t a)
 ·rw[f]at b;simp only[a_]at b;exact⟨W_.1 b.1,λi k=>BJ (j_.1 b.2 i k)⟩
def PO.wf(P:Program)(p:PO):Bool:=p.o.wf P&&decide (p.rd=p.so.rd)&&decide (p.lent=p.o.er.lent)&&(match p.b with
 |true=>p.d.isSome&&(p.o.pureB||(p.o.isAt&&p.g.isNone))
 |false=>p.o.exB)
def TO(a:List (List Nat)):List PO->Bool
 |[]=>true
 |p::l=>l.all (λq=>(a.getD q.j []).contains p.j||lQ q.us p.j)&&TO a l
def oM(l:List PO):List Nat:=l.flatMap λp=>match p.d with|some d=>[d]|none=>[]
section
variable {R:Type} {P:Program} {O:ak}
theorem uY{s:S}{t:Nat}{v:V}(h:lk s.fr t=some v)(k:Nat):lk (s.put t v).fr k=lk s.fr k:=by
 show lk ((t,v)::s.fr) k=_;simp only[lk];cases a:n_ k t;·rfl
 ·have:=b_ a;subst this;exact h.symm
theorem Dh{s:S}{t:Nat}{v:V}(h:lk s.fr t=some v):Eqs (enc (s.put t v)) (enc s):=⟨rfl,λk=>by rw[bS,bS,uY h]⟩
theorem oD{s:S}{t:Nat}{v:V}(h:lk s.fr t=some v)(A:List Nat):Keeps A s (s.put t v):=λk _=>by rw[uY h];exact⟨λv a _=>.inl a,λhn=>hn⟩
def V9(F:List Nat)(ld:Option (Ty×Nat×Nat×V))(hp:List AObj):Prop:=∃t id off v,ld=some (t,id,off,v)/\∃s':S,hp=s'.hp.map bC/\(∀j∈HC s' id,j∈F)/\LI s'.hp t id off=some v
def Ng(a:RecV):Av.Rec×(List AObj->Prop):=(a.r,V9 a.r.F a.ld)
theorem Sl{k:Option R}{r:R}{v d:V}(h:Sk k v d=some r):v=d/\k=some r:=by
 unfold Sk at h;split at h
 ·rename_i t x u y;split at h
  ·rename_i z b;obtain⟨a,c⟩:=aN h;obtain⟨f,g⟩:=aN c;have:=Jb t x z a f;subst this;unfold bP at b;split at b;·rename_i e;subst e;cases b;exact⟨rfl,g⟩
   ·cases b
  ·cases h
 ·rename_i i o j q;obtain⟨a,c⟩:=aN h;simp only[a_]at a;rw[b_ a.1,b_ a.2];exact⟨rfl,c⟩
 ·cases h
theorem vX{T us:List Nat}{s':S}{k:Option R}{r:R}:∀{A:List RecV},VT T us s' k A=some r->k=some r/\∀a∈A,lQ us a.r.i=true->(∀i∈T,i∉a.r.F)\/V9 a.r.F a.ld (s'.hp.map bC)
 |[],h=>⟨h,λa p=>by cases p⟩
 |a::A,h=>by
  unfold VT at h;cases hc:(!lQ us a.r.i||T.all (λt=> !lQ a.r.F t))
  ·rw[hc]at h;simp only[cond_false]at h;split at h
   ·rename_i t id off v hl;split at h
    ·rename_i x w;obtain⟨g,l⟩:=aN h;obtain⟨rfl,n⟩:=Sl l;obtain⟨e,f⟩:=vX n;refine⟨e,λb c d=>?_⟩;rcases v_.1 c with rfl|c;·exact .inr ⟨t,id,off,v,hl,s',rfl,λj u=>inL_iff.1 (j_.1 g j u),w⟩
     ·exact f b c d
    ·cases h
   ·cases h
  ·rw[hc]at h;simp only[cond_true]at h;obtain⟨e,f⟩:=vX h;refine⟨e,λb c d=>?_⟩;rcases v_.1 c with rfl|c;·simp only[d,ai_,aG_]at hc;exact .inl λi s=>BJ (j_.1 hc i s)
   ·exact f b c d
theorem UH(s:S)(hp:List Ob)(x:X):S.get ⟨s.fr,hp⟩ x=s.get x:=by cases x<;>rfl
theorem Nc{d:Option Nat}{t:Ty}{x:X}{s:S}{hp:List Ob}{id off:Nat}{v:V}{kp:S->Option S}(f:s.get x=some (.ptr id off))(a:LI hp t id off=some v): evOp O d (.load t x) ⟨s.fr,hp⟩ (λs=>some s) kp=some (S.putO ⟨s.fr,hp⟩ d v):=by
 simp only[evOp,UH,f,loadT];unfold LI at a;split at a;·rename_i tid cs e;obtain⟨b,c⟩:=aN a;cases c;simp only[e,b,cond_true]
 ·cases a
theorem Pp(hO:OracleOk P O){D:List (List Nat)}{K:St->Prop}{KC:Prop}:∀(l:List PO) (A:List RecV) (s:S) (κ kp:S->Option R) (r:R),l.all (PO.wf P)=true->TO D l=true->(∀a∈A,∀q∈l,(D.getD q.j []).contains a.r.i=true\/lQ q.us a.r.i=true)->Pn O A l s κ kp=some r->(∀s',Keeps (oM l) s s'->κ s'=some r->K (enc s'))->(∀s',Keeps (oM l) s s'->kp s'=some r->KC)->sH P (λi j=> !(D.getD j []).contains i) K KC (A.map Ng) (l.map λp=>(p.j,p.b,p.so)) (enc s):=by
 intro l;induction l with
 |nil=>intro A s κ kp r _ _ _ h M _;exact⟨_,Eqs.refl _,M s (Keeps.refl _ _) h⟩|cons p l ih=>
  intro A s0 κ kp r hw hu hA h At qr;simp only[J_,a_]at hw;obtain⟨Hx,Dg⟩:=hw;simp only[TO,a_,j_,A_]at hu;obtain⟨Fm,CT⟩:=hu;simp only[PO.wf,a_,decide_eq_true_eq]at Hx;obtain⟨⟨⟨w1,w2⟩,w3⟩,w4⟩:=Hx;have f:∀k,k∈fN p.d\/k∈oM l->k∈oM (p::l):=λk c=>by unfold oM at c⊢;rw[af_,d_];refine c.imp (λh=>?_) id;cases hd:p.d<;>rw[hd]at h<;>exact h
  have Bk:∀a∈A,∀q∈l,(D.getD q.j []).contains a.r.i=true\/lQ q.us a.r.i=true:=λa B q L=>hA a B q (o_ _ L);have C:∀{X:Av.Rec×(List AObj->Prop)->Prop},(∀a∈A,X (Ng a))->∀r∈A.map Ng,X r:=λh r hr=>by obtain⟨a,B,rfl⟩:=T_.1 hr;exact h a B
  have Fr:∀a∈A,(!(D.getD p.j []).contains a.r.i)=true->lQ p.us a.r.i=true:=λa B z=>by
   rcases hA a B p (C_ ..)with Y|Y;·rw[Y]at z;cases z
   ·exact Y
  have DA:∀s:S,(p.g=none\/∃t want,p.g=some (t,want)/\lk s.fr t=some (.d .bool want))->Bo A s p=true->evOp O p.d p.o s (λs'=>PR A s s' p (Pn O (BO A s s' p) l s' κ kp)) kp=some r->(∀s',Keeps (oM (p::l)) s s'->κ s'=some r->K (enc s'))->(∀s',Keeps (oM (p::l)) s s'->kp s'=some r->KC)->sH P (λi j=> !(D.getD j []).contains i) K KC (A.map Ng) ((p::l).map λp=>(p.j,p.b,p.so)) (enc s):=by
   intro s hg N u M Q;simp only[Bo,a_]at N;obtain⟨⟨c1,c2⟩,c3⟩:=N;rw[w2,w3]at c1;simp only[BO,PR,w2,w3]at u;have hT:=Fe s p w2 w3;have n:∀a∈A,(!(D.getD p.j []).contains a.r.i)=true->comm a.r (match p.b with|true=>dj (enc s) p.so|false=>touch (enc s) p.so) p.so p.b:=λa B z=>by
    have:=j_.1 c1 a B;simp only[A_]at this;rcases hA a B p (C_ ..)with Y|Y;·rw[Y]at z;cases z
    ·rw[Y]at this;rcases this with h4|h4;·cases h4
     ·rw[<-hT];exact N0 h4
   have Pc:∀{X X':St->Prop},sexec P p.d p.o.er (enc s) X X'->iF P p.so (enc s) X X':=fun{X X'} hx=>by
    unfold iF;rcases hg with hg|⟨t,want,hg,hl⟩;·rw[show p.so.gd=none from hg];exact hx
    ·rw[show p.so.gd=some (t,want)from hg];exact⟨_,by rw[bS,hl];rfl,_,rfl,λ_=>hx,λrg=>absurd rfl rg⟩
   have PA:∀{x:AV},jp P (enc s) p.o.er (λy=>y=x)->fq P p.so (enc s) x:=fun{x} hx=>by
    unfold fq;rcases hg with hg|⟨t,want,hg,hl⟩;·rw[show p.so.gd=none from hg];exact hx
    ·rw[show p.so.gd=some (t,want)from hg];exact⟨_,by rw[bS,hl];rfl,_,rfl,λ_=>hx,λrg=>absurd rfl rg⟩
   cases hb:p.b with
   |false=>
    rw[hb]at w4 u n;simp only[cond_false]at u;simp only[l_,hb];refine⟨C n,?_⟩;have hx:=M0 hO w1 w4 c3 u;refine Pc (mh hx (λPJ ⟨s',e1,U,e3⟩=>?_) λPJ ⟨s',e1,U,e3⟩=>Q s' (U.sub λk c=>f k (.inl c)) e3);rw[e1];obtain⟨e3,e9⟩:=vX e3;refine⟨C λa B z=>?_,?_⟩;·rw[wc];exact e9 a B (Fr a B z)
    exact ih A s' κ kp r Dg CT Bk e3 (λI c J=>M I ((U.sub λk c=>f k (.inl c)).trans (c.sub λk c=>f k (.inr c))) J) λI c J=>Q I ((U.sub λk c=>f k (.inl c)).trans (c.sub λk c=>f k (.inr c))) J
   |true=>
    rw[hb]at w4 u n c2 hT;simp only at n hT;simp only[a_]at w4;obtain⟨KK,Pb⟩:=w4;obtain⟨dk,gc⟩:=as_.1 KK;simp only[cond_true]at u;simp only[ai_,aG_]at c2;simp only[l_,hb];have Pa:∃E v s',tM P p.so (enc s) E/\E.x=aS v/\E.slot.map (·.1)=EX p.o/\enc s'=(enc s).app p.d E/\lk s'.fr dk=some v/\Keeps (fN p.d) s s'/\Pn O (A++[⟨⟨p.j,p.d,p.so.rd,EX p.o,Nf s s' p.d (px s p),TJ s s' p.so.rd p.d⟩,M5 s s' p⟩]) l s' κ kp=some r:=by
     rcases aF_.1 Pb with T|el
     ·obtain⟨v,e1,U⟩:=re hO w1 T u;have ur:EX p.o=none:=by cases L:p.o<;>first|rfl|(rw[L]at T;cases T)
      refine⟨⟨aS v,none⟩,v,s.putO p.d v,PA e1,rfl,by rw[ur];rfl,gv _ _ _,?_,Keeps.put _ _ _,U⟩;rw[gc];simp only[ya,if_true]
     ·simp only[a_]at el;obtain⟨el,ph⟩:=el;have ph:=W_.1 ph;cases L:p.o<;>(try (rw[L]at el;cases el;done))
      rename_i k op;rw[L]at u w1;obtain⟨ob,v,e1,U⟩:=NU (P:=P) (k:=k) (op:=op) w1 u;refine⟨⟨aS v,some (k,bC ob)⟩,v,_,?_,rfl,rfl,?_,?_,(Keeps.fr (s':=⟨s.fr,setAt s.hp k ob⟩) rfl).trans (Keeps.put _ p.d v),U⟩
      ·have:p.so=⟨p.d,.atq k op.er,none⟩:=by unfold PO.so;rw[L,ph];rfl
       rw[this];exact e1
      ·rw[gv,gG];rfl
      ·rw[gc];simp only[ya,if_true]
    obtain⟨E,v,s',e1,U,e3,e4,e5,e6,e7⟩:=Pa;have DM:Oa s' p.d=v.kids:=by unfold Oa;rw[gc];simp only[e5]
    have DS:∀i∈E.x.kids,i∈Nf s s' p.d (px s p):=λi g=>by rw[U,<-vO]at g;exact d_.2 (.inr (by rw[DM];exact g))
    refine⟨C n,E,Nf s s' p.d (px s p),TJ s s' p.so.rd p.d,V9 (Nf s s' p.d (px s p)) (M5 s s' p),e1,⟨λi g=>?_,DS⟩,⟨λi g=>?_,λt ht y H i g=>?_⟩,λJT hS DB=>?_,?_⟩;·rw[<-hT]at g;have DE:=j_.1 c2 i g;have F:i<s.hp.length:=g_ DE;refine⟨d_.2 (.inl (d_.2 (.inl g))),_,by rw[bA,c_ F];rfl,λj hj=>?_⟩;rw[<-Bw]at hj;refine d_.2 (.inl (d_.2 (.inr (u_.2 ⟨i,g,?_⟩))));unfold HC;rw[c_ F];exact hj
    ·rw[U,<-vO]at g;exact d_.2 (.inr (by rw[DM];exact g))
    ·rw[bS]at H;refine d_.2 (.inl (u_.2 ⟨t,ht,?_⟩));cases hl:lk s.fr t with|none=>rw[hl]at H;cases H|some w=>rw[hl]at H;simp only[aa_,k_]at H;rw[<-H,<-vO]at g;exact g
    ·obtain⟨t,id,off,v2,hl,I,DP,Fk,BT⟩:=hS;unfold M5 at hl;split at hl;case h_2=>cases hl
     rename_i t' x d ho ph hd;split at hl;case h_2=>cases hl
     rename_i RK Rg RM hx GS;cases hl;rw[gc]at hd;cases hd;rw[e5]at GS;cases GS;have ur:E.slot=none:=by rw[ho]at e3;cases hs:E.slot with|none=>rfl|some q=>rw[hs]at e3;cases e3
     have CD:p.so=⟨some dk,.load t.sz t.ag x.er,none⟩:=by unfold PO.so;rw[ho,ph,gc];rfl
     rw[ho]at w1;obtain⟨v3,g1,g2⟩:=re (P:=P) (O:=O) hO w1 (by rfl) (Nc (O:=O) (d:=some dk) (t:=t) (kp:=λ_=>none) hx BT);have PB:v3=v:=by have:=congrArg (λs:S=>lk s.fr dk) (w_ g2);simpa only[ya,if_true,k_]using this
     subst PB;have MT:∀i∈dj JT p.so,i=id:=λi g=>by
      rw[CD]at g;unfold dj at g;rw[if_neg (λh=>by cases h.1)]at g;unfold touch at g;simp only[SOp.lent,aQ_]at g;obtain⟨k,c,h0⟩:=u_.1 g;have DQ:k∈x.er.rd:=by simpa[SOper.rd,SOp.rd]using c
      rw[DB k (by rw[CD];exact c),bS]at h0;cases x with
      |tm k0=>
       have:k=k0:=by simpa[X.er,SX.rd]using DQ
       subst this;rw[show lk s.fr k=some (.ptr id off)from hx]at h0;exact p_.1 h0
      |_=>cases DQ
     refine⟨?_,λi g=>?_,DS⟩;·unfold tM;rw[ur,CD,U];refine Az ⟨λk c y H=>?_,λk c y H i g ob Bx=>by rw[DP];exact Bx⟩ g1;rw[DB k (by rw[CD];exact d_.2 (.inl c))];exact H
     ·have N:=g;rw[rE DB,<-hT]at N;have:=MT i g;subst this;refine⟨d_.2 (.inl (d_.2 (.inl N))),?_⟩;unfold LI at BT;split at BT;case h_2=>cases BT
      rename_i tid cs Bx;refine⟨bC (.box tid cs),by rw[DP,h_,Bx];rfl,λj hj=>Fk j ?_⟩;rw[<-Bw]at hj;unfold HC;rw[Bx];exact hj
    ·rw[e3];have:=ih _ s' κ kp r Dg CT (λa B q L=>?_) e7 (λI c J=>M I ((e6.sub λk c=>f k (.inl c)).trans (c.sub λk c=>f k (.inr c))) J) λI c J=>Q I ((e6.sub λk c=>f k (.inl c)).trans (c.sub λk c=>f k (.inr c))) J;·rw[s_,e4]at this;exact this
     rcases d_.1 B with h|h;·exact Bk a h q L
     ·simp only[p_]at h;subst h;exact Fm q L
  have DH:∀(s:S) t want b,p.g=some (t,want)->lk s.fr t=some (.d .bool b)->(want==b)=false->Bo A s p=true->PR A s (s.putO p.d (.raw Go.undef)) p (Pn O (BO A s (s.putO p.d (.raw Go.undef)) p) l (s.putO p.d (.raw Go.undef)) κ kp)=some r->(∀s',Keeps (oM (p::l)) s s'->κ s'=some r->K (enc s'))->(∀s',Keeps (oM (p::l)) s s'->kp s'=some r->KC)->sH P (λi j=> !(D.getD j []).contains i) K KC (A.map Ng) ((p::l).map λp=>(p.j,p.b,p.so)) (enc s):=by
   intro s t want b hg hl rg N u M Q;simp only[Bo,a_]at N;obtain⟨⟨c1,c2⟩,c3⟩:=N;rw[w2,w3]at c1;simp only[BO,PR,w2,w3]at u;have hT:=Fe s p w2 w3;have n:∀a∈A,(!(D.getD p.j []).contains a.r.i)=true->comm a.r (match p.b with|true=>dj (enc s) p.so|false=>touch (enc s) p.so) p.so p.b:=λa B z=>by
    have:=j_.1 c1 a B;simp only[A_]at this;rcases hA a B p (C_ ..)with Y|Y;·rw[Y]at z;cases z
    ·rw[Y]at this;rcases this with h4|h4;·cases h4
     ·rw[<-hT];exact N0 h4
   have In:yv (.bool b)≠some want:=λe=>by
    have:b=want:=by simpa[yv]using e
    subst this;simp at rg
   have e4:enc (s.putO p.d (.raw Go.undef))=(enc s).putO p.d (.v Go.undef):=gv _ _ _;have e6:Keeps (fN p.d) s (s.putO p.d (.raw Go.undef)):=Keeps.put _ _ _;cases hb:p.b with
   |false=>
    rw[hb]at u n;simp only[cond_false]at u;simp only[l_,hb];refine⟨C n,?_⟩;unfold iF;rw[show p.so.gd=some (t,want)from hg];obtain⟨u,e9⟩:=vX u;refine⟨_,by rw[bS,hl];rfl,_,rfl,λhe=>absurd he In,λ_=>?_⟩;show Qx _ _ _ _ ((enc s).putO p.d (.v Go.undef)).hp/\sH P _ K KC (A.map Ng) _ ((enc s).putO p.d (.v Go.undef));rw[<-e4];refine⟨C λa B z=>?_,?_⟩;·rw[wc];exact e9 a B (Fr a B z)
    exact ih A _ κ kp r Dg CT Bk u (λI c J=>M I ((e6.sub λk c=>f k (.inl c)).trans (c.sub λk c=>f k (.inr c))) J) λI c J=>Q I ((e6.sub λk c=>f k (.inl c)).trans (c.sub λk c=>f k (.inr c))) J
   |true=>
    rw[hb]at w4 u n c2 hT;simp only at n hT;simp only[a_]at w4;simp only[cond_true]at u;simp only[ai_,aG_]at c2;simp only[l_,hb];have ur:EX p.o=none:=by
     have T:p.o.pureB=true:=by
      rcases aF_.1 w4.2 with h|h;·exact h
      ·rw[hg]at h;simp at h
     cases L:p.o<;>first|rfl|(rw[L]at T;cases T)
    have Nd:M5 s (s.putO p.d (.raw Go.undef)) p=none:=by unfold M5;rw[hg];cases p.o<;>cases p.d<;>rfl
    refine⟨C n,⟨.v Go.undef,none⟩,Nf s (s.putO p.d (.raw Go.undef)) p.d (px s p),TJ s (s.putO p.d (.raw Go.undef)) p.so.rd p.d,V9 (Nf s (s.putO p.d (.raw Go.undef)) p.d (px s p)) (M5 s (s.putO p.d (.raw Go.undef)) p),?_,⟨λi g=>?_,λi g=>?_⟩,⟨λi g=>(by cases g),λt ht y H i g=>?_⟩,λJT hS=>?_,?_⟩;·show fq P p.so (enc s) (.v Go.undef);unfold fq;rw[show p.so.gd=some (t,want)from hg];exact⟨_,by rw[bS,hl];rfl,_,rfl,λhe=>absurd he In,λ_=>rfl⟩
    ·rw[<-hT]at g;have DE:=j_.1 c2 i g;have F:i<s.hp.length:=g_ DE;refine⟨d_.2 (.inl (d_.2 (.inl g))),_,by rw[bA,c_ F];rfl,λj hj=>?_⟩;rw[<-Bw]at hj;refine d_.2 (.inl (d_.2 (.inr (u_.2 ⟨i,g,?_⟩))));unfold HC;rw[c_ F];exact hj
    ·cases g
    ·rw[bS]at H;refine d_.2 (.inl (u_.2 ⟨t,ht,?_⟩));cases hl:lk s.fr t with|none=>rw[hl]at H;cases H|some w=>rw[hl]at H;simp only[aa_,k_]at H;rw[<-H,<-vO]at g;exact g
    ·obtain⟨_,_,_,_,hl,_⟩:=hS;rw[Nd]at hl;cases hl
    ·have:=ih _ _ κ kp r Dg CT (λa B q L=>?_) u (λI c J=>M I ((e6.sub λk c=>f k (.inl c)).trans (c.sub λk c=>f k (.inr c))) J) λI c J=>Q I ((e6.sub λk c=>f k (.inl c)).trans (c.sub λk c=>f k (.inr c))) J;·rw[s_,e4]at this;show sH P _ K KC (A.map Ng++[(⟨p.j,p.d,p.so.rd,none,_,_⟩,_)]) _ ((enc s).putO p.d (.v Go.undef));rw[<-ur];exact this
     rcases d_.1 B with h|h;·exact Bk a h q L
     ·simp only[p_]at h;subst h;exact Fm q L
  simp only[Pn]at h;cases hg:p.g with
  |none=>rw[hg]at h;obtain⟨N,u⟩:=aN h;exact DA s0 (.inl hg) N u At qr
  |some q=>
   obtain⟨t,want⟩:=q;rw[hg]at h;simp only at h;split at h
   ·rename_i b hl;rcases wr:(want==b)with _|_
    ·rw[wr]at h;have hb:b= !want:=by cases b<;>cases want<;>first|rfl|cases wr
     subst hb;obtain⟨N,u⟩:=aN h;refine rC _ _ _ _ (Dh hl) ?_;exact DH _ t want _ hg (by rw[uY hl];exact hl) wr N u (λs' c=>At s' ((oD hl _).trans c)) λs' c=>qr s' ((oD hl _).trans c)
    ·rw[wr]at h;have:want=b:=by simpa using wr
     subst this;obtain⟨N,u⟩:=aN h;refine rC _ _ _ _ (Dh hl) ?_;exact DA _ (.inr ⟨t,want,hg,by rw[uY hl];exact hl⟩) N u (λs' c=>At s' ((oD hl _).trans c)) λs' c=>qr s' ((oD hl _).trans c)
   ·cases h
theorem Bz(hO:OracleOk P O){m:Nat}{K KP:St->Prop}:∀(l:List PO) (s:S) (κ kp:S->Option R) (r:R),l.all (λp=>p.o.wf P)=true->Qg O l s κ kp=some r->
 (∀s',Keeps (oM l) s s'->κ s'=some r->W m K (enc s'))->(∀s',Keeps (oM l) s s'->kp s'=some r->KP (enc s'))->sops P m (l.map PO.so) (enc s) K KP
 |[],s,κ,kp,r,_,h,j,_=>j s (Keeps.refl _ _) h
 |p::l,s0,κ,kp,r,z,h,v,u=>by
  rw[J_,a_]at z;have f:∀k,k∈fN p.d\/k∈oM l->k∈oM (p::l):=λk d=>by simp only[oM,af_,d_];exact d
  have I:∀(s:S),(∀s',Keeps (oM (p::l)) s s'->κ s'=some r->W m K (enc s'))->(∀s',Keeps (oM (p::l)) s s'->kp s'=some r->KP (enc s'))->evOp O p.d p.o s (λs'=>Qg O l s' κ kp) kp=some r->sexec P p.d p.o.er (enc s) (λst=>sops P m (l.map PO.so) st K KP) KP:=by
   intro s j n h
   refine mh (Em hO z.1 h) (λy ⟨H,A,C,D⟩=>?_) λy ⟨H,A,C,D⟩=>?_
   ·have g:=C.sub (B:=oM (p::l)) λk d=>f k (.inl d);exact i6 A.weak (Bz hO l H κ kp r z.2 D (λs' d x=>j s' (g.trans (d.sub λk d=>f k (.inr d))) x) λs' d x=>n s' (g.trans (d.sub λk d=>f k (.inr d))) x)
   ·rw[A];exact n H (C.sub λk d=>f k (.inl d)) D
  have skip:∀(s:S),(∀s',Keeps (oM (p::l)) s s'->κ s'=some r->W m K (enc s'))->(∀s',Keeps (oM (p::l)) s s'->kp s'=some r->KP (enc s'))->Qg O l (s.putO p.d (.raw Go.undef)) κ kp=some r->sops P m (l.map PO.so) ((enc s).putO p.d (.v Go.undef)) K KP:=by
   intro s j n h
   have M:enc (s.putO p.d (.raw Go.undef))=(enc s).putO p.d (.v Go.undef):=gv _ _ _
   have N:Keeps (fN p.d) s (s.putO p.d (.raw Go.undef)):=Keeps.put _ _ _
   have g:=N.sub (B:=oM (p::l)) λk d=>f k (.inl d)
   rw[<-M]
   exact Bz hO l _ κ kp r z.2 h (λs' d x=>j s' (g.trans (d.sub λk d=>f k (.inr d))) x) λs' d x=>n s' (g.trans (d.sub λk d=>f k (.inr d))) x
  show W m (λst=>iF P p.so st (λy=>sops P m (l.map PO.so) y K KP) KP) (enc s0);simp only[Qg]at h;split at h;·rename_i hg;refine W.mk ?_;unfold iF;rw[show p.so.gd=none from hg];exact I s0 v u h
  ·rename_i t want hg;split at h
   ·rename_i b hl;have e:Weak m (enc s0) (enc (s0.put t (.d .bool b))):=λc a w _ hr=>Rel.congr (Dh hl).1 (Dh hl).2 hr;refine W.to _ e ?_;unfold iF;rw[show p.so.gd=some (t,want)from hg];have F:Av.look (enc (s0.put t (.d .bool b))).fr t=some (.b (.pv (.sc (.bool b)))):=by rw[bS,uY hl,hl];rfl
    have J:∀s',Keeps (oM (p::l)) (s0.put t (.d .bool b)) s'->κ s'=some r->W m K (enc s'):=λs' d=>v s' ((oD hl _).trans d);have L:∀s',Keeps (oM (p::l)) (s0.put t (.d .bool b)) s'->kp s'=some r->KP (enc s'):=λs' d=>u s' ((oD hl _).trans d);refine⟨_,F,.bool b,rfl,λE=>?_,λE=>?_⟩;·cases b<;>cases want<;>first|(exact I _ J L h)|(exact absurd E (by decide))
    ·cases b<;>cases want<;>first|(exact skip _ J L h)|(exact absurd rfl E)
   ·cases h
theorem Ij{m:Nat}{s:S}:∀(r:Nat),Weak m (enc s) (enc ⟨s.fr,s.hp++S_ r .free⟩)
 |0=>by rw[List.replicate_zero,aQ_];exact Weak.refl _ _
 |r+1=>by
  refine(Ij r).trans ?_;rintro c a w _ ⟨θ,D,b⟩;refine⟨θ++[.no],D,?_⟩;have:=b.push (l:=.no) (o:=.free) trivial λg hg=>by cases hg
  rw[List.replicate_succ',<-E_];have e:=uH ⟨s.fr,s.hp++S_ r .free⟩ .free;simp only at e;rw[e];exact this
theorem Re{pre:List PO}(hn:(pre.map (·.j)).Nodup){p:PO}(hp:p∈pre)(a:p.j<pre.length)(tl:List SOper):(GC pre++tl).getD p.j default=p.so:=by
 have hl:(GC pre).length=pre.length:=by simp[GC]
 have c:pre.find? (λq=>n_ q.j p.j)=some p:=by
  clear hl a;induction pre with
  |nil=>cases hp|cons q pre d=>
   rw[l_,List.nodup_cons]at hn;rw[aR_];rcases v_.1 hp with rfl|hp;·rw[U_]
   ·have:n_ q.j p.j=false:=by cases b:n_ q.j p.j with|false=>rfl|true=>exact absurd (T_.2 ⟨p,hp,(b_ b).symm⟩) hn.1
    rw[this];exact d hn.2 hp
 rw[ad_,m_ (by omega)];unfold GC;rw[h_,X_ a];simp only[aa_,av_,c]
end
def Ve(xs:List (Nat×Sh)):Bool:=xs.all λx=>x.2.wfB
def TC.wf(P:Program)(m:Nat):TC->Bool
 | .region ops=>ops.wf P&&ops.gbB&&ops.adjW m
 | .draw k ops _=>ops.wf P&&ops.gbB&&ops.adjW m&&ops.drB k
 | .draw2 _ pre tl af=>tl.wf P&&tl.gbB&&tl.adjW m&&pre.all (PO.wf P)&&TO (fH [] af) pre&&decide (pre.map (·.j)).Nodup&&pre.all (λp=>decide (p.j<pre.length))
 | .regL pre=>pre.all λp=>p.o.wf P
 | .seq a b=>a.wf P m&&b.wf P m
 | .cond x a b=>x.wf&&a.wf P m&&b.wf P m
 | .block _ a=>a.wf P m
 | .loop sh xs a=>sh.wfB&&Ve xs&&a.wf P m
 | .adj l a=>DD m l&&a.wf P m
 | .after a l=>DD m l&&a.wf P m
 | .cut xs a=>Ve xs&&a.wf P m
 |_=>true
section
variable {P:Program} {O:ak} {n m:Nat}
theorem QI{x:AC}{Q:AE->St->Prop}:∀{a b:St},Weak m a b->J3 P m x Q b->J3 P m x Q a:=by induction x generalizing Q with|skip=>exact λh k=>W.from h k|region f=>exact λh k=>i6 h k|draw k f af=>exact λh k=>W.from h k|draw2 ord f af=>exact λh k=>W.from h k|seq a b d e=>exact λh k=>d h k|cond c a b d e=>exact λh k=>W.from h k|block id a d=>exact λh k=>d h k|loop a d=>exact λh k=>W.from h k|exit id=>exact λh k=>W.from h k|ret=>exact λh k=>W.from h k
theorem j8{fr:List (Nat×V)}:∀{l:List Nat} {k:Nat} {v:V},lk (cV fr l) k=some v->k∈l/\lk fr k=some v/\v.isD=true
 |[],k,v,h=>by cases h
 |j::l,k,v,h=>by
  simp only[cV]at h;split at h
  ·rename_i u d;cases hd:u.isD;·rw[hd]at h;obtain⟨a,b⟩:=j8 h;exact⟨o_ _ a,b⟩
   ·rw[hd]at h;simp only[cond_true,lk,fI]at h;by_cases c:k=j;·subst c;rw[decide_eq_true rfl]at h;simp only[cond_true,k_]at h;subst h;exact⟨C_ ..,d,hd⟩
    ·rw[decide_eq_false c]at h;obtain⟨a,b⟩:=j8 h;exact⟨o_ _ a,b⟩
  ·obtain⟨a,b⟩:=j8 h;exact⟨o_ _ a,b⟩
theorem mo:∀(l:List Slot) (c:HL l) (b:S) (k:Nat),(∀t,Slot.tm k t∉l)->lk (unpack l c b).fr k=lk b.fr k
 |[],_,_,_,_=>rfl
 | .tm j t::l,c,b,k,h=>by
  have:=mo l c.2 ⟨(j,.d t c.1)::b.fr,b.hp⟩ k λt a=>h t (o_ _ a);show lk (unpack l c.2 ⟨(j,.d t c.1)::b.fr,b.hp⟩).fr k=_;rw[this];simp only[lk,fI];rw[decide_eq_false];·rfl
  ·rintro rfl;exact h t (C_ ..)
 | .cell _ _ _::l,c,b,k,h=>mo l c.2 _ k λt a=>h t (o_ _ a)
 | .vec _ _ _::l,c,b,k,h=>mo l c.2 _ k λt a=>h t (o_ _ a)
 | .map _ _ _ _ _::l,c,b,k,h=>mo l c.2 _ k λt a=>h t (o_ _ a)
 | .tree _ _ _ _::l,c,b,k,h=>mo l c.2 _ k λt a=>h t (o_ _ a)
 | .treeH _ _ _ _ _ _::l,c,b,k,h=>mo l c.2 _ k λt a=>h t (o_ _ a)
theorem M7{A:List Nat}{fr:List (Nat×V)}{k:Nat}(h:ow A fr k=true):k∈A\/∃v,lk fr k=some v/\v.isD=false:=by
 simp only[ow,A_]at h;rcases h with h|h;·exact .inl (inL_mem.1 h)
 ·split at h;·rename_i v a;exact .inr ⟨v,a,by simpa using h⟩
  ·cases h
theorem Va{fr:List (Nat×V)}{k:Nat}(h:lk fr k≠none):∃v,(k,v)∈fr:=by cases a:lk fr k with|none=>exact absurd a h|some v=>exact⟨v,EA a⟩
structure OkAt(sh:Sh)(A:List Nat)(s:S):Prop where
 keep:∀k∈sh.keep,k∉A
 tm:∀k t,Slot.tm k t∈sh.sl->ow A s.fr k=true
 sk:∀x∈sh.sk.fr,ow A s.fr x.1=true
theorem Oo{sh:Sh}{A:List Nat}{s:S}(h:sh.okAt A s=true):OkAt sh A s:=by simp only[Sh.okAt,a_,j_,y_]at h;refine⟨λk a e=>?_,λk t a=>h.1.2 _ a,h.2⟩;have:=h.1.1 k a;rw[inL_mem.2 e]at this;cases this
theorem QJ{sh:Sh}{A:List Nat}{s:S}(j:OkAt sh A s)(c:HL sh.sl){k:Nat}(n:k∉A):(∀v,lk s.fr k=some v->v.isD=true->lk (unpack sh.sl c (sh.base s)).fr k=lk (cV s.fr sh.keep) k)/\(lk s.fr k=none->lk (unpack sh.sl c (sh.base s)).fr k=none):=by
 have a:(∀v,lk s.fr k=some v->v.isD=true)->ow A s.fr k≠true:=λhd e=>by
  rcases M7 e with h|⟨v,l,g⟩;·exact n h
  ·rw[hd v l]at g;cases g
 have step:(∀v,lk s.fr k=some v->v.isD=true)->lk (unpack sh.sl c (sh.base s)).fr k=lk (cV s.fr sh.keep) k:=λhd=>by
  rw[mo _ _ _ _ λt p=>a hd (j.tm k t p)];show lk (cV s.fr sh.keep++sh.sk.fr) k=_;rw[HN];have:lk sh.sk.fr k=none:=ap_ λe=>by obtain⟨v,f⟩:=Va e;exact a hd (j.sk _ f)
  rw[this];cases lk (cV s.fr sh.keep) k<;>rfl
 refine⟨λv f hd=>step λu b=>by rw[f]at b;cases b;exact hd,λhn=>?_⟩;rw[step λu b=>by rw[hn]at b;cases b];cases d:lk (cV s.fr sh.keep) k with|none=>rfl|some v=>have:=(j8 d).2.1;rw[hn]at this;cases this
theorem DL{sh:Sh}{A:List Nat}{s:S}(g:OkAt sh A s)(c:HL sh.sl):Keeps A s (unpack sh.sl c (sh.base s)):=λk f=>by obtain⟨d,e⟩:=QJ g c f;refine⟨λv b hd=>?_,e⟩;rw[d v b hd];cases a:lk (cV s.fr sh.keep) k with|none=>exact .inr rfl|some u=>have:=(j8 a).2.1;rw[b]at this;exact .inl this.symm
theorem kept{sh:Sh}{A:List Nat}{s s':S}{c:HL sh.sl}(j:OkAt sh A s)(g:Keeps A s s')(hp:pack sh s'=some c):∀k v,lk (cV s.fr sh.keep) k=some v->lk s'.fr k=some v:=λk v h=>by
 obtain⟨b,e,f⟩:=j8 h;rcases(g k (j.keep k b)).1 v e f with a|a;·exact a
 ·unfold pack at hp;split at hp;·rename_i d;simp only[a_,j_]at d;have:=d.2 k b;simp only[Q5,a]at this;cases this
  ·cases hp
theorem zZ{R:Type}{s s':S}{κ:Nat->S->Option R}{r:R}:∀{xs:List (Nat×Sh)} {key:Nat} {c:XT xs},inj xs key s'=some c->jt s κ xs c=some r->∃sh,(key,sh)∈xs/\∃d:HL sh.sl,pack sh s'=some d/\κ key (unpack sh.sl d (sh.base s))=some r
 |[],key,c,h,_=>by cases h
 |[(k,sh)],key,c,h,hd=>by
  simp only[inj,fI]at h;by_cases e:k=key;·subst e;rw[decide_eq_true rfl]at h;exact⟨sh,C_ ..,c,h,hd⟩
  ·rw[decide_eq_false e]at h;cases h
 |(k,sh)::a::l,key,c,h,hd=>by
  simp only[inj,fI]at h;by_cases e:k=key
  ·subst e;rw[decide_eq_true rfl]at h;simp only[cond_true]at h;split at h;·rename_i d b;cases h;exact⟨sh,C_ ..,d,b,hd⟩
   ·cases h
  ·rw[decide_eq_false e]at h;simp only[cond_false]at h;split at h;·rename_i d b;cases h;obtain⟨f,g,j⟩:=zZ (xs:=a::l) b hd;exact⟨f,o_ _ g,j⟩
   ·cases h
structure Post(D2:Prop)(m:Nat)(A:List Nat)(s:S){R:Type}(Q:AE->St->Prop)(kn:S->Option R)(kx:Nat->S->Option R)(kr kp:S->Option R)(r:R):Prop where
 n:∀s',Keeps A s s'->kn s'=some r->W m (Q .normal) (enc s')
 x:∀i s',Keeps A s s'->kx i s'=some r->W m (Q (.exit i)) (enc s')
 rt:∀s',Keeps A s s'->kr s'=some r->W m (Q .ret) (enc s')
 p:∀s',Keeps A s s'->kp s'=some r->Q .pan (enc s')
 c:∀st,W m (Q .pan) st->Q .pan st
 d:D2->∀st st',Q .pan st->Q .pan st'
theorem Post.sub{D2:Prop}{A B:List Nat}{s:S}{R:Type}{Q:AE->St->Prop}{kn:S->Option R}{kx:Nat->S->Option R}{kr kp:S->Option R}{r:R}(h:Post D2 m A s Q kn kx kr kp r)(hs:∀k∈B,k∈A):Post D2 m B s Q kn kx kr kp r:=⟨λs' z=>h.n s' (z.sub hs),λi s' z=>h.x i s' (z.sub hs),λs' z=>h.rt s' (z.sub hs),λs' z=>h.p s' (z.sub hs),h.c,h.d⟩
theorem Post.from{D2:Prop}{A:List Nat}{s H:S}{R:Type}{Q:AE->St->Prop}{kn:S->Option R}{kx:Nat->S->Option R}{kr kp:S->Option R}{r:R}(h:Post D2 m A s Q kn kx kr kp r)(z:Keeps A s H):Post D2 m A H Q kn kx kr kp r:=⟨λs' E=>h.n s' (z.trans E),λi s' E=>h.x i s' (z.trans E),λs' E=>h.rt s' (z.trans E),λs' E=>h.p s' (z.trans E),h.c,h.d⟩
theorem MN{D2:Prop}{A:List Nat}{s s':S}{R:Type}{Q:AE->St->Prop}{kn:S->Option R}{kx:Nat->S->Option R}{kr kp:S->Option R}{r:R}{xs:List (Nat×Sh)}{c:XT xs}{key:Nat}(a:Post D2 m A s Q kn kx kr kp r)(j:Ve xs=true)(h:xs.all (λx=>x.2.okAt A s)=true) (u:Keeps A s s') (p:inj xs key s'=some c) (hd:jt s (λkey s=>match key with|0=>kn s|1=>kr s|2=>kp s|i+3=>kx i s) xs c=some r): match key with|0=>W m (Q .normal) (enc s')|1=>W m (Q .ret) (enc s')|2=>Q .pan (enc s')|i+3=>W m (Q (.exit i)) (enc s'):=by
 obtain⟨sh,k,n,l,b⟩:=zZ p hd
 have f:=Oo (j_.1 h _ k)
 have g:sh.wfB=true:=j_.1 j _ k
 have e:=(Jr (s0:=s) g l (kept f u l)).weak (m:=m)
 have d:=DL f n
 match key,b with|0,b=>exact W.from e (a.n _ d b)|1,b=>exact W.from e (a.rt _ d b)|2,b=>exact a.c _ (W.to _ e (a.p _ d b))|i+3,b=>exact W.from e (a.x i _ d b)
theorem vP{D2:Prop}(hO:OracleOk P O):∀(M:TC) (R:Type) (s:S) (kn:S->Option R) (kx:Nat->S->Option R) (kr kp:S->Option R) (r:R) (Q:AE->St->Prop),M.wf P m=true->(M.noD2=false->D2)->CU O n R M s kn kx kr kp=some r->Post D2 m M.asg s Q kn kx kr kp r->J3 P m M.er Q (enc s):=by
 intro M;induction M with
 |skip=>intro R s kn kx kr kp r Q _ _ h hp;exact hp.n s (Keeps.refl _ _) h|region ops=>intro R s kn kx kr kp r Q g y h hp;simp only[TC.wf,a_]at g;exact iT hO ops R s kn kp r _ _ g.1.1 g.1.2 g.2 h (λs' d f=>hp.n s' d f) λs' d f=>hp.p s' d f|draw k ops af=>intro R s kn kx kr kp r Q g y h hp;simp only[TC.wf,a_]at g;exact W.mk (Pk hO ops k R s kn kp r _ _ _ g.2 g.1.1.1 g.1.1.2 g.1.2 h (Ext.refl _) (λs' d f=>hp.n s' d f) λs' d f=>hp.p s' d f)|draw2 r0 pre tl af=>
  intro R s kn kx kr kp r Q g y h hp;simp only[TC.wf,a_,decide_eq_true_eq]at g;obtain⟨⟨⟨⟨⟨⟨w1,w2⟩,w3⟩,w4⟩,w5⟩,w6⟩,w7⟩:=g;have B:∀k,k∈oM pre\/k∈tl.asg->k∈(TC.draw2 r0 pre tl af).asg:=λk d=>d_.2 d;refine W.to _ (Ij (s:=s) r0) ?_;have hl:(GC pre).length=pre.length:=by simp[GC]
  have hd:(GC pre++tl.er none).drop (pre.map λp=>(p.j,p.b)).length=tl.er none:=by rw[f_,<-hl];exact List.drop_left
  have hm:((pre.map λp=>(p.j,p.b)).map λu=>(u.1,u.2,(GC pre++tl.er none).getD u.1 default))=pre.map λp=>(p.j,p.b,p.so):=by rw[O_];refine Y_ λp U=>?_;simp only[Function.comp];rw[Re w6 U (by simpa using j_.1 w7 p U)]
  show sH P _ (λst=>sops P m ((GC pre++tl.er none).drop (pre.map λp=>(p.j,p.b)).length) st (Q .normal) (Q .pan)) _ [] _ _;rw[hm,hd];have k0:∀{A:List Nat} {s':S},Keeps A ⟨s.fr,s.hp++S_ r0 .free⟩ s'->Keeps A s s':=λd=>(Keeps.fr (s':=⟨s.fr,s.hp++S_ r0 .free⟩) rfl).trans d;refine Pp hO pre [] _ _ kp r w4 w5 (λa el=>by cases el) h (λs' d f=>?_) λs' d f=>?_;·exact iT hO tl R s' kn kp r _ _ w1 w2 w3 f (λs2 H F=>hp.n s2 (((k0 d).sub λk d=>B k (.inl d)).trans (H.sub λk d=>B k (.inr d))) F) λs2 H F=>hp.p s2 (((k0 d).sub λk d=>B k (.inl d)).trans (H.sub λk d=>B k (.inr d))) F
  ·exact λst=>hp.d (y rfl) _ _ (hp.p s' ((k0 d).sub λk d=>B k (.inl d)) f)
 |regL pre=>intro R s kn kx kr kp r Q g y h hp;exact Bz hO pre s kn kp r g h (λs' d f=>hp.n s' d f) λs' d f=>hp.p s' d f|seq a b j L=>intro R s kn kx kr kp r Q g y h hp;simp only[TC.wf,a_]at g;have B:∀k∈a.asg,k∈(TC.seq a b).asg:=λk d=>D_ _ d;have hb:∀k∈b.asg,k∈(TC.seq a b).asg:=λk d=>H_ _ d;refine j R s _ kx kr kp r (AE.then m (J3 P m b.er Q) Q) g.1 (λe=>y (by rw[TC.noD2,e];rfl)) h ⟨λs' d f=>?_,λi s' d f=>hp.x i s' (d.sub B) f,λs' d f=>hp.rt s' (d.sub B) f,λs' d f=>hp.p s' (d.sub B) f,hp.c,hp.d⟩;exact W.mk (W.mk (L R s' kn kx kr kp r Q g.2 (λe=>y (by rw[TC.noD2,e,aT_])) f ((hp.from (d.sub B)).sub hb)))|cond x a b j L=>
  intro R s kn kx kr kp r Q g y h hp;simp only[TC.wf,a_]at g;have B:∀k∈a.asg,k∈(TC.cond x a b).asg:=λk d=>D_ _ d;have hb:∀k∈b.asg,k∈(TC.cond x a b).asg:=λk d=>H_ _ d;simp only[CU]at h;split at h
  ·rename_i t hx;refine W.mk ⟨_,au g.1.1 hx,_,rfl,t,rfl,λe=>?_,λe=>?_⟩;·subst e;exact j R s kn kx kr kp r Q g.1.2 (λe=>y (by rw[TC.noD2,e];rfl)) h (hp.sub B)
   ·subst e;exact L R s kn kx kr kp r Q g.2 (λe=>y (by rw[TC.noD2,e,aT_])) h (hp.sub hb)
  ·cases h
 |block id a j=>
  intro R s kn kx kr kp r Q g y h hp;refine j R s kn _ kr kp r (AE.inBlock id Q) g y h ⟨hp.n,λi s' d f=>?_,hp.rt,hp.p,hp.c,hp.d⟩;have C:(bif n_ i id then kn s' else kx i s')=some r:=f;rw[fI]at C;show W m (λst=>if i=id then Q .normal st else Q (.exit i) st) (enc s');by_cases hi:i=id;·subst hi;rw[decide_eq_true rfl]at C;simp only[if_true];exact hp.n s' d C
  ·rw[decide_eq_false hi]at C;simp only[if_neg hi];exact hp.x i s' d C
 |loop sh xs a j=>
  intro R s kn kx kr kp r Q g y h hp;simp only[TC.wf,a_]at g;obtain⟨⟨Y,J⟩,gc⟩:=g;simp only[CU]at h;split at h
  ·rename_i c hc;obtain⟨w,h2⟩:=aN h;simp only[a_]at w;have E:=Oo w.1;obtain⟨t,ht,hd⟩:=ca h2;have T:Weak m (enc s) (enc (unpack sh.sl c (sh.base s))):=(Jr (s0:=s) Y hc λk v d=>(j8 d).2.1).weak;refine W.to _ T ⟨n,?_⟩;have key:∀(N:Nat) (c:HL sh.sl),a8 N (λc=>CU O n (HL sh.sl⊕XT xs) a (unpack sh.sl c (sh.base s)) (λs=>match pack sh s with|some c=>some (.inl c)|none=>none) (λi s=>match inj xs (i+3) s with|some c=>some (.inr c)|none=>none) (λs=>match inj xs 1 s with|some c=>some (.inr c)|none=>none) (λs=>match inj xs 2 s with|some c=>some (.inr c)|none=>none)) c=some t->Kp m (J3 P m a.er) Q N (enc (unpack sh.sl c (sh.base s))):=by
    intro N
    induction N with
    |zero=>intro c h;cases h|succ N ph=>
     intro c h;simp only[a8]at h;obtain⟨o,ho,h1⟩:=ca h;have D:=DL E c;refine j _ (unpack sh.sl c (sh.base s)) _ _ _ _ o (AE.then m (Kp m (J3 P m a.er) Q N) Q) gc y ho ⟨λs' d f=>?_,λi s' d f=>?_,λs' d f=>?_,λs' d f=>?_,hp.c,hp.d⟩
     ·split at f;·rename_i c' z;cases f;exact W.mk (W.to _ (Jr (s0:=s) Y z (kept E (D.trans d) z)).weak (ph c' h1))
      ·cases f
     ·split at f;·rename_i c' z;cases f;cases h1;exact MN hp J w.2 (D.trans d) z hd
      ·cases f
     ·split at f;·rename_i c' z;cases f;cases h1;exact MN hp J w.2 (D.trans d) z hd
      ·cases f
     ·split at f;·rename_i c' z;cases f;cases h1;exact MN hp J w.2 (D.trans d) z hd
      ·cases f
   exact key n c ht
  ·cases h
 |exit id=>intro R s kn kx kr kp r Q _ _ h hp;exact hp.x id s (Keeps.refl _ _) h|ret=>intro R s kn kx kr kp r Q _ _ h hp;exact hp.rt s (Keeps.refl _ _) h|adj l a j=>intro R s kn kx kr kp r Q g y h hp;simp only[TC.wf,a_]at g;simp only[CU]at h;obtain⟨s1,I,h⟩:=y8 h;obtain⟨e1,e2⟩:=rV g.1 I;exact QI e1 (j R s1 kn kx kr kp r Q g.2 y h (hp.from (e2 _)))
 |after a l j=>intro R s kn kx kr kp r Q g y h hp;simp only[TC.wf,a_]at g;refine j R s _ kx kr kp r Q g.2 y h ⟨λs' d f=>?_,hp.x,hp.rt,hp.p,hp.c,hp.d⟩;obtain⟨s1,I,f⟩:=y8 f;obtain⟨e1,e2⟩:=rV g.1 I;exact W.from e1 (hp.n s1 (d.trans (e2 _)) f)
 |cut xs a j=>intro R s kn kx kr kp r Q g y h hp;simp only[TC.wf,a_]at g;simp only[CU]at h;obtain⟨w,h2⟩:=aN h;obtain⟨t,ht,hd⟩:=ca h2;exact j _ s _ _ _ _ t Q g.2 y ht ⟨λs' d f=>MN hp g.1 w d f hd,λi s' d f=>MN hp g.1 w d f hd,λs' d f=>MN hp g.1 w d f hd,λs' d f=>MN hp g.1 w d f hd,hp.c,hp.d⟩
end
def Wp{α:Type}(m:Nat->Option α)(Q:α->Prop):Prop:=∃a,Q a/\∃b,∀n,b<=n->m n=some a
def Conv(tbl:Nat->Option Fun')(f:Nat)(ars:List V)(os:List Ob)(Q:Option S->Prop):Prop:=Wp (λn=>qW tbl n f ars os) Q
section
variable {α β:Type}
theorem aa{a:α}{Q:α->Prop}(h:Q a):Wp (λ_=>some a) Q:=⟨a,h,0,λ_ _=>rfl⟩
theorem aj{m:Nat->Option α}{f:Nat->α->Option β}{Q:β->Prop}(h:Wp m λa=>Wp (λn=>f n a) Q):Wp (λn=>M_ (m n) (f n)) Q:=by obtain⟨a,⟨b,g,k,d⟩,j,c⟩:=h;refine⟨b,g,max j k,λn hn=>?_⟩;have e:=c n (by omega);show M_ (m n) (f n)=_;rw[e];exact d n (by omega)
theorem wp_mono{m:Nat->Option α}{Q b:α->Prop}(h:Wp m Q)(d:∀a,Q a->b a):Wp m b:=let⟨a,c,r⟩:=h;⟨a,d a c,r⟩
theorem aL{b:Bool}{m:Nat->Option α}{Q:α->Prop}(a:b=true)(h:Wp m Q):Wp (λn=>aK b (m n)) Q:=by subst a;exact h
theorem aw{b:Bool}{m k:Nat->Option α}{Q:α->Prop}(c:b=true->Wp m Q)(a:b=false->Wp k Q):Wp (λn=>bif b then m n else k n) Q:=by
 cases b;·exact a rfl
 ·exact c rfl
theorem qU{xs:List α}{i:Int}{f:Nat->α->Option β}{Q:β->Prop}{x:α}(a:0<=i)(b:xs[i.toNat]? =some x)(h:Wp (λn=>f n x) Q):Wp (λn=>M_ (bF xs i) (f n)) Q:=by
 have:bF xs i=some x:=by simp[bF,a,b]
 rw[show(λn=>M_ (bF xs i) (f n))=λn=>f n x by funext n;rw[this];rfl];exact h
theorem Fl{xs:List α}{i:Nat}{f:Nat->α->Option β}{Q:β->Prop}{x:α}(a:xs[i]? =some x)(h:Wp (λn=>f n x) Q):Wp (λn=>M_ xs[i]? (f n)) Q:=by rw[show(λn=>M_ xs[i]? (f n))=λn=>f n x by funext n;rw[a];rfl];exact h
theorem wp_loop{σ τ:Type}{body:Nat->σ->Option (σ⊕τ)}{s0:σ}{Q:τ->Prop}(I:σ->Prop)(c:σ->Nat)(l:I s0) (h:∀s,I s->Wp (λn=>body n s) λr=>match r with| .inl s'=>I s'/\c s'<c s| .inr t=>Q t):Wp (λn=>a8 n (body n) s0) Q:=by
 have key:∀(k:Nat) (s:σ),I s->c s<=k->∃t,Q t/\∃b,∀n m,b<=n->k+1<=m->a8 m (body n) s=some t:=by
  intro k;induction k with
  |zero=>intro s hs p;obtain⟨r,hr,b,hn⟩:=h s hs;cases r with|inl s'=>have:=hr.2;omega|inr t=>refine⟨t,hr,b,λn m d j=>?_⟩;obtain⟨a,rfl⟩:∃a,m=a+1:=⟨m - 1,by omega⟩;simp only[a8];have e:body n s=_:=hn n d;rw[e];rfl
  |succ k v=>
   intro s hs p;obtain⟨r,hr,b,hn⟩:=h s hs;cases r with
   |inl s'=>obtain⟨t,g,w,f⟩:=v s' hr.1 (by have:=hr.2;omega);refine⟨t,g,max b w,λn m d j=>?_⟩;obtain⟨a,rfl⟩:∃a,m=a+1:=⟨m - 1,by omega⟩;simp only[a8];have e:body n s=_:=hn n (by omega);rw[e];exact f n a (by omega) (by omega)
   |inr t=>refine⟨t,hr,b,λn m d j=>?_⟩;obtain⟨a,rfl⟩:∃a,m=a+1:=⟨m - 1,by omega⟩;simp only[a8];have e:body n s=_:=hn n d;rw[e];rfl
 obtain⟨t,g,b,hn⟩:=key (c s0) s0 l (ar_ _);exact⟨t,g,max b (c s0+1),λn u=>hn n n (by omega) (by omega)⟩
end
section
variable {tbl:Nat->Option Fun'}
theorem aE{f:Nat}{c:TF}{ars:List V}{os:List Ob}{G:ak->Nat->Option (Option S)}{Q:Option S->Prop}(d:tbl f=some (.code c))(hl:(n_ os.length c.m&&aq_ ars.length c.ntmps)=true)(e:∀O n,bp O n c ars os=G O n)(h:Wp (λn=>G (qW tbl n) n) Q):Conv tbl f ars os Q:=by obtain⟨a,b,g,hn⟩:=h;refine⟨a,b,g+1,λn j=>?_⟩;obtain⟨m,rfl⟩:∃m,n=m+1:=⟨n - 1,by omega⟩;simp only[qW,d,hl,cond_true];rw[e];exact hn m (by omega)
theorem QR{f:Nat}{d:TD}{ars:List V}{G:ak->Nat->Option (Option S)}{Q:Option S->Prop}(e:tbl f=some (.dfr d))(hl:aq_ ars.length d.c.ntmps=true)(g:∀O n,Pm O n d ars=G O n)(h:Wp (λn=>G (qW tbl n) n) Q):Conv tbl f ars [] Q:=by
 obtain⟨a,c,j,hn⟩:=h;refine⟨a,c,j+1,λn k=>?_⟩;obtain⟨m,rfl⟩:∃m,n=m+1:=⟨n - 1,by omega⟩;have b:(n_ ([]:List Ob).length 0&&aq_ ars.length d.c.ntmps)=true:=by rw[hl];rfl
 simp only[qW,e,b,cond_true];rw[g];exact hn m (by omega)
def Cl(sh:Sh)(s:S):Option (HL sh.sl):=bif n_ s.fr.length sh.n&&HR sh.n s.fr then pack sh s else none
def aI(tbl:Nat->Option Fun')(f:Nat)(ars:List V)(os:List Ob)(sh:Sh)(c:HL sh.sl):Prop:=∃a,∀n,a<=n->aB (qW tbl n) f ars os sh=some c
theorem aA{f:Nat}{ars:List V}{os:List Ob}{sh:Sh}{c:HL sh.sl}(hp:Cl sh (gP sh c)=some c)(h:Conv tbl f ars os (·=some (gP sh c))):aI tbl f ars os sh c:=by obtain⟨o,rfl,b,hn⟩:=h;refine⟨b,λn a=>?_⟩;have e:qW tbl n f ars os=some (some (gP sh c)):=hn n a;unfold aB;rw[e];exact hp
theorem ao{f:Nat}{ars:List V}{os:List Ob}{sh:Sh}{β:Type}{k:Nat->HL sh.sl->Option β}{Q:β->Prop}{c:HL sh.sl}(h:aI tbl f ars os sh c)(a:Wp (λn=>k n c) Q):Wp (λn=>M_ (aB (qW tbl n) f ars os sh) (k n)) Q:=by obtain⟨b,hn⟩:=h;exact aj ⟨c,a,b,hn⟩
theorem Pg{f:Nat}{ars:List V}{os:List Ob}{Q a:Option S->Prop}(h:Conv tbl f ars os Q)(b:∀o,Q o->a o):Conv tbl f ars os a:=wp_mono h b
end
def RX.er:RX->RV
 | .tm t=>.tm t
 | .cell a t=>.cell a t.sz t.ag
structure Entry(P:Program)(f:Nat)(c:TF):Prop where
 body:∃fn,P.funcs[f]? =some fn/\fn.ntmps=c.ntmps/\fn.body.bind (bR P fn.ntmps)=some c.code.er.canon/\fn.results.toList.mapM (kJ P)=some (c.res.map RX.er)
 ok:(c.code.er.okB&&c.code.wf P c.m&&c.sh.wfB&&aq_ c.m c.sh.sk.hp.length)=true
theorem bI{P:Program}{f:Nat}{c:TF}{fn:Func}(a:P.funcs[f]? =some fn)(h:(fn.ntmps,fn.body.bind (bR P fn.ntmps),fn.results.toList.mapM (kJ P),(c.code.er.okB&&c.code.wf P c.m&&c.sh.wfB&&aq_ c.m c.sh.sk.hp.length))=(c.ntmps,some c.code.er.canon,some (c.res.map RX.er),true)):Entry P f c:=by simp only[aS_.injEq]at h;exact⟨⟨fn,a,h.1,h.2.1,h.2.2.1⟩,h.2.2.2⟩
section
variable {P:Program} {O:ak} {n:Nat}
theorem vh{s:S}:∀{l:List RX} {vs:List V},H1 s l=some vs->(l.map RX.er).mapM (GF (enc s))=some (vs.map aS)
 |[],vs,h=>by cases h;rfl
 | .tm t::l,vs,h=>by
  simp only[H1]at h;split at h
  ·rename_i v e;split at h
   ·rename_i us d;cases h;rw[l_,z_,vh d];have:GF (enc s) (RX.tm t).er=some (aS v):=by show Av.look (enc s).fr t=_;rw[bS,e];rfl
    rw[this];rfl
   ·cases h
  ·cases h
 | .cell a t::l,vs,h=>by
  simp only[H1]at h;split at h
  ·rename_i id off e;split at h
   ·rename_i tid cs j;obtain⟨g,b⟩:=aN h;have f:=g_ g;split at b
    ·rename_i us d;cases b;rw[l_,z_,vh d];have:GF (enc s) (RX.cell a t).er=some (aS (whole t ((cs.drop off).take t.sz))):=by
      show(Av.look (enc s).fr a).bind _=_;rw[bS,e];show(match(enc s).hp[id]? with
       |some (.box _ cs)=>if off+t.sz<=cs.length/\(t.ag=false->t.sz=1)then some (mR t.ag ((cs.drop off).take t.sz))else none
       |_=>none)=_
      rw[bA,j];show(if off+t.sz<=(cs.map aO).length/\(t.ag=false->t.sz=1)then some (mR t.ag (((cs.map aO).drop off).take t.sz))else none)=_;rw[if_pos ⟨by simpa using f,eA⟩,B0,aj_,aH_];intro c;exact BI f (eA c)
     rw[this];rfl
    ·cases b
   ·cases h
  ·cases h
theorem qS:∀(vs:List V) (k:Nat),(dh k vs).map (λx=>(x.1,aS x.2))=uj k (vs.map aS)
 |[],_=>rfl
 |v::vs,k=>by simp only[dh,l_,uj,qS vs (k+1)]
theorem Ci:∀(vs:List V) (k i:Nat),lk (dh k vs) (k+i)=vs[i]?
 |[],_,_=>by simp[dh,lk]
 |v::vs,k,i=>by simp only[dh,lk,fI];cases i with|zero=>simp|succ i=>rw[decide_eq_false (by omega:¬k+(i+1)=k)];simp only[cond_false,List.getElem?_cons_succ];rw[show k+(i+1)=(k+1)+i by omega];exact Ci vs (k+1) i
theorem jX:∀(l:List Slot) (c:HL l) (b:S),(unpack l c b).fr.length=b.fr.length+(l.filter λx=>match x with| .tm _ _=>true|_=>false).length
 |[],_,_=>rfl
 | .tm j t::l,c,b=>by show(unpack l c.2 ⟨(j,.d t c.1)::b.fr,b.hp⟩).fr.length=_;rw[jX l];simp only[B_,if_true,K_];omega
 | .cell id j t::l,c,b=>by show(unpack l c.2 ⟨b.fr,_⟩).fr.length=_;rw[jX l];simp[B_]
 | .vec _ _ _::l,c,b=>by show(unpack l c.2 ⟨b.fr,_⟩).fr.length=_;rw[jX l];simp[B_]
 | .map _ _ _ _ _::l,c,b=>by show(unpack l c.2 ⟨b.fr,_⟩).fr.length=_;rw[jX l];simp[B_]
 | .tree _ _ _ _::l,c,b=>by show(unpack l c.2 ⟨b.fr,_⟩).fr.length=_;rw[jX l];simp[B_]
 | .treeH _ _ _ _ _ _::l,c,b=>by show(unpack l c.2 ⟨b.fr,_⟩).fr.length=_;rw[jX l];simp[B_]
theorem RH(sh:Sh)(c:HL sh.sl):(gP sh c).fr.length=sh.n:=by unfold gP;rw[jX,base_nil];rfl
def Jq(v:V):BV:=match v with
 | .agg vs=>.pv ((aS (.agg vs)).toPV.getD .any)
 |v=>aO v
theorem Oq{v:V}(h:v.one=true):aS v= .b (Jq v)\/∃p,(aS v).toPV=some p/\Jq v= .pv p:=by
 cases v with
 |agg vs=>
  obtain⟨cs,hcs⟩:=vL vs h;have:(aS (.agg vs)).toPV=some (.agg cs):=by show((vs.map aO).mapM BV.toPV).map PV.agg=_;rw[hcs];rfl
  exact .inr ⟨_,this,by simp only[Jq,this];rfl⟩
 |tup vs=>cases h|_=>exact .inl rfl
theorem RG{v:V}(h:v.one=true):∀i∈(Jq v).ids,i∈v.ids:=λi a=>by
 rw[oQ];rcases Oq h with e|⟨p,_,e⟩;·rw[e];exact a
 ·rw[e]at a;cases a
theorem UP{v d:V}(h:v.one=true)(a:LeA (aS v) (aS d)):LeB (Jq v) (aO d):=by
 cases f:v.isA
 ·have e:Jq v=aO v:=by cases v<;>first|rfl|cases f
  rw[l7 f]at a;rw[e];exact TZ a
 ·cases v with
  |agg vs=>
   obtain⟨cs,hcs⟩:=vL vs h;have j:(AV.agg (vs.map aO)).toPV=some (.agg cs):=by show((vs.map aO).mapM BV.toPV).map PV.agg=_;rw[hcs];rfl
   have e:Jq (.agg vs)= .pv (.agg cs):=by show BV.pv ((AV.agg (vs.map aO)).toPV.getD .any)=_;rw[j];rfl
   rw[e];cases c:d.isA;·rw[l7 c]at a;generalize aO d=z at a⊢;have b:LeA (.agg (vs.map aO)) (.b z):=a;cases b with|data _ q g=>rw[j]at g;cases g;exact .refl _|any=>exact .any _
   ·cases d with|agg vs=>exact .any _|tup vs=>exact .any _|_=>cases c
  |tup vs=>cases h|_=>cases f
theorem BP{L:Nat}{x:BV}(h:∀i∈x.ids,i<L):x.ren ((R_ L).idxOf ·)=x:=by
 have key:∀i,i<L->(R_ L).idxOf i=i:=λi b=>by have d:=ql (ids:=R_ L) (i:=i) (L_.2 b);obtain⟨g,c⟩:=i_.1 d;rw[List.getElem_range]at c;exact c
 cases x<;>simp only[BV.ren]<;>simp only[BV.ids,p_,forall_eq]at h<;>first
  |rfl
  |(rw[key _ h])
  |skip
 rename_i f ids;congr 1;have:∀l:List Nat,(∀i∈l,i<L)->l.map ((R_ L).idxOf ·)=l:=by intro l hl;induction l with|nil=>rfl|cons a l e=>rw[l_,key a (hl a (by simp)),e λi b=>hl i (by simp[b])]
 exact this ids h
theorem sF{L:Nat}:∀{xs:List BV},(∀i∈xs.flatMap BV.ids,i<L)->xs.map (BV.ren ((R_ L).idxOf ·))=xs
 |[],_=>rfl
 |x::xs,h=>by rw[l_,BP λi a=>h i (by simp[a]),sF λi a=>h i (by simp only[af_,d_];exact .inr a)]
theorem Nk{L:Nat}{x:AV}(h:∀i∈x.ids,i<L):x.ren ((R_ L).idxOf ·)=x:=by cases x with|b x=>simp only[AV.ren,BP h]|agg xs=>simp only[AV.ren,sF h]|tup xs=>simp only[AV.ren,sF h]
theorem Nl{L:Nat}{o:AObj}(h:∀i∈o.ids,i<L):o.ren ((R_ L).idxOf ·)=o:=by
 cases o with
 |box t cs=>simp only[AObj.ren,sF h]|tree e sz k xs hole=>cases hole with|none=>rfl|some q=>obtain⟨i,j,b⟩:=q;simp only[AObj.ren,Jo,BP (show ∀i∈b.ids,i<L from h)]
 |_=>rfl
theorem Qb{m L T:Nat}{r:AV}{hp:List AObj}(l:L<=hp.length)(n:m<=L)(hr:∀i∈r.ids,i<L)(g:∀o∈hp.take L,∀i∈o.ids,i<L):Weak m ⟨[(T,r)],hp⟩ ⟨[(T,r)],hp.take L⟩:=by
 refine Mh (R_ L) List.nodup_range (λk a=>by rw[X_ (by omega)]) (λk y a=>⟨y,a,λi e=>?_,?_⟩) (by simp;omega) λj o' h=>?_
 ·simp only[Av.look]at a;split at a;·cases a;exact L_.2 (hr i e)
  ·cases a
 ·simp only[Av.look]at a;split at a;·cases a;rw[Nk hr]
  ·cases a
 ·have b:(hp.take L)[j]? =some o':=h;have f:=(i_.1 b).1;have d:j<L:=by rw[ah_]at f;omega
  have c:=r_ b;refine⟨j,o',by rw[X_ d],?_,λi e=>L_.2 (g o' c i e),(Nl (g o' c)).symm⟩;rw[Z_ d]at b;exact b
def Hh(o:Option S)(a:Dz):Prop:=match o with
 |some s=>a=some (aS (res s.fr.length s.fr),s.hp.map bC)
 |none=>a=none
theorem l9{c:TF}{s:S}{o:Option S}{m:Nat}(hw:c.sh.wfB=true)(hm:m<=c.sh.sk.hp.length)(h:Eo c s=some o):W m (Cg m (c.res.map RX.er) (Hh o) .normal) (enc s):=by
 unfold Eo at h;split at h
 ·rename_i vs ph;obtain⟨h1,J⟩:=aN h;simp only[a_,j_,A_]at h1;obtain⟨⟨⟨⟨g1,g2⟩,g3⟩,g4⟩,C⟩:=h1;have hL:=g_ g1;have hn:=b_ g4;generalize qr:c.sh.sk.hp.length=L at*;split at J
  ·rename_i x hx;unfold aH at J;cases J;have el:∀k v,lk (cV (⟨[],[]⟩:S).fr c.sh.keep) k=some v->lk (dh 0 vs) k=some v:=by intro k v e;have:=(j8 e).2.1;cases this
   have M:=EJ (s0:=⟨[],[]⟩) hw hx el;have hS:=M.le;have E:∀i,lk (dh 0 vs) i=vs[i]? :=λi=>by have:=Ci vs 0 i;rw[V_]at this;exact this
   have A:(gP c.sh x).hp.length=L:=by have:(s.hp.take L).length=(gP c.sh x).hp.length:=M.len;rw[<-this,ah_];omega
   obtain⟨r,r1,r2,r3⟩:∃r:AV,HF (vs.map aS) r/\(∀i∈r.ids,i<L)/\LeA r (aS (res (gP c.sh x).fr.length (gP c.sh x).fr)):=by
    rw[RH,hn];have z:∀v∈vs,∀i∈v.ids,i<L:=λv e i n=>g_ (g3 v e i n);have d:vs.length≠1->∃r:AV,(∃Q:List BV,r= .tup Q/\Q.length=(vs.map aS).length/\∀(i:Nat) (x:AV) (b:BV),(vs.map aS)[i]? =some x->Q[i]? =some b->x= .b b\/∃p,x.toPV=some p/\b= .pv p)/\(∀i∈r.ids,i<L)/\LeA r (aS (res vs.length (gP c.sh x).fr)):=by
     intro F;have f:∀v∈vs,v.one=true:=λv e=>by
      rcases C with C|C;·exact absurd (b_ C) F
      ·exact C v e
     refine⟨.tup (vs.map Jq),⟨_,rfl,by simp,λi y b hy l=>?_⟩,λi n=>?_,?_⟩;·simp only[h_,e_]at hy l;obtain⟨v,e,rfl⟩:=hy;obtain⟨P,I,rfl⟩:=l;rw[e]at I;cases I;exact Oq (f v (r_ e))
     ·obtain⟨b,l,U⟩:=u_.1 (show i∈(vs.map Jq).flatMap BV.ids from n);obtain⟨v,e,rfl⟩:=T_.1 l;exact z v e i (RG (f v e) i U)
     ·unfold res;have:n_ vs.length 1=false:=by rw[fI];exact decide_eq_false F
      rw[this];refine .tup _ _ (by simp[PT]) λi a b N l=>?_;simp only[PT,h_,e_]at N l;obtain⟨v,e,rfl⟩:=N;obtain⟨w,⟨j,hj,rfl⟩,rfl⟩:=l;have Y:=(i_.1 e).1;rw[X_ Y]at hj;cases hj;cases hl:lk (gP c.sh x).fr i with|none=>exact .any _|some P=>obtain⟨u,hu,B⟩:=M.fr i P hl;have g:lk (dh 0 vs) i=some u:=hu;rw[E,e]at g;cases g;exact UP (f v (r_ e)) B
    match vs,d with
    |[v0],_=>refine⟨aS v0,rfl,λi n=>z v0 (by simp) i (by rw[oQ];exact n),?_⟩;show LeA _ (aS ((lk (gP c.sh x).fr 0).getD .any));cases hl:lk (gP c.sh x).fr 0 with|none=>exact .any _|some P=>obtain⟨u,hu,B⟩:=M.fr 0 P hl;have g:lk (dh 0 [v0]) 0=some u:=hu;rw[E]at g;cases g;exact B
    |[],d=>exact d (by simp)|_::_::_,d=>exact d (by simp)
   refine W.mk (W.mk ⟨_,r,vh ph,r1,_,_,λT=>?_,rfl,by rw[f_,A];exact hm⟩);have R:L<=(enc s).hp.length:=by rw[nB];exact hL
   refine(Qb R hm r2 λo ho i n=>?_).trans (LeS.weak ⟨λk y O=>?_,?_,λi a b N l=>hS.hp i a b ?_ l⟩);·have H:o∈(s.hp.map bC).take L:=ho;rw[<-aj_]at H;obtain⟨o1,h3,rfl⟩:=T_.1 H;rw[<-Ej]at n;exact g_ (g2 o1 h3 i n)
   ·simp only[Av.look]at O⊢;split at O;·rename_i gc;cases O;exact⟨r,by rw[if_pos gc],r3⟩
    ·cases O
   ·show((s.hp.map bC).take L).length=((gP c.sh x).hp.map bC).length;rw[f_,A,ah_,f_];omega
   ·have D:((s.hp.map bC).take L)[i]? =some a:=N;rw[<-aj_]at D;exact D
  ·cases J
 ·cases h
theorem MX(z:P.follows .mixedOrders=true)(hO:OracleOk P O){f:Nat}{c:TF}{ars:List V}{os:List Ob}{o:Option S}(p:Entry P f c)(l:os.length=c.m)(b:ars.length<=c.ntmps)(h:bp O n c ars os=some o):ACalls P f (ars.map aS) (os.map bC) (Hh o):=by
 obtain⟨fn,u,w,g,y⟩:=p.body;obtain⟨code,v,x⟩:=q_.1 g;have e:=p.ok;simp only[a_]at e;obtain⟨⟨⟨A,B⟩,r⟩,C⟩:=e;have s:=g_ C;have k:(os.map bC).length=c.m:=by rw[f_,l]
 have d:(⟨uj 0 (ars.map aS),os.map bC⟩:St)=enc ⟨dh 0 ars,os⟩:=by simp only[enc,qS]
 refine O4 z u v x A y (by rw[f_,w];exact b) ?_;rw[d,k];refine vP (D2:=True) hO c.code (Option S) _ _ _ _ _ o _ B (λ_=>trivial) h ⟨λs' _ a=>l9 r s a,λi s' _ a=>(by cases a),λs' _ a=>l9 r s a,λs' _ a=>?_,λ_ ⟨_,_,j⟩=>j,λ_ _ _ j=>j⟩;cases a;exact rfl
structure EntryD(P:Program)(f:Nat)(d:TD):Prop where
 body:∃fn CA CB CH h j y3 p3 a3 y4 p4 a4,P.funcs[f]? =some fn/\fn.ntmps=d.c.ntmps/\
  fn.body=some (.seq CA (.seq (.region j #[⟨some d.t8,.makeFunc (.func h) #[] #[.tmp d.ta,.tmp d.tb],y3,p3,a3,none⟩,⟨none,.defer {callee:=.value (.tmp d.t8),args:= #[],argTypes:= #[]},y4,p4,a4,none⟩] false) CB))/\
  bR P fn.ntmps CA=some d.a.er.canon/\bR P fn.ntmps CB=some d.c.code.er.canon/\Catch P h CH/\bR P 5 CH=some d.h.er.canon/\fn.results.toList.mapM (kJ P)=some (d.c.res.map RX.er)
 ok:(d.a.er.okB&&d.a.wf P 0&&d.c.code.er.okB&&d.c.code.wf P 2&&d.h.er.okB&&d.h.wf P 2&&d.c.sh.wfB&&aq_ (d.t8+1) d.c.ntmps&&d.c.code.noD2)=true
theorem z8{s:S}{t i:Nat}(h:xy s t i=true):Av.look (enc s).fr t=some (.b (.ptr i 0)):=by
 unfold xy at h;split at h;·rename_i j o a;rw[a_]at h;rw[bS,a,b_ h.1,b_ h.2];rfl
 ·cases h
theorem UN{s:S}{t:Nat}(h:Wa s t=true):Av.look (enc s).fr t=none:=by
 unfold Wa at h;split at h;·cases h
 ·rename_i a;rw[bS,a];rfl
theorem sv{a:List RV}{K:Dz->Prop}{st:St}(h:W 0 (Cg 0 a K .normal) st):Cg 0 a K .normal st:=let⟨_,b,c⟩:=h;W.from b c
theorem MY(M:P.follows .mixedOrders=true)(hO:OracleOk P O){f:Nat}{d:TD}{ars:List V}{o:Option S}(u:EntryD P f d)(c:ars.length<=d.c.ntmps)(h:Pm O n d ars=some o):ACalls P f (ars.map aS) [] (Hh o):=by
 obtain⟨fn,CA,CB,CH,a,j,y3,p3,a3,y4,p4,a4,D,s,E,F,H,I,J,L⟩:=u.body;have k:=u.ok;simp only[a_]at k;obtain⟨⟨⟨⟨⟨⟨⟨⟨N,Q⟩,R⟩,T⟩,U⟩,Y⟩,l⟩,k8⟩,k9⟩:=k;have g:(⟨uj 0 (ars.map aS),[]⟩:St)=enc ⟨dh 0 ars,[]⟩:=by simp only[enc,qS,aX_]
 refine Mw M D E F N H R J U I L (by rw[f_,s];exact c) (by rw[s];exact g_ k8) ?_;rw[g];refine vP (D2:=True) hO d.a (Option S) _ _ _ _ _ o _ Q (λ_=>trivial) h ⟨λs1 _ a=>?_,λi s' _ a=>(by cases a),λs' _ a=>(by cases a),λs' _ a=>(by cases a),λ_ ⟨_,_,b,_⟩=>(by cases b),λ_ _ _ ⟨b,_⟩=>(by cases b)⟩;obtain⟨r,B⟩:=aN a;simp only[a_]at r;obtain⟨⟨⟨v,w⟩,x⟩,y⟩:=r;refine W.mk ⟨rfl,⟨UN x,z8 v,z8 w,by rw[nB];exact b_ y⟩,?_⟩;refine vP (D2:=False) hO d.c.code (Option S) _ _ _ _ _ o _ T (λe=>by rw[k9]at e;cases e) B ⟨λs' _ a=>?_,λi s' _ a=>(by cases a),λs' _ a=>?_,λs2 _ a=>?_,λst ⟨s1,z,A⟩=>W.from z A,λh=>h.elim⟩;·exact W.mk (sv (l9 l (ae_ _) a))
 ·exact W.mk (sv (l9 l (ae_ _) a))
 ·obtain⟨p,C⟩:=aN a;simp only[a_]at p;refine W.mk ⟨z8 p.1,z8 p.2,?_⟩;exact vP (D2:=True) hO d.h (Option S) _ _ _ _ _ o _ Y (λ_=>trivial) C ⟨λs' _ a=>W.mk ⟨.inl rfl,sv (l9 l (ae_ _) a)⟩,λi s' _ a=>(by cases a),λs' _ a=>W.mk ⟨.inr rfl,sv (l9 l (ae_ _) a)⟩,λs' _ a=>(by cases a),λ_ ⟨_,_,b,_⟩=>(by rcases b with b|b<;>cases b),λ_ _ _ ⟨b,_⟩=>(by rcases b with b|b<;>cases b)⟩
def Qv(P:Program)(f:Nat)(g:List V->Option S):Prop:=∀ars s,g ars=some s->ACalls P f (ars.map aS) [] (Hh (some s))
structure TblOk(P:Program)(tbl:Nat->Option Fun'):Prop where
 code:∀f c,tbl f=some (.code c)->Entry P (f%10000) c
 nat:∀f g,tbl f=some (.nat g)->Qv P (f%10000) g
 dfr:∀f d,tbl f=some (.dfr d)->EntryD P (f%10000) d
theorem HS(k:P.follows .mixedOrders=true){tbl:Nat->Option Fun'}(j:TblOk P tbl):∀n,OracleOk P (qW tbl n):=by
 have key:∀n f ars os o,qW tbl n f ars os=some o->ACalls P (f%10000) (ars.map aS) (os.map bC) (Hh o):=by
  intro n;induction n with
  |zero=>intro f ars os o h;cases h|succ n l=>
   intro f ars os o h;have hO:OracleOk P (qW tbl n):=⟨λf ars os s b=>l f ars os (some s) b,λf ars os b=>l f ars os none b⟩;simp only[qW]at h;split at h;·rename_i c hc;obtain⟨a,e⟩:=aN h;rw[a_]at a;exact MX k hO (j.code f c hc) (b_ a.1) (g_ a.2) e
   ·rename_i d hd;obtain⟨a,e⟩:=aN h;rw[a_]at a;obtain rfl:=List.eq_nil_of_length_eq_zero (b_ a.1);exact MY k hO (j.dfr f d hd) (g_ a.2) e
   ·rename_i g hg;split at h
    ·split at h;·rename_i s hs;cases h;exact j.nat f g hg ars s hs
     ·cases h
    ·cases h
   ·cases h
 exact λn=>⟨λf ars os s b=>key n f ars os (some s) b,λf ars os b=>key n f ars os none b⟩
theorem Km(d:P.follows .mixedOrders=true){tbl:Nat->Option Fun'}(c:TblOk P tbl){f:Nat}{ars:List V}{os:List Ob}{Q:Option S->Prop}(h:Conv tbl f ars os Q):∃o,Q o/\ACalls P (f%10000) (ars.map aS) (os.map bC) (Hh o):=by obtain⟨o,e,a,hn⟩:=h;have b:=hn a (ar_ _);refine⟨o,e,?_⟩;cases o with|some s=>exact(HS d c a).ret f ars os s b|none=>exact(HS d c a).pan f ars os b
def Lq:List (Nat×Fun')->Nat->Option Fun'
 |[],_=>none
 |(k,e)::l,f=>bif n_ f k then some e else Lq l f
def Wc(P:Program)(k:Nat):Fun'->Prop
 | .code c=>Entry P (k%10000) c
 | .dfr d=>EntryD P (k%10000) d
 | .nat g=>Qv P (k%10000) g
def AllOk(P:Program):List (Nat×Fun')->Prop
 |[]=>True
 |(k,e)::l=>Wc P k e/\AllOk P l
theorem AllOk.get{l:List (Nat×Fun')}(h:AllOk P l){f:Nat}{e:Fun'}(z:Lq l f=some e):Wc P f e:=by
 induction l with
 |nil=>cases z|cons x l H=>
  obtain⟨k,I⟩:=x;simp only[Lq,fI]at z;by_cases E:f=k;·subst E;rw[decide_eq_true rfl]at z;cases z;exact h.1
  ·rw[decide_eq_false E]at z;exact H h.2 z
theorem AllOk.tbl{l:List (Nat×Fun')}(h:AllOk P l):TblOk P (Lq l):=⟨λ_ _ z=>h.get z,λ_ _ z=>h.get z,λ_ _ z=>h.get z⟩
end
open Go Go.RowKit Go.Av Go.Deep Go.WideShapes
mutual
def RE:Rx->Prop
 | .mk k l h ks=>(IntKind.i64.min<=k/\k<=IntKind.i64.max)/\(IntKind.i64.min<=l/\l<=IntKind.i64.max)/\(IntKind.i64.min<=h/\h<=IntKind.i64.max)/\ks.length<=maxLen/\Lz ks
def Lz:List Rx->Prop
 |[]=>True
 |r::a=>RE r/\Lz a
end
def okD:(t:Ty)->t.den->Prop
 | .int k,x=>k.min<=x/\x<=k.max
 | .bool,_=>True
 | .str,x=>aP_ x<=maxLen
 | .list t,x=>aP_ x<=maxLen/\∀y∈x,okD t y
 | .unit,_=>True
 | .pair a b,x=>okD a x.1/\okD b x.2
 | .rx,x=>RE x
theorem BM:∀(l:List Rx),Lz l↔∀r∈l,RE r
 |[]=>by simp[Lz]
 |r::a=>by simp[Lz,BM a]
def kG:(t:Ty)->t.den->Nat
 | .int _,_=>1
 | .bool,_=>1
 | .str,x=>aP_ x+1
 | .list t,x=>(List.map (kG t) x).sum+1
 | .unit,_=>0
 | .pair a b,x=>kG a x.1+kG b x.2
 | .rx,_=>1
section
variable {H:Type}
mutual
def fK:DataW H->Nat
 | .lit (.string bytes)=>bytes.length+1
 | .lit _=>1
 | .nil=>1
 | .ptr d=>fK d+1
 | .slice b c=>nA b+nA c+1
 | .agg parts=>nA parts+1
 | .iface _ d=>fK d+1
 | .map a=>QL a+1
 | .held _=>1
def nA:List (DataW H)->Nat
 |[]=>0
 |d::r=>fK d+nA r
def QL:List (Lit×DataW H)->Nat
 |[]=>0
 |x::r=>UA x+QL r
def UA:Lit×DataW H->Nat
 |(.string bytes,d)=>bytes.length+fK d+1
 |(_,d)=>fK d+1
end
theorem vK(d:DataW H):1<=fK d:=by cases d with|lit l=>cases l<;>simp[fK]|nil=>simp[fK]|ptr d=>simp[fK]|slice b c=>simp[fK]|agg parts=>simp[fK]|iface t d=>simp[fK]|map a=>simp[fK]|held h=>simp[fK]
theorem KE{α β:Type}{f:α->Nat}{g:β->DataW H}:∀(xs:List α) (ds:List β),xs.length=ds.length->(∀(i:Nat) (x:α),xs[i]? =some x->∃d:β,ds[i]? =some d/\f x<=fK (g d))->(xs.map f).sum<=nA (ds.map g)
 |[],[],_,_=>ar_ _
 |x::xs,d::ds,hl,h=>by obtain⟨c,a,e⟩:=h 0 x rfl;cases a;have:=KE xs ds (by simpa using hl) λi x b=>h (i+1) x (by simpa using b);simp only[l_,List.sum_cons,nA];omega
 |[],_::_,h,_=>(by cases h)
 |_::_,[],h,_=>(by cases h)
end
def VU(P:Program)(t:TypeId):Bool:=match P.underlying t with
 |some (.struct d)=>match d.toList with
  |[a,b,f2,c]=>(match P.underlying a.type,P.underlying b.type,P.underlying f2.type,P.underlying c.type with
   |some (.int .i64),some (.int .i64),some (.int .i64),some (.slice e)=>n_ e t
   |_,_,_,_=>false)&&n_ a.offset 0&&n_ b.offset 1&&n_ f2.offset 2&&n_ c.offset 3&&
    n_ (P.cellsOf a.type) 1&&n_ (P.cellsOf b.type) 1&&n_ (P.cellsOf f2.type) 1&&n_ (P.cellsOf c.type) 1&&n_ (P.cellsOf t) 4
  |_=>false
 |_=>false
def Vj(P:Program)(c:TypeId->Ty->Bool):List Field->Nat->Ty->Bool
 |[],_,.unit=>true
 |f::l,off,.pair a b=>n_ f.offset off&&n_ (P.cellsOf f.type) a.sz&&c f.type a&&Vj P c l (off+a.sz) b
 |_,_,_=>false
def Vi(P:Program)(c:TypeId->Ty->Bool)(e:TypeId):Nat->Ty->Bool
 |0,.unit=>true
 |n+1,.pair a b=>n_ (P.cellsOf e) a.sz&&c e a&&Vi P c e n b
 |_,_=>false
def oU(P:Program):Nat->TypeId->Ty->Bool
 |0,_,_=>false
 |d+1,t,u=>match u with
  | .rx=>VU P t
  | .bool=>(match P.underlying t with|some .bool=>true|_=>false)
  | .int k=>(match P.underlying t with|some (.int c)=>decide (k=c)|_=>false)
  | .str=>(match P.underlying t with|some .string=>true|_=>false)
  | .list a=>(match P.underlying t with|some (.slice e)=>n_ (P.cellsOf e) a.sz&&aq_ 1 a.sz&&oU P d e a|_=>false)
  |u=>(match P.underlying t with
   |some (.struct b)=>n_ (P.cellsOf t) u.sz&&Vj P (oU P d) b.toList 0 u
   |some (.array n e)=>n_ (P.cellsOf t) u.sz&&Vi P (oU P d) e n u
   |_=>false)
theorem Og{α:Type}{p:Nat->α->Prop}:∀(n:Nat),(∀i,i<n->∃x,p i x)->∃xs:List α,xs.length=n/\∀i x,xs[i]? =some x->p i x
 |0,_=>⟨[],rfl,λi x h=>by simp at h⟩
 |n+1,h=>by
  obtain⟨xs,d,e⟩:=Og (p:=p) n λi b=>h i (by omega);obtain⟨x,f⟩:=h n (by omega);refine⟨xs++[x],by simp[d],λi y a=>?_⟩;rcases ak_ i xs.length with b|b;·rw[m_ b]at a;exact e i y a
  ·rw[t_ b]at a;have:i - xs.length=0:=by
    rcases Nat.eq_zero_or_pos (i - xs.length)with c|c;·exact c
    ·rw[List.getElem?_eq_none (show [x].length<=i - xs.length from c)]at a;cases a
   rw[this]at a;simp at a;subst a;have:i=n:=by omega
   subst this;exact f
section
variable {H:Type} {enc:TypeId×Value->H} {P:Program} {w:World}
abbrev Rd(w:World)(u:Ty)(cs:List Value)(x:u.den):Prop:=okD u x/\cs.length=u.sz/\∀(j:Nat) (y:PV),(aC u x)[j]? =some y->∃c,cs[j]? =some c/\RelP (λb=>b<w.heap.size) w c y
theorem Jj{k:IntKind}{n:Int}(b:(Lit.int k n).wf=true):Rd w (.int k) [.int k n] n:=by
 refine⟨?_,rfl,λj y a=>?_⟩;·show k.min<=n/\n<=k.max;simpa[Lit.wf]using b
 ·match j,a with|0,a=>cases a;exact⟨_,rfl,.sc _⟩
theorem LO{a:Ty}{e:TypeId}{n:Nat}{cs:List Value}{x:DataW H×List MemPlace}{t:TypeId}(ht:P.underlying t=some (.slice e))(L:P.cellsOf e=a.sz)(Q:1<=a.sz) (ih:∀(m:Nat) (cs:List Value) (d:DataW H) (ps:List MemPlace),m<n->DataW.trod enc P w 0 (λ_=>true) true m e cs=some (d,ps)->(∀p∈ps,p.block<w.heap.size)->∃x:a.den,Rd w a cs x/\kG a x<=fK d) (h:DataW.trod enc P w 0 (λ_=>true) true n t cs=some x) (N:∀p∈x.2,p.block<w.heap.size):∃xs:List a.den,Rd w (.list a) cs xs/\kG (.list a) xs<=fK x.1:=by
 have h':=DataW.trod_slice ht h;obtain⟨X,hX⟩:∃X,X=x:=⟨_,rfl⟩;rcases open_slice ht h with⟨rfl,_⟩|⟨F,len,cap,m,n',D,Pl,rfl,_,hl,hm,O,rfl,R⟩
 ·refine⟨[],⟨⟨ae_ _,λy l=>by cases l⟩,rfl,λj y l=>?_⟩,vK _⟩
  match j,l with|0,l=>cases l;exact⟨_,rfl,.nil none 0⟩
 ·simp only[if_true]at O;subst O;obtain⟨k,rest,E,ph,v,M,s⟩:∃(k rest:List (DataW H×List MemPlace)) (E:Nat),E<n/\X=(.slice (k.map (·.1)) (rest.map (·.1)),MemPlace.row F ((k.length+rest.length)*P.cellsOf e)++(k++rest).flatMap (·.2))/\k.length=len/\∀i,i<len->(w.cells? 0 (F.add (i*P.cellsOf e)) (P.cellsOf e)).bind (DataW.trod enc P w 0 (λ_=>true) true E e)=k[i]? :=by
   rcases h' with⟨hc,_⟩|⟨a',ur,rg,k,rest,E,rfl,hc,v,_,_,_,M,s,_⟩
   ·simp at hc
   ·simp only[List.cons.injEq,Value.slice.injEq,k_,and_true]at hc;obtain⟨rfl,rfl,rfl⟩:=hc;exact⟨k,rest,E,by omega,hX.trans v,M,s⟩
  have step:∀i,i<len->∃x:a.den,(∃d,k[i]? =some d/\kG a x<=fK d.1)/\∃r,w.cells? 0 (F.add (i*a.sz)) a.sz=some r/\Rd w a r x:=by
   intro i hi;have Y:=s i hi;rw[c_ (by omega)]at Y;obtain⟨r,J,h6⟩:=q_.1 Y;rw[L]at J;obtain⟨y,l,hb⟩:=ih E r _ _ ph h6 λp hp=>by have h8:(k[i]:DataW H×List MemPlace)∈k++rest:=D_ _ (ag_ _);have h9:p∈(k++rest).flatMap (·.2):=u_.2 ⟨_,h8,hp⟩;have I:=congrArg Prod.snd (hX.symm.trans v);simp only at I;refine N p ?_;simp only;rw[I];exact H_ _ h9
   exact⟨y,⟨_,c_ (by omega),hb⟩,r,J,l⟩
  obtain⟨xs,T,u⟩:=Og len step;have B:kG (.list a) xs<=fK (DataW.slice (H:=H) (k.map (·.1)) (rest.map (·.1))):=by have:=KE (f:=kG a) (g:=λd:DataW H×List MemPlace=>d.1) xs k (by omega) λi x R=>(u i x R).1;simp only[kG,fK];omega
  refine⟨xs,⟨⟨by rw[T];omega,λy l=>?_⟩,rfl,λj y l=>?_⟩,by have A:=congrArg Prod.fst (hX.symm.trans v);simp only at A⊢;rw[A];exact B⟩;·obtain⟨i,hi⟩:=aE_ l;obtain⟨_,r,_,h2⟩:=u i y hi;exact h2.1
  ·rw[dc (t:=.list a) xs rfl]at l
   match j,l with
   |0,l=>
    cases l;refine⟨_,rfl,?_⟩;have z:(xs.map (aG a)).length=len:=by rw[f_,T]
    show RelP _ w (.slice (some F) len m) (mb a.sz (xs.map (aG a)));rw[<-z];refine f7 (by omega) λhp=>?_;rw[z]at hp;obtain⟨x0,qr⟩:∃x0,xs[0]? =some x0:=⟨xs[0]'(by omega),c_ (by omega)⟩;obtain⟨_,wr,el,Bk⟩:=u 0 x0 qr;obtain⟨b,off,U⟩:=F;have C:U=none:=by obtain⟨_,At,gc⟩:=World.cells?_some el;have A:=gc 0 (by omega);rw[c_ (by omega)]at A;simpa[Addr.add]using World.cell?_spot A
    subst C;refine⟨b,off,rfl,?_,λp hp=>?_,λi j x y R l=>?_⟩;·refine N (.cell b off) (D_ _ (MemPlace.mem_row.2 ⟨0,?_,by simp⟩));rw[L];exact Nat.mul_pos (by omega) Q
    ·obtain⟨q,_,rfl⟩:=T_.1 hp;exact aD a q
    ·rw[h_]at R;obtain⟨q,hq,rfl⟩:=e_.1 R;obtain⟨_,r,A,h2,h3,Y⟩:=u i q hq;obtain⟨c,J,h6⟩:=Y j y l;refine⟨c,?_,h6⟩;have hj:j<a.sz:=by rw[<-h3];exact(i_.1 J).1
     have h7:=(World.cells?_some A).2.2 j hj;rw[add_plain,add_plain]at h7;rw[h7,J]
theorem TX{n d:Nat}{cs:List Value}(J:∀(t:TypeId) (u:Ty) (cs:List Value) (E:DataW H) (L:List MemPlace),oU P d t u=true->DataW.trod enc P w 0 (λ_=>true) true n t cs=some (E,L)->(∀p∈L,p.block<w.heap.size)->∃x:u.den,Rd w u cs x/\kG u x<=fK E):
 ∀(l:List Field) (r:List (DataW H×List MemPlace)) (off:Nat) (u:Ty),Vj P (oU P d) l off u=true->r.length=l.length->(∀(i:Nat) (f:Field),l[i]? =some f->∃d:DataW H×List MemPlace,r[i]? =some d/\DataW.trod enc P w 0 (λ_=>true) true n f.type ((cs.drop f.offset).take (P.cellsOf f.type))=some d/\∀p∈d.2,p.block<w.heap.size)->∃x:u.den,okD u x/\kG u x<=nA (r.map (·.1))/\∀(j:Nat) (y:PV),(aC u x)[j]? =some y->∃c,cs[off+j]? =some c/\RelP (λb=>b<w.heap.size) w c y
 |[],_,off,u,e,_,_=>by
  cases u<;>simp only[Vj]at e<;>try cases e
  exact⟨(),trivial,ae_ _,λj y k=>by simp[aC,aG,PV.cells]at k⟩
 |f::l,[],_,_,_,h,_=>by simp at h
 |f::l,D::r,off,u,e,B,hl=>by
  cases u<;>simp only[Vj]at e<;>try cases e
  rename_i a b;simp only[a_]at e;obtain⟨⟨⟨O,Q⟩,R⟩,T⟩:=e;have M:=b_ O;have N:=b_ Q;obtain⟨d1,A,F,U⟩:=hl 0 f rfl;cases A;rw[M,N]at F;obtain⟨x,⟨Y,x2,x3⟩,x4⟩:=J f.type a _ D.1 D.2 R F U;obtain⟨z,z1,z3,z2⟩:=TX J l r (off+a.sz) b T (by simpa using B) λi g hg=>by simpa using hl (i+1) g (by simpa using hg)
  refine⟨(x,z),⟨Y,z1⟩,by simp only[kG,l_,nA];omega,λj y k=>?_⟩;have hc:aC (.pair a b) (x,z)=aC a x++aC b z:=rfl;rw[hc]at k;have C:=aD a x;rcases ak_ j a.sz with I|I;·rw[m_ (by omega)]at k;obtain⟨c,s,v⟩:=x3 j y k;rw[Z_ I,an_]at s;exact⟨c,s,v⟩
  ·rw[t_ (by omega),C]at k;obtain⟨c,s,v⟩:=z2 _ y k;exact⟨c,by rw[<-s];congr 1;omega,v⟩
theorem TS{n d:Nat}{e:TypeId}{cs:List Value}(I:∀(t:TypeId) (u:Ty) (cs:List Value) (E:DataW H) (J:List MemPlace),oU P d t u=true->DataW.trod enc P w 0 (λ_=>true) true n t cs=some (E,J)->(∀p∈J,p.block<w.heap.size)->∃x:u.den,Rd w u cs x/\kG u x<=fK E):
 ∀(k l:Nat) (r:List (DataW H×List MemPlace)) (u:Ty),Vi P (oU P d) e k u=true->r.length=k->(∀(i:Nat),i<k->∃d:DataW H×List MemPlace,r[i]? =some d/\DataW.trod enc P w 0 (λ_=>true) true n e ((cs.drop ((l+i)*P.cellsOf e)).take (P.cellsOf e))=some d/\∀p∈d.2,p.block<w.heap.size)->∃x:u.den,okD u x/\kG u x<=nA (r.map (·.1))/\∀(j:Nat) (y:PV),(aC u x)[j]? =some y->∃c,cs[l*P.cellsOf e+j]? =some c/\RelP (λb=>b<w.heap.size) w c y
 |0,l,_,u,f,_,_=>by
  cases u<;>simp only[Vi]at f<;>try cases f
  exact⟨(),trivial,ae_ _,λj y g=>by simp[aC,aG,PV.cells]at g⟩
 |k+1,_,[],_,_,h,_=>by simp at h
 |k+1,l,D::r,u,f,B,hl=>by
  cases u<;>simp only[Vi]at f<;>try cases f
  rename_i a b;simp only[a_]at f;obtain⟨⟨M,N⟩,O⟩:=f;have L:=b_ M;obtain⟨d1,A,F,Q⟩:=hl 0 (by omega);cases A;rw[Nat.add_zero]at F;obtain⟨x,⟨T,x2,U⟩,x4⟩:=I e a _ D.1 D.2 N F Q;obtain⟨z,Y,z3,z2⟩:=TS I k (l+1) r b O (by simpa using B) λi hi=>by have:=hl (i+1) (by omega);rw[show l+(i+1)=l+1+i by omega]at this;simpa using this
  refine⟨(x,z),⟨T,Y⟩,by simp only[kG,l_,nA];omega,λj y g=>?_⟩;have hc:aC (.pair a b) (x,z)=aC a x++aC b z:=rfl;rw[hc]at g;have C:=aD a x;rcases ak_ j a.sz with R|R;·rw[m_ (by omega)]at g;obtain⟨c,s,v⟩:=U j y g;rw[Z_ (by omega),an_]at s;exact⟨c,s,v⟩
  ·rw[t_ (by omega),C]at g;obtain⟨c,s,v⟩:=z2 _ y g;refine⟨c,?_,v⟩;rw[<-s,az_,L];congr 1;omega
theorem TI:∀(n:Nat) (d:Nat) (t:TypeId) (u:Ty) (cs:List Value) (I:DataW H) (B:List MemPlace),oU P d t u=true->DataW.trod enc P w 0 (λ_=>true) true n t cs=some (I,B)->(∀p∈B,p.block<w.heap.size)->∃x:u.den,Rd w u cs x/\kG u x<=fK I:=by
 intro n;induction n using Nat.strongRecOn with|ind n Y=>
 intro d t u cs I B g h v;cases d with|zero=>cases g|succ d=>
 have agg:(∀a b,u= .pair a b->True)->u.ag=true->u≠.rx->(match P.underlying t with
  |some (.struct M)=>n_ (P.cellsOf t) u.sz&&Vj P (oU P d) M.toList 0 u
  |some (.array n e)=>n_ (P.cellsOf t) u.sz&&Vi P (oU P d) e n u
  |_=>false)=true->∃x:u.den,Rd w u cs x/\kG u x<=fK I:=by
  intro _ _ _ g
  split at g
  ·rename_i M C;rw[a_]at g;have O:=b_ g.1;obtain⟨xs,m,rfl,L,E,D,F⟩:=DataW.trod_struct C h;simp only[aS_.injEq]at L;obtain⟨rfl,rfl⟩:=L;obtain⟨x,x1,xb,x2⟩:=TX (n:=m) (cs:=cs) (λt u cs I B g h v=>Y m (by omega) d t u cs I B g h v) M.toList xs 0 u g.2 (by rw[D,Array.length_toList]) λi f N=>by
    have Q:M[i]? =some f:=by rw[<-aC_];exact N
    have J:=F i f Q;have r:i<xs.length:=by rw[D];exact(al_.1 Q).1
    rw[c_ r]at J;exact⟨_,c_ r,J,λp hp=>v p (u_.2 ⟨_,ag_ r,hp⟩)⟩
   refine⟨x,⟨x1,by rw[E,O],λj y l=>?_⟩,by simp only[fK];omega⟩;have:=x2 j y l;rw[V_]at this;exact this
  ·rename_i k e C;rw[a_]at g;have O:=b_ g.1;obtain⟨xs,m,rfl,L,E,D,F⟩:=DataW.trod_array C h;simp only[aS_.injEq]at L;obtain⟨rfl,rfl⟩:=L;obtain⟨x,x1,xb,x2⟩:=TS (n:=m) (cs:=cs) (e:=e) (λt u cs I B g h v=>Y m (by omega) d t u cs I B g h v) k 0 xs u g.2 D λi N=>by
    have J:=F i N;have r:i<xs.length:=by omega
    rw[c_ r]at J;rw[V_];exact⟨_,c_ r,J,λp hp=>v p (u_.2 ⟨_,ag_ r,hp⟩)⟩
   refine⟨x,⟨x1,by rw[E,O],λj y l=>?_⟩,by simp only[fK];omega⟩;have:=x2 j y l;rw[aY_,V_]at this;exact this
  ·cases g
 cases u with
 |bool=>
  simp only[oU]at g;split at g
  ·rename_i C;obtain⟨b,rfl,_⟩:=DataW.trod_bool C h;refine⟨b,⟨trivial,rfl,λj y l=>?_⟩,vK _⟩
   match j,l with|0,l=>cases l;exact⟨_,rfl,.sc _⟩
  ·cases g
 |int k=>
  simp only[oU]at g;split at g
  ·rename_i k' C;have:k=k':=by simpa using g
   subst this;obtain⟨z,rfl,_,hw⟩:=DataW.trod_int C h;exact⟨z,Jj hw,vK _⟩
  ·cases g
 |str=>
  simp only[oU]at g;split at g
  ·rename_i C;obtain⟨s,rfl,gc,hs⟩:=DataW.trod_string C h;refine⟨s.data.toList,⟨by simpa[okD]using hs,rfl,λj y l=>?_⟩,by cases gc;exact ar_ _⟩
   match j,l with
   |0,l=>
    cases l;refine⟨_,rfl,?_⟩;show RelP _ w (.string s) (.sc (.string ⟨s.data.toList.toArray⟩));have:(⟨s.data.toList.toArray⟩:ByteArray)=s:=by simp
    rw[this];exact .sc _
  ·cases g
 |list a=>
  simp only[oU]at g;split at g;·rename_i e C;simp only[a_]at g;exact LO C (b_ g.1.1) (g_ g.1.2) (λm cs d' B hm h hl=>Y m hm d e a cs d' B g.2 h hl) h v
  ·cases g
 |unit=>exact agg (λ_ _ h=>by cases h) rfl (by simp) g|pair a b=>exact agg (λ_ _ _=>trivial) rfl (by simp) g|rx=>
  have qr:VU P t=true:=g;have A:=qr;unfold VU at A;split at A
  ·rename_i M C;split at A
   ·rename_i f0 f1 f2 f3 ur;simp only[a_]at A;obtain⟨⟨⟨⟨⟨⟨⟨⟨⟨hu,o0⟩,o1⟩,o2⟩,o3⟩,c0⟩,c1⟩,c2⟩,c3⟩,c4⟩:=A;split at hu
    ·rename_i e u0 u1 u2 u3;have ph:=b_ hu;subst ph;obtain⟨xs,m,rfl,L,E,D,F⟩:=DataW.trod_struct C h;simp only[aS_.injEq]at L;obtain⟨rfl,rfl⟩:=L;have rg:M= #[f0,f1,f2,f3]:=by apply Array.toList_inj.1;rw[ur]
     subst rg;have h4:xs.length=4:=D;have e4:=b_ c4;have get:∀(i:Nat) (f:Field),(#[f0,f1,f2,f3]:Array Field)[i]? =some f->P.cellsOf f.type=1->∃I B,DataW.trod enc P w 0 (λ_=>true) true m f.type ((cs.drop f.offset).take 1)=some (I,B)/\∀p∈B,p.block<w.heap.size:=by
      intro i f N el;have J:=F i f N;have r:i<xs.length:=by rw[h4];exact(al_.1 N).1
      rw[c_ r,el]at J;exact⟨_,_,J,λp hp=>v p (u_.2 ⟨_,ag_ r,hp⟩)⟩
     obtain⟨d0,p0,g0,_⟩:=get 0 f0 rfl (b_ c0);obtain⟨d1,p1,g1,_⟩:=get 1 f1 rfl (b_ c1);obtain⟨d2,p2,g2,_⟩:=get 2 f2 rfl (b_ c2);obtain⟨d3,p3,g3,l3⟩:=get 3 f3 rfl (b_ c3);rw[b_ o0]at g0;rw[b_ o1]at g1;rw[b_ o2]at g2;rw[b_ o3]at g3;obtain⟨z0,R,_,w0⟩:=DataW.trod_int u0 g0;obtain⟨z1,T,_,w1⟩:=DataW.trod_int u1 g1;obtain⟨z2,U,_,w2⟩:=DataW.trod_int u2 g2;obtain⟨ks,⟨k1,k2,k3⟩,_⟩:=LO (a:=.rx) u3 e4 (by decide) (λm' cs d' B hm h hl=>Y m' (by omega) (d+1) e .rx cs d' B g h hl) g3 l3
     match cs,(show cs.length=4 by rw[E,e4])with
     |[q0,q1,q2,q3],_=>
      simp only[List.drop_zero,List.drop_succ_cons,List.take_succ_cons,aW_,List.cons.injEq,and_true]at R T U
      subst R;subst T;subst U
      have At:=(Jj (w:=w) w0).1
      have Bk:=(Jj (w:=w) w1).1
      have Bx:=(Jj (w:=w) w2).1
      refine⟨.mk z0 z1 z2 ks,⟨⟨At,Bk,Bx,k1.1,(BM ks).2 k1.2⟩,rfl,λj y l=>?_⟩,vK _⟩
      rw[rA]at l
      match j,l with|0,l=>cases l;exact⟨_,rfl,.sc _⟩|1,l=>cases l;exact⟨_,rfl,.sc _⟩|2,l=>cases l;exact⟨_,rfl,.sc _⟩|3,l=>have wr:some (aG (.list .rx) ks)=some y:=l;cases wr;obtain⟨c,O,e2⟩:=k3 0 (aG (.list .rx) ks) (by rw[dc (t:=.list .rx) ks rfl];rfl);exact⟨c,by simpa using O,e2⟩
    ·cases hu
   ·cases A
  ·cases A
end
open Go Go.RowKit Go.Av Go.WideShapes
@[reducible] def HD:List Ty->Type
 |[]=>Unit
 |t::l=>t.den×HD l
def w9:(us:List Ty)->HD us->List V
 |[],_=>[]
 |t::l,x=>.d t x.1::w9 l x.2
def RB:(us:List Ty)->HD us->Prop
 |[],_=>True
 |t::l,x=>okD t x.1/\RB l x.2
def IJ:(us:List Ty)->HD us->Nat
 |[],_=>0
 |t::l,x=>kG t x.1+IJ l x.2
def fitAll(P:Program):List TypeId->List Ty->Bool
 |[],[]=>true
 |t::a,u::us=>oU P 64 t u&&fitAll P a us
 |_,_=>false
def T7(P:Program)(a:List TypeId):Bool:=a.all λt=>P.readableRec t&&decide (t<P.types.size)
section
variable {H:Type} {enc:TypeId×Value->H} {P:Program} {w:World}
theorem Sb{d:Nat}{t:TypeId}{u:Ty}{r:Reach}{M:Nat}{v:Value}{E:DataW H}{I:List MemPlace}(f:oU P d t u=true)(j:Value.okWide P w r M t v)(h:DataW.Trod enc P w 0 (λ_=>true) true t v E I)(F:∀p∈I,p.block<w.heap.size): ∃x:u.den,(okD u x/\RelP (λb=>b<w.heap.size) w v (aG u x))/\kG u x<=fK E:=by
 obtain⟨n,hn⟩:=h;obtain⟨x,⟨O,L,J⟩,Q⟩:=TI n d t u _ E I f hn F;refine⟨x,⟨O,?_⟩,Q⟩;have one:u.ag=false->v.cells= #[v]->RelP (λb=>b<w.heap.size) w v (aG u x):=λC hc=>by obtain⟨c,B,D⟩:=J 0 (aG u x) (by rw[dc x C];rfl);rw[hc]at B;cases B;exact D
 have s:u.ag=true->(∃cs,v= .agg cs)->RelP (λb=>b<w.heap.size) w v (aG u x):=λC ⟨cs,hc⟩=>by subst hc;rw[dI x C];have e:(Value.agg cs).cells=cs:=rfl;rw[e]at L J;refine .agg cs _ (by rw[aD,<-L];simp) λi a y C N=>?_;obtain⟨c,B,D⟩:=J i y N;rw[aC_,C]at B;cases B;exact D
 cases d with
 |zero=>simp[oU]at f|succ d=>
  cases u with
  |bool=>
   simp only[oU]at f;split at f;·rename_i g;obtain⟨b,rfl⟩:=okWide_bool g j;exact one rfl rfl
   ·cases f
  |int k=>
   simp only[oU]at f;split at f;·rename_i g;obtain⟨b,rfl⟩:=okWide_int g j;exact one rfl rfl
   ·cases f
  |str=>
   simp only[oU]at f;split at f;·rename_i g;obtain⟨b,rfl⟩:=okWide_string g j;exact one rfl rfl
   ·cases f
  |list a=>
   simp only[oU]at f;split at f;·rename_i g;obtain⟨a,l,c,rfl⟩:=okWide_slice g j;exact one rfl rfl
   ·cases f
  |unit=>
   simp only[oU]at f;refine s rfl ?_;split at f;·rename_i g;simp only[Value.okWide,g]at j;obtain⟨cs,z,_⟩:=j;exact⟨cs,z⟩
   ·rename_i g;simp only[Value.okWide,g]at j;obtain⟨cs,z,_⟩:=j;exact⟨cs,z⟩
   ·cases f
  |pair a b=>
   simp only[oU]at f;refine s rfl ?_;split at f;·rename_i g;simp only[Value.okWide,g]at j;obtain⟨cs,z,_⟩:=j;exact⟨cs,z⟩
   ·rename_i g;simp only[Value.okWide,g]at j;obtain⟨cs,z,_⟩:=j;exact⟨cs,z⟩
   ·cases f
  |rx=>
   have A:VU P t=true:=f;refine s rfl ?_;unfold VU at A;split at A;·rename_i g;simp only[Value.okWide,g]at j;obtain⟨cs,z,_⟩:=j;exact⟨cs,z⟩
   ·cases A
theorem Aw:∀(f:List TypeId) (us:List Ty) (vs:List Value) (ds:List (DataW H)) (k:List MemPlace),fitAll P f us=true->DataW.TrodAll enc P w 0 (λ_=>true) true f vs ds k->(∀(j:Nat) (t:TypeId) (v:Value),f[j]? =some t->vs[j]? =some v->∃r n,Value.okWide P w r n t v)->(∀p∈k,p.block<w.heap.size)->
 ∃xs:HD us,(RB us xs/\IJ us xs<=nA ds)/\vs.length=(w9 us xs).length/\∀(i:Nat) (v:Value) (x:AV),vs[i]? =some v->((w9 us xs).map aS)[i]? =some x->RelA [] (λb=>b<w.heap.size) w v x
 |[],[],[],[],k,_,_,_,_=>⟨(),⟨trivial,ar_ _⟩,rfl,λi v x g=>by simp at g⟩
 |t::f,u::us,v::vs,d::ds,k,l,A,g,e=>by simp only[fitAll,a_]at l;obtain⟨p,q,s,z,rfl⟩:=A;obtain⟨r,n,C⟩:=g 0 t v rfl rfl;obtain⟨x,⟨E,F⟩,M⟩:=Sb l.1 C s λy c=>e y (D_ _ c);obtain⟨xs,⟨I,N⟩,J,L⟩:=Aw f us vs ds q l.2 z (λj t v B a=>g (j+1) t v (by simpa using B) (by simpa using a)) λy c=>e y (H_ _ c);refine⟨(x,xs),⟨⟨E,I⟩,by simp only[IJ,nA];omega⟩,by simp[w9,J],λi D y a c=>?_⟩;cases i with|zero=>simp only[au_,k_]at a;simp only[w9,l_,au_,k_]at c;subst a;subst c;exact F|succ i=>exact L i D y (by simpa using a) (by simpa[w9]using c)
 |[],[],_::_,_,_,_,h,_,_=>(by cases h)
 |[],[],[],_::_,_,_,h,_,_=>(by cases h)
 |_::_,_::_,[],_,_,_,h,_,_=>(by cases h)
 |_::_,_::_,_::_,[],_,_,h,_,_=>(by cases h)
 |[],_::_,_,_,_,h,_,_,_=>(by cases h)
 |_::_,[],_,_,_,h,_,_,_=>(by cases h)
theorem mU(hl:laidOutB P=true){W g:World}(j:Below W.heap.size W g):∀(c:List TypeId) (vs:List Value) (ds:List (DataW H)) (e:List MemPlace),T7 P c=true->DataW.TrodAll enc P W 0 (λ_=>true) true c vs ds e->(∀p∈e,p.block<W.heap.size)->
 DataW.TrodAll enc P g 0 (λb=>decide (b<W.heap.size)) true c vs ds e
 |[],[],[],_,_,h,_=>h
 |t::c,v::vs,d::ds,e,hr,h,a=>by simp only[T7,J_,a_,decide_eq_true_eq]at hr;obtain⟨p,q,k,l,rfl⟩:=h;exact⟨p,q,Below.trod hl hr.1.1 hr.1.2 k j λy f=>a y (D_ _ f),mU hl j c vs ds q hr.2 l λy f=>a y (H_ _ f),rfl⟩
 |[],_::_,_,_,_,h,_=>(by cases h)
 |[],[],_::_,_,_,h,_=>(by cases h)
 |_::_,[],_,_,_,h,_=>(by cases h)
 |_::_,_::_,[],_,_,h,_=>(by cases h)
theorem qz{a:Nat}{sp:Nat->Bool}{hd:Bool}:∀(b:List TypeId) (vs:List Value) (ds:List (DataW H)) (c:List MemPlace),DataW.TrodAll enc P w a sp hd b vs ds c->ds.length=b.length
 |[],[],[],_,_=>rfl
 |_::b,_::vs,_::ds,_,⟨_,_,_,h,_⟩=>by simp[qz b vs ds _ h]
 |[],_::_,_,_,h=>(by cases h)
 |[],[],_::_,_,h=>(by cases h)
 |_::_,[],_,_,h=>(by cases h)
 |_::_,_::_,[],_,h=>(by cases h)
theorem BD(H:P.follows .mixedOrders=true){tbl:Nat->Option Fun'}(D:TblOk P tbl){W:World}(C:GT W){N:Nat}{us:List Ty}{xs:HD us}{vs:List Value}(hl:vs.length=(w9 us xs).length) (d:∀(i:Nat) (v:Value) (x:AV),vs[i]? =some v->((w9 us xs).map aS)[i]? =some x->RelA [] (λb=>b<W.heap.size) W v x) {s:S} (B:Conv tbl N (w9 us xs) [] (·=some s)) (hs:aS (res s.fr.length s.fr)= .b (.pv (.sc (.bool true)))): Calls P (N%10000) vs.toArray W λe f=>e= .returned (.bool true)/\Below W.heap.size W f:=by
 obtain⟨o,rfl,A⟩:=Km H D B;refine(A W [] (λb=>b<W.heap.size) vs (GW.of C) ⟨rfl,λb h=>h,λi j li J g a=>(by simp at a),λi l g a=>(by simp at a),λi l o a=>(by simp at a)⟩ (by rw[f_,hl]) d).mono λe f E=>?_;rcases E with⟨v,r,p,θ',D',y,n,u,_,c,_⟩|⟨I,_,_,n,_⟩;·have w:some (r,p)=some (aS (res s.fr.length s.fr),s.hp.map bC):=n;simp only[k_,aS_.injEq]at w;rw[w.1,hs]at u;have z:RelP D' f v (.sc (.bool true)):=u;cases z;refine⟨y,c.os,c.tape,c.output,c.size,λk F=>c.block k F ?_⟩;rintro⟨i,l,a,_⟩;simp at a
 ·cases n
end
theorem wrap_i64{n:Int}(a: -9223372036854775808<=n)(b:n<=9223372036854775807):I_ .i64 n=n:=by simp only[I_,aw_,am_];simp;omega
theorem wrap_u8(n:Int):I_ .u8 n=n%256:=by simp[I_,aw_,am_]
theorem wrap_u32(n:Int):I_ .u32 n=n%4294967296:=by simp[I_,aw_,am_]
theorem wrap_u64(n:Int):I_ .u64 n=n%18446744073709551616:=by simp[I_,aw_,am_]
theorem aJ{i:Nat}{n:Nat}(a:i<n)(hn:n<=9223372036854775807):I_ .i64 ((i:Int)+1)=((i+1:Nat):Int):=by rw[wrap_i64 (by omega) (by omega)];rfl
section
variable {α β γ σ τ:Type}
theorem Ld{xs:List α}(i:Nat):bF xs (i:Int)=xs[i]? :=by simp[bF]
theorem rG{m:Nat->Option α}{Q:α->Prop}{a:α}(h:∀n,m n=some a)(b:Q a):Wp m Q:=⟨a,b,0,λn _=>h n⟩
theorem Wp.imp{m:Nat->Option α}{Q z:α->Prop}(h:Wp m Q)(E:∀r,Q r->z r):Wp m z:=wp_mono h E
theorem b9{N:Nat}{body:Nat->σ->Option (σ⊕τ)}{s0:σ}{Q:τ->Prop}(I:Nat->σ->Prop)(l:I 0 s0) (c:∀i s,i<N->I i s->Wp (λn=>body n s) λr=>match r with| .inl s'=>I (i+1) s'| .inr t=>Q t) (d:∀s,I N s->Wp (λn=>body n s) λr=>match r with| .inl _=>False| .inr t=>Q t):Wp (λn=>a8 n (body n) s0) Q:=by
 have key:∀(k:Nat) (i:Nat) (s:σ),i+k=N->I i s->∃t,Q t/\∃b,∀n m,b<=n->k+1<=m->a8 m (body n) s=some t:=by
  intro k;induction k with
  |zero=>
   intro i s p hs;have:i=N:=by omega
   subst this;obtain⟨r,hr,b,hn⟩:=d s hs;cases r with|inl s'=>exact hr.elim|inr t=>refine⟨t,hr,b,λn m f j=>?_⟩;obtain⟨a,rfl⟩:∃a,m=a+1:=⟨m - 1,by omega⟩;simp only[a8];have e:body n s=_:=hn n f;rw[e];rfl
  |succ k v=>
   intro i s p hs;obtain⟨r,hr,b,hn⟩:=c i s (by omega) hs;cases r with
   |inl s'=>obtain⟨t,h,w,g⟩:=v (i+1) s' (by omega) hr;refine⟨t,h,max b w,λn m f j=>?_⟩;obtain⟨a,rfl⟩:∃a,m=a+1:=⟨m - 1,by omega⟩;simp only[a8];have e:body n s=_:=hn n (by omega);rw[e];exact g n a (by omega) (by omega)
   |inr t=>refine⟨t,hr,b,λn m f j=>?_⟩;obtain⟨a,rfl⟩:∃a,m=a+1:=⟨m - 1,by omega⟩;simp only[a8];have e:body n s=_:=hn n f;rw[e];rfl
 obtain⟨t,h,b,hn⟩:=key N 0 s0 (by omega) l;exact⟨t,h,max b (N+1),λn u=>hn n n (by omega) (by omega)⟩
theorem OU{xs:List α}{p:α->Bool}{g:α->β}{e:γ}{body:Nat->(Int×Unit)->Option ((Int×Unit)⊕β⊕γ)}{Q:β⊕γ->Prop} (h:∀(i:Nat) (x:α),xs[i]? =some x->Wp (λn=>body n ((i:Int),())) λr=>r=if p x then .inr (.inl (g x))else .inl (((i+1:Nat):Int),())) (c:Wp (λn=>body n ((xs.length:Int),())) λr=>r= .inr (.inr e)) (a:Q (match xs.find? p with|some x=>.inl (g x)|none=>.inr e)):Wp (λn=>a8 n (body n) ((0:Int),())) Q:=by
 refine b9 (N:=xs.length) (I:=λi s=>s=((i:Int),())/\xs.find? p=(xs.drop i).find? p) ⟨rfl,by simp⟩ (λi s b hs=>?_) λs hs=>?_
 ·obtain⟨rfl,hd⟩:=hs;have d:=c_ b;refine wp_mono (h i _ d) λr hr=>?_;rw[List.drop_eq_getElem_cons b,aR_]at hd;subst hr;cases hp:p xs[i];·rw[hp]at hd;simp only[ab_,if_false];exact⟨trivial,hd⟩
  ·rw[hp]at hd;simp only[if_true];rw[hd]at a;exact a
 ·obtain⟨rfl,hd⟩:=hs;refine wp_mono c λr hr=>?_;subst hr;rw[List.drop_length]at hd;rw[hd]at a;exact a
end
section
variable {α β σ τ:Type}
theorem aP{b:Bool}{m k:Nat->Option α}{Q:α->Prop}(a:b=true)(h:Wp m Q):Wp (λn=>bif b then m n else k n) Q:=by subst a;exact h
theorem an{b:Bool}{m k:Nat->Option α}{Q:α->Prop}(a:b=false)(h:Wp k Q):Wp (λn=>bif b then m n else k n) Q:=by subst a;exact h
theorem cI{a b:Bool}{m:Nat->Option Bool}{Q:Bool->Prop}(h:a=false->Wp m λr=>r=b)(c:Q (a||b)):Wp (λn=>bif a then some true else m n) Q:=by
 cases a;·exact wp_mono (h rfl) λr hr=>by subst hr;exact c
 ·exact aa c
theorem co{a b:Bool}{m:Nat->Option Bool}{Q:Bool->Prop}(h:a=true->Wp m λr=>r=b)(c:Q (a&&b)):Wp (λn=>bif a then m n else some false) Q:=by
 cases a;·exact aa c
 ·exact wp_mono (h rfl) λr hr=>by subst hr;exact c
end
section
variable {tbl:Nat->Option Fun'}
theorem zh{f:Nat}{ars:List V}{os:List Ob}{sh:Sh}{R:HL sh.sl->Prop}(hp:∀c,Cl sh (gP sh c)=some c)(h:Conv tbl f ars os λo=>∃c,o=some (gP sh c)/\R c):∃c,R c/\aI tbl f ars os sh c:=by obtain⟨o,⟨c,rfl,hr⟩,a,hn⟩:=h;exact⟨c,hr,aA (hp c) ⟨_,rfl,a,hn⟩⟩
theorem Pd{f:Nat}{g:List V->Option S}{ars:List V}{sh:Sh}{c:HL sh.sl}(a:tbl f=some (.nat g))(hg:g ars=some (gP sh c))(hp:Cl sh (gP sh c)=some c):aI tbl f ars [] sh c:=by refine aA hp ⟨_,rfl,1,λn hn=>?_⟩;obtain⟨m,rfl⟩:∃m,n=m+1:=⟨n - 1,by omega⟩;simp only[qW,a,hg]
end
section
variable {α β γ σ τ:Type}
theorem Ti{xs:List α}{i:Nat}(h:i<xs.length):bF xs (i:Int)=some xs[i]:=by rw[Ld];exact c_ h
theorem aW{xs:List α}{i:Nat}{f:Nat->α->Option β}{Q:β->Prop}(h:i<xs.length)(a:Wp (λn=>f n xs[i]) Q):Wp (λn=>M_ (bF xs (i:Int)) (f n)) Q:=by rw[Ti h];exact a
theorem cE{i N:Nat}{m k:Nat->Option α}{Q:α->Prop}(h:i<N)(a:Wp m Q):Wp (λn=>bif decide ((i:Int)<(N:Int))then m n else k n) Q:=by rw[show decide ((i:Int)<(N:Int))=true from decide_eq_true (by omega)];exact a
theorem bO{N:Nat}{m k:Nat->Option α}{Q:α->Prop}(a:Wp k Q):Wp (λn=>bif decide ((N:Int)<(N:Int))then m n else k n) Q:=by rw[show decide ((N:Int)<(N:Int))=false from decide_eq_false (by omega)];exact a
theorem B1{N:Nat}{good:Nat->Prop}{e:β}{g:γ}{body:Nat->(Int×Unit)->Option ((Int×Unit)⊕β⊕γ)}{Q:β⊕γ->Prop} (h:∀i,i<N->Wp (λn=>body n ((i:Int),())) λr=>(good i/\r= .inl (((i+1:Nat):Int),()))\/(¬good i/\r= .inr (.inl e))) (f:Wp (λn=>body n ((N:Int),())) λr=>r= .inr (.inr g)) (hg:(∀i,i<N->good i)->Q (.inr g)) (d:(∃i,i<N/\¬good i)->Q (.inl e)):Wp (λn=>a8 n (body n) ((0:Int),())) Q:=by
 refine b9 (N:=N) (I:=λi s=>s=((i:Int),())/\∀j,j<i->good j) ⟨rfl,λj b=>absurd b (by omega)⟩ (λi s c hs=>?_) λs hs=>?_
 ·obtain⟨rfl,hd⟩:=hs;refine wp_mono (h i c) λr hr=>?_;rcases hr with⟨a,rfl⟩|⟨a,rfl⟩;·exact⟨rfl,λj b=>by rcases Nat.lt_succ_iff_lt_or_eq.1 b with h|rfl;exact hd j h;exact a⟩
  ·exact d ⟨i,c,a⟩
 ·obtain⟨rfl,hd⟩:=hs;refine wp_mono f λr hr=>?_;subst hr;exact hg hd
theorem mV{b:Bool}{good:Prop}{e:β}{s' a:σ}(c:b=true↔¬good)(hs:s'=a):Wp (λ_=>bif b then(some (.inr (.inl e)):Option (σ⊕β⊕γ))else some (.inl s')) (λr=>(good/\r= .inl a)\/(¬good/\r= .inr (.inl e))):=by
 subst hs;cases b;·exact aa (.inl ⟨ap_ λh=>by simpa using c.2 h,rfl⟩)
 ·exact aa (.inr ⟨c.1 rfl,rfl⟩)
theorem all_iff{xs:List α}{P:α->Prop}:(∀i,i<xs.length->∀x,xs[i]? =some x->P x)↔∀x∈xs,P x:=by
 constructor;·intro h x b;obtain⟨i,a,rfl⟩:=List.mem_iff_getElem.1 b;exact h i a _ (c_ a)
 ·intro h i a x b;exact h x (r_ b)
theorem AQ{xs:List α}{P:α->Prop}{e:β}{g:γ}{body:Nat->(Int×Unit)->Option ((Int×Unit)⊕β⊕γ)}{Q:β⊕γ->Prop} (h:∀i (a:i<xs.length),Wp (λn=>body n ((i:Int),())) λr=>(P xs[i]/\r= .inl (((i+1:Nat):Int),()))\/(¬P xs[i]/\r= .inr (.inl e))) (c:Wp (λn=>body n ((xs.length:Int),())) λr=>r= .inr (.inr g)) (hg:(∀x∈xs,P x)->Q (.inr g)) (b:(¬∀x∈xs,P x)->Q (.inl e)):Wp (λn=>a8 n (body n) ((0:Int),())) Q:=by
 refine B1 (N:=xs.length) (good:=λi=>∀x,xs[i]? =some x->P x) (λi a=>?_) c (λh=>hg (all_iff.1 h)) (fun⟨i,a,hn⟩=>b λh=>hn λx d=>h x (r_ d));refine wp_mono (h i a) λr hr=>?_;have:(∀x,xs[i]? =some x->P x)↔P xs[i]:=by rw[c_ a];simp
 rw[this];exact hr
end
section
variable {α β γ σ τ:Type}
theorem JR{xs:List α}{i:Nat}{x:α}{f:Nat->α->Option β}{Q:β->Prop}(h:xs[i]? =some x)(a:Wp (λn=>f n x) Q):Wp (λn=>M_ (bF xs (i:Int)) (f n)) Q:=by rw[Ld,h];exact a
end
end Go.Ev
