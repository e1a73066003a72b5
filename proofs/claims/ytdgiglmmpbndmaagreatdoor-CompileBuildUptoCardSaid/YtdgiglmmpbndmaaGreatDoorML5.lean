import Derived.Test.YtdgiglmmpbndmaaGreatDoorML3
import Derived.OpenShut
import Derived.Deep.Slices
import Derived.ChangeMaps5
import Derived.Carry
set_option linter.all false
open Bool renaming and_eq_true->a_,not_eq_true'->z_,or_eq_true->K_,false_eq_true->S_,false_or->aj_,not_true->ak_,and_false->aL_,not_false->aM_
open Classical renaming byContradiction->ad_
open Int renaming eq_ofNat_of_zero_le->an_
open Go.IntKind renaming wrap->G_,signed->ab_,bits->aq_
open List renaming all_eq_true->e_,mem_append->f_,getElem?_eq_getElem->g_,map_map->j_,map_congr_left->k_,getElem?_eq_some_iff->l_,getElem?_map->m_,map_cons->n_,mapM_cons->o_,all_cons->r_,mem_map->s_,getElem?_set_ne->t_,length_map->u_,map_append->v_,mem_cons_self->w_,mem_cons_of_mem->x_,mem_of_getElem?->y_,getElem?_set_self->A_,getElem?_append_left->C_,mem_singleton->D_,mem_cons->E_,mem_flatMap->F_,mem_append_left->H_,mem_append_right->M_,getElem?_append_right->N_,replicate->O_,map_set->Q_,range->T_,mem_range->U_,take_of_length_le->V_,map_take->X_,getElem?_of_mem->Y_,length_append->ac_,drop_eq_getElem_cons->ae_,append_assoc->af_,ext_getElem?->ag_,flatMap_cons->ah_,map_drop->al_,getElem?_cons_zero->ao_,drop_eq_nil_of_le->ar_,append_nil->au_,contains_iff_mem->aw_,getElem?_mapIdx->ax_,length->ay_,mem_map_of_mem->az_,getElem?_set->aB_,any_eq_true->aD_,drop_append->aE_,filter_cons->aF_,isEmpty_iff->aG_,length_cons->aH_,length_drop->aI_,take_append->aJ_,nil_append->aK_,drop_drop->aN_,take_zero->aO_,getD->aP_,all_map->aQ_,flatMap->aR_,map->aT_
open Nat renaming eq_of_beq_eq_true->b_,le_of_ble_eq_true->c_,beq->i_,zero_le->I_,ble->J_,beq_refl->W_,zero_add->aa_,le_refl->ai_,add_zero->aC_,lt_or_ge->aS_
open Option renaming map_eq_some_iff->d_,bind_eq_some_iff->p_,bind_some->q_,bind_eq_bind->B_,pure_def->L_,bind->P_,isNone_iff_eq_none->R_,map_some->Z_,isSome_iff_exists->am_,getD_some->ap_,isSome_some->aA_
open Option.some renaming injEq->h_,inj->av_
open Prod renaming mk->as_
namespace Go.Ev
open Go Go.RowKit Go.Av
section
variable {R:Type} {P:Program} {O:bi} {d:Option Nat} {s:S} {κ kp:S->Option R} {r:R}
theorem gj{x:Option X}{a:Nat}{f:Nat->Option R}(d:Wd x=true)(h:vL s x a f=some r):∃n,f n=some r/\∀(K:Nat->Prop),K n->pN (enc s) (O8 x) a K:=by cases x with|none=>exact⟨a,h,λK b=>b⟩|some x=>simp only[vL]at h;obtain⟨k,n,e,h1⟩:=fB h;obtain⟨h2,c⟩:=bF h1;exact⟨n.toNat,c,λK b=>⟨_,aH d e,_,rfl,k,n,rfl,by grind,b⟩⟩
theorem kw{t:Ty}{o:Option V}{f:List t.den->Option R}(h:iV s.hp t o f=some r):∃v xs,o=some v/\f xs=some r/\(∀(K:List PV->Prop),K (xs.map (aN t))->l9 (enc s).hp t.sz (a8 v) K):=by
 unfold iV at h;split at h
 .rename_i id;split at h
  .rename_i e u xs n;split at h;.rename_i ys p;obtain⟨a,g⟩:=bV p;have j:=Ty.list.inj a;subst j;have k:ys=xs:=g;subst k;exact⟨_,ys,rfl,h,λK b=>.inr (.inr (.inl ⟨id,e,_,rfl,by rw[bT,n];rfl,b⟩))⟩
   grind
  grind
 .rename_i v l;split at h
  .rename_i xs c;refine⟨v,xs,rfl,h,λK b=>?_⟩;cases v<;>simp only[iw]at c<;>try cases c
   .obtain⟨d,_⟩:=bR c;exact .inr (.inl ⟨_,by show AV.p _=_;rw[<-d];rfl,b⟩)
   .obtain⟨a,rfl⟩:=bV c;cases a;exact .inl ⟨rfl,b⟩
   .rename_i u y;obtain⟨a,rfl⟩:=bV c;cases a;exact .inr (.inr (.inr ⟨_,rfl,b⟩))
  grind
 grind
theorem SQ{t:Ty}{v:V}{f:List t.den->Option R}(c:∀id,v≠.sl id)(h:iV s.hp t (some v) f=some r):∃xs,f xs=some r/\(a8 v).bG=some (kZ t.sz (xs.map (aN t))):=by
 unfold iV at h;split at h;.grind
 .rename_i d _ a;cases a;split at h;.rename_i xs b;exact⟨xs,h,by rw[HU b];exact lN b⟩
  grind
 grind
theorem Rc{t:Ty}(xs:List t.den)(l h:Nat):((xs.map (aN t)).take h).drop l=((xs.take h).drop l).map (aN t):=by rw[al_,X_]
theorem WK{full:Bool}{t:Ty}{x:X}{lo j mx:Option X}(c:x.wf=true/\Wd lo=true/\Wd j=true/\Wd mx=true)(h:aX O d (.Im full t x lo j mx) s κ kp=some r):Pu P s (.Im t.sz x.er (O8 lo) (O8 j) (O8 mx)) d κ r:=by
 simp only[aX]at h;have b:(!(mx.isSome&& !j.isSome))=true->(O8 mx).isSome=true->(O8 j).isSome=true:=by intro B I;cases mx<;>cases j<;>simp_all[O8]
 split at h
 .rename_i id p;split at h;.rename_i e k u xs g J;obtain⟨B,h1⟩:=aY h;simp only[a_,z_]at B;obtain⟨l,h2,hl⟩:=gj c.2.1 h1;obtain⟨n,C,z⟩:=gj c.2.2.1 h2;obtain⟨m,D,A⟩:=gj c.2.2.2 C;obtain⟨E,F⟩:=aY D;obtain⟨a,w⟩:=bF F;obtain⟨y,f⟩:=bF w;simp only[a_,decide_eq_true_eq]at a;refine⟨_,⟨_,aH c.1 p,.inr ⟨id,rfl,_,by rw[bT,J];rfl,e,k,xs.map (aN u),_,by rw[<-b_ B.1];rfl,hl _ ?_⟩⟩,f⟩;rw[u_];exact z _ (A _ ⟨b E,a.1.1,a.1.2,a.2,b_ y,rfl⟩)
  grind
 .rename_i H;cases p:s.get x with
  |none=>rw[p]at h;cases h|some v=>
   rw[p]at h;obtain⟨xs,h1,hp⟩:=SQ (λid e=>H id (by grind)) h;obtain⟨l,h2,hl⟩:=gj c.2.1 h1;obtain⟨n,C,z⟩:=gj c.2.2.1 h2;obtain⟨m,D,A⟩:=gj c.2.2.2 C;obtain⟨E,F⟩:=aY D;obtain⟨a,w⟩:=bF F;simp only[a_,decide_eq_true_eq]at a;have b:=b E;cases full with
   |false=>refine⟨_,⟨_,aH c.1 p,.inl ⟨_,hp,_,rfl,hl _ ?_⟩⟩,w⟩;rw[u_];refine z _ (A _ ⟨b,a.1.1,a.1.2,a.2,.inl ?_⟩);rw[Rc];rfl|true=>
    obtain⟨y,f⟩:=bF w;simp only[a_,decide_eq_true_eq]at y;refine⟨_,⟨_,aH c.1 p,.inl ⟨_,hp,_,rfl,hl _ ?_⟩⟩,f⟩;rw[u_];refine z _ (A _ ⟨b,a.1.1,a.1.2,a.2,.inr ⟨?_,y.2,?_⟩⟩);.cases mx<;>simp_all[O8]
    .rw[Rc];rfl
theorem Of(a:List UInt8)(l h:Nat):(⟨a.toArray⟩:ByteArray).extract l h=⟨((a.take h).drop l).toArray⟩:=by apply ByteArray.ext;rw[ByteArray.data_extract];grind
theorem RH{x:X}{lo c:Option X}(e:x.wf=true/\Wd lo=true/\Wd c=true)(h:aX O d (.qw x lo c) s κ kp=some r):Pu P s (.qw x.er (O8 lo) (O8 c)) d κ r:=by
 simp only[aX]at h;split at h;.rename_i a k;obtain⟨l,h2,hl⟩:=gj e.2.1 h;obtain⟨n,f,j⟩:=gj e.2.2 h2;obtain⟨b,g⟩:=bF f;simp only[a_,decide_eq_true_eq]at b;refine⟨_,⟨_,aH e.1 k,_,rfl,_,rfl,hl _ ?_⟩,g⟩;rw[xB];refine j _ ⟨b.1,b.2,?_⟩;rw[Of];rfl
 grind
theorem RF{x:X}(a:x.wf=true)(h:aX O d (.rC x) s κ kp=some r):Pu P s (.rC x.er) d κ r:=by
 simp only[aX]at h;split at h
 .rename_i v b;split at h;.exact⟨_,⟨_,aH a b,.inl ⟨_,rfl⟩,rfl⟩,h⟩
  .exact⟨_,⟨_,aH a b,.inr (.inl ⟨_,_,rfl⟩),rfl⟩,h⟩
  .exact⟨_,⟨_,aH a b,.inr (.inl ⟨_,_,rfl⟩),rfl⟩,h⟩
  .exact⟨_,⟨_,aH a b,.inr (.inr (.inl ⟨_,_,_,rfl⟩)),rfl⟩,h⟩
  .exact⟨_,⟨_,aH a b,.inr (.inr (.inr (.inr ⟨_,_,rfl⟩))),rfl⟩,h⟩
  .exact⟨_,⟨_,aH a b,.inr (.inr (.inr (.inl ⟨_,_,rfl⟩))),rfl⟩,h⟩
  grind
 grind
theorem rD{v:V}(h:v.okB=true):(a8 v).ok=true/\(dq v).map aU=(a8 v).cells:=by
 have ht:∀vs,v≠.dP vs:=λvs e=>by subst e;cases h
 refine⟨?_,Ou v ht⟩;have hc:∀u:V,u.Bh=true->(aU u).dh=true:=by
  intro u a;cases u<;>simp only[V.Bh]at a<;>try cases a
  .rename_i t x;have b:t.ag=false:=by grind
   have:=yo t x;rw[eZ x b]at this;have h2:(aN t x).dh=true:=by grind
   exact h2
  all_goals first
   |rfl
   |skip
  rename_i v;show(bI v).dh=true;unfold bI;split;.rfl
  .exact a
 cases v with
 |d t x=>show((AV.b (.pv (aN t x))).cells.all BV.dh)=true;show((aO t x).map BV.pv).all BV.dh=true;rw[aQ_];exact yo t x|agg vs=>show(vs.map aU).all BV.dh=true;rw[aQ_];simp only[V.okB,e_]at h⊢;grind|dP vs=>grind|raw v=>
  show(AV.b (bI v)).cells.all BV.dh=true;have h1:=hc (.raw v) h;show(AV.b (bI v)).cells.all BV.dh=true;unfold bI;split;.rfl
  .have h2:v.oneCell'=true:=h;show([PV.sc v].map BV.pv).all BV.dh=true;simp[BV.dh,PV.dh,h2]
 |full t x=>rfl|nil t=>rfl|sl id=>rfl|ptr id o=>rfl|i6 id i o=>rfl|dp t x=>rfl|kT f ids=>rfl|HK f cs=>rfl|mp id=>rfl|KG id off n t i=>rfl|any=>cases h|lit k t x=>cases h|KF=>rfl
theorem QG{t:Ty}{v:V}{x:t.den}(h:cA t v=some x):v.okB=true:=by
 have hl:∀(u:Ty) (v:V) (y:u.den),u.ag=false->iw u v=some y->v.Bh=true:=by
  intro u v y p h;cases v<;>simp only[iw]at h<;>try cases h
  .obtain⟨_,rfl⟩:=bR h;simp[V.Bh,p]
  .rfl
  .rfl
 have n:∀(t:Ty) (l:List V) (x:t.den) (m:List V),Oe t l=some (x,m)->∃f,l=f++m/\f.all V.Bh=true:=by
  intro t;have one:∀(t:Ty) (l:List V) (x:t.den) (m:List V),t.ag=false->(match l with
   |v::l=>match iw t v with
    |some x=>some (x,l)
    |none=>none
   |[]=>none)=some (x,m)->∃f,l=f++m/\f.all V.Bh=true:=by
   intro t l x m ht h
   split at h
   .rename_i v l';split at h;.rename_i y h1;simp only[h_,as_.injEq]at h;obtain⟨_,rfl⟩:=h;exact⟨[v],rfl,by grind⟩
    grind
   grind
  induction t with
  |unit=>intro l x m h;simp only[Oe,h_,as_.injEq]at h;obtain⟨_,rfl⟩:=h;simp
  |pair a b r s=>intro l x m h;simp only[Oe]at h;grind|rx=>
   intro l x m h;unfold Oe at h;split at h
   .rename_i a b c e l';split at h;.rename_i w b' z A h1 h2 g j;simp only[h_,as_.injEq]at h;obtain⟨_,rfl⟩:=h;refine⟨[a,b,c,e],rfl,?_⟩;simp[hl _ a _ rfl h1,hl _ b _ rfl h2,hl _ c _ rfl g,hl _ e _ rfl j]
    grind
   grind
  |int k=>intro l x m h;exact one (.int k) l x m rfl h|bool=>intro l x m h;exact one .bool l x m rfl h|str=>intro l x m h;exact one .str l x m rfl h|list t _=>intro l x m h;exact one (.list t) l x m rfl h
 cases v with
 |agg vs=>
  simp only[cA]at h;split at h
  .split at h;.rename_i y h1;obtain⟨f,rfl,h2⟩:=n t _ _ _ h1;rw[au_];exact h2
   grind
  grind
 |d t x=>rfl|nil t=>rfl|full t x=>rfl|_=>simp[cA,iw]at h
theorem Rr{tid:TypeId}{t:Ty}{x:X}(c:x.wf=true)(h:aX O d (.pW tid t x) s κ kp=some r):Pu P s (.pW tid x.er) d κ r:=by
 simp only[aX]at h;split at h;.grind
 .rename_i v b f;split at h
  .rename_i y a;refine⟨_,⟨_,aH c f,_,eJ a,(rD (QG a)).1,λq e=>?_,rfl⟩,h⟩;cases v<;>try cases e
   .grind
   .rename_i v;simp[cA,iw]at a
  grind
 grind
theorem M2{tid:TypeId}{x:X}(a:x.wf=true)(h:aX O d (.iface tid x) s κ kp=some r):Pu P s (.iface tid x.er) d κ r:=by
 simp only[aX]at h;split at h;.rename_i v b;exact⟨_,⟨_,aH a b,rfl⟩,h⟩
 grind
end
section
variable {R:Type} {P:Program} {O:bi} {d:Option Nat} {s:S} {κ kp:S->Option R} {r:R}
theorem pc(cs:List V)(off:Nat)(vs:List V):(fP cs off vs).map aU=splice (cs.map aU) off (vs.map aU):=by simp[fP,splice]
theorem xD:∀(parts:List (Nat×Nat×X)) (cs:List V) (f:List V->Option R),parts.all (λq=>q.2.2.wf)=true->aX.buildT s cs parts f=some r->
 ∃c b,((parts.map λq=>(q.1,q.2.1,q.2.2.er)).mapM λq=>((enc s).get q.2.2).map λa=>(q.1,q.2.1,a))=some c/\(∀q∈c,q.2.2.ok=true/\q.2.2.cells.length=q.2.1/\q.1+q.2.1<=cs.length)/\b.map aU=c.foldl (λcs q=>splice cs q.1 q.2.2.cells) (cs.map aU)/\f b=some r
 |[],cs,f,_,h=>⟨[],cs,rfl,λq j=>(by grind),rfl,h⟩
 |(off,sz,x)::l,cs,f,d,h=>by
  simp only[r_,a_]at d;simp only[aX.buildT]at h;split at h
  .rename_i v u;obtain⟨h1,h2⟩:=aY h;simp only[a_]at h1;have hsz:=b_ h1.1.1;have g:=c_ h1.1.2;obtain⟨w,y⟩:=rD h1.2;obtain⟨c,b,k,n,p,e⟩:=xD l _ f d.2 h2;have hl:(fP cs off (dq v)).length=cs.length:=by grind[fP,ac_,List.length_take,aI_]
   refine⟨(off,sz,a8 v)::c,b,?_,λq j=>?_,?_,e⟩;all_goals grind[aH,pc]
  grind
theorem M0{zero:List V}{parts:List (Nat×Nat×X)}(f:zero.all V.Ey=true/\parts.all (λq=>q.2.2.wf)=true)(h:aX O d (.build zero parts) s κ kp=some r): Pu P s (.build (zero.map yK) (parts.map λq=>(q.1,q.2.1,q.2.2.er))) d κ r:=by
 obtain⟨j,a,b,k,c,e⟩:=xD parts zero _ f.2 h;have g:(zero.map yK).map (λv=>bI v)=zero.map aU:=by grind[k_,uF]
 refine⟨_,⟨j,b,λq l=>by grind,?_⟩,e⟩;rw[g,<-c];rfl
theorem lP{t:Ty}:∀(parts:List X) (f:List t.den->Option R),parts.all X.wf=true->aX.listT s t parts f=some r->∃xs:List t.den,(parts.map X.er).mapM (λx=>((enc s).get x).bind AV.bG)=some (xs.map (aN t))/\xs.length=parts.length/\f xs=some r
 |[],f,_,h=>⟨[],rfl,rfl,h⟩
 |x::l,f,a,h=>by
  simp only[r_,a_]at a;simp only[aX.listT]at h;split at h
  .rename_i v c;split at h;.rename_i y d;obtain⟨xs,h1,h2,b⟩:=lP l _ a.2 h;refine⟨y::xs,?_,by grind,b⟩;rw[n_,o_,h1];simp only[aH a.1 c,q_,eJ d];rfl
   grind
  grind
theorem jc{t:Ty}(xs:List t.den):∀p∈xs.map (aN t),p.cells.length=t.sz/\p.ok=true:=λp hp=>by obtain⟨x,_,rfl⟩:=s_.1 hp;simp[aR,ws]
theorem Ia{tid:TypeId}{t:Ty}{len:Nat}{parts:List X}(c:parts.all X.wf=true)(h:aX O d (.bQ false tid t len parts) s κ kp=some r):Pu P s (.bQ false tid t.sz len (parts.map X.er)) d κ r:=by obtain⟨h1,h2⟩:=aY h;simp only[a_]at h1;obtain⟨xs,a,e,b⟩:=lP parts _ c h2;refine⟨_,⟨_,a,?_,c_ h1.1.2,c_ h1.2,jc xs,.inl rfl⟩,b⟩;grind[b_]
theorem MD{k:Av.K}:∀(vs:List V) (a:List PV) (n:Nat),(vs.map aU).mapM BV.bG=some a->(∀j,j<vs.length->(vs.getD j .any).isNil=(k.at (n+j)).isSome/\(vs.getD j .any).ZL=false)->
 (vs.map aU).mapM BV.lW=some ((a.zipIdx n).map fun(y,j)=>if(k.at j).isSome then vr else y)
 |[],a,n,h,_=>by simp at h;subst h;rfl
 |v::vs,a,n,h,e=>by
  simp only[n_,o_,B_,L_,p_,h_]at h;obtain⟨p,h1,b,h2,rfl⟩:=h;have f:=MD vs b (n+1) h2 λj g=>by have:=e (j+1) (by grind);simpa[show n+(j+1)=n+1+j by omega]using this
  obtain⟨c,d⟩:=e 0 (by simp);simp only[List.getD_cons_zero,aC_]at c d;rw[n_,o_,f];have:(aU v).lW=some (if(k.at n).isSome then vr else p):=by
   rw[<-c];cases v with
   |nil u=>rfl|raw u=>cases d|_=>first
    |exact h1
    |cases h1
  rw[this];rfl
theorem S4{k:Av.K}{t:Ty}{v:V}{y:t.den}(hd:cA t v=some y)(hn:V5 k v=true):(a8 v).lW=some (dL k t y):=by
 simp only[V5,a_,e_,U_,beq_iff_eq,z_]at hn;obtain⟨h1,h2⟩:=hn;have d:=eJ hd;cases v with
 |nil u=>
  have a:=(h2 0 (by simp[dq])).1;have c:(k.at 0).isSome=true:=by rw[<-a];rfl
  have g:aN t y= .list 0 []:=by have:(a8 (.nil u)).bG=some (.list 0 []):=rfl;grind
  show some vr=some (dL k t y);grind[dL]
 |agg vs=>
  have b:((vs.map aU).mapM BV.bG).map PV.agg=some (aN t y):=d;obtain⟨f,a,c⟩:=d_.1 b;show((vs.map aU).mapM BV.lW).map PV.agg=_;rw[MD vs f 0 a λj e=>by have:=h2 j e;rw[aa_];exact this]
  grind[dL,List.mapIdx_eq_zipIdx_map]
 |_=>grind
theorem Bs{k:Av.K}{t:Ty}:∀(parts:List X) (f:List t.den->Option R),parts.all X.wf=true->aX.listN s k t parts f=some r->∃xs:List t.den,(parts.map X.er).mapM (λx=>((enc s).get x).bind AV.lW)=some (xs.map (dL k t))/\xs.length=parts.length/\f xs=some r
 |[],f,_,h=>⟨[],rfl,rfl,h⟩
 |x::l,f,a,h=>by
  simp only[r_,a_]at a;simp only[aX.listN]at h;split at h
  .rename_i v c;split at h;.rename_i y d;obtain⟨hn,h⟩:=aY h;obtain⟨xs,h1,h2,b⟩:=Bs l _ a.2 h;refine⟨y::xs,?_,by grind,b⟩;rw[n_,o_,h1];simp only[aH a.1 c,q_,S4 d hn];rfl
   grind
  grind
theorem Dt(k:Av.K)(t:Ty)(x:t.den):(dL k t x).cells=(aN t x).cells.mapIdx λj y=>if(k.at j).isSome then vr else y:=by unfold dL;cases h:aN t x with|agg cs=>rfl|_=>show(if(k.at 0).isSome then vr else _).cells=[if(k.at 0).isSome then vr else _];split<;>rfl
theorem HC{k:Av.K}{t:Ty}(xs:List t.den):∀p∈xs.map (dL k t),p.cells.length=t.sz/\p.ok=true:=λp hp=>by
 obtain⟨x,_,rfl⟩:=s_.1 hp;have hc:=Dt k t x;refine⟨by grind[aR],?_⟩;show(dL k t x).cells.all PV.dh=true;rw[hc];have:=ws t x;simp only[PV.ok,e_]at this⊢;intro y a;rw[List.mem_mapIdx]at a;obtain⟨i,b,rfl⟩:=a;split;.rfl
 grind
theorem E9{tid:TypeId}{k:Av.K}{t:Ty}{len:Nat}{parts:List X}(c:parts.all X.wf=true)(h:aX O d (.eE tid k t len parts) s κ kp=some r):Pu P s (.eE tid t.sz len (parts.map X.er)) d κ r:=by obtain⟨h1,h2⟩:=aY h;simp only[a_]at h1;obtain⟨xs,a,e,b⟩:=Bs parts _ c h2;refine⟨_,⟨_,a,?_,c_ h1.1.2,c_ h1.2,HC xs,rfl⟩,b⟩;grind[b_]
theorem E8{tid:TypeId}{t:Ty}{len:Nat}{parts:List X}(c:parts.all X.wf=true)(h:aX O d (.ow tid t len parts) s κ kp=some r):Pu P s (.bQ false tid t.sz len (parts.map X.er)) d κ r:=by obtain⟨h1,h2⟩:=aY h;simp only[a_]at h1;obtain⟨xs,a,e,b⟩:=lP parts _ c h2;refine⟨_,⟨_,a,?_,c_ h1.1.2,c_ h1.2,jc xs,.inr rfl⟩,b⟩;grind[b_]
theorem Rq{tid:TypeId}{t:Ty}{bytes:Nat}{x y:X}(a:x.wf=true/\y.wf=true)(h:aX O d (.pi tid t bytes x y) s κ kp=some r):Pu P s (.pi tid t.sz bytes x.er y.er) d κ r:=by
 obtain⟨v,ys,e,h1,h2⟩:=kw h;split at h1;.rename_i u c;obtain⟨l,b⟩:=bF h1;refine⟨.d (.list t) ys,⟨_,aH a.1 c,_,aH a.2 e,h2 _ ⟨λp hp=>(jc ys p hp).2,[],.inl ⟨rfl,rfl⟩,by grind,rfl⟩⟩,b⟩
 .rename_i u xs c;split at h1;.rename_i zs n;obtain⟨f,g⟩:=bV n;have j:=Ty.list.inj f;subst j;have k:zs=xs:=g;subst k;obtain⟨l,b⟩:=bF h1;refine⟨.d (.list u) (zs++ys),⟨_,aH a.1 c,_,aH a.2 e,h2 _ ⟨λp hp=>(jc ys p hp).2,zs.map (aN u),.inr rfl,by grind,?_⟩⟩,b⟩;rw[<-v_];rfl
  grind
 grind
theorem WB{x:X}(c:x.wf=true)(h:aX O d (.Gb x) s κ kp=some r):Pu P s (.Gb x.er) d κ r:=by
 obtain⟨v,xs,e,b,hl⟩:=kw h;have a:∀l:List Int,bytesOf (l.map (aN (.int .u8)))=some l:=by intro l;induction l with|nil=>rfl|cons x l f=>grind[bytesOf,aN]
 refine⟨_,⟨_,aH c e,hl _ ⟨_,a xs,?_⟩⟩,b⟩;rfl
theorem xG:∀(caps:List X) (ids:List Nat),caps.all X.wf=true->aX.capsOf s caps=some ids->(caps.map X.er).mapM (enc s).get=some (ids.map λi=>.b (.ptr i 0))
 |[],ids,_,h=>by cases h;rfl
 |x::l,ids,a,h=>by
  simp only[r_,a_]at a;simp only[aX.capsOf]at h;split at h
  .rename_i i b;split at h;.rename_i c hl;cases h;rw[n_,o_,aH a.1 b,xG l c a.2 hl];rfl
   grind
  grind
theorem Bg:∀(caps:List X) (cs:List ((t:Ty)×t.den)),caps.all X.wf=true->aX.capsD s caps=some cs->(caps.map X.er).mapM (enc s).get=some ((cs.map λc=>PV.Bw (aN c.1 c.2)).map .p)
 |[],ids,_,h=>by cases h;rfl
 |x::l,ids,a,h=>by
  simp only[r_,a_]at a;simp only[aX.capsD]at h;split at h
  .rename_i i b;split at h;.rename_i d hl;cases h;rw[n_,o_,aH a.1 b,Bg l d a.2 hl];rfl
   grind
  grind
theorem RD{f:FuncId}{caps:List X}(b:caps.all X.wf=true)(h:aX O d (.rB f caps) s κ kp=some r):Pu P s (.rB f (caps.map X.er)) d κ r:=by
 simp only[aX]at h;split at h;.rename_i ids a;exact⟨_,⟨_,xG caps ids b a,.inl ⟨ids,rfl,rfl⟩⟩,h⟩
 .split at h;.rename_i cs hcs;exact⟨_,⟨_,Bg caps cs b hcs,.inr ⟨_,rfl,rfl⟩⟩,h⟩
  grind
theorem yi{k:IntKind}:∀(ys:List X) (f:List Int->Option R),ys.all X.wf=true->aX.intsOf s k ys f=some r->∃a:List Int,(ys.map X.er).mapM (enc s).get=some (a.map λn=>.v (.int k n))/\f a=some r
 |[],f,_,h=>⟨[],rfl,h⟩
 |x::l,f,b,h=>by
  simp only[r_,a_]at b;simp only[aX.intsOf]at h;split at h
  .rename_i j n g;obtain⟨h1,h2⟩:=aY h;have e:j=k:=by grind
   subst e;obtain⟨a,c,d⟩:=yi l _ b.2 h2;refine⟨n::a,?_,d⟩;rw[n_,o_,aH b.1 g,c];rfl
  grind
theorem RE{mx:Bool}{k:IntKind}{x:X}{ys:List X}(c:x.wf=true/\ys.all X.wf=true)(h:aX O d (.mb mx k x ys) s κ kp=some r):Pu P s (.mb mx k x.er (ys.map X.er)) d κ r:=by
 simp only[aX]at h;split at h
 .rename_i j n g;obtain⟨p,h1⟩:=aY h;have e:j=k:=by grind
  subst e;obtain⟨l,h2,f⟩:=yi ys _ c.2 h1;refine⟨_,⟨_,aH c.1 g,_,rfl,_,_,rfl,_,h2,l,rfl,rfl,?_⟩,f⟩;have:(fun(a b:Int)=>if mx=true then max a b else min a b)=λa b=>bif mx then max a b else min a b:=by grind
  rw[this];rfl
 grind
theorem Jg:∀(t:Ty) (x y:t.den),t.Dw=true->gI t x y=true->x=y
 | .int _,x,y,_,h=>by grind[gI]
 | .bool,x,y,_,h=>by grind[gI]
 | .str,x,y,_,h=>by grind[gI]
 | .unit,_,_,_,_=>rfl
 | .pair a b,x,y,h,h2=>by simp only[Ty.Dw,a_]at h;simp only[gI,a_]at h2;exact Prod.ext (Jg a x.1 y.1 h.1 h2.1) (Jg b x.2 y.2 h.2 h2.2)
theorem zbn(a b:List UInt8):((⟨a.toArray⟩:ByteArray)==⟨b.toArray⟩)=(a==b):=(show _=(a.toArray==b.toArray)from rfl).trans (by simp)
theorem JD(P:Program):∀(d:Nat) (t:TypeId) (u:Ty),wH P d t u=true->∀x y:u.den,wu P d t (aN u x) (aN u y)=some (gI u x y)/\Au P d t (aN u x)=true:=by
 intro d;induction d with
 |zero=>simp[wH]|succ d O=>
  intro t u h x y;unfold wH at h;have J:∀(l:List Field) (off:Nat) (u:Ty) (x y:u.den) (xs ys:List PV),YB P (wH P d) l off u=true->off<=xs.length->xs.drop off=aO u x->off<=ys.length->ys.drop off=aO u y->
   wu.eqFs P d l xs ys=some (gI u x y)/\(l.all λf=>f.name != "_" &&(match P.info? f.type with
    |some i=>(P.underlying f.type).isSome&&decide (f.offset+i.size<=xs.length)&&(ip P f.type||decide (i.size=1))&&Au P d f.type ((PV.agg xs).sub f.offset i.size (ip P f.type))
    |none=>false))=true:=by
   intro l
   induction l with
   |nil=>intro off u x y xs ys h _ _ _ _;cases u<;>simp[YB]at h;exact⟨by unfold wu.eqFs;rfl,rfl⟩|cons f l A=>
    intro off u x y xs ys h n r p s;cases u<;>try (simp[YB]at h;done)
    rename_i a b;simp only[YB,a_]at h;obtain⟨⟨⟨⟨hn,w⟩,v⟩,L⟩,hr⟩:=h;have w:=b_ w;cases j:P.info? f.type with
    |none=>grind|some i=>
     rw[j]at v;simp only[a_]at v;obtain⟨⟨hsz,e⟩,c⟩:=v;have hsz:=b_ hsz;have c:ip P f.type=a.ag:=by grind
     have g:f.name≠ "_" :=by grind
     have cut:∀(z:(Ty.pair a b).den) (zs:List PV),off<=zs.length->zs.drop off=aO (.pair a b) z->(PV.agg zs).sub f.offset i.size (ip P f.type)=aN a z.1/\f.offset+i.size<=zs.length/\zs.drop (off+a.sz)=aO b z.2:=by
      intro z zs M hd;have hc:aO (.pair a b) z=aO a z.1++aO b z.2:=rfl;rw[hc]at hd;have hl:=congrArg ay_ hd;simp only[aI_,ac_,aR]at hl;refine⟨?_,by omega,?_⟩
      .rw[w,hsz,c];refine Kq ?_ ?_;.show(zs.drop off).take a.sz=_;rw[hd,List.take_append_of_le_length (by simp[aR]),V_ (by simp[aR])]
       .show off+a.sz<=zs.length;omega
      .rw[<-aN_,hd,List.drop_append_of_le_length (by simp[aR]),List.drop_of_length_le (by simp[aR]),aK_]
     obtain⟨D,Q,E⟩:=cut x xs n r;obtain⟨F,R,H⟩:=cut y ys p s;obtain⟨I,k1⟩:=O f.type a L x.1 y.1;obtain⟨T,k2⟩:=A (off+a.sz) b x.2 y.2 xs ys hr (by omega) E (by omega) H;have B:ip P f.type=false->i.size=1:=λh=>by rw[hsz];exact fL (by grind)
     refine⟨?_,?_⟩
     .unfold wu.eqFs;rw[if_neg g,j];simp only[q_];rw[if_neg (by
       rintro(h|h|h|h);.rw[R_]at h;grind
       all_goals grind),D,F,I]
      simp only[q_,gI];grind
     grind
  have st:∀fl,P.underlying t=some (.struct fl)->(!P.stoodInHeld t&&YB P (wH P d) fl.toList 0 u)=true->wu P (d+1) t (aN u x) (aN u y)=some (gI u x y)/\Au P (d+1) t (aN u x)=true:=by
   intro fl e h;simp only[a_]at h;have N:P.stoodInHeld t=false:=by grind
   have c:u.ag=true:=by cases hl:fl.toList with|nil=>rw[hl]at h;cases u<;>simp[YB]at h;rfl|cons f l=>rw[hl]at h;cases u<;>simp[YB]at h;rfl
   obtain⟨U,Y⟩:=J fl.toList 0 u x y (aO u x) (aO u y) h.2 (I_ _) rfl (I_ _) rfl;rw[eY x c,eY y c];refine⟨?_,?_⟩;.unfold wu;grind
   .unfold Au;grind
  split at h;.rename_i e;exact⟨by unfold wu;rw[e];rfl,by unfold Au;rw[e];rfl⟩
  .rename_i k C e;refine⟨?_,by unfold Au;rw[e];rfl⟩;unfold wu;rw[e];show(if C=C then some (_==_)else none)=_;rw[if_pos rfl];rfl
  .rename_i e;refine⟨?_,by unfold Au;rw[e];rfl⟩;unfold wu;rw[e];show some (_==_)=_;rw[zbn];rfl
  all_goals grind
theorem WG{neg:Bool}{tid:TypeId}{t:Ty}{x y:X}(c:x.wf=true/\y.wf=true/\wH P 64 tid t=true)(h:aX O d (.sy neg tid t x y) s κ kp=some r):Pu P s (.sy neg tid x.er y.er) d κ r:=by
 simp only[aX]at h;split at h
 .rename_i v u g j;split at h;.rename_i a b e f;obtain⟨_,h2⟩:=aY h;refine⟨_,⟨_,aH c.1 g,_,aH c.2.1 j,_,eJ e,_,eJ f,_,(JD P 64 tid t c.2.2 a b).1,?_⟩,h2⟩;rfl
  grind
 grind
theorem Eh{k:TypeId}{a b:Ty}(n:wH P 64 k a=true)(y:a.den):∀(kvs:List (a.den×b.den)) (i:Nat),(∀e∈kvs.map (λp=>(aN a p.1,aN b p.2)),(wu P 64 k (aN a y) e.1).isSome=true)/\
 ((dA a b kvs y=none/\r5 P k (aN a y) (kvs.map λp=>(aN a p.1,aN b p.2)) i=some none)\/∃j v d,dA a b kvs y=some v/\kvs[j]? =some (d,v)/\gI a y d=true/\(∀i' e,i'<j->kvs[i']? =some e->gI a y e.1=false)/\r5 P k (aN a y) (kvs.map λp=>(aN a p.1,aN b p.2)) i=some (some (i+j,aN b v)))
 |[],i=>⟨λe h=>(by grind),.inl ⟨rfl,rfl⟩⟩
 |(d,v)::l,i=>by
  obtain⟨h1,h2⟩:=Eh n y l (i+1);have C:=(JD P 64 k a n y d).1;refine⟨λe h=>?_,?_⟩;.grind
  .have c:r5 P k (aN a y) (((d,v)::l).map λp=>(aN a p.1,aN b p.2)) i=if gI a y d=true then some (some (i,aN b v))else r5 P k (aN a y) (l.map λp=>(aN a p.1,aN b p.2)) (i+1):=by show(wu P 64 k (aN a y) (aN a d)).bind _=_;grind
   cases g:gI a y d
   .rw[g]at c;simp only[S_,if_false]at c;have hg:dA a b ((d,v)::l) y=dA a b l y:=by grind[dA]
    rcases h2 with⟨r,s⟩|⟨j,u,z,r,s,w,B,A⟩;.grind
    .refine .inr ⟨j+1,u,z,by grind,by grind,w,λi' e f x=>?_,by grind⟩;grind
   .rw[g]at c;refine .inr ⟨0,v,d,by grind[dA],rfl,g,λi' e f=>absurd f (by simp),by grind⟩
theorem Mj{k:TypeId}{a:Ty}(b:wH P 64 k a=true):(P.underlying k).isSome=true:=by unfold wH at b;grind
theorem za3{b:Ty}(h:b.sc=true):aN b b.zero= .sc (mR b):=by cases b<;>simp[Ty.sc]at h<;>rfl
theorem Ib{k e:TypeId}{ok:Bool}{a b:Ty}{m x:X}(g:m.wf=true/\x.wf=true/\wH P 64 k a=true/\b.sc=true)(h:aX O d (.lookup k e ok a b m x) s κ kp=some r):Pu P s (.lookup k e ok (mR b) m.er x.er) d κ r:=by
 simp only[aX]at h;split at h
 .rename_i id v I L;split at h
  .rename_i N Q l b' kvs y J M;split at h
   .rename_i c n;obtain⟨h1,h2⟩:=aY h;simp only[a_]at h1;have u:=b_ h1.1.1;have w:=b_ h1.1.2;obtain⟨z,A⟩:=bV n;injection (Ty.list.inj z)with B C;subst u;subst w;subst B;subst C;have e8:c=kvs:=A;subst e8;obtain⟨D,E⟩:=Eh g.2.2.1 y c 0;have f:∀(K:AV->Prop) (ok:Bool),K (match ok with
     |true=>.dP [.pv (aN b' ((dA l b' c y).getD b'.zero)),.pv (.sc (.bool (dA l b' c y).isSome))]
     |false=>.p (aN b' ((dA l b' c y).getD b'.zero)))->jh P (enc s) (.lookup k e ok (mR b') m.er x.er) K:=by
     intro K ok U
     refine⟨_,aH g.1 I,_,aH g.2.1 L,id,_,rfl,by rw[bT,J];rfl,_,eJ M,(JD P 64 k l g.2.2.1 y y).2,Mj g.2.2.1,D,?_⟩
     rcases E with⟨F,p⟩|⟨j,v,N,F,p,R,T,H⟩
     .refine⟨_,p,?_⟩;grind[za3]
     .refine⟨_,H,?_⟩;grind
    cases ok with|true=>exact⟨_,f _ true rfl,h2⟩|false=>exact⟨_,f _ false rfl,h2⟩
   grind
  grind
 grind
end
theorem fR(a b:Nat):i_ a b=decide (a=b):=by
 cases h:i_ a b;.exact(decide_eq_false λe=>by rw[e,W_]at h;grind).symm
 .exact(decide_eq_true (b_ h)).symm
def As(l:List Nat)(x:Nat):kJ l x=l.contains x:=by induction l with|nil=>rfl|cons y l a=>simp only[kJ,List.any_cons,List.contains_cons]at a⊢;rw[a];congr 1;rw[fR];grind
theorem yg{l:List Nat}{x:Nat}:kJ l x=true↔x∈l:=by rw[As,aw_]
theorem uf{l m:List Nat}:allIn l m=true↔∀i∈m,i∈l:=by simp only[allIn,e_,yg]
def Da:Hr=gW:=by
 funext B n k;unfold Hr gW;by_cases h:k<B.length;.rw[if_pos h,Nat.ble_eq_true_of_le h];rfl
 .rw[if_neg h];have:J_ (k+1) B.length=false:=by
   cases a:J_ (k+1) B.length;.rfl
   .exact absurd (c_ a) h
  grind
def OB(v:Value)(ρ:Nat->Nat):(bI v).eV ρ=bI v:=by unfold bI;split<;>rfl
theorem wm(v:Value):(bI v).ids=[]:=by unfold bI;split<;>rfl
def LC(v:Value)(i:Nat):(bI v).kill i=bI v:=by unfold bI;split<;>rfl
def Jc(v:Value)(B:List Nat):(bI v).cE B=bI v:=by unfold bI;split<;>rfl
def Ds(ρ:Nat->Nat)(v:V):aU (v.eV ρ)=(aU v).eV ρ:=by cases v<;>first|rfl|exact(OB _ ρ).symm
def xO(v:V):v.Cb=(aU v).ids:=by cases v<;>first|rfl|exact(wm _).symm
def z7(id:Nat)(v:V):aU (v.ym id)=(aU v).kill id:=by
 cases v<;>first|rfl|exact(LC _ id).symm|skip
 .rename_i k;show aU (bif i_ k id then .any else .sl k)=if k=id then _ else _;rw[fR];by_cases h:k=id<;>simp[h,aU]
 .rename_i k i o;show aU (bif i_ k id then .any else .i6 k i o)=if k=id then _ else _;rw[fR];by_cases h:k=id<;>simp[h,aU]
def wq(B:List Nat)(v:V):aU (rk B v)=(aU v).cE B:=by
 cases v<;>first|rfl|exact(Jc _ B).symm|skip
 .rename_i k;show aU (bif kJ B k then .any else .sl k)=if B.contains k=true then _ else _;rw[As];cases h:B.contains k<;>simp[aU]
 .rename_i k i o;show aU (bif kJ B k then .any else .i6 k i o)=if B.contains k=true then _ else _;rw[As];cases h:B.contains k<;>simp[aU]
theorem kU{v:V}(h:v.HR=false):a8 v= .b (aU v):=by cases v<;>first|rfl|cases h
def VY{g:V->V}{v:V}(h:v.HR=false):ju g v=g v:=by cases v<;>first|rfl|cases h
def Dq{g:V->V}{G:BV->BV}(hg:∀v,aU (g v)=G (aU v))(b:∀v,v.HR=false->(g v).HR=false)(v:V): a8 (ju g v)=(match a8 v with| .b x=>.b (G x)| .agg xs=>.agg (xs.map G)| .dP xs=>.dP (xs.map G)):=by
 have c:∀vs:List V,(vs.map g).map aU=(vs.map aU).map G:=λvs=>by rw[j_,j_];exact k_ λv _=>hg v
 cases a:v.HR;.rw[VY a,kU a,kU (b v a),hg]
 .cases v with|agg vs=>show AV.agg _=AV.agg _;grind|dP vs=>show AV.dP _=AV.dP _;grind|_=>cases a
def Dr(ρ:Nat->Nat)(v:V):a8 (ju (V.eV ρ) v)=(a8 v).eV ρ:=by
 rw[Dq (G:=BV.eV ρ) (Ds ρ) λv h=>by cases v<;>first|rfl|cases h]
 cases a8 v<;>rfl
def Sz(id:Nat)(v:V):a8 (ju (V.ym id) v)=(a8 v).kill id:=by
 rw[Dq (G:=BV.kill id) (z7 id) λv h=>by cases v<;>first|rfl|(simp only[V.ym];cases i_ _ id<;>rfl)|cases h]
 cases a8 v<;>rfl
def OG(B:List Nat)(v:V):a8 (ju (rk B) v)=(a8 v).cE B:=by
 rw[Dq (G:=BV.cE B) (wq B) λv h=>by cases v<;>first|rfl|(simp only[rk];cases kJ B _<;>rfl)|cases h]
 cases a8 v<;>rfl
theorem nh(v:V):v.ids=(a8 v).ids:=by
 have b:∀vs:List V,vs.flatMap V.Cb=(vs.map aU).flatMap BV.ids:=λvs=>by induction vs with|nil=>rfl|cons v vs c=>simp only[ah_,n_,c,xO]
 cases a:v.HR
 .rw[kU a];have:v.ids=v.Cb:=by cases v<;>first|rfl|cases a
  rw[this];exact xO v
 .cases v with|agg vs=>exact b vs|dP vs=>exact b vs|_=>cases a
def xP(ρ:Nat->Nat)(o:Ob):b8 (rz (V.eV ρ) o)=(b8 o).eV ρ:=by
 cases o<;>first|rfl|skip
 rotate_left
 .rename_i hole;cases hole with|none=>rfl|some q=>obtain⟨i,j,v⟩:=q;show aM.tree _ _ _ _ (some (_,_,aU _))=aM.tree _ _ _ _ (some (_,_,_));rw[Ds ρ v]
 show aM.box _ _=aM.box _ _;rw[j_,j_];congr 1;exact k_ λv _=>Ds ρ v
def SA(id:Nat)(o:Ob):b8 (rz (V.ym id) o)=(b8 o).kill id:=by
 cases o<;>first|rfl|skip
 rotate_left
 .rename_i hole;cases hole with|none=>rfl|some q=>obtain⟨i,j,v⟩:=q;show aM.tree _ _ _ _ (some (_,_,aU _))=aM.tree _ _ _ _ (some (_,_,_));rw[z7 id v]
 show aM.box _ _=aM.box _ _;rw[j_,j_];congr 1;exact k_ λv _=>z7 id v
def OH(B:List Nat)(o:Ob):b8 (rz (rk B) o)=(b8 o).cE B:=by
 cases o<;>first|rfl|skip
 rotate_left
 .rename_i hole;cases hole with|none=>rfl|some q=>obtain⟨i,j,v⟩:=q;show aM.tree _ _ _ _ (some (_,_,aU _))=aM.tree _ _ _ _ (some (_,_,_));rw[wq B v]
 show aM.box _ _=aM.box _ _;rw[j_,j_];congr 1;exact k_ λv _=>wq B v
def Du(o:Ob):o.ids=(b8 o).ids:=by
 cases o<;>first|rfl|skip
 rotate_left
 .rename_i hole;cases hole with|none=>rfl|some q=>obtain⟨i,j,v⟩:=q;exact xO v
 show aR_ _ _=aR_ _ (aT_ _ _);rw[List.flatMap_map];congr 1;funext v;exact xO v
def Aa(s:S)(id:Nat)(o:Ob):enc (s.fD id o)=(enc s).fD id (b8 o):=by
 simp only[enc,S.fD,St.fD,fc,j_,Q_];congr 1;.exact k_ λx _=>by simp[Sz]
 .congr 1;exact k_ λo _=>SA id o
def Hq(B:List Nat)(os:List Ob)(n:Nat):∀(l:List Ob) (i:Nat),(Qs B os n i l).map b8=(l.map b8).mapIdx (λj o=>if B.contains (i+j)then(((os.map b8).getD (B.idxOf (i+j)) .gone).eV (gW B n))else o.cE B)
 |[],_=>rfl
 |o::l,i=>by
  simp only[Qs,n_,List.mapIdx_cons,aC_];rw[Hq B os n l (i+1)];congr 1
  .rw[As];cases h:B.contains i;.simp[OH]
   .simp only[cond_true,if_true,xP,Da,Es];congr 1;simp only[aP_,m_];cases os[B.idxOf i]? <;>rfl
  grind
def LJ(s:S)(B:List Nat)(os:List Ob):enc (s.back B os)=(enc s).back B (os.map b8):=by
 simp only[enc,S.back,St.back,j6];congr 1;.rw[j_,j_];exact k_ λx _=>by simp[OG]
 .rw[v_,Hq];congr 1;.simp
  .rw[<-al_,j_,j_];exact k_ λo _=>by simp[xP,Da]
section
variable {P:Program} {s:S}
theorem Bv:∀(B:List Nat) (os:List Ob),MM s B=some os->B.mapM ((enc s).hp[·]?)=some (os.map b8)
 |[],os,h=>by cases h;rfl
 |i::B,os,h=>by
  simp only[MM]at h;split at h
  .rename_i o a;split at h;.rename_i l hl;cases h;rw[o_,Bv B l hl,bT,a];rfl
   grind
  grind
theorem SZ{α β:Type}{f:α->Option β}{l:List α}{x:α}(a:x∈l)(h:f x=none):l.mapM f=none:=by
 induction l with
 |nil=>grind|cons y l b=>
  rw[o_];rcases E_.1 a with rfl|a;.grind
  .rw[b a];simp
theorem Oc{hp:List aM}{bor:Bool}{B:List Nat}{t:Ty}{v:V}{x:t.den}(h:cA t v=some x):m7 hp bor B (a8 v)=some (a8 (.d t x)):=by
 have hd:=eJ h;cases v with
 |d u y=>obtain⟨b,_⟩:=bR (show bE u t y=some x from h);show some (AV.p _)=some (AV.p _);grind
 |nil u=>obtain⟨b,_⟩:=bR (show bE (.list u) t []=some x from h);show some (AV.p _)=some (AV.p (aN t x));rw[b];rfl
 |full u y=>obtain⟨b,_⟩:=bR (show bE (.list u) t y=some x from h);show some (AV.p _)=some (AV.p (aN t x));rw[b];rfl
 |agg vs=>have a:((vs.map aU).mapM BV.bG).map PV.agg=some (aN t x):=hd;show(if((vs.map aU).mapM BV.bG).isSome=true then _ else _)=_;cases c:(vs.map aU).mapM BV.bG with|none=>grind|some cs=>rw[c]at a;simp only[aA_,if_true];show(((vs.map aU).mapM BV.bG).map PV.agg).map AV.p=_;rw[c,a];rfl
 |_=>simp[cA,iw]at h
theorem Le{bor:Bool}{B:List Nat}{a:Arg×X}{v:V}(d:a.2.wf=true)(h:Hn s bor B a=some v)(g:∀i∈v.ids,i∈B):((enc s).get a.2.er).bind (m7 (enc s).hp bor B)=some (a8 v):=by
 obtain⟨a,x⟩:=a;simp only[Hn]at h;split at h
 .rename_i t id b;obtain⟨h1,h2⟩:=aY h;simp only[a_,z_]at h1;split at h2
  .rename_i e u xs j;split at h2
   .rename_i ys c;cases h2;obtain⟨k,l⟩:=bR c;rw[aH d b,q_];have f:B.contains id=false:=by rw[<-As];grind
    show(if B.contains id=true then _ else _)=_;rw[f];simp only[S_,if_false];show(if bor=true then Kf (enc s).hp id else none).map AV.p=_;rw[h1.1,if_pos rfl,Kf,bT,j];show some (AV.p (aN (.list u) xs))=some (AV.p (aN (.list t) ys));grind
   grind
  .rename_i e kk u xs j;split at h2
   .rename_i ys c;cases h2;obtain⟨k,l⟩:=bR c;rw[aH d b,q_];have f:B.contains id=false:=by rw[<-As];grind
    show(if B.contains id=true then _ else _)=_;rw[f];simp only[S_,if_false];show(if bor=true then Kf (enc s).hp id else none).map AV.p=_;rw[h1.1,if_pos rfl,Kf,bT,j];show some (AV.p (aN (.list u) xs))=some (AV.p (aN (.list t) ys));grind
   grind
  grind
 .rename_i t p _ b;split at h;.rename_i y c;cases h;rw[aH d b,q_];exact Oc c
  grind
 .rename_i p b;rw[aH d b,q_];split at h;.grind
  .grind
  .grind
  .grind
  .rename_i vs;obtain⟨h1,h2⟩:=aY h;cases h2;obtain⟨u,n,hr⟩:=aD_.1 h1;have:(vs.map aU).mapM BV.bG=none:=SZ (az_ n) (by cases u<;>first|rfl|cases hr)
   show(if((vs.map aU).mapM BV.bG).isSome=true then _ else _)=_;rw[this];rfl
  .rename_i r z A C D;cases h;cases v<;>first|rfl|skip
   .grind
   .grind
   .rename_i id;have:B.contains id=true:=aw_.2 (g id (by simp[V.ids,V.Cb]));show(if B.contains id=true then _ else _)=_;rw[this];rfl
   .grind
   .rename_i w;show m7 _ _ _ (AV.b (bI w))=some (AV.b (bI w));unfold bI;split;.grind
    .rfl
 grind
theorem qN{bor:Bool}{B:List Nat}:∀(l:List (Arg×X)) (vs:List V),iT l=true->kQ s bor B l=some vs->(∀v∈vs,∀i∈v.ids,i∈B)->(l.map λa=>a.2.er).mapM (λx=>((enc s).get x).bind (m7 (enc s).hp bor B))=some (vs.map a8)
 |[],vs,_,h,_=>by cases h;rfl
 |a::l,vs,c,h,b=>by
  simp only[iT,r_,a_]at c;simp only[kQ]at h;split at h
  .rename_i v f;split at h;.rename_i us d;cases h;rw[n_,o_,Le c.1 f (b v (by simp)),qN l us c.2 d λu e=>b u (by grind)];rfl
   grind
  grind
end
def Ft{v w:V}(h:V.same v w=true):a8 v=a8 w/\aU v=aU w/\(aU v).sR:=by
 unfold V.same at h;split at h;.have e:=b_ h;subst e;exact⟨rfl,rfl,trivial⟩
 .simp only[a_]at h;have e:=b_ h.1;have a:=b_ h.2;subst e;subst a;exact⟨rfl,rfl,trivial⟩
 .have e:=b_ h;subst e;exact⟨rfl,rfl,trivial⟩
 .simp only[a_,decide_eq_true_eq]at h;have e:=b_ h.1;have a:=h.2;subst e;subst a;exact⟨rfl,rfl,trivial⟩
 .exact⟨rfl,rfl,trivial⟩
 .exact⟨rfl,rfl,.sc _⟩
 .exact⟨rfl,rfl,.sc _⟩
 .exact⟨rfl,rfl,.sc _⟩
 .exact⟨rfl,rfl,.sc _⟩
 grind
def Xa{v w:V}(h:V.same v w=true):v.HR=false:=by unfold V.same at h;split at h<;>first|rfl|cases h
theorem zbz{v:V}{t:Ty}{x:t.den}(h:iw t v=some x):K0 (aU v) (aU (.d t x)):=.data _ _ (lN h)
def zby{v:V}{t:Ty}{x:t.den}(h:cA t v=some x):IQ (a8 v) (a8 (.d t x)):=.data _ _ (eJ h)
def LeC(cs ds:List V):Prop:=cs.length=ds.length/\∀(i:Nat) (x y:V),cs[i]? =some x->ds[i]? =some y->K0 (aU x) (aU y)
def LeC.refl(cs:List V):LeC cs cs:=⟨rfl,λi x y E C=>by rw[E]at C;cases C;exact .refl _⟩
def LeC.box{t:TypeId}{cs ds:List V}(h:LeC cs ds):UH (b8 (.box t cs)) (b8 (.box t ds)):= .box t _ _ (by simp[h.1]) λi x y C E=>by simp only[m_,d_]at C E;obtain⟨u,H,rfl⟩:=C;obtain⟨v,I,rfl⟩:=E;exact h.2 i u v H I
def s6:∀(cs ds:List V),j7 cs ds=true->LeC ds cs/\∀v∈cs,(aU v).sR
 |[],[],_=>⟨⟨rfl,λi x y j=>by simp⟩,λv a=>by grind⟩
 |[],_::_,h=>by grind[j7]
 |x::l,[],h=>by grind[j7]
 |x::l,y::m,h=>by
  have key:K0 (aU y) (aU x)/\(aU x).sR/\j7 l m=true:=by
   unfold j7 at h;split at h;.grind
   .rename_i l1 c b h1 h2;cases h1;cases h2;exact⟨.any _,.any,h⟩
   .rename_i xs l1 ys b h1 h2;cases h1;cases h2;simp only[a_]at h;exact⟨.refl _,.any,h.2⟩
   .rename_i k l1 c b _ _ h1 h2;cases h1;cases h2;simp only[a_]at h;obtain⟨_,e,f⟩:=Ft h.1;exact⟨by rw[e];exact .refl _,f,h.2⟩
   grind
  obtain⟨⟨h1,h2⟩,d⟩:=s6 l m key.2.2;refine⟨⟨by grind,λi u v g a=>?_⟩,λv a=>?_⟩;all_goals grind
def Slot.obj:Slot->Option Nat
 | .vec id _ _=>some id
 | .map id _ _ _ _=>some id
 | .tree id _ _ _=>some id
 | .iE id _ _ _ _ _=>some id
 |_=>none
inductive rX:Ob->Ob->Prop
 |vec (e:TypeId) (t:Ty) (xs ys:List t.den):rX (.vec e t xs) (.vec e t ys)
 |map (k e:TypeId) (a c:Ty) (xs ys:List (a.den×c.den)):rX (.map k e a c xs) (.map k e a c ys)
 |tree (e:TypeId) (k:Av.K) (t:Ty) (xs ys:List t.den):rX (.tree e k t xs none) (.tree e k t ys none)
 |iE (e:TypeId) (k:Av.K) (t:Ty) (xs ys:List t.den) (i i' j kid:Nat):rX (.tree e k t xs (some (i,j,.sl kid))) (.tree e k t ys (some (i',j,.sl kid)))
def R9(l:List Slot)(i:Nat)(o b:Ob):Prop:=
 b= .gone\/(∃t cs ds,o= .box t cs/\b= .box t ds/\LeC cs ds)\/b=o\/(rX o b/\∃x∈l,x.obj=some i)
def R9.le{i:Nat}{o b:Ob}(h:R9 [] i o b):UH (b8 o) (b8 b):=by
 rcases h with rfl|⟨t,cs,ds,rfl,rfl,h⟩|rfl|⟨_,x,h,_⟩;.exact .gone _
 .exact h.box
 .exact .refl _
 grind
def R9.rS{l:List Slot}{x:Slot}{i:Nat}{o b:Ob}(h:R9 (x::l) i o b)(E:x.obj≠some i):R9 l i o b:=by
 rcases h with h|h|h|⟨h,y,H,C⟩;.exact .inl h
 .exact .inr (.inl h)
 .exact .inr (.inr (.inl h))
 .exact .inr (.inr (.inr ⟨h,y,(E_.1 H).resolve_left λe=>E (by grind),C⟩))
def Kg(hp:List Ob):Slot->Prop
 | .vec id e t=>∃ys,hp[id]? =some (.vec e t ys)
 | .map id k e a b=>∃ys,hp[id]? =some (.map k e a b ys)
 | .tree id e k t=>∃ys,hp[id]? =some (.tree e k t ys none)
 | .iE id e k t j kid=>∃ys i,hp[id]? =some (.tree e k t ys (some (i,j,.sl kid)))
 |_=>True
def LeF(fr fr':List (Nat×V)):Prop:=∀k v,lk fr' k=some v->∃u,lk fr k=some u/\IQ (a8 u) (a8 v)
structure Zu(l:List Slot)(s b:S):Prop where
 fr:LeF s.fr b.fr
 len:s.hp.length=b.hp.length
 hp:∀(i:Nat) (o o':Ob),s.hp[i]? =some o->b.hp[i]? =some o'->R9 l i o o'
 on:∀x∈l,Kg b.hp x
def Fu{hp:List Ob}{id:Nat}{o:Ob}{x:Slot}(h:Kg hp x)(n:∀o',hp[id]? =some o'->(∀z,¬rX o' z)\/rX o' o):Kg (hp.set id o) x:=by
 have f:∀(j:Nat) (o':Ob),hp[j]? =some o'->(∃z,rX o' z)->∃d,(hp.set id o)[j]? =some d/\(rX o' d\/d=o'):=λj o' l p=>by grind
 cases x with
 |vec j e t=>
  obtain⟨ys,c⟩:=h;obtain⟨d,h1,h2|rfl⟩:=f j _ c ⟨_,.vec e t ys ys⟩;.cases h2;exact⟨_,h1⟩
  .exact⟨_,h1⟩
 |map j k e a b=>
  obtain⟨ys,c⟩:=h;obtain⟨d,h1,h2|rfl⟩:=f j _ c ⟨_,.map k e a b ys ys⟩;.cases h2;exact⟨_,h1⟩
  .exact⟨_,h1⟩
 |tree j e k t=>
  obtain⟨ys,c⟩:=h;obtain⟨d,h1,h2|rfl⟩:=f j _ c ⟨_,.tree e k t ys ys⟩;.cases h2;exact⟨_,h1⟩
  .exact⟨_,h1⟩
 |iE j e k t g kid=>
  obtain⟨ys,i,c⟩:=h;obtain⟨d,h1,h2|rfl⟩:=f j _ c ⟨_,.iE e k t ys ys i i g kid⟩;.cases h2;exact⟨_,_,h1⟩
  .exact⟨_,_,h1⟩
 |_=>trivial
theorem ME{t:TypeId}{cs:List V}(z:Ob):¬rX (.box t cs) z:=λh=>by cases h
theorem LeF.put{fr fr':List (Nat×V)}(h:LeF fr fr'){k:Nat}{u v:V}(I:lk fr k=some u)(H:IQ (a8 u) (a8 v)):LeF fr ((k,v)::fr'):=λj w C=>by
 simp only[lk]at C;cases E:i_ j k;.rw[E]at C;exact h j w C
 .grind[b_]
def Zu.set{s:S}{x:Slot}{l:List Slot}{b:S}(h:Zu (x::l) s b){id:Nat}{o ob:Ob}(N:x.obj=some id)(H:s.hp[id]? =some o)(E:b.hp[id]? =some ob)(hl:rX ob o):Zu l s ⟨b.fr,setAt b.hp id o⟩:=by
 rw[fc];refine⟨h.fr,by simp[h.len],λi I J h1 h2=>?_,λz U=>Fu (h.on z (by grind)) (λo' M=>by grind)⟩;by_cases C:id=i;.subst C;rw[A_ ((l_.1 E).1)]at h2;cases h2;rw[H]at h1;cases h1;exact .inr (.inr (.inl rfl))
 .rw[t_ C]at h2;exact(h.hp i I J h1 h2).rS (by grind)
def lu(s:S):∀(l:List Slot) (c:HL l) (b:S),EW s l=some c->Zu l s b->Zu [] s (unpack l c b)
 |[],_,b,_,h=>h
 |x::l,c,b,hc,h=>by
  simp only[EW]at hc;split at hc
  .rename_i y f;split at hc
   .rename_i I r;cases hc;cases x with
    |tm k t=>
     simp only[gC]at f;split at f;.rename_i v R;exact lu s l I _ r ⟨h.fr.put R (zby f),h.len,λi o o' h1 h2=>(h.hp i o o' h1 h2).rS (by simp[Slot.obj]),λz L=>h.on z (by grind)⟩
     grind
    |cell id j t=>
     simp only[gC]at f;split at f
     .rename_i u cs p;split at f
      .rename_i v R;refine lu s l I _ r ?_;unfold setCell;split
       .rename_i t' ds n;rw[fc,fc];have hid:=(l_.1 n).1;refine⟨h.fr,by simp[h.len],λi o o' h1 h2=>?_,λz L=>Fu (h.on z (by grind)) (λo' d=>by grind[ME])⟩;by_cases Q:id=i
        .subst Q;rw[A_ hid]at h2;cases h2;rw[p]at h1;cases h1;have e0:∃O C D,Ob.box u cs= .box O C/\Ob.box t' ds= .box O D/\LeC C D:=by
          rcases h.hp id _ _ p n with d|e0|d|⟨d,_⟩;.grind
          .omega
          .cases d;exact⟨_,_,_,rfl,rfl,rfl,λi x y hx f=>by rw[hx]at f;cases f;exact .refl _⟩
          .cases d
         obtain⟨O,C,D,E,B,A⟩:=e0
         .cases E;cases B;refine .inr (.inl ⟨_,_,_,rfl,rfl,by simp[A.1],λi u w hu T=>?_⟩);by_cases M:j=i;.grind[zbz]
          .rw[t_ M]at T;exact A.2 i u w hu T
        .rw[t_ Q]at h2;exact(h.hp i o o' h1 h2).rS (by simp[Slot.obj])
       .exact⟨h.fr,h.len,λi o o' h1 h2=>(h.hp i o o' h1 h2).rS (by simp[Slot.obj]),λz L=>h.on z (by grind)⟩
      grind
     grind
    |vec id e t=>
     simp only[gC]at f;split at f
     .rename_i P u xs p;obtain⟨B,A⟩:=bV f;have F:=Ty.list.inj B;subst F;have H:y=xs:=A;subst H;obtain⟨ys,n⟩:=h.on _ (w_ ..);have N:rX (.vec P u y) (.vec e u ys):=by
       rcases h.hp id _ _ p n with d|⟨_,_,_,d,_⟩|d|⟨d,_⟩;.grind
       .grind
       .cases d;exact .vec _ _ _ _
       omega
      have g:P=e:=by cases N;rfl
      subst g;exact lu s l I _ r (h.set rfl p n (.vec _ _ _ _))
     grind
    |map id k e a b'=>
     simp only[gC]at f;split at f
     .rename_i J E a1 b1 xs p;obtain⟨B,A⟩:=bV f;have F:=Ty.list.inj B;injection F with U Y;subst U;subst Y;have H:y=xs:=A;subst H;obtain⟨ys,n⟩:=h.on _ (w_ ..);have g:J=k/\E=e:=by
       rcases h.hp id _ _ p n with d|⟨_,_,_,d,_⟩|d|⟨d,_⟩;.grind
       .grind
       .grind
       .cases d;simp
      obtain⟨rfl,rfl⟩:=g;exact lu s l I _ r (h.set rfl p n (.map _ _ _ _ _ _))
     grind
    |tree id e k t=>
     simp only[gC]at f;split at f
     .rename_i E J u xs p;obtain⟨B,A⟩:=bV f;have F:=Ty.list.inj B;subst F;have H:y=xs:=A;subst H;obtain⟨ys,n⟩:=h.on _ (w_ ..);have g:E=e/\J=k:=by
       rcases h.hp id _ _ p n with d|⟨_,_,_,d,_⟩|d|⟨d,_⟩;.grind
       .grind
       .grind
       .cases d;simp
      obtain⟨rfl,rfl⟩:=g;exact lu s l I _ r (h.set rfl p n (.tree _ _ _ _ _))
     grind
    |iE id e k t j kid=>
     simp only[gC]at f;split at f
     .rename_i E J u xs i1 j1 v1 p;split at f
      .rename_i zs L;cases f;obtain⟨B,A⟩:=bV L;have F:=Ty.list.inj B;subst F;have H:zs=xs:=A;subst H;obtain⟨ys,i2,n⟩:=h.on _ (w_ ..);have g:E=e/\J=k/\j1=j/\v1= .sl kid:=by
        rcases h.hp id _ _ p n with d|⟨_,_,_,d,_⟩|d|⟨d,_⟩;.grind
        .grind
        .grind
        .cases d;simp
       obtain⟨rfl,rfl,rfl,rfl⟩:=g;exact lu s l I _ r (by have:=h.set rfl p n (.iE _ _ _ _ _ _ _ _ _);grind)
      grind
     grind
   grind
  grind
def Zu.le{s b:S}(h:Zu [] s b):NP (enc s) (enc b):=by
 refine⟨λk y J=>?_,by simp[enc,h.len],λi x y H I=>?_⟩;.show ∃x,Av.look (s.fr.map λx=>(x.1,a8 x.2)) k=some x/\_;have C:Av.look (b.fr.map λx=>(x.1,a8 x.2)) k=some y:=J;rw[mH]at C⊢;obtain⟨v,U,rfl⟩:=d_.1 C;obtain⟨u,Y,M⟩:=h.fr k v U;grind
 .rw[bT]at H I;obtain⟨o,N,rfl⟩:=d_.1 H;obtain⟨o',E,rfl⟩:=d_.1 I;exact(h.hp i o o' N E).le
def HY(l m:List (Nat×V))(k:Nat):lk (l++m) k=(lk l k).or (lk m k):=by induction l with|nil=>rfl|cons x l a=>grind[lk]
def ru{l:List (Nat×V)}{k:Nat}{v:V}(h:lk l k=some v):(k,v)∈l:=by
 induction l with
 |nil=>cases h|cons x l b=>
  obtain⟨j,w⟩:=x;simp only[lk]at h;cases a:i_ k j;.grind
  .grind[b_]
def HN{fr sk:List (Nat×V)}(h:Em fr sk=true){k:Nat}{v:V}(a:(k,v)∈sk):∃w,lk fr k=some w/\V.same v w=true:=by induction sk with|nil=>grind|cons x sk b=>simp only[Em]at h;grind
def wW:∀{us c:List Ob},AH us c=true->us.length=c.length/\∀(i:Nat) (x y:Ob),us[i]? =some x->c[i]? =some y->Rf x y=true
 |[],[],_=>⟨rfl,λi x y h=>by simp⟩
 |[],_::_,h=>by cases h
 |_::_,[],h=>by cases h
 |a::us,b::c,h=>by simp only[AH,a_]at h;obtain⟨h1,h2⟩:=wW h.2;grind
def Ob.Zk:Ob->Bool
 | .vec _ _ _=>true
 | .map _ _ _ _ _=>true
 | .tree _ _ _ _ _=>true
 |_=>false
def ET{sl:List Slot}:∀{l:List Ob} {i j:Nat} {o:Ob},YY sl i l=true->l[j]? =some o->o.Zk=true->∃x∈sl,x.obj=some (i+j)
 |[],i,j,o,_,b,_=>by grind
 |a::l,i,j,o,h,b,d=>by
  simp only[YY,a_]at h;cases j with
  |zero=>
   simp at b;subst b;cases a<;>first|cases d|skip
   all_goals
    obtain⟨x,e,c⟩:=aD_.1 h.1;refine⟨x,e,?_⟩;cases x<;>simp at c;all_goals (subst c;rfl)
  |succ j=>have:=ET (i:=i+1) (j:=j) h.2 (by grind) d;grind
def Xe{hp:List Ob}{x:Slot}(h:Io hp x=true):Kg hp x:=by
 cases x with
 |vec id e t=>
  simp only[Io]at h;split at h;.rename_i f p ys d;simp only[a_,decide_eq_true_eq]at h;have c:=b_ h.1;obtain⟨_,rfl⟩:=h;subst c;exact⟨ys,d⟩
  grind
 |map id k e a b=>
  simp only[Io]at h;split at h;.rename_i l f u b' ys d;simp only[a_,decide_eq_true_eq]at h;obtain⟨⟨⟨h1,h2⟩,rfl⟩,rfl⟩:=h;have c:=b_ h1;have g:=b_ h2;subst c;subst g;exact⟨ys,d⟩
  grind
 |tree id e k t=>
  simp only[Io]at h;split at h;.rename_i f l p ys d;simp only[a_,decide_eq_true_eq]at h;obtain⟨⟨h1,rfl⟩,rfl⟩:=h;have c:=b_ h1;subst c;exact⟨ys,d⟩
  grind
 |iE id e k t j kid=>
  simp only[Io]at h;split at h;.rename_i f l p ys i' v n d;simp only[a_,decide_eq_true_eq]at h;obtain⟨⟨⟨⟨h1,rfl⟩,rfl⟩,h2⟩,s⟩:=h;have c:=b_ h1;have g:=b_ h2;have r:=b_ s;subst c;subst g;subst r;exact⟨ys,_,d⟩
  grind
 |_=>trivial
def EY{sh:Sh}{s s0:S}{c:HL sh.sl}(p:sh.zp=true)(h:pack sh s=some c)(A:∀k v,lk (ei s0.fr sh.keep) k=some v->lk s.fr k=some v):Zu [] s (unpack sh.sl c (sh.base s0)):=by
 unfold pack at h;split at h
 .rename_i n;simp only[a_,S.fits]at n;simp only[Sh.zp,a_,e_]at p;obtain⟨y,z⟩:=wW n.1.2;refine lu s sh.sl c _ h ⟨λk v B=>?_,y.symm,λi o o' h1 h2=>?_,λx C=>Xe (p.1 x C)⟩;.have b:lk (ei s0.fr sh.keep++sh.sk.fr) k=some v:=B;rw[HY]at b;cases e:lk (ei s0.fr sh.keep) k with|some u=>rw[e]at b;cases b;exact⟨v,A k v e,.refl _⟩|none=>rw[e]at b;obtain⟨w,h1,h2⟩:=HN n.1.1 (ru b);exact⟨w,h1,by rw[(Ft h2).1];exact .refl _⟩
  .have g:sh.sk.hp[i]? =some o':=h2;have a:=z i o' o g h1;have q:=ET p.2 g;rw[aa_]at q;unfold Rf at a;split at a;.exact .inl rfl
   .rename_i t cs u ds;simp only[a_]at a;have d:=b_ a.1;subst d;exact .inr (.inl ⟨_,_,_,rfl,rfl,(s6 cs ds a.2).1⟩)
   .simp only[a_,decide_eq_true_eq]at a;have d:=b_ a.1;obtain⟨_,rfl⟩:=a;subst d;exact .inr (.inr (.inr ⟨.vec _ _ _ _,q rfl⟩))
   .simp only[a_,decide_eq_true_eq]at a;obtain⟨⟨⟨l,f⟩,rfl⟩,rfl⟩:=a;have d:=b_ l;have j:=b_ f;subst d;subst j;exact .inr (.inr (.inr ⟨.map _ _ _ _ _ _,q rfl⟩))
   .simp only[a_,decide_eq_true_eq]at a;obtain⟨⟨⟨l,rfl⟩,rfl⟩,f⟩:=a;have d:=b_ l;subst d;split at f;.exact .inr (.inr (.inr ⟨.tree _ _ _ _ _,q rfl⟩))
    .simp only[a_]at f;have j:=b_ f.1;have r:=b_ f.2;subst j;subst r;exact .inr (.inr (.inr ⟨.iE _ _ _ _ _ _ _ _ _,q rfl⟩))
    grind
   grind
 grind
def J4{sh:Sh}{s s0:S}{c:HL sh.sl}(b:sh.zp=true)(h:pack sh s=some c)(a:∀k v,lk (ei s0.fr sh.keep) k=some v->lk s.fr k=some v):NP (enc s) (enc (unpack sh.sl c (sh.base s0))):=(EY b h a).le
structure FlP(l:List Slot)(b:S):Prop where
 fr:∀k v,lk b.fr k=some v->(a8 v).sQ
 hp:∀(i:Nat) (o:Ob),b.hp[i]? =some o->(b8 o).rW\/(o.Zk=true/\∃x∈l,x.obj=some i)
def Xv{e:TypeId}{t:Ty}(xs:List t.den)(h:t.flat=true):(b8 (.vec e t xs)).rW:=λp hp y a=>by obtain⟨x,_,rfl⟩:=s_.1 hp;exact(kj t x h).2 y a
def VZ{k e:TypeId}{a b:Ty}(xs:List (a.den×b.den))(h:a.flat=true/\b.flat=true):(b8 (.map k e a b xs)).rW:=λp hp=>by obtain⟨x,_,rfl⟩:=s_.1 hp;exact⟨(kj a x.1 h.1).1,(kj b x.2 h.2).1⟩
def oQ:∀(t:Ty) (x:t.den),(ii t).length=t.sz/\∀(j:Nat) (y:PV),(aO t x)[j]? =some y->∃(u:Ty) (z:u.den),(ii t)[j]? =some u/\y=aN u z
 | .unit,x=>⟨rfl,λj y h=>by simp[aO,aN,PV.cells]at h⟩
 | .pair a b,x=>by
  obtain⟨h1,h2⟩:=oQ a x.1
  obtain⟨d,e⟩:=oQ b x.2
  refine⟨by simp[ii,Ty.sz,h1,d],λj y h=>?_⟩
  have hc:aO (.pair a b) x=aO a x.1++aO b x.2:=rfl
  rw[hc]at h
  have hl:(aO a x.1).length=a.sz:=aR a x.1
  rcases aS_ j a.sz with g|g
  .rw[C_ (by omega)]at h
   obtain⟨u,z,f,c⟩:=h2 j y h
   exact⟨u,z,by simp only[ii];grind,c⟩
  .rw[N_ (by omega)]at h
   obtain⟨u,z,f,c⟩:=e _ y h
   exact⟨u,z,by simp only[ii];grind,c⟩
 | .rx,x=>by
  refine⟨rfl,λj y h=>?_⟩
  rw[qv]at h
  match j,h with
  |0,h=>cases h;exact⟨.int .i64,_,rfl,rfl⟩
  |1,h=>cases h;exact⟨.int .i64,_,rfl,rfl⟩
  |2,h=>cases h;exact⟨.int .i64,_,rfl,rfl⟩
  |3,h=>cases h;exact⟨.list .rx,_,rfl,rfl⟩
  |j+4,h=>grind
 | .int k,x=>leaf (.int k) x rfl rfl
 | .bool,x=>leaf .bool x rfl rfl
 | .str,x=>leaf .str x rfl rfl
 | .list t,x=>leaf (.list t) x rfl rfl
where
 leaf (t:Ty) (x:t.den) (h1:t.ag=false) (h2:ii t=[t]):(ii t).length=t.sz/\∀(j:Nat) (y:PV),(aO t x)[j]? =some y->∃(u:Ty) (z:u.den),(ii t)[j]? =some u/\y=aN u z:=by
  refine⟨by rw[h2,fL h1];rfl,λj y h=>?_⟩
  rw[eZ x h1]at h
  grind
def oz:∀(k:Av.K) (ts:List Ty),flatK k ts=true->∀(j:Nat) (u:Ty) (z:u.den),ts[j]? =some u->Hh (k.at j) (aN u z)
 | .e,ts,h,j,u,z,a=>by simp only[flatK,e_]at h;exact .flat _ (kj u z (h u (y_ a))).1
 | .f r,[],h,j,u,z,a=>by grind
 | .f r,t::ts,h,j,u,z,a=>by simp only[flatK,a_]at h;cases j with|zero=>cases a;exact .flat _ (kj _ z h.1).1|succ j=>exact oz r ts h.2 j u z (by grind)
 | .s e sz sub r,[],h,j,u,z,a=>by grind
 | .s e sz sub r,t::ts,h,j,u,z,a=>by
  cases t<;>try cases h
  rename_i v;simp only[flatK,a_]at h;cases j with
  |zero=>cases a;have hs:=b_ h.1.1;refine .sl _ _ _ _ (z.map (aN v)) (by rw[hs];rfl) λi j x y b c=>?_;rw[m_]at b;obtain⟨w,_,rfl⟩:=d_.1 b;obtain⟨d,f,h1,rfl⟩:=(oQ v w).2 j y c;exact oz sub _ h.1.2 j d f h1
  |succ j=>exact oz r ts h.2 j u z (by grind)
def FG{e:TypeId}{k:Av.K}{t:Ty}(xs:List t.den)(h:flatK k (ii t)=true)(hole:Option (Nat×Nat×V))(d:hole=none\/∃i j kid,hole=some (i,j,.sl kid)):(b8 (.tree e k t xs hole)).rW:=by
 refine⟨λi j b a=>?_,λi j x y c f=>?_⟩
 .rcases d with rfl|⟨i',n,kid,rfl⟩;.cases a
  .cases a;trivial
 .rw[m_]at c;obtain⟨w,_,rfl⟩:=d_.1 c;obtain⟨g,l,h1,rfl⟩:=(oQ t w).2 j y f;exact oz k _ h j g l h1
def iF:∀(l:List Slot) (c:HL l) (b:S),l.all Slot.flat=true->FlP l b->FlP [] (unpack l c b)
 |[],_,b,_,h=>h
 |x::l,c,b,g,h=>by
  simp only[r_,a_]at g;have drop:∀(i:Nat) (o:Ob),b.hp[i]? =some o->x.obj≠some i->(b8 o).rW\/(o.Zk=true/\∃x∈l,x.obj=some i):=by intro i o p h1;rcases h.hp i o p with s|⟨s,y,A,w⟩;all_goals grind
  have f:∀(id:Nat) (o':Ob),x.obj=some id->(b8 o').rW->FlP l ⟨b.fr,setAt b.hp id o'⟩:=λid o' B z=>⟨h.fr,λi o p=>by
   have d:(setAt b.hp id o')[i]? =some o:=p;rw[fc]at d;by_cases u:id=i;.grind
   .rw[t_ u]at d;exact drop i o d (by grind)⟩
  cases x with
  |tm k t=>
   refine iF l c.2 _ g.2 ⟨λj v n=>?_,λi o p=>drop i o p (by simp[Slot.obj])⟩;simp only[lk]at n;cases r:i_ j k;.rw[r]at n;exact h.fr j v n
   .rw[r]at n;simp only[cond_true,h_]at n;subst n;exact(kj t c.1 g.1).1
  |cell id j t=>
   refine iF l c.2 _ g.2 ⟨h.fr,λi o p=>?_⟩;have d:(setCell b.hp id j (.d t c.1))[i]? =some o:=p;unfold setCell at d;split at d
   .rename_i C ds r;rw[fc,fc]at d;have hid:=(l_.1 r).1;by_cases u:id=i
    .subst u;rw[A_ hid]at d;cases d;left;rcases h.hp id _ r with s|⟨s,_⟩
     .intro y w;obtain⟨v,n,rfl⟩:=s_.1 w;rcases List.mem_or_eq_of_mem_set n with n|rfl;.exact s _ (az_ n)
      .exact(kj t c.1 g.1).1
     .cases s
    .rw[t_ u]at d;exact drop i o d (by simp[Slot.obj])
   .exact drop i o d (by simp[Slot.obj])
  |vec id e t=>exact iF l c.2 _ g.2 (f id _ rfl (Xv _ g.1))|map id k e a b'=>have:=g.1;simp only[Slot.flat,a_]at this;exact iF l c.2 _ g.2 (f id _ rfl (VZ _ this))|tree id e k t=>exact iF l c.2 _ g.2 (f id _ rfl (FG _ g.1 none (.inl rfl)))|iE id e k t j kid=>exact iF l c.2 _ g.2 (f id _ rfl (FG _ g.1 _ (.inr ⟨_,_,_,rfl⟩)))
def base_nil(sh:Sh):(sh.base ⟨[],[]⟩).fr=sh.sk.fr:=by
 have:∀l,ei [] l=[]:=λl=>by induction l with
  |nil=>rfl
  |cons k l a=>simp only[ei,lk,a]
 simp[Sh.base,this]
def Td{sh:Sh}{s:S}{c:HL sh.sl}(p:sh.zp=true)(h:pack sh s=some c)(z:sh.sl.all Slot.flat=true):(∀k v,lk (unpack sh.sl c (sh.base ⟨[],[]⟩)).fr k=some v->(a8 v).sQ)/\∀o∈(unpack sh.sl c (sh.base ⟨[],[]⟩)).hp,(b8 o).rW:=by
 unfold pack at h;split at h
 .rename_i d;simp only[a_,S.fits]at d;simp only[Sh.zp,a_,e_]at p;obtain⟨u,x⟩:=wW d.1.2;have key:FlP [] (unpack sh.sl c (sh.base ⟨[],[]⟩)):=iF sh.sl c _ z ⟨λk v j=>by
   rw[base_nil]at j;obtain⟨w,h1,h2⟩:=HN d.1.1 (ru j);rw[kU (Xa h2)];exact(Ft h2).2.2,λi o l=>by
   have f:sh.sk.hp[i]? =some o:=l;have q:=ET (i:=0) p.2 f;rw[aa_]at q;obtain⟨r,n⟩:=bC u.symm f;have g:=x i o r f n;cases o with
   |gone=>exact .inl trivial|free=>exact .inl trivial|box t cs=>cases r<;>simp[Rf]at g;left;intro y B;obtain⟨v,j,rfl⟩:=s_.1 B;exact(s6 _ _ g.2).2 v j
   |vec e t xs=>exact .inr ⟨rfl,q rfl⟩|map k e a b xs=>exact .inr ⟨rfl,q rfl⟩|tree e k t xs hole=>exact .inr ⟨rfl,q rfl⟩⟩
  refine⟨key.fr,λo l=>?_⟩;obtain⟨i,A⟩:=Y_ l;rcases key.hp i o A with C|⟨_,_,D,_⟩;all_goals grind
 grind
def W2{n:Nat}{fr:List (Nat×V)}(h:∀k v,lk fr k=some v->(a8 v).sQ):(a8 (res n fr)).sQ:=by
 unfold res;cases i_ n 1
 .intro x c;obtain⟨v,b,rfl⟩:=s_.1 c;obtain⟨i,_,rfl⟩:=s_.1 b;cases hl:lk fr i with
  |none=>exact .any|some u=>
   have:=h i u hl;simp only[ap_];cases a:u.HR;.rw[kU a]at this;exact this
   .cases u<;>first|exact .any|cases a
 .cases hl:lk fr 0 with|none=>exact .any|some u=>grind
theorem ZM{x:BV}{v:V}(h:IQ (.b x) (a8 v)):K0 x (aU v):=by
 cases a:v.HR;.rw[kU a]at h;generalize aU v=y at h⊢;cases h with|refl=>exact .refl _|data _ p h=>exact .data _ _ h|any=>exact .any _
 .cases v with|agg vs=>cases h|dP vs=>cases h|_=>cases a
def zaZ{n:Nat}{fr fr':List (Nat×V)}(h:LeF fr fr')(h1:MP n fr=true):IQ (a8 (res n fr)) (a8 (res n fr')):=by
 unfold res;simp only[MP]at h1;cases hn:i_ n 1
 .rw[hn,aj_,e_]at h1;refine .dP _ _ (by simp[vz]) λi x y d e=>?_;simp only[vz,m_,d_]at d e;obtain⟨v,⟨j,f,rfl⟩,rfl⟩:=d;obtain⟨w,⟨g,b,rfl⟩,rfl⟩:=e;rw[f]at b;cases b;cases hl:lk fr' j with
  |none=>exact .any _|some v=>
   obtain⟨u,c,a⟩:=h j v hl;rw[c];have:u.HR=false:=by simpa using h1 _ (ru c)
   rw[kU this]at a;exact ZM a
 .cases hl:lk fr' 0 with|none=>exact .any _|some v=>obtain⟨u,c,a⟩:=h 0 v hl;grind
def Se{P:Program}{f:FuncId}{ars:List AV}{os b a:List aM}{r g:AV}(h:eN P f ars os λo=>o=some (r,b))(hr:IQ r g)(hl:b.length=a.length) (C:∀(i:Nat) (x y:aM),b[i]? =some x->a[i]? =some y->UH x y):eN P f ars os λo=>o=some (g,a):=by
 intro w θ D vs u h1 h2 z;refine(h w θ D vs u h1 h2 z).mono λe w' A=>?_;rcases A with⟨v,r1,E,θ',D',j,k,n,c,s⟩|⟨F,j,k,n,_⟩;.cases k;refine .inl ⟨v,g,a,θ',D',j,rfl,hr.rel n,⟨by rw[c.len,hl],c.pn,c.inj,c.mX,λi l o B d=>?_⟩,s⟩;obtain⟨x,p⟩:=bC hl d;exact(C i x o p d).rel (c.fO i l x B p)
 grind
structure cD(P:Program)(O:bi):Prop where
 ret:∀f ars os s,O f ars os=some (some s)->eN P (f%10000) (ars.map a8) (os.map b8) λo=>o=some (a8 (res s.fr.length s.fr),s.hp.map b8)
 jv:∀f ars os,O f ars os=some none->eN P (f%10000) (ars.map a8) (os.map b8) λo=>o=none
section
variable {R:Type} {P:Program} {O:bi} {d:Option Nat} {s:S} {κ kp:S->Option R} {r:R}
theorem s4(hO:cD P O){f:FuncId}{ars:List V}{os:List Ob}{sh:Sh}{c:HL sh.sl}(e:sh.zp=true)(h:gm O f ars os sh=some c): eN P (f%10000) (ars.map a8) (os.map b8) (λo=>o=some (a8 (res sh.n (unpack sh.sl c (sh.base ⟨[],[]⟩)).fr),(unpack sh.sl c (sh.base ⟨[],[]⟩)).hp.map b8))/\(sh.sl.all Slot.flat=true->(a8 (res sh.n (unpack sh.sl c (sh.base ⟨[],[]⟩)).fr)).sQ/\∀o∈(unpack sh.sl c (sh.base ⟨[],[]⟩)).hp.map b8,o.rW):=by
 unfold gm at h;split at h
 .rename_i s' b;obtain⟨h1,h2⟩:=aY h;simp only[a_]at h1;have hn:=b_ h1.1;have p:∀k v,lk (ei (⟨[],[]⟩:S).fr sh.keep) k=some v->lk s'.fr k=some v:=by
   have:∀l,ei [] l=[]:=λl=>by induction l with
    |nil=>rfl
    |cons k l u=>simp only[ei,lk,u]
   intro k v d;rw[this]at d;cases d
  have a:=EY (s0:=⟨[],[]⟩) e h2 p;have j:=a.le;refine⟨Se (hO.ret f ars os s' b) ?_ (by simp[a.len]) (λi x y r s=>j.hp i x y r s),λn=>?_⟩;.rw[hn];exact zaZ a.fr h1.2
  .obtain⟨g,f2⟩:=Td e h2 n;refine⟨W2 g,λo w=>?_⟩;grind
 grind
theorem Lu(hO:cD P O){f:FuncId}{ars:List V}{os:List Ob}{sh:Sh}{c:Option (HL sh.sl)}(h:pX O f ars os sh=some c):(∀d,c=some d->gm O f ars os sh=some d)/\(c=none->eN P (f%10000) (ars.map a8) (os.map b8) λo=>o=none):=by
 unfold pX at h;split at h
 .rename_i s' b;obtain⟨h1,h2⟩:=aY h;split at h2;.rename_i g e;cases h2;refine⟨λd a=>?_,(λhc=>by grind)⟩;cases a;unfold gm;grind
  grind
 .rename_i b;cases h;exact⟨(λd a=>by grind),λ_=>hO.jv f ars os b⟩
 grind
theorem Mb{B:List Nat}{v:V}(h:v.ri=true):ju (rk B) v=v:=by cases v<;>first|rfl|cases h
theorem xE(hO:cD P O){jv bor:Bool}{B:List Nat}{f:FuncId}{ars:List V}{sh:Sh}(L:sh.zp=true)(h:wl jv O s d bor B f ars sh κ kp=some r): ∃os:List Ob,(enc s).hp=(enc s).hp/\B.mapM ((enc s).hp[·]?)=some (os.map b8)/\(∀v∈ars,∀i∈v.ids,i∈B)/\cN.callK P (enc s) d bor B (f%10000) (ars.map a8) (os.map b8) (λl=>∃s',l=enc s'/\aP (f9 d) s s'/\κ s'=some r) (λl=>∃s',l=enc s'/\aP (f9 d) s s'/\kp s'=some r):=by
 unfold wl at h;split at h
 .rename_i os E;obtain⟨h1,h2⟩:=aY h;simp only[a_,decide_eq_true_eq,e_,K_,z_]at h1;obtain⟨⟨⟨C,p⟩,j⟩,z⟩:=h1;have A:∀v∈ars,∀i∈v.ids,i∈B:=λv n=>uf.1 (p v n);have g:((ars.map (ju (V.eV (Es B)))).map a8)=(ars.map a8).map (AV.eV (B.idxOf ·)):=by rw[j_,j_];exact k_ λv _=>Dr _ v
  have e:((os.map (rz (V.eV (Es B)))).map b8)=(os.map b8).map (aM.eV (B.idxOf ·)):=by rw[j_,j_];exact k_ λv _=>xP _ v
  have dI:∀(b:List Ob) (v:V),aP (f9 d) s ((s.back B b).aF d v):=λb v=>(aP.map (f9 d) s (s.back B b) (rk B) (λv n=>Mb n) rfl).trans (aP.put _ d v);have k:∀(b:List Ob),aP (f9 d) s (s.back B b):=λb=>aP.map (f9 d) s (s.back B b) (rk B) (λv n=>Mb n) rfl;have H:∀c:HL sh.sl,gm O f (ars.map (ju (V.eV (Es B)))) (os.map (rz (V.eV (Es B)))) sh=some c->zL s d B sh.n sh κ c=some r->
   eN P (f%10000) ((ars.map a8).map (AV.eV (B.idxOf ·))) ((os.map b8).map (aM.eV (B.idxOf ·))) λo=>match o with
    |some (F,b)=>(bor=true->F.sQ/\∀o∈b,o.rW)/\∃s',((enc s).back B b).aF d (F.eV (gW B (enc s).hp.length))=enc s'/\aP (f9 d) s s'/\κ s'=some r
    |none=>∃s',(enc s).back B ((os.map b8).map λ_=>.gone)=enc s'/\aP (f9 d) s s'/\kp s'=some r:=by
   intro c hc y
   obtain⟨w,N⟩:=s4 hO L hc
   rw[g,e]at w
   refine w.mono λo u=>?_
   subst u
   refine⟨λR=>N ?_,_,?_,dI _ _,y⟩
   .grind
   .rw[gx,LJ,Dr,Da];congr 2;simp[enc]
  refine⟨os,rfl,Bv B os E,A,C,?_,?_,?_⟩;.intro a J i x;obtain⟨v,n,rfl⟩:=s_.1 J;rw[<-nh]at x;grind
  .intro o u i x;obtain⟨o',D,rfl⟩:=s_.1 u;rw[<-Du]at x;exact uf.1 (j o' D) i x
  .cases jv with
   |false=>obtain⟨c,hc,y⟩:=cW h2;grind
   |true=>obtain⟨M,hc,y⟩:=cW h2;obtain⟨Q,I⟩:=Lu hO hc;cases M with|some c=>grind|none=>have w:=I rfl;rw[g,e]at w;refine w.mono λo u=>?_;subst u;refine⟨_,?_,k _,y⟩;rw[LJ];congr 1;rw[j_,j_];rfl
 grind
end
def iG:∀(l:List Slot) (c:HL l) (b:S),(∀k v,lk b.fr k=some v->v.ri=true)->∀k v,lk (unpack l c b).fr k=some v->v.ri=true
 |[],_,_,h=>h
 | .tm j t::l,c,b,h=>iG l c.2 _ λk v a=>by
  simp only[lk]at a;cases d:i_ k j;.grind
  .rw[d]at a;simp only[cond_true,h_]at a;subst a;rfl
 | .cell _ _ _::l,c,b,h=>iG l c.2 _ h
 | .vec _ _ _::l,c,b,h=>iG l c.2 _ h
 | .map _ _ _ _ _::l,c,b,h=>iG l c.2 _ h
 | .tree _ _ _ _::l,c,b,h=>iG l c.2 _ h
 | .iE _ _ _ _ _ _::l,c,b,h=>iG l c.2 _ h
theorem YJ{v:V}(h:v.ri=true):v.ids=[]/\v.Cb=[]:=by cases v<;>first|exact⟨rfl,rfl⟩|cases h
def RL{n:Nat}{fr:List (Nat×V)}(h:∀k v,lk fr k=some v->v.ri=true):(res n fr).ids=[]:=by
 have one:∀k,((lk fr k).getD .any).ids=[]/\((lk fr k).getD .any).Cb=[]:=λk=>by cases hl:lk fr k with|none=>exact⟨rfl,rfl⟩|some v=>grind[YJ]
 unfold res;cases i_ n 1;.show(vz fr n).flatMap V.Cb=[];rw[List.flatMap_eq_nil_iff];intro v a;obtain⟨i,_,rfl⟩:=s_.1 a;grind
 grind
theorem I2{hp:List aM}{bor:Bool}{x:BV}{p:PV}(h:x.bG=some p):sa hp bor x=some p:=by cases x<;>first|exact h|cases h
theorem Lg{hp:List aM}{bor:Bool}{x:AV}{p:PV}(h:x.bG=some p):ja hp bor x=some p:=by
 cases x with
 |b x=>exact I2 h|agg xs=>have h':(xs.mapM BV.bG).map PV.agg=some p:=h;obtain⟨a,h1,rfl⟩:=d_.1 h';show(xs.mapM (sa hp bor)).map PV.agg=_;grind[nD,I2]
 |dP xs=>exact h
section
variable {R:Type} {P:Program} {O:bi} {d:Option Nat} {s:S} {κ kp:S->Option R} {r:R}
theorem Ld{bor:Bool}{a:Arg×X}{v:V}(c:a.2.wf=true)(h:Hn s bor [] a=some v)(hd:v.ri=true):∃p,((enc s).get a.2.er).bind (ja (enc s).hp bor)=some p/\AV.p p=a8 v:=by
 obtain⟨a,x⟩:=a;simp only[Hn]at h;split at h
 .rename_i t id b;obtain⟨h1,h2⟩:=aY h;simp only[a_,z_]at h1;split at h2
  .rename_i e u xs f;split at h2;.rename_i ys d;cases h2;obtain⟨j,k⟩:=bR d;refine⟨aN (.list t) ys,?_,rfl⟩;rw[aH c b,q_];show(if bor=true then Kf (enc s).hp id else none)=_;rw[h1.1,if_pos rfl,Kf,bT,f];show some (aN (.list u) xs)=some (aN (.list t) ys);grind
   grind
  .rename_i e kk u xs f;split at h2;.rename_i ys d;cases h2;obtain⟨j,k⟩:=bR d;refine⟨aN (.list t) ys,?_,rfl⟩;rw[aH c b,q_];show(if bor=true then Kf (enc s).hp id else none)=_;rw[h1.1,if_pos rfl,Kf,bT,f];show some (aN (.list u) xs)=some (aN (.list t) ys);grind
   grind
  grind
 .rename_i t g _ b;split at h;.rename_i y d;cases h;exact⟨aN t y,by rw[aH c b,q_];grind[Lg,eJ],rfl⟩
  grind
 .rename_i g b;have key:∀p:PV,a8 g=AV.p p->g=v->∃p,((enc s).get x.er).bind (ja (enc s).hp bor)=some p/\AV.p p=a8 v:=λp hp e=>by subst e;exact⟨p,by rw[aH c b,q_,hp];exact Lg rfl,hp.symm⟩
  split at h;.grind
  .grind
  .grind
  .grind
  .obtain⟨h1,h2⟩:=aY h;cases h2;cases hd
  .cases h;cases v<;>first|(cases hd;done)|skip
   .grind
   .exact key _ rfl rfl
   .exact key _ rfl rfl
 grind
theorem Hp{bor:Bool}:∀(l:List (Arg×X)) (vs:List V),iT l=true->kQ s bor [] l=some vs->vs.all V.ri=true->∃b,(l.map λa=>a.2.er).mapM (λx=>((enc s).get x).bind (ja (enc s).hp bor))=some b/\b.map AV.p=vs.map a8
 |[],vs,_,h,_=>by cases h;simp
 |a::l,vs,c,h,hd=>by
  simp only[iT,r_,a_]at c;simp only[kQ]at h;split at h
  .rename_i v e;split at h;.rename_i us d;cases h;simp only[r_,a_]at hd;obtain⟨p,h1,h2⟩:=Ld c.1 e hd.1;obtain⟨b,f,g⟩:=Hp l us c.2 d hd.2;refine⟨p::b,?_,by grind⟩;grind
   grind
  grind
theorem Mp{bor:Bool}(c:bor=true):∀(vs:List V) (a:List PV),((vs.map (zau s.hp)).map aU).mapM BV.bG=some a->(vs.map aU).mapM (sa (enc s).hp bor)=some a
 |[],a,h=>h
 |v::vs,a,h=>by
  simp only[n_,o_,B_,p_,L_]at h⊢;obtain⟨p,h1,d,h2,e⟩:=h;refine⟨p,?_,d,Mp c vs d h2,e⟩;cases v<;>try exact I2 h1
  rename_i id;show(if bor=true then Kf (enc s).hp id else none)=_;rw[if_pos c,Kf,bT];simp only[zau]at h1;split at h1;.rename_i b;rw[b];exact h1
  .rename_i b;rw[b];exact h1
  .cases h1
theorem Yb{bor:Bool}{a:Arg×X}{v:V}(b:a.2.wf=true)(h:zad s bor a=some v)(hd:v.ri=true):∃p,((enc s).get a.2.er).bind (ja (enc s).hp bor)=some p/\AV.p p=a8 v:=by
 simp only[zad]at h;split at h;.grind[Ld]
 .split at h
  .rename_i t vs e c;obtain⟨f,h⟩:=aY h;split at h;.rename_i x d;cases h;refine⟨aN t x,?_,rfl⟩;rw[aH b c];have:=eJ d;obtain⟨g,h1,h2⟩:=d_.1 this;show((vs.map aU).mapM (sa (enc s).hp bor)).map PV.agg=_;grind[Mp]
   grind
  grind
theorem Li{bor:Bool}:∀(l:List (Arg×X)) (vs:List V),iT l=true->Ho s bor l=some vs->vs.all V.ri=true->∃b,(l.map λa=>a.2.er).mapM (λx=>((enc s).get x).bind (ja (enc s).hp bor))=some b/\b.map AV.p=vs.map a8
 |[],vs,_,h,_=>by cases h;simp
 |a::l,vs,c,h,hd=>by
  simp only[iT,r_,a_]at c;simp only[Ho]at h;split at h
  .rename_i v e;split at h;.rename_i us d;cases h;simp only[r_,a_]at hd;obtain⟨p,h1,h2⟩:=Yb c.1 e hd.1;obtain⟨b,f,g⟩:=Li l us c.2 d hd.2;refine⟨p::b,?_,by grind⟩;grind
   grind
  grind
theorem Rs(hO:cD P O){bor:Bool}{f:FuncId}{args:List (Arg×X)}{sh:Sh}(e:iT args=true/\sh.zp=true)(h:aX O d (.call bor f args sh) s κ kp=some r): Pu P s (.call bor (f%10000) (args.map λa=>a.2.er)) d κ r:=by
 simp only[aX]at h;split at h
 .rename_i ars n;obtain⟨h1,h2⟩:=aY h;simp only[a_]at h1;obtain⟨c,hc,p⟩:=cW h2;obtain⟨w,j,l⟩:=Li args ars e.1 n h1.1.1;obtain⟨g,x⟩:=s4 hO e.2 hc;rw[<-l]at g;refine⟨_,⟨w,j,g.mono λo u=>⟨_,_,u,?_,λy=>(x ?_).1,rfl⟩⟩,p⟩;.rw[<-nh];refine RL (iG _ _ _ λk v b=>?_);rw[base_nil]at b;have:=aG_.1 h1.1.2;rw[this]at b;cases b
  grind
 grind
theorem M1(hO:cD P O){bor:Bool}{num:Nat}{x:X}{args:List (Arg×X)}{sh:Sh}(b:x.wf=true/\iT args=true/\eI P (num%10000)=true/\sh.zp=true)(h:aX O d (.hZ bor num x args sh) s κ kp=some r): Pu P s (.hZ bor x.er (args.map λa=>a.2.er)) d κ r:=by
 simp only[aX]at h;split at h
 .rename_i f cs ars z p;obtain⟨h1,h2⟩:=aY h;simp only[a_]at h1;obtain⟨c,hc,w⟩:=cW h2;have u:=b_ h1.1.1.1;subst u;obtain⟨g,l,n⟩:=Hp args ars b.2.1 p h1.1.1.2;obtain⟨j,A⟩:=s4 hO b.2.2.2 hc;have hcs:(ars++cs.map λc=>V.dp c.1 c.2).map a8=(g++cs.map λc=>PV.Bw (aN c.1 c.2)).map AV.p:=by rw[v_,v_,n,j_,j_];rfl
  rw[hcs]at j;refine⟨_,⟨_,aH b.1 z,num%10000,cs.map λc=>PV.Bw (aN c.1 c.2),rfl,b.2.2.1,g,l,j.mono λo y=>⟨_,_,y,?_,λB=>(A ?_).1,rfl⟩⟩,w⟩;.rw[<-nh];refine RL (iG _ _ _ λk v e=>?_);rw[base_nil]at e;have:=aG_.1 h1.1.2;rw[this]at e;cases e
  grind
 grind
theorem NP.refl(a:St):NP a a:=⟨λ_ y E=>⟨y,E,.refl y⟩,rfl,λi x y H C=>by rw[H]at C;cases C;exact .refl x⟩
def NQ(P:Program)(s:S)(op:fv)(d:Option Nat)(κ kp:S->Option R)(r:R):Prop:=
 cN P d op (enc s) (λa=>∃s',NP a (enc s')/\aP (f9 d) s s'/\κ s'=some r) (λa=>∃s',a=enc s'/\aP (f9 d) s s'/\kp s'=some r)
def Ox(P:Program)(s:S)(op:fv)(d:Option Nat)(κ kp:S->Option R)(r:R):Prop:=
 cN P d op (enc s) (λa=>∃s',a=enc s'/\aP (f9 d) s s'/\κ s'=some r) (λa=>∃s',a=enc s'/\aP (f9 d) s s'/\kp s'=some r)
theorem Ox.ob{op:fv}(h:Ox P s op d κ kp r):NQ P s op d κ kp r:=nQ h (λ_ ⟨s',h1,h2,C⟩=>⟨s',by rw[h1];exact .refl _,h2,C⟩) λ_ h=>h
theorem mN{st:St}{op:fv}{x:AV}{K KP:St->Prop}(hs:jh P st op λy=>y=x)(a:K (st.aF d x)):cN P d op st K KP:=by
 have h1:jh P st op λy=>K (st.aF d y):=y8 hs λy b=>by grind
 unfold cN;split<;>first|exact h1|exact hs.elim
theorem Pu.ox{op:fv}(h:Pu P s op d κ r):Ox P s op d κ kp r:=by obtain⟨v,h1,h2⟩:=h;exact mN h1 ⟨_,(gx _ _ _).symm,aP.put s d v,h2⟩
theorem Pu.ob{op:fv}(h:Pu P s op d κ r):NQ P s op d κ kp r:=by obtain⟨v,h1,h2⟩:=h;exact mN h1 ⟨_,by rw[gx];exact .refl _,aP.put s d v,h2⟩
theorem tg(s:S)(o:Ob):enc ⟨s.fr,s.hp++[o]⟩={enc s with hp:=(enc s).hp++[b8 o]}:=by simp[enc]
theorem gH(s:S)(id:Nat)(o:Ob):enc ⟨s.fr,setAt s.hp id o⟩={enc s with hp:=(enc s).hp.set id (b8 o)}:=by simp[enc,fc]
theorem l8(s:S):(enc s).hp.length=s.hp.length:=by simp[enc]
theorem uJ{o:Ob}{o':aM}{x:BV}{v:V}(a:b8 o=o')(b:a8 v= .b x)(h:κ (S.aF ⟨s.fr,s.hp++[o]⟩ d v)=some r): ∃s',NP (({enc s with hp:=(enc s).hp++[o']}:St).aF d (.b x)) (enc s')/\aP (f9 d) s s'/\κ s'=some r:=by refine⟨_,?_,(aP.fr (s':=⟨s.fr,s.hp++[o]⟩) rfl).trans (aP.put _ d v),h⟩;rw[gx,tg,a,b];exact .refl _
theorem Rl{o:Ob}{o':aM}{x:BV}{v:V}(a:b8 o=o')(b:a8 v= .b x)(h:κ (S.aF ⟨s.fr,s.hp++[o]⟩ d v)=some r): ∃s',(({enc s with hp:=(enc s).hp++[o']}:St).aF d (.b x))=enc s'/\aP (f9 d) s s'/\κ s'=some r:=by refine⟨_,?_,(aP.fr (s':=⟨s.fr,s.hp++[o]⟩) rfl).trans (aP.put _ d v),h⟩;grind[gx,tg]
theorem We{tid:TypeId}{zero:List V}(a:zero.all V.Ey=true)(h:aX O d (.alloc tid zero) s κ kp=some r):NQ P s (.alloc tid (zero.map yK)) d κ kp r:=by
 refine uJ ?_ ?_ h;.show aM.box tid (zero.map aU)=aM.box tid ((zero.map yK).map λv=>bI v);grind[k_,uF]
 .rw[l8];rfl
theorem zaF{tid:TypeId}{x:X}(b:x.wf=true)(h:aX O d (.box tid x) s κ kp=some r):NQ P s (.box tid x.er) d κ kp r:=by
 simp only[aX]at h;split at h
 .rename_i v c;obtain⟨h1,h2⟩:=aY h;obtain⟨a,e⟩:=rD h1;refine⟨_,aH b c,a,uJ ?_ ?_ h2⟩;.show aM.box tid _=_;grind
  .rw[l8];rfl
 grind
theorem S8{tid:TypeId}{t:Ty}{len:Nat}{parts:List X}(c:parts.all X.wf=true)(h:aX O d (.bQ true tid t len parts) s κ kp=some r):NQ P s (.bQ true tid t.sz len (parts.map X.er)) d κ kp r:=by
 obtain⟨h1,h2⟩:=aY h;simp only[a_]at h1;obtain⟨xs,a,e,b⟩:=lP parts _ c h2;refine⟨_,a,?_,c_ h1.1.2,c_ h1.2,jc xs,uJ rfl ?_ b⟩;.grind[b_]
 .rw[l8];rfl
theorem Ta{tid:TypeId}{t:Ty}{bytes:Nat}{l c:X}(b:l.wf=true/\c.wf=true/\t≠.rx)(h:aX O d (.cU tid t bytes l c) s κ kp=some r):NQ P s (.cU tid t.sz bytes (mR t) l.er c.er) d κ kp r:=by
 obtain⟨h1,h2⟩:=aY h;obtain⟨p,l',hl,e⟩:=fB h2;obtain⟨u,n,hc,f⟩:=fB e;obtain⟨a,g⟩:=bF f;simp only[a_,decide_eq_true_eq]at a;obtain⟨j,k⟩:=NJ t b.2.2;refine⟨_,aH b.1 hl,_,aH b.2.1 hc,_,rfl,_,rfl,_,_,rfl,_,_,rfl,a.1.1.1,a.1.1.2,a.1.2,a.2,k,c_ h1,_,j,ws t _,uJ ?_ ?_ g⟩;.show aM.vec tid t.sz _=_;simp
 .rw[l8];rfl
theorem O7{tid:TypeId}{k:Av.K}{u:Ty}{bytes:Nat}{l c:X}(b:l.wf=true/\c.wf=true)(h:aX O d (.d6 tid k u bytes l c) s κ kp=some r):NQ P s (.d6 k tid 1 bytes (.slice none 0 0) l.er c.er) d κ kp r:=by
 obtain⟨h1,h2⟩:=aY h;obtain⟨n,l',hl,e⟩:=fB h2;obtain⟨p,j,hc,f⟩:=fB e;obtain⟨a,g⟩:=bF f;simp only[a_,decide_eq_true_eq]at a;have hn:k.yt vr.cells=true:=by grind[Av.K.yt,vr,PV.cells]
 refine⟨_,aH b.1 hl,_,aH b.2 hc,_,rfl,_,rfl,_,_,rfl,_,_,rfl,a.1.1.1,a.1.1.2,a.1.2,a.2,rfl,Nat.one_pos,vr,rfl,rfl,hn,uJ ?_ ?_ g⟩
 .show aM.tree tid 1 k _ none=_;rw[List.map_replicate];have:k.gO vr= .list 0 []:=by grind[Av.K.gO,vr]
  rw[this];rfl
 .rw[l8];rfl
theorem P3{k:Av.K}{t:Ty}{y:t.den}(h:zaH k (gq t y)=true):k.gO (dL k t y)=aN t y:=by
 have key:∀(j:Nat) (p:PV),(aN t y).cells[j]? =some p->(k.at j).isSome=true->p= .list 0 []:=by
  intro j p hp a;obtain⟨h1,h2⟩:=dY t y;have d:j<(gq t y).length:=by grind[aR]
  simp only[zaH,e_,U_]at h;have b:=h j d;obtain⟨q,r⟩:=am_.1 a;rw[r]at b;simp only[aP_,g_ d,ap_]at b;have c:((gq t y).map aU)[j]? =some (.pv p):=by grind
  rw[m_,g_ d]at c;split at b
  .rename_i u l s;rw[s]at c;have hl:l=[]:=by simpa using b
   subst hl;have g:=av_ c;have n:(BV.pv (aN (.list u) []))= .pv p:=g;cases n;rfl
  .cases b
 unfold dL;cases e:aN t y with
 |agg cs=>
  simp only[Av.K.gO,PV.agg.injEq];apply ag_;intro j;simp only[ax_];cases hc:cs[j]? with
  |none=>rfl|some p=>
   simp only[Z_];cases a:(k.at j).isSome;.rfl
   .rw[key j p (by rw[e];exact hc) a];rfl
 |_=>
  have f:=key 0 _ (by rw[e];rfl);simp only[];cases a:(k.at 0).isSome;.grind[Av.K.gO]
  .simp only[if_true,Av.K.gO,vr,a];exact(f a).symm
theorem S5(k:Av.K)(t:Ty)(y:t.den):k.yt (dL k t y).cells=true:=by
 simp only[Av.K.yt,e_,U_];intro j a;split;.rename_i q b;rw[Dt]at a⊢;simp only[List.length_mapIdx]at a;simp only[aP_,ax_,g_ a,Z_,ap_,b,aA_,if_true,vr]
 simp
theorem Rk{tid:TypeId}{k:Av.K}{t:Ty}{bytes:Nat}{x y:X}(j:x.wf=true/\y.wf=true)(h:aX O d (.pj tid k t bytes x y) s κ kp=some r):Ox P s (.pj k tid t.sz bytes x.er y.er) d κ kp r:=by
 simp only[aX]at h;split at h
 .rename_i k' u B C;obtain⟨hk,l⟩:=aY h;clear h;have n:k=k':=by grind
  subst n;split at l
  .rename_i ys hc;obtain⟨D,E⟩:=bV hc;have F:=Ty.list.inj D;subst F;have H:ys=B:=E;subst H;obtain⟨c,h1⟩:=aY l;clear l;simp only[e_]at c;have b:∀p∈ys.map (dL k u),p.ok=true/\k.yt p.cells=true:=λp hp=>⟨(HC ys p hp).2,by obtain⟨z,_,rfl⟩:=s_.1 hp;simp[S5]⟩
   have f:(ys.map (dL k u)).map k.gO=ys.map (aN u):=by grind[j_,k_,P3]
   split at h1
   .rename_i id w;split at h1
    .rename_i e k2 a A U;split at h1
     .rename_i xs hz;obtain⟨I,J⟩:=bV hz;have L:=Ty.list.inj I;subst L;have M:xs=A:=J;subst M;obtain⟨g,N⟩:=aY h1;simp only[a_,decide_eq_true_eq]at g;obtain⟨g,rfl⟩:=g;obtain⟨g3,Q⟩:=bF N;have R:=b_ g;subst R;refine⟨_,aH j.1 w,_,aH j.2 C,.inr (.inl ⟨ys.map (dL k a),rfl,b,.inl ⟨id,rfl,_,by rw[bT,U];rfl,_,rfl,by grind,_,?_,(aP.map (f9 d) s (s.fD id (.tree e k a (xs++ys) none)) (V.ym id) (λv Y=>by cases v<;>first|rfl|cases Y) rfl).trans (aP.put _ d _),Q⟩⟩)⟩
      rw[gx,Aa,f];have:b8 (.tree e k a (xs++ys) none)= .tree e a.sz k (xs.map (aN a)++ys.map (aN a)) none:=by show aM.tree e a.sz k ((xs++ys).map (aN a)) none=_;simp
      rw[this];rfl
     grind
    grind
   .rename_i v w;obtain⟨h3,T⟩:=bF h1;refine⟨_,aH j.1 w,_,aH j.2 C,.inr (.inl ⟨ys.map (dL k u),rfl,b,.inr ⟨rfl,by grind,Rl (o:=.tree tid k u ys none) ?_ ?_ T⟩⟩)⟩;.rw[f];rfl
    .rw[l8];rfl
   grind
  grind
 grind
theorem Wi{k e:TypeId}{a b:Ty}(h:aX O d (.ik k e a b) s κ kp=some r):NQ P s (.ik k e) d κ kp r:=by refine uJ rfl ?_ h;rw[l8];rfl
theorem H6{tid:TypeId}{t:Ty}{bytes:Nat}{x y:X}(c:x.wf=true/\y.wf=true)(h:aX O d (.append tid t bytes x y) s κ kp=some r):Ox P s (.append tid t.sz bytes x.er y.er) d κ kp r:=by
 simp only[aX]at h;obtain⟨J,ys,g,h1,h2⟩:=kw h;have a:∀v:V,s.get x=some v->a8 v= .b .om\/a8 v= .b (.full (.list 0 []))->ci (decide (ys.length*bytes<=140737488355328)) (κ (S.aF ⟨s.fr,s.hp++[.vec tid t ys]⟩ d (.sl s.hp.length)))=some r->Ox P s (.append tid t.sz bytes x.er y.er) d κ kp r:=by intro v b f D;obtain⟨I,C⟩:=bF D;refine⟨_,aH c.1 b,_,aH c.2 g,h2 _ ⟨λp hp=>(jc ys p hp).2,.inr ⟨f,by grind,Rl (o:=.vec tid t ys) rfl ?_ C⟩⟩⟩;rw[l8];rfl
 split at h1
 .rename_i id b;split at h1
  .rename_i e u xs E;split at h1
   .rename_i zs F;obtain⟨j,k⟩:=bV F;have l:=Ty.list.inj j;subst l;have n:zs=xs:=k;subst n;obtain⟨w,z⟩:=aY h1;obtain⟨H,A⟩:=bF z;have B:=b_ w;subst B;refine⟨_,aH c.1 b,_,aH c.2 g,h2 _ ⟨λp hp=>(jc ys p hp).2,.inl ⟨id,rfl,_,by rw[bT,E];rfl,_,rfl,by grind,_,?_,(aP.map (f9 d) s (s.fD id (.vec e u (zs++ys))) (V.ym id) (λv f=>by cases v<;>first|rfl|cases f) rfl).trans (aP.put _ d _),A⟩⟩⟩
    rw[gx,Aa];have:b8 (.vec e u (zs++ys))= .vec e u.sz (zs.map (aN u)++ys.map (aN u)):=by show aM.vec e u.sz ((zs++ys).map (aN u))=_;simp
    rw[this];rfl
   grind
  grind
 .rename_i u b;exact a _ b (.inl rfl) h1
 .rename_i u b;exact a _ b (.inr rfl) h1
 grind
theorem S7{tid:TypeId}{t:Ty}{bytes:Nat}{x y:X}(a:x.wf=true/\y.wf=true)(h:aX O d (.append tid t bytes x y) s κ kp=some r):NQ P s (.append tid t.sz bytes x.er y.er) d κ kp r:=(H6 a h).ob
theorem YX{tid:TypeId}{t:Ty}{x y:X}(g:x.wf=true/\y.wf=true)(h:aX O d (.copy tid t x y) s κ kp=some r):NQ P s (.copy tid t.sz x.er y.er) d κ kp r:=by
 simp only[aX]at h;split at h
 .rename_i id v C D;obtain⟨F,h1⟩:=aY h;obtain⟨H,ys,c,a,h2⟩:=kw h1;cases c;split at a
  .rename_i e u xs B;split at a
   .rename_i zs E;obtain⟨j,k⟩:=bV E;have l:=Ty.list.inj j;subst l;have n:zs=xs:=k;subst n;obtain⟨w,z⟩:=aY a;have A:=b_ w;subst A;refine⟨_,aH g.1 C,_,aH g.2 D,h2 _ ⟨λp hp=>(jc ys p hp).2,id,rfl,λb=>?_,_,by rw[bT,B];rfl,_,rfl,_,?_,(aP.fr (s':=⟨s.fr,setAt s.hp id (.vec e u (ys.take zs.length++zs.drop ys.length))⟩) rfl).trans (aP.put _ d _),z⟩⟩
    .cases f:v.HR
     .rw[kU f]at b;cases v<;>simp only[a8,aU]at b<;>first|grind|skip
      all_goals grind[W_,bI]
     .cases v<;>first|(cases f;done)|cases b
    .rw[gx,gH];have:b8 (.vec e u (ys.take zs.length++zs.drop ys.length))= .vec e u.sz ((ys.map (aN u)).take (zs.map (aN u)).length++(zs.map (aN u)).drop (ys.map (aN u)).length):=by show aM.vec e u.sz _=_;simp
     rw[this,u_,u_];exact .refl _
   grind
  grind
 grind
theorem Wj{x:X}(a:x.wf=true)(h:aX O d (.panic x) s κ kp=some r):NQ P s (.panic x.er) d κ kp r:=by
 simp only[aX]at h;split at h;.rename_i b;exact⟨_,aH a b,rfl,s,rfl,aP.refl _ _,h⟩
 grind
theorem MS(hO:cD P O){jv bor:Bool}{B:List Nat}{f:FuncId}{args:List (Arg×X)}{sh:Sh}(b:iT args=true/\sh.zp=true)(h:aX O d (.gF jv bor B f args sh) s κ kp=some r): Ox P s (.gF bor B (f%10000) (args.map λa=>a.2.er)) d κ kp r:=by
 simp only[aX]at h;split at h;.rename_i ars c;obtain⟨os,_,h1,h2,e⟩:=xE hO b.2 h;refine⟨_,qN args ars b.1 c h2,_,h1,?_⟩;omega
 grind
theorem Wg(hO:cD P O){jv bor:Bool}{B:List Nat}{f:FuncId}{args:List (Arg×X)}{sh:Sh}(b:iT args=true/\sh.zp=true)(h:aX O d (.gF jv bor B f args sh) s κ kp=some r): NQ P s (.gF bor B (f%10000) (args.map λa=>a.2.er)) d κ kp r:=(MS hO b h).ob
theorem MU(hO:cD P O){jv bor:Bool}{B:List Nat}{num:Nat}{x:X}{args:List (Arg×X)}{sh:Sh}(j:x.wf=true/\iT args=true/\eI P (num%10000)=true/\sh.zp=true)(h:aX O d (.fz jv bor B num x args sh) s κ kp=some r): Ox P s (.fz bor B x.er (args.map λa=>a.2.er)) d κ kp r:=by
 have fin:∀(f:FuncId) (ars caps:List V),i_ (num%10000) f=true->kQ s bor B args=some ars->wl jv O s d bor B num (ars++caps) sh κ kp=some r->eI P f=true/\aS ((args.map λa=>a.2.er).mapM λx=>((enc s).get x).bind (m7 (enc s).hp bor B)) λp=>aS (B.mapM ((enc s).hp[·]?)) λos=>cN.callK P (enc s) d bor B f (p++caps.map a8) os (λb=>∃s',b=enc s'/\aP (f9 d) s s'/\κ s'=some r) (λb=>∃s',b=enc s'/\aP (f9 d) s s'/\kp s'=some r):=by
  intro f ars caps u g hc
  have l:=b_ u
  subst l
  obtain⟨os,_,h1,h2,w⟩:=xE hO j.2.2.2 hc
  refine⟨j.2.2.1,_,qN args ars j.2.1 g λv y=>h2 v (by grind),_,h1,?_⟩
  grind
 simp only[aX]at h;split at h;.rename_i f ids ars n g;obtain⟨h1,h2⟩:=aY h;obtain⟨k,e⟩:=fin f ars _ h1 g h2;refine⟨_,aH j.1 n,f,_,.inl ⟨ids,rfl,rfl⟩,k,?_⟩;rw[j_]at e;exact e
 .rename_i f cs ars n g;obtain⟨h1,h2⟩:=aY h;obtain⟨k,e⟩:=fin f ars _ h1 g h2;refine⟨_,aH j.1 n,f,_,.inr ⟨cs.map λc=>PV.Bw (aN c.1 c.2),rfl,rfl⟩,k,?_⟩;rw[j_]at e⊢;exact e
 grind
theorem Wh(hO:cD P O){jv bor:Bool}{B:List Nat}{num:Nat}{x:X}{args:List (Arg×X)}{sh:Sh}(b:x.wf=true/\iT args=true/\eI P (num%10000)=true/\sh.zp=true)(h:aX O d (.fz jv bor B num x args sh) s κ kp=some r): NQ P s (.fz bor B x.er (args.map λa=>a.2.er)) d κ kp r:=(MU hO b h).ob
theorem Tf:∀(t:Ty) (x:t.den),t.Dw=true->(aN t x).plain=true:=by
 have hc:∀(t:Ty) (x:t.den),t.Dw=true->(aO t x).all (λx=>match x with
  | .sc (.int _ _)=>true
  | .sc (.bool _)=>true
  | .sc (.string _)=>true
  |_=>false)=true:=by
  intro t
  induction t with|pair a b c d=>intro x h;simp only[Ty.Dw]at h;have e:aO (.pair a b) x=aO a x.1++aO b x.2:=rfl;grind|int k=>intro x _;rfl|bool=>intro x _;rfl|str=>intro x _;rfl|unit=>intro x _;rfl|list t _=>intro x h;cases h|rx=>intro x h;cases h
 intro t x h;cases t with|pair a b=>exact hc (.pair a b) x h|int k=>rfl|bool=>rfl|str=>rfl|unit=>rfl|list t=>cases h|rx=>cases h
theorem HS{a b:Ty}(y:a.den)(z:b.den):∀(kvs:List (a.den×b.den)),(dA a b kvs y=none->fh a b kvs y z=kvs++[(y,z)])/\
 (∀j d v,kvs[j]? =some (d,v)->gI a y d=true->(∀i' g,i'<j->kvs[i']? =some g->gI a y g.1=false)->fh a b kvs y z=kvs.set j (y,z))
 |[]=>⟨λ_=>rfl,λj d v h=>by grind⟩
 |(k,v)::l=>by
  obtain⟨h1,h2⟩:=HS y z l;refine⟨λh=>?_,λj d p f n e=>?_⟩
  .simp only[dA]at h;cases c:gI a y k;.rw[c]at h;simp only[fh,c,cond_false,h1 h,List.cons_append]
   grind
  .cases j with
   |zero=>simp at f;obtain⟨rfl,rfl⟩:=f;grind[fh]
   |succ j=>have c:=e 0 (k,v) (by simp) rfl;simp only[fh,c,cond_false,List.set_cons_succ];grind
theorem S9{k e:TypeId}{a b:Ty}{m x v:X}(g:m.wf=true/\x.wf=true/\v.wf=true/\wH P 64 k a=true)(h:aX O d (.gY k e a b m x v) s κ kp=some r):NQ P s (.gY k e m.er x.er v.er) d κ kp r:=by
 simp only[aX]at h;split at h
 .rename_i id u w hm hx hv;split at h
  .rename_i k' e' f b' kvs y z ho hy hz;split at h
   .rename_i c A;obtain⟨h1,h2⟩:=aY h;simp only[a_]at h1;have E:=b_ h1.1.1.1;have F:=b_ h1.1.1.2;have n:=h1.1.2;obtain⟨H,I⟩:=bV A;have J:=Ty.list.inj H;injection J with L M;clear h h1;subst E;subst F;subst L;subst M;have e8:c=kvs:=I;subst e8;obtain⟨_,U⟩:=bF h2;obtain⟨N,Q⟩:=Eh (P:=P) (b:=b') g.2.2.2 y c 0;obtain⟨q1,q2⟩:=HS y z c;have fin:∀l:List (PV×PV),(fh f b' c y z).map (λp=>(aN f p.1,aN b' p.2))=l->∃s',NP {enc s with hp:=(enc s).hp.set id (.map k e l)} (enc s')/\aP (f9 none) s s'/\κ s'=some r:=by rintro l rfl;refine⟨⟨s.fr,setAt s.hp id (.map k e f b' (fh f b' c y z))⟩,?_,aP.fr rfl,U⟩;rw[gH];exact .refl _
    refine⟨_,aH g.1 hm,_,aH g.2.1 hx,_,aH g.2.2.1 hv,id,_,rfl,by rw[bT,ho];rfl,_,eJ hy,_,eJ hz,rfl,Tf f y n,(JD P 64 k f g.2.2.2 y y).2,Mj g.2.2.2,N,?_⟩;rcases Q with⟨R,C⟩|⟨j,u',B,R,C,T,g7,D⟩;.refine⟨_,C,λi u Y=>(by grind),fin _ ?_⟩;grind
    .have hk:=Jg f y B n T;subst hk;rw[aa_]at D;refine⟨_,D,λi u Y=>?_,fin _ ?_⟩;all_goals grind[aN,Q_]
   grind
  grind
 grind
end
theorem lV{α:Type}(xs ys:List α)(h:xs.length=ys.length):splice xs 0 ys=ys:=by simp[splice,<-h]
def gS:∀(u:Ty) (off:Nat) (t:Ty) (x:u.den) (y:t.den) (z:u.den),kF u off t x y=some z->off+t.sz<=u.sz/\aO u z=splice (aO u x) off (aO t y)/\(u.ag=false->t=u)
 | .pair a b,off,t,x,y,z,h=>by
  have g:=aR a x.1
  have s:=aR b x.2
  have w:=aR t y
  have hc:∀x:(Ty.pair a b).den,aO (.pair a b) x=aO a x.1++aO b x.2:=λ_=>rfl
  unfold kF at h
  cases d:(decide (Ty.pair a b=t)&&i_ off 0)
  .rw[d]at h
   simp only[cond_false]at h
   cases e:J_ (off+1) a.sz
   .rw[e]at h
    simp only[cond_false]at h
    have r:a.sz<=off:=by
     have:=Nat.not_le_of_not_ble_eq_true (by rw[e];simp)
     omega
    split at h
    .rename_i B h2
     cases h
     obtain⟨p,n,_⟩:=gS b (off - a.sz) t x.2 y B h2
     refine⟨by grind[Ty.sz],?_,λh=>by cases h⟩
     rw[hc,hc,n]
     simp only[splice]
     rw[aJ_,V_ (l:=aO a x.1) (by omega),g,aE_,ar_ (show(aO a x.1).length<=off+(aO t y).length by omega),g]
     grind
    grind
   .rw[e]at h
    simp only[cond_true]at h
    have v:=c_ e
    split at h
    .rename_i A h1
     cases h
     obtain⟨p,n,_⟩:=gS a off t x.1 y A h1
     refine⟨by grind[Ty.sz],?_,λh=>by cases h⟩
     grind[splice]
    grind
  .rw[d]at h
   simp only[cond_true]at h
   simp only[a_,decide_eq_true_eq]at d
   have f:off=0:=b_ d.2
   subst f
   obtain⟨j,rfl⟩:=bR h
   grind[lV,aR]
 | .rx,off,t,x,y,z,h=>by
  unfold kF at h
  obtain⟨h1,h2⟩:=aY h
  simp only[a_,decide_eq_true_eq]at h1
  have f:off=0:=b_ h1.1
  subst f
  obtain⟨j,rfl⟩:=bR h2
  refine⟨by simp,?_,λ_=>rfl⟩
  grind[lV,aR]
 | .int k,off,t,x,y,z,h=>c (.int k) off t x y z h
 | .bool,off,t,x,y,z,h=>c .bool off t x y z h
 | .str,off,t,x,y,z,h=>c .str off t x y z h
 | .list a,off,t,x,y,z,h=>c (.list a) off t x y z h
 | .unit,off,t,x,y,z,h=>c .unit off t x y z h
where
 c (u:Ty) (off:Nat) (t:Ty) (x:u.den) (y:t.den) (z:u.den) (h:(bif i_ off 0 then bE t u y else none)=some z):off+t.sz<=u.sz/\aO u z=splice (aO u x) off (aO t y)/\(u.ag=false->t=u):=by
  obtain⟨h1,h2⟩:=aY h
  have f:off=0:=b_ h1
  subst f
  obtain⟨j,rfl⟩:=bR h2
  refine⟨by simp,?_,λ_=>rfl⟩
  grind[lV,aR]
def xQ{t:Ty}{x y:t.den}(h:aO t x=aO t y):aN t x=aN t y:=by cases ht:t.ag;all_goals grind[eZ,eY]
def OC{t:Ty}{v:V}{x:t.den}(h:cA t v=some x):(a8 v).cells.length=t.sz/\∀(i:Nat) (a b:BV),(a8 v).cells[i]? =some a->((aO t x).map BV.pv)[i]? =some b->K0 a b:=by
 have hd:=eJ h
 have one:∀(z:BV),(∀p,z≠.pv p)->z.bG=some (aN t x)->t.ag=false->([z]:List BV).length=t.sz/\∀(i:Nat) (a b:BV),([z]:List BV)[i]? =some a->((aO t x).map BV.pv)[i]? =some b->K0 a b:=by
  intro z _ r ht
  refine⟨by grind[fL],λi a b g f=>?_⟩
  rw[eZ x ht]at f
  cases i with
  |zero=>simp at g f;subst g;subst f;exact .data _ _ r
  |succ i=>grind
 cases v with
 |d u y=>
  obtain⟨k,rfl⟩:=bR (show bE u t y=some x from h)
  refine⟨?_,λi a b g f=>?_⟩
  .show((aO u y).map BV.pv).length=_
   rw[u_,aR]
  .have c:((aO u y).map BV.pv)[i]? =some a:=g
   have:aO u y=aO u x:=by grind
   rw[this,f]at c
   cases c
   exact .refl _
 |agg vs=>
  have j:((vs.map aU).mapM BV.bG).map PV.agg=some (aN t x):=hd
  obtain⟨cs,h1,h2⟩:=d_.1 j
  have n:t.ag=true:=by rw[<-lA t x,<-h2];rfl
  have hcs:cs=aO t x:=by grind[eY]
  subst hcs
  have hl:=mapM_len h1
  refine⟨by show(vs.map aU).length=_;grind[aR],λi a b g f=>?_⟩
  have c:(vs.map aU)[i]? =some a:=g
  rw[m_]at f
  obtain⟨p,hp,rfl⟩:=d_.1 f
  exact .data _ _ (yq h1 c hp)
 |nil u=>
  obtain⟨k,rfl⟩:=bR (show bE (.list u) t []=some x from h)
  exact one .om (λp e=>by grind) hd rfl
 |full u y=>
  obtain⟨k,rfl⟩:=bR (show bE (.list u) t y=some x from h)
  exact one (.full _) (λp e=>by grind) hd rfl
 |_=>grind[cA,iw]
where
 yq {l:List BV} {m:List PV} (h:l.mapM BV.bG=some m) {i:Nat} {a:BV} {p:PV} (g:l[i]? =some a) (hp:m[i]? =some p):a.bG=some p:=by
  induction l generalizing m i with
  |nil=>grind
  |cons x l s=>
   simp only[o_,B_,L_,p_,h_]at h
   grind
def SY{l:List BV}{m:List PV}(h:l.mapM BV.bG=some m){i:Nat}{a:BV}{p:PV}(b:l[i]? =some a)(hp:m[i]? =some p):a.bG=some p:=by induction l generalizing m i with|nil=>grind|cons x l c=>simp only[o_,B_,p_]at h;grind
def Qh(xs ys:List BV):Prop:=xs.length=ys.length/\∀(i:Nat) (a b:BV),xs[i]? =some a->ys[i]? =some b->K0 a b
def Qh.refl(xs:List BV):Qh xs xs:=⟨rfl,λi a b E C=>by rw[E]at C;cases C;exact .refl _⟩
def Qh.append{a b c e:List BV}(h:Qh a b)(k:Qh c e):Qh (a++c) (b++e):=by
 refine⟨by simp[h.1,k.1],λi x y C E=>?_⟩;rcases aS_ i a.length with h1|h1;.rw[C_ h1]at C;rw[C_ (by rw[<-h.1];omega)]at E;exact h.2 i x y C E
 .rw[N_ h1]at C;rw[N_ (by rw[<-h.1];omega),<-h.1]at E;exact k.2 _ x y C E
def UV{t:Ty}{l:List V}{x:t.den}{m:List V}(h:Oe t l=some (x,m)):∃c,l=c++m/\c.length=t.sz/\Qh (c.map aU) ((gq t x).map aU):=by obtain⟨c,h1,h2⟩:=ui t l x m h;have hl:=mapM_len h2;rw[u_,aR]at hl;refine⟨c,h1,hl.symm,by grind[dY],λi a b e d=>?_⟩;rw[(dY t x).1,m_]at d;obtain⟨p,hp,rfl⟩:=d_.1 d;exact .data _ _ (SY h2 e hp)
def Fo{t:Ty}{y:t.den}:∀(n:Nat) (vs:List V) (m:Int) (r:List V),(m<0\/(n:Int)<=m)->xf t y n vs m=some r->Qh (vs.map aU) (r.map aU)
 |0,vs,m,r,_,h=>by simp only[xf,h_]at h;subst h;exact .refl _
 |n+1,vs,m,r,c,h=>by
  simp only[xf]at h;split at h
  .rename_i x l a;split at h;.rename_i b hr;cases h;obtain⟨d,rfl,h1,h2⟩:=UV a;rw[decide_eq_false (by omega:¬m=0)];simp only[cond_false,v_];exact h2.append (Fo n l (m - 1) b (by omega) hr)
   grind
  grind
def Ig{t:Ty}{y:t.den}{cs:List BV}(hcs:Qh cs ((gq t y).map aU)):∀(n:Nat) (vs:List V) (j:Nat) (r:List V),j<n->xf t y n vs (j:Int)=some r->
 j*t.sz+t.sz<=vs.length/\Qh (splice (vs.map aU) (j*t.sz) cs) (r.map aU)
 |0,_,_,_,d,_=>absurd d (by simp)
 |n+1,vs,j,r,d,h=>by
  have k:cs.length=t.sz:=by rw[hcs.1,u_,(dY t y).2]
  simp only[xf]at h;split at h
  .rename_i x l p;split at h
   .rename_i f hr;cases h;obtain⟨a,rfl,h1,h2⟩:=UV p;cases j with
    |zero=>
     refine⟨by grind,?_⟩;have e:(decide (((0:Nat):Int)=0))=true:=rfl;rw[e];simp only[cond_true,v_];have:=Fo n l _ f (.inl (by simp)) hr;have c:splice (a.map aU++l.map aU) (0*t.sz) cs=cs++l.map aU:=by simp only[splice,Nat.zero_mul,aO_,aK_,aa_];grind
     rw[c];exact hcs.append this
    |succ j=>
     have e:(decide (((j+1:Nat):Int)=0))=false:=decide_eq_false (by omega);rw[e];rw[show(((j+1:Nat):Int) - 1)=(j:Int) by simp]at hr;obtain⟨s,g⟩:=Ig hcs n l j f (by omega) hr;refine⟨by grind,?_⟩;simp only[cond_false,v_];have b:(a.map aU).length=t.sz:=by grind
     have c:splice (a.map aU++l.map aU) ((j+1)*t.sz) cs=a.map aU++splice (l.map aU) (j*t.sz) cs:=by simp only[splice,Nat.succ_mul];rw[aJ_,V_ (l:=a.map aU) (by omega),b,aE_,ar_ (show(a.map aU).length<=j*t.sz+t.sz+cs.length by omega),b];grind
     rw[c];exact h2.append g
   grind
  grind
theorem TK{α:Type}(cs:List α)(off n k:Nat)(ys:List α)(h:off+n<=cs.length)(a:k+ys.length<=n):splice cs (off+k) ys=splice cs off (splice ((cs.drop off).take n) k ys):=by
 have hl:(((cs.drop off).take n).take k++ys++((cs.drop off).take n).drop (k+ys.length)).length=n:=by grind
 simp only[splice];rw[hl,List.take_take,Nat.min_eq_left (by omega),List.drop_take,List.take_add];simp;congr 3;rw[show off+k+ys.length=off+(k+ys.length) by omega];conv=>lhs;rw[<-List.take_append_drop (n - (k+ys.length)) (cs.drop (off+(k+ys.length)))]
 rw[aN_,show off+(k+ys.length)+(n - (k+ys.length))=off+n by omega]
section
variable {R:Type} {P:Program} {O:bi} {d:Option Nat} {s:S} {κ kp:S->Option R} {r:R}
theorem YL{a:St}{id:Nat}{o o':aM}(h:UH o o'):NP {a with hp:=a.hp.set id o} {a with hp:=a.hp.set id o'}:=by
 refine⟨λ_ y e=>⟨y,e,.refl y⟩,by simp,λi x y b c=>?_⟩;simp only[aB_]at b c;split at b;.grind
 .rename_i d;rw[if_neg d,b]at c;cases c;exact .refl _
theorem Wk{t:Ty}{x v:X}(g:x.wf=true/\v.wf=true)(h:aX O d (.store t x v) s κ kp=some r):NQ P s (.store t.sz x.er v.er) d κ kp r:=by
 simp only[aX]at h;cases d with
 |some _=>grind|none=>
  simp only at h;unfold storeT at h;split at h
  .rename_i id off l D C;split at h
   .rename_i tid cs A;obtain⟨h1,h2⟩:=aY h;simp only[a_]at h1;obtain⟨c,F⟩:=rD h1.2;have U:=b_ h1.1.1;have h6:=c_ h1.1.2;refine⟨_,aH g.1 D,_,aH g.2 C,rfl,_,by rw[bT,A];rfl,tid,_,rfl,by grind,by grind,c,⟨s.fr,setAt s.hp id (.box tid (fP cs off (dq l)))⟩,?_,aP.fr rfl,h2⟩;rw[gH];have:b8 (.box tid (fP cs off (dq l)))= .box tid (splice (cs.map aU) off (a8 l).cells):=by show aM.box tid _=_;rw[pc,F]
    rw[this];exact .refl _
   grind
  .rename_i id off n u m l D C;split at h
   .rename_i tid cs y A E;obtain⟨h1,h2⟩:=aY h;simp only[a_,decide_eq_true_eq]at h1;obtain⟨⟨h1,rfl⟩,hsz⟩:=h1;have h6:=c_ h1;split at h2
    .rename_i vs Q;obtain⟨c,F⟩:=bF h2;simp only[a_,decide_eq_true_eq]at c;obtain⟨j,rfl⟩:=an_ c.1;have J:j<n:=by omega
     obtain⟨d1,Y⟩:=OC E;have M:=QG E;have L:=rD M;have hcs:Qh (a8 l).cells ((gq u y).map aU):=⟨by grind[u_,dY],λi a b ha hb=>Y i a b ha (by grind[dY])⟩;obtain⟨r1,r2⟩:=Ig hcs n _ j vs J Q;have el:j*u.sz+u.sz<=n*u.sz:=by grind
     refine⟨_,aH g.1 D,_,aH g.2 C,rfl,_,by rw[bT,A];rfl,tid,_,rfl,d1,?_,L.1,⟨s.fr,setAt s.hp id (.box tid (fP cs off vs))⟩,?_,aP.fr rfl,F⟩;.grind
     .rw[gH];refine YL ?_;have I:splice (cs.map aU) (off+(j:Int).toNat*u.sz) (a8 l).cells=splice (cs.map aU) off (splice (((cs.drop off).take (n*u.sz)).map aU) (j*u.sz) (a8 l).cells):=by grind[Int.toNat_natCast,X_,al_,TK]
      show UH (aM.box tid (splice (cs.map aU) (off+(j:Int).toNat*u.sz) (a8 l).cells)) (aM.box tid ((fP cs off vs).map aU));rw[I,pc];have key:Qh (splice (cs.map aU) off (splice (((cs.drop off).take (n*u.sz)).map aU) (j*u.sz) (a8 l).cells)) (splice (cs.map aU) off (vs.map aU)):=by unfold splice at r2⊢;rw[r2.1];exact((Qh.refl _).append r2).append (Qh.refl _)
      exact .box tid _ _ key.1 key.2
    grind
   grind
  .rename_i id i off l D C;split at h
   .rename_i e u xs y A E;obtain⟨h1,h2⟩:=aY h;obtain⟨x0,f,c⟩:=cW h2;split at c
    .rename_i z R;obtain⟨T,p2,p3⟩:=gS u off t x0 y z R;have H:=(l_.1 f).1;have B:(xs.map (aN u)).getD i .any=aN u x0:=by grind
     have fin:∀p,p=aN u z->∃s',NP {enc s with hp:=(enc s).hp.set id (.vec e u.sz ((xs.map (aN u)).set i p))} (enc s')/\aP (f9 none) s s'/\κ s'=some r:=by
      rintro p rfl;refine⟨⟨s.fr,setAt s.hp id (.vec e u (xs.set i z))⟩,?_,aP.fr rfl,c⟩;rw[gH];have:b8 (.vec e u (xs.set i z))= .vec e u.sz ((xs.map (aN u)).set i (aN u z)):=by show aM.vec e u.sz _=_;simp
      rw[this];exact .refl _
     refine⟨_,aH g.1 D,_,aH g.2 C,rfl,_,by rw[bT,A];rfl,.inl ⟨e,_,_,rfl,by grind,_,eJ E,aR t y,ws t y,?_⟩⟩;by_cases hs:t.sz=u.sz
     .have N:u=t:=by simp only[K_,decide_eq_true_eq,z_]at h1;grind[W_]
      subst N;have h0:off=0:=by omega
      subst h0;refine .inl ⟨rfl,rfl,fin _ (xQ ?_)⟩;grind[lV,aR]
     .refine .inr ⟨hs,T,fin _ ?_⟩;grind[eY]
    grind
   .rename_i e k u xs hole y A E;obtain⟨h1,h2⟩:=aY h;simp only[a_]at h1;obtain⟨x0,f,c⟩:=cW h2;split at c
    .rename_i z R;obtain⟨T,p2,p3⟩:=gS u off t x0 y z R;have H:=(l_.1 f).1;have B:(xs.map (aN u)).getD i .any=aN u x0:=by grind
     refine⟨_,aH g.1 D,_,aH g.2 C,rfl,_,by rw[bT,A];rfl,.inr ⟨e,_,k,_,_,rfl,by grind,T,.inl ⟨h1.1,by grind[lA],_,eJ E,aR t y,ws t y,⟨s.fr,setAt s.hp id (.tree e k u (xs.set i z) hole)⟩,?_,aP.fr rfl,c⟩⟩⟩;rw[gH,B];have:b8 (.tree e k u (xs.set i z) hole)= .tree e u.sz k ((xs.map (aN u)).set i (.agg (splice (aN u x0).cells off (aN t y).cells))) (zbs hole):=by show aM.tree e u.sz k _ _=_;grind[Q_,eY]
     rw[this];exact .refl _
    grind
   .rename_i e k u xs hi J w A E;split at h;.rename_i kid;obtain⟨h1,h2⟩:=aY h;simp only[a_]at h1;obtain⟨x0,f,c⟩:=cW h2;obtain⟨F,U⟩:=bF c;have H:=(l_.1 f).1;have I:=b_ h1.1.1;have e2:=b_ h1.1.2;have e3:=c_ h1.2;have e4:=b_ F;clear h h1 h2 c F;subst I;subst e4;refine⟨_,aH g.1 D,_,aH g.2 C,rfl,_,by rw[bT,A];rfl,.inr ⟨e,_,k,_,_,rfl,by grind,by omega,.inr ⟨_,_,rfl,e2,rfl,rfl,⟨s.fr,setAt s.hp id (.tree e k u xs (some (hi,J,.sl kid)))⟩,?_,aP.fr rfl,U⟩⟩⟩;rw[gH];exact .refl _
    grind
   grind
  grind
theorem Wu{t:Ty}{x v:X}(b:x.wf=true/\v.wf=true)(hp:Xk s (.store t x v)=true)(h:aX O d (.store t x v) s κ kp=some r):Ox P s (.store t.sz x.er v.er) d κ kp r:=by
 simp only[aX]at h;cases d with
 |some _=>grind|none=>
  simp only at h;unfold storeT at h;split at h
  .rename_i id off n j g;split at h;.rename_i tid cs c;obtain⟨h1,h2⟩:=aY h;simp only[a_]at h1;obtain⟨a,E⟩:=rD h1.2;have F:=b_ h1.1.1;have H:=c_ h1.1.2;refine⟨_,aH b.1 j,_,aH b.2 g,rfl,_,by rw[bT,c];rfl,tid,_,rfl,by grind,by grind,a,⟨s.fr,setAt s.hp id (.box tid (fP cs off (dq n)))⟩,?_,aP.fr rfl,h2⟩;grind[gH,b8,fP,dq,splice,aU,a8,pc]
   grind
  .grind[id,Xk]
  .rename_i id i off n j g;split at h
   .rename_i e u xs y c B;obtain⟨h1,h2⟩:=aY h;obtain⟨x0,k,a⟩:=cW h2;split at a
    .rename_i z C;obtain⟨D,I,J⟩:=gS u off t x0 y z C;have A:=(l_.1 k).1;have l:(xs.map (aN u)).getD i .any=aN u x0:=by grind
     have fin:∀p,p=aN u z->∃s',{enc s with hp:=(enc s).hp.set id (.vec e u.sz ((xs.map (aN u)).set i p))}=enc s'/\aP (f9 none) s s'/\κ s'=some r:=by rintro p rfl;refine⟨⟨s.fr,setAt s.hp id (.vec e u (xs.set i z))⟩,?_,aP.fr rfl,a⟩;simp[gH,b8,aN,set]
     refine⟨_,aH b.1 j,_,aH b.2 g,rfl,_,by rw[bT,c];rfl,.inl ⟨e,_,_,rfl,by grind,_,eJ B,aR t y,ws t y,?_⟩⟩;by_cases hs:t.sz=u.sz
     .have f:u=t:=by grind[W_]
      subst f;have w:off=0:=by omega
      subst w;refine .inl ⟨rfl,rfl,fin _ (xQ ?_)⟩;grind[lV,aR]
     .refine .inr ⟨hs,D,fin _ ?_⟩;grind[eY]
    grind
   all_goals grind[Xk]
  grind
theorem S2{op:lz}(a:op.wf P=true){b:Ob->(Nat->V)->Option R}(h:aX.mkT s op b=some r):∃o v,b o v=some r/\Fv (enc s) op.er λob mk=>ob=b8 o/\∀n,a8 (v n)= .b (mk n):=by
 unfold aX.mkT at h;split at h;.rename_i tid zero;refine⟨_,_,h,?_,λn=>rfl⟩;show aM.box tid ((zero.map yK).map λv=>bI v)=aM.box tid (zero.map aU);rw[j_];congr 1;exact k_ λv j=>uF (e_.1 a v j)
 .rename_i tid x;split at h;.rename_i v e;obtain⟨h1,h2⟩:=aY h;obtain⟨f,g⟩:=rD h1;refine⟨_,_,h2,_,aH a e,f,?_,λn=>rfl⟩;show aM.box tid _=aM.box tid _;grind
  grind
 .rename_i tid t len parts;obtain⟨h1,h2⟩:=aY h;simp only[a_]at h1;obtain⟨xs,f,g,d⟩:=lP parts _ a h2;refine⟨_,_,d,_,f,?_,c_ h1.1.2,c_ h1.2,jc xs,rfl,λn=>rfl⟩;grind[u_,b_]
 .rename_i tid t bytes l c;simp only[lz.wf,a_,decide_eq_true_eq,ne_eq]at a;obtain⟨h1,h2⟩:=aY h;obtain⟨C,E,hl,f⟩:=fB h2;obtain⟨D,F,hc,g⟩:=fB f;obtain⟨d,k⟩:=bF g;simp only[a_,decide_eq_true_eq]at d;obtain⟨A,B⟩:=NJ t a.2;refine⟨_,_,k,_,aH a.1.1 hl,_,aH a.1.2 hc,_,rfl,_,rfl,_,_,rfl,_,_,rfl,d.1.1.1,d.1.1.2,d.1.2,d.2,B,c_ h1,_,A,ws t t.zero,?_,λn=>rfl⟩;show aM.vec tid t.sz _=aM.vec tid t.sz _;simp
 .rename_i tid t bytes x y;simp only[lz.wf,a_]at a;obtain⟨H,ys,z,h1,h2⟩:=kw h;have key:∀v:V,s.get x=some v->(a8 v= .b .om\/a8 v= .b (.full (.list 0 [])))->ci (decide (ys.length*bytes<=140737488355328)) (b (.vec tid t ys) .sl)=some r->∃o v,b o v=some r/\Fv (enc s) (lz.append tid t bytes x y).er λob mk=>ob=b8 o/\∀n,a8 (v n)= .b (mk n):=by intro v e j w;obtain⟨f,g⟩:=bF w;exact⟨_,_,g,_,aH a.1 e,_,aH a.2 z,h2 _ ⟨λp hp=>(jc ys p hp).2,j,by grind,rfl,λn=>rfl⟩⟩
  split at h1;.rename_i u e;exact key _ e (.inl rfl) h1
  .rename_i u e;exact key _ e (.inr rfl) h1
  grind
 .exact⟨_,_,h,rfl,λn=>rfl⟩
 grind
theorem Qq{k:Nat}{op:lz}(e:op.wf P=true)(h:aX O d (.uj k op) s κ kp=some r): ∃o v,rq P ⟨d,.uj k op.er,none⟩ (enc s) ⟨a8 v,some (k,b8 o)⟩/\κ (S.aF ⟨s.fr,setAt s.hp k o⟩ d v)=some r:=by
 simp only[aX]at h;split at h;.rename_i c;obtain⟨o,v,h1,h2⟩:=S2 e h;refine⟨o,v k,⟨rfl,op.er,rfl,nR h2 λob mk ⟨a,b⟩=>⟨a,b k,?_⟩⟩,h1⟩;rw[bT,c];rfl
 grind
theorem zbO{k:Nat}{op:lz}(g:op.wf P=true)(h:aX O d (.uj k op) s κ kp=some r):Ox P s (.uj k op.er) d κ kp r:=by obtain⟨o,v,h1,h2⟩:=Qq g h;obtain⟨_,q,e,f⟩:=h1;cases e;show Fv (enc s) op.er λob mk=>yE (enc s) (some k)/\∃s',((enc s).new (some k) ob).aF d (.b (mk k))=enc s'/\aP (f9 d) s s'/\κ s'=some r;refine nR f λob mk ⟨a,b,c⟩=>⟨c,_,?_,(aP.fr (s':=⟨s.fr,setAt s.hp k o⟩) rfl).trans (aP.put _ d v),h2⟩;rw[gx,gH,a,<-b];rfl
theorem Dy(hO:cD P O){op:lz}(g:op.wf P=true)(h:aX O d op s κ kp=some r):NQ P s op.er d κ kp r:=by
 cases op<;>simp only[lz.wf,a_,decide_eq_true_eq]at g;case mv x=>exact(ZP g h).ob
 case pick c a b=>exact(RG ⟨g.1.1,g.1.2,g.2⟩ h).ob
 case bin op x y=>exact(WC g h).ob
 case Gf neg x y=>exact(WE g h).ob
 case sy neg tid t x y=>exact(WG ⟨g.1.1,g.1.2,g.2⟩ h).ob
 case un op x=>exact(ZQ g h).ob
 case len b x=>exact(WJ g h).ob
 case ol k e x=>exact(RA g h).ob
 case ql x i=>exact(Ry g h).ob
 case pB n t x i=>exact(Rz g h).ob
 case qj t x i=>exact(Rv g h).ob
 case qk n t x i=>exact(Rw g h).ob
 case oj off t x=>exact(Ru g h).ob
 case HJ off t x=>exact(WI g h).ob
 case load t x=>exact(RB g h).ob
 case store t x v=>exact Wk g h
 case alloc tid zero=>exact We g h
 case box tid x=>exact zaF g h
 case pW tid t x=>exact(Rr g h).ob
 case build zero parts=>exact(M0 g h).ob
 case bQ own tid t len parts=>
  cases own;.exact(Ia g h).ob
  .exact S8 g h
 case cU tid t b l c=>exact Ta ⟨g.1.1,g.1.2,g.2⟩ h
 case append tid t b x y=>exact S7 g h
 case pY k x=>exact(Rt g h).ob
 case Im full t x lo j mx=>exact(WK ⟨g.1.1.1,g.1.1.2,g.1.2,g.2⟩ h).ob
 case qw x lo j=>exact(RH ⟨g.1.1,g.1.2,g.2⟩ h).ob
 case ext x i=>exact(WH g h).ob
 case rC x=>exact(RF g h).ob
 case call bor f args sh=>exact(Rs hO g h).ob
 case gF jv bor B f args sh=>exact Wg hO g h
 case fz jv bor B num x args sh=>exact Wh hO ⟨g.1.1.1,g.1.1.2,g.1.2,g.2⟩ h
 case hZ bor num x args sh=>exact(M1 hO ⟨g.1.1.1,g.1.1.2,g.1.2,g.2⟩ h).ob
 case Gb x=>exact(WB g h).ob
 case rB f caps=>exact(RD g h).ob
 case ik k e a b=>exact Wi h
 case lookup k e ok a b m x=>exact(Ib ⟨g.1.1.1,g.1.1.2,g.1.2,g.2⟩ h).ob
 case gY k e a b m x v=>exact S9 ⟨g.1.1.1,g.1.1.2,g.1.2,g.2⟩ h
 case copy tid t x y=>exact YX g h
 case mb mx k x ys=>exact(RE g h).ob
 case panic x=>exact Wj g h
 case iface tid x=>exact(M2 g h).ob
 case ow tid t len parts=>exact(E8 g h).ob
 case pi tid t b x y=>exact(Rq g h).ob
 case eE tid k t len parts=>exact(E9 g h).ob
 case d6 tid k u b l c=>exact O7 g h
 case pj tid k t b x y=>exact(Rk g h).ob
 case uj k op=>exact(zbO g h).ob
theorem pZ(hO:cD P O){op:lz}(g:op.wf P=true)(hp:op.lU=true)(h:aX O d op s κ kp=some r):Pu P s op.er d κ r:=by
 cases op<;>simp only[lz.wf,a_]at g<;>simp only[lz.lU]at hp<;>try (cases hp;done)
 case mv x=>exact ZP g h
 case pick c a b=>exact RG ⟨g.1.1,g.1.2,g.2⟩ h
 case bin op x y=>exact WC g h
 case Gf neg x y=>exact WE g h
 case sy neg tid t x y=>exact WG ⟨g.1.1,g.1.2,g.2⟩ h
 case un op x=>exact ZQ g h
 case len b x=>exact WJ g h
 case ol k e x=>exact RA g h
 case ql x i=>exact Ry g h
 case pB n t x i=>exact Rz g h
 case qj t x i=>exact Rv g h
 case qk n t x i=>exact Rw g h
 case oj off t x=>exact Ru g h
 case HJ off t x=>exact WI g h
 case load t x=>exact RB g h
 case pW tid t x=>exact Rr g h
 case build zero parts=>exact M0 g h
 case bQ own tid t len parts=>
  cases own;.exact Ia g h
  grind
 case pY k x=>exact Rt g h
 case Im full t x lo j mx=>exact WK ⟨g.1.1.1,g.1.1.2,g.1.2,g.2⟩ h
 case qw x lo j=>exact RH ⟨g.1.1,g.1.2,g.2⟩ h
 case ext x i=>exact WH g h
 case rC x=>exact RF g h
 case call bor f args sh=>exact Rs hO g h
 case hZ bor num x args sh=>exact M1 hO ⟨g.1.1.1,g.1.1.2,g.1.2,g.2⟩ h
 case Gb x=>exact WB g h
 case rB f caps=>exact RD g h
 case lookup k e ok a b m x=>exact Ib ⟨g.1.1.1,g.1.1.2,g.1.2,g.2⟩ h
 case mb mx k x ys=>exact RE g h
 case iface tid x=>exact M2 g h
 case ow tid t len parts=>exact E8 g h
 case pi tid t b x y=>exact Rq g h
 case eE tid k t len parts=>exact E9 g h
theorem ON(hO:cD P O){op:lz}(a:op.wf P=true)(hp:op.exB=true)(e:Xk s op=true)(h:aX O d op s κ kp=some r):Ox P s op.er d κ kp r:=by
 by_cases c:op.lU=true;.exact(pZ hO a c h).ox
 .cases op<;>simp only[lz.exB]at hp<;>try exact absurd hp c
  case append tid t b x y=>simp only[lz.wf,a_]at a;exact H6 a h
  case pj tid k t b x y=>simp only[lz.wf,a_]at a;exact Rk a h
  case gF jv bor B f args sh=>simp only[lz.wf,a_]at a;exact MS hO a h
  case fz jv bor B num x args sh=>simp only[lz.wf,a_]at a;exact MU hO ⟨a.1.1.1,a.1.1.2,a.1.2,a.2⟩ h
  case store t x v=>simp only[lz.wf,a_]at a;exact Wu a e h
end
def YA{θ:List Av.Loc}{D D':Nat->Prop}{w:World}{id:Nat}{t:Ty}{xs:List t.den}{l:Av.Loc}(hl:θ[id]? =some l)(hD:∀b,D b->D' b)(H:∀g,l≠.dX g)(C:∀g,l≠.mp g) (A:∀v,l.head v->aW D' w v (kZ t.sz (xs.map (aN t)))) {v:Value} {u:V} (h:RelB θ D w v (aU u)):RelB (θ.set id .no) D' w v (aU (TX id t xs u)):=by
 have I:∀(k:Nat) (l':Av.Loc),k≠id->θ[k]? =some l'->(θ.set id .no)[k]? =some l':=λk l' y h=>by grind
 have p:∀(x:BV),RelB θ D w v x->(∀i∈x.ids,i≠id)->RelB (θ.set id .no) D' w v x:=by
  intro x z r;cases x<;>simp only[RelB]at z⊢;.exact z.mono hD λ_ _=>rfl
  .omega
  .grind[BV.ids]
  .grind
  .grind[BV.ids]
  .grind
  .grind
  .exact⟨z.1.mono hD λ_ _=>rfl,z.2⟩
  omega
 cases u with
 |sl k=>
  show RelB _ _ _ _ (aU (bif i_ k id then .d (.list t) xs else .sl k));rw[fR];by_cases y:k=id;.subst y;rw[decide_eq_true rfl];obtain⟨l',h1,h2⟩:=h;rw[hl]at h1;cases h1;exact A v h2
  .rw[decide_eq_false y];exact p (aU (.sl k)) h λi r=>by rw[D_.1 (show i∈[k]from r)];omega
 |i6 k i o=>
  show RelB _ _ _ _ (aU (bif i_ k id then .any else .i6 k i o));rw[fR];by_cases y:k=id;.rw[decide_eq_true y];exact aW.any v
  .rw[decide_eq_false y];exact p (aU (.i6 k i o)) h λj B=>by rw[D_.1 (show j∈[k]from B)];omega
 |ptr k off=>refine p (aU (.ptr k off)) h λi r e=>?_;have s:=D_.1 (show i∈[k]from r);subst s;subst e;obtain⟨g,h1,_⟩:=h;grind
 |KG k off n E m=>refine p (aU (.KG k off n E m)) h λi r e=>?_;have s:=D_.1 (show i∈[k]from r);subst s;subst e;obtain⟨g,h1,_⟩:=h;grind
 |mp k=>refine p (aU (.mp k)) h λi r e=>?_;have s:=D_.1 (show i∈[k]from r);subst s;subst e;obtain⟨g,h1,_⟩:=h;grind
 |kT f ids=>refine p (aU (.kT f ids)) h λi r e=>?_;obtain⟨F,h1,h2,_⟩:=h;obtain⟨k,y⟩:=Y_ (show i∈ids from r);grind
 |raw c=>exact p (aU (.raw c)) h λi r=>by grind[aU,wm]|d a b=>exact p (aU (.d a b)) h λi r=>by cases r|nil a=>exact p (aU (.nil a)) h λi r=>by cases r|agg a=>exact p (aU (.agg a)) h λi r=>by cases r|dP a=>exact p (aU (.dP a)) h λi r=>by cases r|dp a b=>exact p (aU (.dp a b)) h λi r=>by cases r|HK a b=>exact p (aU (.HK a b)) h λi r=>by cases r|full a b=>exact p (aU (.full a b)) h λi r=>by cases r|any=>exact p (aU .any) h λi r=>by cases r|lit a b c=>exact p (aU (.lit a b c)) h λi r=>by cases r|KF=>exact p (aU .KF) h λi r=>by cases r
def Yz{id:Nat}{t:Ty}{xs:List t.den}(v:V)(h:v.HR=false):(TX id t xs v).HR=false:=by cases v<;>first|rfl|(simp only[TX];cases i_ _ id<;>rfl)|cases h
def WZ{θ θ':List Av.Loc}{D D':Nat->Prop}{w:World}{g:V->V}(j:∀v,v.HR=false->(g v).HR=false)(hg:∀v u,RelB θ D w v (aU u)->RelB θ' D' w v (aU (g u))){v:Value}{u:V}(h:RelA θ D w v (a8 u)):RelA θ' D' w v (a8 (ju g u)):=by
 have b:∀(vs:List V) (a:Array Value),a.size=(vs.map aU).length->(∀(i:Nat) (y:Value) (x:BV),a[i]? =some y->(vs.map aU)[i]? =some x->RelB θ D w y x)->a.size=((vs.map g).map aU).length/\∀(i:Nat) (y:Value) (x:BV),a[i]? =some y->((vs.map g).map aU)[i]? =some x->RelB θ' D' w y x:=by
  grind
 cases c:u.HR;.rw[VY c,kU (j u c)];rw[kU c]at h;exact hg v u h
 .cases u with
  |agg vs=>obtain⟨a,h1,h2,d⟩:=h;obtain⟨e,f⟩:=b vs a h2 d;exact⟨a,h1,e,f⟩
  |dP vs=>obtain⟨a,h1,h2,d⟩:=h;obtain⟨e,f⟩:=b vs a h2 d;exact⟨a,h1,e,f⟩
  |_=>cases c
def WY{θ θ':List Av.Loc}{D D':Nat->Prop}{w:World}{g:V->V}(hD:∀b,D b->D' b)(hg:∀v u,RelB θ D w v (aU u)->RelB θ' D' w v (aU (g u))){l:Av.Loc}{o:Ob}(h:cJ θ D w l (b8 o)):cJ θ' D' w l (b8 (rz g o)):=by
 cases o with
 |box t cs=>
  cases l<;>simp only[b8]at h⊢<;>try exact h
  obtain⟨c,h1,h2,n⟩:=h;refine⟨c,h1,by grind,λi y x r p=>?_⟩;grind
 |gone=>cases l<;>trivial|free=>cases l<;>exact h|tree e k t xs hole=>
  cases l<;>try exact h
  case nil=>refine⟨h.1,?_⟩;cases hole with|none=>rfl|some q=>obtain⟨i,j,v⟩:=q;cases h.2
  case nw=>cases hole with|none=>exact mZ (θ':=θ') (hole:=none) (f:=λx=>x) (λu i j b d _=>nomatch d) hD h|some q=>obtain⟨i,j,v⟩:=q;exact mZ (hole:=some (i,j,aU v)) (f:=λ_=>aU (g v)) (λu i' s b d hr=>by grind) hD h
 |vec e t xs=>have h1:=h.mono (D':=D') (w':=w) hD (λ_ _=>rfl) λ_ _=>rfl;cases l<;>exact h1|map k e a b kvs=>cases l<;>exact(h.mono (D':=D') (w':=w) hD (λ_ _=>rfl) λ_ _=>rfl)
def BD{m:Nat}{s:S}{id:Nat}{o:Ob}{t:Ty}{xs:List t.den}(ho:s.hp[id]? =some o)(n:Kf (enc s).hp id=some (kZ t.sz (xs.map (aN t))))(P:o.Zk=true):f8 m (enc s) (enc ⟨(s.map (TX id t xs)).fr,setAt (s.map (TX id t xs)).hp id .gone⟩):=by
 rintro c a w _ ⟨θ,D,d⟩;have F:(enc s).hp[id]? =some (b8 o):=by grind[bT]
 have I:id<θ.length:=by rw[d.ok.len];grind
 obtain⟨l,hl⟩:∃l,θ[id]? =some l:=⟨θ[id],g_ I⟩;have M:=d.ok.fO id l _ hl F;have A:l.fixed=false:=by
  unfold Kf at n;rw[F]at n;cases o<;>first|cases n|skip
  all_goals (cases l<;>first|rfl|exact M.elim)
 have T:∀g,l≠.dX g:=λg e=>by subst e;cases A
 have J:∀g,l≠.mp g:=λg e=>by subst e;cases A
 obtain⟨D',hD,y,Y⟩:∃D':Nat->Prop,(∀b,D b->D' b)/\(∀b,D' b->D b\/l.has b)/\(∀v,l.head v->aW D' w v (kZ t.sz (xs.map (aN t)))):=by refine⟨λb=>D b\/l.has b,λ_ h=>.inl h,λ_ h=>h,λv P=>?_⟩;obtain⟨l',h1,h2⟩:=RZ d.ok (show RelB θ D w v (.sl id)from⟨l,hl,P⟩) n;grind
 have O:=λv u=>YA (w:=w) (v:=v) (u:=u) (id:=id) (t:=t) (xs:=xs) hl hD T J Y;have old:∀(i:Nat) (l':Av.Loc),(θ.set id .no)[i]? =some l'->(i=id/\l'= .no)\/(i≠id/\θ[i]? =some l'):=λi l' p=>by grind
 refine⟨θ.set id .no,D',d.size,d.defers,⟨?_,λb f=>?_,λi j li Q g p hj B C=>?_,λi li g p hg=>?_,λi li o p L=>?_⟩,d.keep,λb f=>hD b (d.lG b f),λb f=>?_,λi li g p hg=>?_,λk x H=>?_,λk l' H U=>?_⟩;.simp[enc,S.map,fc,d.ok.len]
 .rcases y b f with h1|h1;.exact d.ok.pn b h1
  .exact(d.ok.mX id l b hl h1).1
 .rcases old i li p with⟨_,rfl⟩|⟨_,h1⟩;.cases B
  .rcases old j Q hj with⟨_,rfl⟩|⟨_,h2⟩;.cases C
   .exact d.ok.inj i j li Q g h1 h2 B C
 .rcases old i li p with⟨_,rfl⟩|⟨z,h1⟩;.cases hg
  .obtain⟨h2,R⟩:=d.ok.mX i li g h1 hg;refine⟨h2,λhd=>?_⟩;rcases y g hd with N|N;.grind
   .exact z (d.ok.inj i id li l g h1 hl hg N)
 .have r:((setAt (s.hp.map (rz (TX id t xs))) id .gone).map b8)[i]? =some o:=L;rw[fc,m_]at r;obtain⟨o1,h1,rfl⟩:=d_.1 r;rcases old i li p with⟨rfl,rfl⟩|⟨z,h2⟩;.rw[A_ (by grind)]at h1;cases h1;trivial
  .rw[t_ (Ne.symm z),m_]at h1;obtain⟨o2,R,rfl⟩:=d_.1 h1;exact WY hD O (d.ok.fO i li (b8 o2) h2 (by grind[bT]))
 .rcases y b f with h1|h1;.exact d.ng b h1
  .exact .inr (d.jY id l b hl h1)
 .rcases old i li p with⟨_,rfl⟩|⟨_,h1⟩;.cases hg
  .exact d.jY i li g h1 hg
 .have E:Av.look ((s.fr.map λx=>(x.1,ju (TX id t xs) x.2)).map λx=>(x.1,a8 x.2)) k=some x:=H;rw[mH,EI]at E;obtain⟨v1,h1,rfl⟩:=d_.1 E;obtain⟨v2,h2,rfl⟩:=d_.1 h1;exact WZ Yz O (d.fr k (a8 v2) (by show Av.look (s.fr.map λx=>(x.1,a8 x.2)) k=_;grind[mH]))
 .have h1:=d.fix k l' H U;grind
def Ob.Vg(o:Ob):Prop:=∀θ D w,cJ θ D w (.nil none) (b8 o)
def LH(e:TypeId)(t:Ty):(Ob.vec e t []).Vg:=λ_ _ _=>rfl
def HE(e:TypeId)(k:Av.K)(t:Ty):(Ob.tree e k t [] none).Vg:=λ_ _ _=>⟨rfl,rfl⟩
def yj{c:Ctx}{θ:List Av.Loc}{D:Nat->Prop}{st:St}{a:Act}{w:World}(b:Inv c θ D st a w){o:Ob}(d:o.Vg):Inv c (θ++[.nil none]) D {st with hp:=st.hp++[b8 o]} a w:=b.push (d _ _ _) (λg hg=>by cases hg)
def FI{m:Nat}{s:S}{k:Nat}{u:Ty}{o:Ob}(g:o.Vg)(h:lk s.fr k=some (.nil u)):f8 m (enc s) (enc ⟨(k,.sl s.hp.length)::s.fr,s.hp++[o]⟩):=by
 rintro c a w _ ⟨θ,D,e⟩;have b:=yj e g;rw[<-tg]at b;refine⟨_,D,b.size,b.defers,b.ok,b.keep,b.lG,b.ng,b.jY,λj x f=>?_,b.fix⟩;have d:Av.look ((k,a8 (.sl s.hp.length))::s.fr.map λx=>(x.1,a8 x.2)) j=some x:=f;simp only[Av.look]at d;split at d;.cases d;refine⟨.nil none,?_,(e.fr j (a8 (.nil u)) (by show Av.look (s.fr.map λx=>(x.1,a8 x.2)) j=_;grind[mH]))⟩;rw[<-l8,<-e.ok.len];simp
 .exact b.fr j x d
def BC{m:Nat}{s:S}{id j:Nat}{u:TypeId}{r:Ty}{cs:List V}{f:Ob}(h:f.Vg)(A:s.hp[id]? =some (.box u cs))(E:cs[j]? =some (.nil r)): f8 m (enc s) (enc ⟨s.fr,setAt s.hp id (.box u (setAt cs j (.sl s.hp.length)))++[f]⟩):=by
 rintro c a w _ ⟨θ,D,n⟩;have b:=yj n h;rw[<-tg]at b;have hid:=(l_.1 A).1;refine⟨_,D,b.size,b.defers,⟨by rw[b.ok.len];simp[enc,fc],b.ok.pn,b.ok.inj,b.ok.mX,λi l o p k=>?_⟩,b.keep,b.lG,b.ng,b.jY,b.fr,b.fix⟩;have d:((setAt s.hp id (.box u (setAt cs j (.sl s.hp.length)))++[f]).map b8)[i]? =some o:=k;rw[fc,fc]at d;by_cases g:i=id
 .subst g;rw[m_,C_ (by grind),A_ hid]at d;cases d;have hr:=b.ok.fO i l (b8 (.box u cs)) p (by grind[bT,C_]);cases l<;>simp only[b8,cJ]at hr⊢<;>try exact hr
  obtain⟨v,h1,h2,z⟩:=hr;refine⟨v,h1,by grind,λq y x C e=>?_⟩;rw[Q_]at e;by_cases B:q=j
  .subst B;rw[aB_]at e;simp only[if_true]at e;split at e;.cases e;have:=z q y (aU (.nil r)) C (by grind);refine⟨.nil none,?_,this⟩;rw[<-l8,<-n.ok.len];simp
   grind
  grind
 .refine b.ok.fO i l o p ?_;show((s.hp++[f]).map b8)[i]? =some o;grind
theorem yf{ids:List Nat}{i:Nat}(h:i∈ids):ids[ids.idxOf i]? =some i:=by grind
theorem CK{θ:List Av.Loc}{ids:List Nat}{D:Nat->Prop}{w:World}{v:Value}{x:BV}(a:∀i∈x.ids,i∈ids)(h:RelB θ D w v x):RelB (ids.map λi=>θ.getD i .no) D w v (x.eV (ids.idxOf ·)):=by
 cases x<;>simp only[RelB,BV.eV]at h⊢<;>simp only[BV.ids]at a;.omega
 .omega
 .grind
 .grind
 .grind
 .grind
 all_goals grind
def Xb{θ:List Av.Loc}{ids:List Nat}{D:Nat->Prop}{w:World}{v:Value}{x:AV}(d:∀i∈x.ids,i∈ids)(h:RelA θ D w v x):RelA (ids.map λi=>θ.getD i .no) D w v (x.eV (ids.idxOf ·)):=by
 have c:∀(xs:List BV) (a:Array Value),(∀i∈xs.flatMap BV.ids,i∈ids)->a.size=xs.length->(∀(i:Nat) (y:Value) (x:BV),a[i]? =some y->xs[i]? =some x->RelB θ D w y x)->a.size=(xs.map (BV.eV (ids.idxOf ·))).length/\∀(i:Nat) (y:Value) (x:BV),a[i]? =some y->(xs.map (BV.eV (ids.idxOf ·)))[i]? =some x->RelB (ids.map λi=>θ.getD i .no) D w y x:=by
  grind[CK]
 cases x with
 |b x=>exact CK d h|agg xs=>obtain⟨a,h1,h2,e⟩:=h;obtain⟨f,g⟩:=c xs a d h2 e;exact⟨a,h1,f,g⟩
 |dP xs=>obtain⟨a,h1,h2,e⟩:=h;obtain⟨f,g⟩:=c xs a d h2 e;exact⟨a,h1,f,g⟩
def NH{m:Nat}{a b:St}(ids:List Nat)(el:ids.Nodup)(hm:∀k,k<m->ids[k]? =some k) (B:∀k y,Av.look b.fr k=some y->∃x,Av.look a.fr k=some x/\(∀i∈x.ids,i∈ids)/\y=x.eV (ids.idxOf ·)) (L:b.hp.length=ids.length) (r:∀(j:Nat) (o':aM),b.hp[j]? =some o'->∃(i:Nat) (o:aM),ids[j]? =some i/\a.hp[i]? =some o/\(∀i∈o.ids,i∈ids)/\o'=o.eV (ids.idxOf ·)):f8 m a b:=by
 rintro c ac w T ⟨θ,D,f⟩;have Y:∀(j:Nat) (i:Nat),ids[j]? =some i->i<θ.length:=λj i n=>by
  have F:j<b.hp.length:=by grind
  obtain⟨i',o,h1,h2,_⟩:=r j _ (g_ F);rw[n]at h1;cases h1;rw[f.ok.len];grind
 have d:∀(j:Nat) (l:Av.Loc),(ids.map λi=>θ.getD i .no)[j]? =some l->∃i,ids[j]? =some i/\θ[i]? =some l:=λj l n=>by grind
 refine⟨ids.map λi=>θ.getD i .no,D,f.size,f.defers,⟨by grind,f.ok.pn,λi j li N g s n C E=>?_,λi l g s hg=>?_,λj l o' n I=>?_⟩,f.keep,f.lG,f.ng,λi l g s hg=>?_,λk y H=>?_,λk l H U=>?_⟩;.obtain⟨i',h1,h2⟩:=d i li s;obtain⟨j',z,A⟩:=d j N n;have:=f.ok.inj i' j' li N g h2 A C E;grind[l_,List.getElem?_inj]
 .obtain⟨i',h1,h2⟩:=d i l s;exact f.ok.mX i' l g h2 hg
 .obtain⟨i,h1,h2⟩:=d j l n;obtain⟨i',o,z,A,J,rfl⟩:=r j o' I;rw[h1]at z;cases z;have hr:=f.ok.fO i l o h2 A;cases o with
  |box t cs=>
   cases l<;>simp only[aM.eV,cJ]at hr⊢<;>try exact hr
   obtain⟨O,P,e2,Q⟩:=hr;refine⟨O,P,by grind,λq y x hy M=>?_⟩;rw[m_]at M;obtain⟨x0,v,rfl⟩:=d_.1 M;exact CK (λp hp=>J p (F_.2 ⟨x0,y_ v,hp⟩)) (Q q y x0 hy v)
  |gone=>cases l<;>trivial|free=>cases l<;>exact hr|vec e sz xs=>cases l<;>exact hr|map k e kvs=>cases l<;>exact hr|tree e sz k xs hole=>
   cases l<;>try exact hr
   case nil=>exact⟨hr.1,by have:=hr.2;subst this;rfl⟩
   case nw=>exact mZ (λu i j b R hr=>CK (λp hp=>J p (by rw[R];exact hp)) hr) (λ_ h=>h) hr
 .obtain⟨i',h1,h2⟩:=d i l s;exact f.jY i' l g h2 hg
 .obtain⟨x,h1,h2,rfl⟩:=B k y H;exact Xb h2 (f.fr k x h1)
 .have h1:=f.fix k l H U;grind
def BE.zp(m:Nat):BE->Bool
 | .sel ids _=>(T_ m).all λk=>match ids[k]? with
  |some i=>i_ i k
  |none=>false
 |_=>true
def C6(m:Nat)(l:List BE):Bool:=l.all (BE.zp m)
def aP.of_map{A:List Nat}{s s':S}(g:V->V)(hg:∀v,v.ri=true->g v=v)(C:∀k,lk s'.fr k=(lk s.fr k).map g\/lk s'.fr k=none):aP A s s':=λk _=>by grind
def Q0{id:Nat}{t:Ty}{xs:List t.den}{v:V}(h:v.ri=true):ju (TX id t xs) v=v:=by cases v<;>first|rfl|cases h
def YK{ρ:Nat->Nat}{v:V}(h:v.ri=true):ju (V.eV ρ) v=v:=by cases v<;>first|rfl|cases h
def yq{α β:Type}{f:α->Option β}:∀{l:List α} {m:List β},l.mapM f=some m->m.length=l.length/\∀(i:Nat) (y:β),m[i]? =some y->∃x,l[i]? =some x/\f x=some y
 |[],m,h=>by grind
 |x::l,m,h=>by simp only[o_,B_,L_,p_,h_]at h;obtain⟨z,h1,m',h2,rfl⟩:=h;obtain⟨a,b⟩:=yq h2;grind
theorem OY{s:S}:∀{ks:List Nat} {fr:List (Nat×V)},ks.mapM (λk=>(lk s.fr k).map λv=>(k,v))=some fr->∀k,lk fr k=lk s.fr k\/lk fr k=none
 |[],fr,h,k=>by simp at h;subst h;exact .inr rfl
 |j::ks,fr,h,k=>by
  simp only[o_,B_,L_,p_,h_,d_]at h;obtain⟨x,⟨v,b,rfl⟩,m',h2,rfl⟩:=h;simp only[lk,fR];by_cases a:k=j;.grind
  .rw[decide_eq_false a];exact OY h2 k
theorem L2{m:Nat}{id k j:Nat}{u:Ty}{s s':S}(h:lZ (.focus id k j u) s=some s'):f8 m (enc s) (enc s')/\∀A,aP A s s':=by
 simp only[lZ]at h;split at h
 .rename_i kk n e f t xs C r;split at h
  .rename_i b c a d;obtain⟨h1,h2⟩:=aY h;simp only[a_,decide_eq_true_eq]at h1;obtain⟨x,E,g⟩:=cW h2;split at g
   .rename_i L l;cases g;have hsz:=b_ h1.1;obtain⟨F,w⟩:=nG t j (.list u) x L l;have v:(aN t x).cells[j]? =some (aN (.list u) L):=by
     have:((aO t x).drop j).take 1=[aN (.list u) L]:=by have:=w;rw[eZ (t:=.list u) L rfl]at this;exact this
     have y:(((aO t x).drop j).take 1)[0]? =some (aN (.list u) L):=by grind
     grind
    refine⟨?_,λA=>aP.fr rfl⟩;have D:=P7 (m:=m) (st:=enc s) (id:=id) (i:=n.toNat) (j:=j) (k:=f) (q:=(b,c,a)) (L:=L.map (aN u)) (by rw[bT,r];rfl) (by grind) v d (by rw[hsz];rfl);have p:kq (b,c,a) (L.map (aN u))=b8 (rh b a u L):=by
     unfold kq rh;cases B:a.Oa;.rw[hsz];rfl
     .rw[hsz];rfl
    have z:enc ⟨s.fr,setAt s.hp id (.tree e f t xs (some (n.toNat,j,.sl s.hp.length)))++[rh b a u L]⟩=⟨(enc s).fr,(enc s).hp.set id (.tree e t.sz f (xs.map (aN t)) (some (n.toNat,j,.sl (enc s).hp.length)))++[b8 (rh b a u L)]⟩:=by simp only[enc,fc,v_,Q_,n_,List.map_nil,u_];rfl
    grind
   grind
  grind
 grind
def MR{e:TypeId}{k:Av.K}{u:Ty}{o:Ob}{L:List u.den}(h:yx e k u o=some L):b8 o=kq (e,u.sz,k) (L.map (aN u)):=by
 unfold yx at h;split at h;.rename_i f t xs;obtain⟨h1,h2⟩:=aY h;simp only[a_]at h1;obtain⟨a,b⟩:=bV h2;have c:=Ty.list.inj a;subst c;have d:L=xs:=b;subst d;have:=b_ h1.2;subst this;simp only[kq,h1.1];rfl
 .rename_i f j t xs;obtain⟨h1,h2⟩:=aY h;simp only[a_,z_,decide_eq_true_eq]at h1;obtain⟨a,b⟩:=bV h2;have c:=Ty.list.inj a;subst c;have d:L=xs:=b;subst d;have:=b_ h1.1.2;subst this;obtain⟨⟨g,_⟩,rfl⟩:=h1;simp only[kq,g];rfl
 grind
theorem Lx{m:Nat}{id:Nat}{s s':S}(h:lZ (.close id) s=some s'):f8 m (enc s) (enc s')/\∀A,aP A s s':=by
 simp only[lZ]at h;split at h
 .rename_i e kk t xs i j kid H;cases B:i_ kid id
  .rw[B]at h;simp only[cond_false]at h;split at h
   .rename_i r a O o u c p E;split at h
    .rename_i L z;obtain⟨h1,h2⟩:=aY h;obtain⟨x,T,g⟩:=cW h2;split at g
     .rename_i y N;cases g;have hsz:=b_ h1;have d:kid≠id:=λe=>by grind[W_]
      obtain⟨U,P,Y⟩:=gS t j (.list u) x L y N;have n:j<(aN t x).cells.length:=by grind[aN,aR,Ty.sz]
      refine⟨?_,λA=>aP.map A s _ (V.ym kid) (λv J=>by cases v<;>first|rfl|cases J) rfl⟩
      have F:=MR z;have M:=P6 (m:=m) (st:=enc s) (id:=id) (kid:=kid) (i:=i) (j:=j) (k:=kk) (x:=aN t x) (q:=(r,a,O)) (L:=L.map (aN u)) (by rw[bT,H];rfl) (by grind) n c (by grind[bT]) d;have f:(aN t x).Xd j (kZ a (L.map (aN u)))=aN t y:=by
       have C:=xj (x:=aN t x) (y:=kZ a (L.map (aN u))) n (Az _ _);have hl:aO (.list u) L=[kZ a (L.map (aN u))]:=by rw[hsz];exact(JP u L).1
       have D:aO t y=(aO t x).set j (kZ a (L.map (aN u))):=by rw[P,hl];apply ag_;grind[nS]
       cases b:t.ag
       .have l:(aN t x).isAgg=false:=by grind[lA]
        have w:j=0:=by grind
        subst w;have Q:(aN t x).Xd 0 (kZ a (L.map (aN u)))=kZ a (L.map (aN u)):=by cases I:aN t x<;>first|rfl|(rw[I]at l;cases l)
        grind[eZ]
       .rw[eY x b,eY y b];show PV.agg ((aO t x).set j _)=PV.agg (aO t y);grind
      rw[f]at M;have R:enc ⟨(s.fD kid .gone).fr,setAt (s.fD kid .gone).hp id (.tree e kk t (xs.set i y) none)⟩=⟨(enc s).fr.map λx=>(x.1,x.2.kill kid),(((enc s).hp.map (aM.kill kid)).set kid .gone).set id (.tree e t.sz kk ((xs.map (aN t)).set i (aN t y)) none)⟩:=by rw[gH,Aa];simp only[St.fD];congr 2;show aM.tree e t.sz kk _ _=_;rw[Q_];rfl
      grind
     grind
    grind
   grind
  grind
 grind
def Si{m:Nat}{l:BE}{s s':S}(J:l.zp m=true)(h:lZ l s=some s'):f8 m (enc s) (enc s')/\∀A,aP A s s':=by
 cases l with
 |freeze id=>
  simp only[lZ]at h;split at h;.rename_i e t xs b;cases h;refine⟨BD b (by rw[Kf,bT,b];rfl) rfl,λA=>aP.map A s _ (TX id t xs) (λv d=>Q0 d) rfl⟩
  .rename_i e k t xs b;cases h;refine⟨BD b (by rw[Kf,bT,b];rfl) rfl,λA=>aP.map A s _ (TX id t xs) (λv d=>Q0 d) rfl⟩
  grind
 |focus id k j u=>grind[L2]|close id=>grind[Lx]|UR k e t=>
  simp only[lZ]at h;split at h
  .rename_i u a;cases h;refine⟨FI (LH e t) a,λA j _=>?_⟩;simp only[lk,fR];by_cases c:j=k;.subst c;rw[decide_eq_true rfl,a];exact⟨λv d hd=>(by cases d;cases hd),λhn=>(by grind)⟩
   grind
  grind
 |N8 id j e t=>
  simp only[lZ]at h;split at h
  .rename_i u cs b;split at h;.rename_i N c;cases h;exact⟨BC (LH e t) b c,λA=>aP.fr rfl⟩
   grind
  grind
 |N9 k e kk t=>
  simp only[lZ]at h;split at h
  .rename_i u a;cases h;refine⟨FI (HE e kk t) a,λA j _=>?_⟩;simp only[lk,fR];by_cases c:j=k;.subst c;rw[decide_eq_true rfl,a];exact⟨λv d hd=>(by cases d;cases hd),λhn=>(by grind)⟩
   grind
  grind
 |I0 id j e kk t=>
  simp only[lZ]at h;split at h
  .rename_i u cs b;split at h;.rename_i N c;cases h;exact⟨BC (HE e kk t) b c,λA=>aP.fr rfl⟩
   grind
  grind
 |sel ids ks=>
  simp only[lZ]at h;split at h
  .rename_i os fr C F;obtain⟨h1,h2⟩:=aY h;cases h2;simp only[a_,decide_eq_true_eq,e_]at h1;obtain⟨⟨B,I⟩,r⟩:=h1;simp only[BE.zp,e_,U_]at J;obtain⟨P,M⟩:=yq C;refine⟨NH ids B (λk a=>?_) (λk y a=>?_) (by grind[enc]) λj o' c=>?_,λA=>aP.of_map (ju (V.eV (Es ids))) (λv d=>YK d) λk=>?_⟩;.grind[b_]
   .have g:Av.look ((fr.map λx=>(x.1,ju (V.eV (Es ids)) x.2)).map λx=>(x.1,a8 x.2)) k=some y:=a;rw[mH,EI]at g;obtain⟨Q,n,rfl⟩:=d_.1 g;obtain⟨E,D,rfl⟩:=d_.1 n;refine⟨a8 E,?_,λi w=>?_,Dr _ E⟩;.show Av.look (s.fr.map λx=>(x.1,a8 x.2)) k=_;grind[mH,OY]
    .rw[<-nh]at w;exact uf.1 (r _ (ru D)) i w
   .have f:((os.map (rz (V.eV (Es ids)))).map b8)[j]? =some o':=c;simp only[m_,d_]at f;obtain⟨_,⟨o,b,rfl⟩,rfl⟩:=f;obtain⟨i,n,D⟩:=M j o b;refine⟨i,b8 o,n,by grind[bT],λp hp=>?_,xP _ o⟩;rw[<-Du]at hp;grind[uf,y_]
   .show lk (fr.map λx=>(x.1,ju (V.eV (Es ids)) x.2)) k=_\/lk (fr.map λx=>(x.1,ju (V.eV (Es ids)) x.2)) k=none;rw[EI];grind[OY]
  grind
 |drop ks=>
  simp only[lZ,h_]at h;subst h;have z:∀(fr:List (Nat×V)) (k:Nat),lk (fr.filter λx=> !kJ ks x.1) k=lk fr k\/lk (fr.filter λx=> !kJ ks x.1) k=none:=by
   intro fr k;induction fr with
   |nil=>simp|cons x fr O=>
    obtain⟨j,v⟩:=x;simp only[aF_];cases H:kJ ks j;.simp only[aM_,if_true,lk,fR];grind
    .simp only[ak_,S_,if_false,lk,fR];by_cases a:k=j
     .subst a;right;have:∀(l:List (Nat×V)),lk (l.filter λx=> !kJ ks x.1) k=none:=by
       intro l;induction l with
       |nil=>rfl|cons y l L=>
        obtain⟨i,u⟩:=y;simp only[aF_];cases w:kJ ks i;.simp only[aM_,if_true,lk,fR];grind
        grind
      grind
     grind
  refine⟨(NP.frame (fr:=s.fr.map λx=>(x.1,a8 x.2)) (fr':=(s.fr.filter λx=> !kJ ks x.1).map λx=>(x.1,a8 x.2)) λk y a=>?_).rS,λA=>aP.of_map (λv=>v) (λ_ _=>rfl) λk=>?_⟩;.grind[mH]
  .rcases z s.fr k with e|e;.exact .inl (by show lk (s.fr.filter _) k=_;rw[e];simp)
   grind
def X8{R:Type}{a:BE}{s:S}{κ:S->Option R}{r:R}(h:UP a s κ=some r):∃s',lZ a s=some s'/\κ s'=some r:=by
 cases a with
 |focus id k j u=>
  simp only[UP]at h;split at h
  .rename_i kk n e F t xs C l;split at h
   .rename_i A v E b;obtain⟨h1,h2⟩:=aY h;obtain⟨d,B⟩:=bF h2;obtain⟨x,p,w⟩:=cW B;split at w;.rename_i L f;refine⟨_,?_,w⟩;simp only[lZ,C,l,b,h1,d,Bool.and_self,cond_true,p,q_,f]
    grind
   grind
  grind
 |close id=>
  simp only[UP]at h;split at h
  .rename_i e kk t xs i j kid l;cases z:i_ kid id
   .rw[z]at h;simp only[cond_false]at h;split at h
    .rename_i A v E o u b c g;split at h
     .rename_i L f;obtain⟨h1,h2⟩:=aY h;obtain⟨x,p,d⟩:=cW h2;split at d;.rename_i y D;refine⟨_,?_,d⟩;simp only[lZ,l,z,cond_false,b,c,g,f,h1,cond_true,p,q_,D]
      grind
     grind
    grind
   grind
  grind
 |_=>grind[UP]
def xv{R:Type}:∀{l:List BE} {s:S} {κ:S->Option R} {r:R},vJ l s κ=some r->∃s',UQ l s=some s'/\κ s'=some r
 |[],s,κ,r,h=>⟨s,rfl,h⟩
 |a::l,s,κ,r,h=>by obtain⟨d,h1,h2⟩:=X8 h;obtain⟨e,b,c⟩:=xv h2;grind[UQ]
def qK{m:Nat}:∀{l:List BE} {s s':S},C6 m l=true->UQ l s=some s'->f8 m (enc s) (enc s')/\∀A,aP A s s'
 |[],s,s',_,h=>by cases h;simp[f8.refl,aP.refl]
 |a::l,s,s',b,h=>by
  simp only[C6,r_,a_]at b;simp only[UQ]at h;split at h;.rename_i g h1;obtain⟨c,d⟩:=Si b.1 h1;obtain⟨e,f⟩:=qK b.2 h;exact⟨c.trans e,λA=>(d A).trans (f A)⟩
  grind
structure Ext(a b:St):Prop where
 hp:a.hp=b.hp
 fr:∀k y,Av.look b.fr k=some y->Av.look a.fr k=some y
def Ext.refl(a:St):Ext a a:=⟨rfl,λ_ _ h=>h⟩
def Ext.rS{m:Nat}{a b:St}(h:Ext a b):f8 m a b:=by obtain⟨af,C⟩:=a;obtain⟨h1,h2⟩:=h;cases h1;exact(NP.frame h2).rS
theorem Ext.put{a b:St}(h:Ext a b)(d:Option Nat)(x:AV):Ext (a.aF d x) (b.aF d x):=by
 refine⟨by cases d<;>exact h.hp,λk y C=>?_⟩;rw[fw]at C⊢;by_cases hd:d=some k;.grind
 .rw[if_neg hd]at C⊢;exact h.fr k y C
theorem Ext.get{a b:St}(h:Ext a b){x:SX}{y:AV}(C:b.get x=some y):a.get x=some y:=by
 cases x<;>simp only[St.get]at C⊢;.exact h.fr _ _ C
 all_goals omega
def Ms{α β:Type}{f g:α->Option β}(h:∀x y,f x=some y->g x=some y):∀{l:List α} {m:List β},l.mapM f=some m->l.mapM g=some m
 |[],m,a=>a
 |x::l,m,a=>by simp only[o_,B_,L_,p_,h_]at a⊢;obtain⟨z,h1,m',h2,rfl⟩:=a;exact⟨z,h _ _ h1,m',Ms h h2,rfl⟩
def Ext.bind{a b:St}(h:Ext a b){x:SX}{K:AV->Prop}(C:aS (b.get x) K):aS (a.get x) K:=let⟨y,h1,h2⟩:=C;⟨y,h.get h1,h2⟩
theorem Ext.pN{a b:St}(h:Ext a b){x:Option SX}{d:Nat}{K:Nat->Prop}(C:pN b x d K):pN a x d K:=by cases x with|none=>exact C|some x=>exact h.bind C
def Ext.bindM{a b:St}{α β:Type}{f:St->α->Option β}(C:∀x y,f b x=some y->f a x=some y){l:List α}{K:List β->Prop}(E:aS (l.mapM (f b)) K):aS (l.mapM (f a)) K:=let⟨y,h1,h2⟩:=E;⟨y,Ms C h1,h2⟩
def RS{P:Program}{a b:St}(h:Ext a b){op:fv}{K:AV->Prop}(hs:jh P b op K):jh P a op K:=by
 have c:∀{β:Type} (g:AV->Option β) (x:SX) (y:β),(b.get x).bind g=some y->(a.get x).bind g=some y:=λg x y r=>by obtain⟨u,h1,h2⟩:=p_.1 r;rw[h.get h1];grind
 cases op<;>simp only[jh]at hs⊢<;>try rw[h.hp]
 case mv=>exact h.bind hs
 case pick=>exact aC (h.bind hs) λ_ h1=>bB h1 λ_ h2=>lM h2 λ_ j=>⟨λe=>h.bind (j.1 e),λe=>h.bind (j.2 e)⟩
 case bin=>exact aC (h.bind hs) λ_ h1=>h.bind h1
 case Gf=>exact aC (h.bind hs) λ_ h1=>h.bind h1
 case un=>exact h.bind hs
 case len=>exact h.bind hs
 case ol=>exact h.bind hs
 case ql=>exact aC (h.bind hs) λ_ h1=>h.bind h1
 case pB=>exact aC (h.bind hs) λ_ h1=>h.bind h1
 case qj=>exact aC (h.bind hs) λ_ h1=>h.bind h1
 case qk=>exact aC (h.bind hs) λ_ h1=>h.bind h1
 case oj=>exact h.bind hs
 case HJ=>exact h.bind hs
 case load=>exact h.bind hs
 case pY=>exact h.bind hs
 case Im=>exact aC (h.bind hs) λ_ h1=>h1.imp (λh1=>aC h1 λ_ ⟨L,h2,j⟩=>⟨L,h2,fS (h.pN j) λ_ l=>fS (h.pN l) λ_ n=>h.pN n⟩) fun⟨id,p,ob,s,e,k,L,g,h2,j⟩=>⟨id,p,ob,by omega,e,k,L,g,h2,fS (h.pN j) λ_ l=>fS (h.pN l) λ_ n=>h.pN n⟩
 case qw=>exact aC (h.bind hs) λ_ h1=>bB h1 λ_ h1=>ny h1 λ_ h1=>fS (h.pN h1) λ_ h1=>h.pN h1
 case ext=>exact h.bind hs
 case rC=>exact h.bind hs
 case build=>exact Ext.bindM (f:=λst (q:Nat×Nat×SX)=>(st.get q.2.2).map λa=>(q.1,q.2.1,a)) (λq y d=>by obtain⟨u,h1,h2⟩:=d_.1 d;rw[h.get h1,<-h2];rfl) hs
 case call=>exact Ext.bindM (f:=λst x=>(St.get st x).bind (ja b.hp _)) (λq y d=>c _ q y d) hs
 case hZ=>exact aC (h.bind hs) λ_ ⟨f,cs,h1,h2,j⟩=>⟨f,cs,h1,h2,Ext.bindM (f:=λst x=>(St.get st x).bind (ja b.hp _)) (λq y d=>c _ q y d) j⟩
 case pW=>exact h.bind hs
 case Gb=>exact h.bind hs
 case bQ own e sz len v=>
  cases own;.exact Ext.bindM (f:=λst x=>(St.get st x).bind AV.bG) (λq y d=>c _ q y d) hs
  omega
 case eE=>exact Ext.bindM (f:=λst x=>(St.get st x).bind AV.lW) (λq y d=>c _ q y d) hs
 case rB=>exact Ext.bindM (λq y d=>h.get d) hs
 case lookup=>exact aC (h.bind hs) λ_ h1=>h.bind h1
 case sy=>exact aC (h.bind hs) λ_ h1=>h.bind h1
 case pi=>exact aC (h.bind hs) λ_ h1=>h.bind h1
 case mb=>exact aC (h.bind hs) λ_ h1=>bB h1 λ_ h1=>bW h1 λ_ _ h1=>Ext.bindM (λq y d=>h.get d) h1
 case iface=>exact h.bind hs
inductive Sys(P:Program):List bc->St->St->Prop
 |nil (st:St):Sys P [] st st
 |cons (o:bc) (l:List bc) (st st':St) (x:AV) (h:fK P o st x) (k:Sys P l (st.aF o.dst x) st'):Sys P (o::l) st st'
def Sys.app{P:Program}{l l':List bc}{a b c:St}(h:Sys P l a b)(k:Sys P l' b c):Sys P (l++l') a c:=by induction h with|nil=>grind|cons o l st E x h _ C=>exact .cons o _ st c x h (C k)
def Sys.j0{P:Program}{m:Nat}{l L:List bc}{a b:St}{K KP:St->Prop}(h:Sys P l a b)(k:j0 P m L b K KP):j0 P m (l++L) a K KP:=by induction h with|nil=>grind|cons o l st E x h _ C=>exact W.mk (md h (C k))
def Sys.y5{P:Program}{m n:Nat}{l L:List bc}{a b:St}{K KP:St->Prop}(h:Sys P l a b)(k:y5 P m n L b K KP):y5 P m (l.length+n) (l++L) a K KP:=by induction h with|nil=>grind|cons o l st E x h _ C=>rw[show(o::l).length+n=(l.length+n)+1 by grind];exact⟨x,h,C k⟩
def iR{P:Program}{m:Nat}{l:List bc}{a b:St}{K KP:St->Prop}(h:f8 m a b)(k:j0 P m l b K KP):j0 P m l a K KP:=by cases l with|nil=>exact W.from h k|cons o l=>exact W.from h k
def RC.O9:List Nat->RC->Bool
 |_,.nil=>true
 |A,.op d _ rest=>rest.O9 (f9 d++A)
 |_,.lZ _ _=>false
 |A,.gb t _ dX ty _ _ dst rest=>kJ A t&& !kJ dX.fx t&&ty.sc&&dX.O9 A&&rest.O9 (dst::(dX.fx++A))
def RC.NR:RC->Bool
 | .nil=>true
 | .op _ _ rest=>rest.NR
 | .lZ _ rest=>rest.NR
 | .gb _ _ dX ty _ _ _ rest=>ty.sc&&dX.O9 []&&dX.NR&&rest.NR
def Off(st:St)(g:Nat×Bool):Prop:=∃v,Av.look st.fr g.1=some (.v v)/\yv v≠some g.2
def FB{P:Program}{st:St}{g:Nat×Bool}(h:Off st g)(d:Option Nat)(op:fv):fK P ⟨d,op,some g⟩ st (.v undef):=by obtain⟨v,h1,h2⟩:=h;exact⟨_,h1,v,rfl,λe=>absurd e h2,λ_=>rfl⟩
theorem uh(d:Option Nat):(match d with|some d=>[d]|none=>[])=f9 d:=by cases d<;>rfl
def Cx{P:Program}:∀(l:RC) (g:Nat×Bool) (A:List Nat) (st:St),l.O9 A=true->Off st g->(∀k∈A,Av.look st.fr k=some (.v undef))->g.1∉l.fx->
 ∃a,Sys P (l.er (some g)) st a/\a.hp=st.hp/\(∀k,k∉l.fx->Av.look a.fr k=Av.look st.fr k)/\∀k,(k∈l.fx\/k∈A)->Av.look a.fr k=some (.v undef)
 | .nil,g,A,st,_,_,h,_=>⟨st,.nil st,rfl,λ_ _=>rfl,λk b=>h k (b.resolve_left (by simp[RC.fx]))⟩
 | .op d o rest,g,A,st,c,hg,h,hd=>by
  simp only[RC.O9]at c;simp only[RC.fx,uh,f_,not_or]at hd;have n:∀k,Av.look (st.aF d (.v undef)).fr k=if d=some k then some (.v undef)else Av.look st.fr k:=λk=>fw st d _ k;have u:∀k,d=some k↔k∈f9 d:=λk=>by grind[f9,h_,D_]
  obtain⟨a,h1,h2,w,x⟩:=Cx rest g (f9 d++A) (st.aF d (.v undef)) c (by
   obtain⟨v,s,f⟩:=hg;refine⟨v,?_,f⟩;grind) (λk b=>by
   grind) hd.2
  refine⟨a,.cons _ _ st a (.v undef) (FB hg d o.er) h1,by rw[h2];cases d<;>rfl,λk b=>?_,λk b=>?_⟩;.simp only[RC.fx,uh,f_,not_or]at b;grind
  grind[RC.fx,uh]
 | .lZ _ _,_,_,_,c,_,_,_=>by cases c
 | .gb t want dX ty r alt dst rest,g,A,st,c,hg,h,hd=>by
  simp only[RC.O9,a_,z_]at c;obtain⟨⟨⟨⟨w1,w2⟩,F⟩,B⟩,C⟩:=c;have ht:t∈A:=yg.1 w1;have p:t∉dX.fx:=λe=>by grind[yg]
  simp only[RC.fx,f_,E_,not_or]at hd;obtain⟨st1,h1,h2,w,x⟩:=Cx dX (t,want) A st B ⟨undef,h t ht,by intro e;cases e⟩ h p;have j:Off st1 g:=by obtain⟨v,s,f⟩:=hg;exact⟨v,by grind,f⟩
  have n:∀k,Av.look (st1.aF (some dst) (.v undef)).fr k=if some dst=some k then some (.v undef)else Av.look st1.fr k:=λk=>fw st1 (some dst) _ k;obtain⟨a,y,z,D,E⟩:=Cx rest g (dst::(dX.fx++A)) (st1.aF (some dst) (.v undef)) C (by
   obtain⟨v,s,f⟩:=j;refine⟨v,?_,f⟩;grind) (λk b=>by
   grind) hd.2.2
  refine⟨a,h1.app (.cons _ _ _ a (.v undef) (FB j _ _) y),by rw[z];exact h2,λk b=>?_,λk b=>?_⟩;.simp only[RC.fx,f_,E_,not_or]at b;grind
  grind[RC.fx]
def QH{t:Ty}{v:V}{x:t.den}(ht:t.sc=true)(h:cA t v=some x):v= .d t x:=by
 cases v with
 |d u y=>obtain⟨rfl,rfl⟩:=bV (h);rfl
 |nil u=>obtain⟨rfl,_⟩:=bV (h);cases ht
 |full u y=>obtain⟨rfl,_⟩:=bV (h);cases ht
 |agg vs=>unfold cA at h;cases t<;>first|(cases ht;done)|cases h
 |_=>grind[cA,iw]
section
variable {P:Program} {O:bi}
def GOn(g:Option (Nat×Bool))(s:S)(A:List Nat):Prop:=match g with
 |none=>True
 |some (t,want)=>lk s.fr t=some (.d .bool want)/\t∉A
theorem cR(s:S)(k:Nat):Av.look (enc s).fr k=(lk s.fr k).map a8:=mH s.fr k
theorem TN{g:Option (Nat×Bool)}{s:S}{A:List Nat}{st:St}(hg:GOn g s A)(a:Ext st (enc s)){d:Option Nat}{op:fv}{x:AV}(h:jh P st op λy=>y=x):fK P ⟨d,op,g⟩ st x:=by cases g with|none=>exact h|some g=>obtain⟨t,want⟩:=g;have:Av.look st.fr t=some (.v (.bool want)):=a.fr t _ (by rw[cR,hg.1];rfl);exact⟨_,this,_,rfl,λ_=>h,λe=>absurd rfl e⟩
theorem wT(s:S)(d:Option Nat)(v:V)(k:Nat):lk (s.aF d v).fr k=if d=some k then some v else lk s.fr k:=by cases d with|none=>rfl|some j=>show(bif i_ k j then some v else lk s.fr k)=_;grind[fR]
theorem My{d:Option Nat}{k:Nat}:d=some k↔k∈f9 d:=by cases d with|none=>simp[f9]|some j=>grind[f9]
theorem J1(hO:cD P O):∀(J:RC) (R:Type) (s:S) (κ kp:S->Option R) (r:R) (g:Option (Nat×Bool)) (st:St),J.wf P=true->J.lU=true->J.NR=true->Dz O R J s κ kp=some r->Ext st (enc s)->GOn g s J.fx->
 ∃s' j,Sys P (J.er g) st j/\Ext j (enc s')/\κ s'=some r/\s'.hp=s.hp/\∀k,k∉J.fx->lk s'.fr k=lk s.fr k
 | .nil,R,s,κ,kp,r,g,st,_,_,_,h,p,_=>⟨s,st,.nil st,p,h,rfl,λ_ _=>rfl⟩
 | .lZ _ _,_,_,_,_,_,_,_,_,hp,_,_,_,_=>by cases hp
 | .op d o rest,R,s,κ,kp,r,g,st,L,hp,T,h,p,hg=>by
  simp only[RC.wf,a_]at L;simp only[RC.lU,a_]at hp;simp only[RC.NR]at T;obtain⟨v,h1,h2⟩:=pZ hO L.1 hp.1 h;obtain⟨s',j,I,B,F,k4,k5⟩:=J1 hO rest R (s.aF d v) κ kp r g (st.aF d (a8 v)) L.2 hp.2 T h2 (by rw[gx];exact p.put d _) (by cases g with|none=>trivial|some g=>obtain⟨t,want⟩:=g;obtain⟨g1,Q⟩:=hg;simp only[RC.fx,uh,f_,not_or]at Q;exact⟨by rw[wT,if_neg λe=>Q.1 (My.1 e)];omega,Q.2⟩)
  refine⟨s',j,.cons _ _ st j _ (TN hg p (RS p h1)) I,B,F,by rw[k4];cases d<;>rfl,λk l=>?_⟩;simp only[RC.fx,uh,f_,not_or]at l;rw[k5 k l.2,wT,if_neg λe=>l.1 (My.1 e)]
 | .gb t want dX ty M alt dst rest,R,s,κ,kp,r,g,st,L,hp,T,h,p,hg=>by
  simp only[RC.wf,a_]at L;obtain⟨⟨⟨⟨w1,w2⟩,w3⟩,w4⟩,w5⟩:=L;simp only[RC.lU,a_]at hp;simp only[RC.NR,a_]at T;obtain⟨⟨⟨b1,b2⟩,b3⟩,b4⟩:=T;simp only[Dz]at h;split at h
  .rename_i b va Y E;split at h
   .rename_i av H;obtain⟨w,H⟩:=aY H;have qr:=QH b1 H;subst qr;simp only[e_,R_]at w;have ht:t∉dX.fx:=λe=>by grind
    obtain⟨c,hc,h2⟩:=cW h;have ph:Av.look st.fr t=some (.v (.bool b)):=p.fr t _ (by rw[cR,Y];rfl);have N:∃st1,Sys P (dX.er (some (t,want))) st st1/\st1.hp=st.hp/\(∀k,lk s.fr k≠none->∀y,Av.look (enc s).fr k=some y->Av.look st1.fr k=some y)/\jh P st1 (EZ t want M.er alt.er) λy=>y=a8 (.d ty c):=by
     have f:∀(st1:St) (x y:SX),Av.look st1.fr t=some (.v (.bool b))->(b=true->st1.get x=some (a8 (.d ty c)))->(b=false->st1.get y=some (a8 (.d ty c)))->jh P st1 (.pick (.tm t) x y) λy=>y=a8 (.d ty c):=λst1 x y A D e3=>⟨_,A,_,rfl,b,rfl,λe=>⟨_,D e,rfl⟩,λe=>⟨_,e3 e,rfl⟩⟩
     have on:b=want->Dz O ty.den dX s (λs'=>match s'.get M with|some v=>cA ty v|none=>none) (λ_=>none)=some c->(∃st1,Sys P (dX.er (some (t,want))) st st1/\st1.hp=st.hp/\(∀k,lk s.fr k≠none->∀y,Av.look (enc s).fr k=some y->Av.look st1.fr k=some y)/\jh P st1 (EZ t want M.er alt.er) λy=>y=a8 (.d ty c)):=λC gc=>by
      obtain⟨s1,st1,I,B,F,k4,k5⟩:=J1 hO dX ty.den s _ _ c (some (t,want)) st w1 w2 b3 gc p ⟨by grind,ht⟩
      split at F
      .rename_i v hv;have:=QH b1 F;subst this;have A:Av.look st1.fr t=some (.v (.bool b)):=B.fr t _ (by rw[cR,k5 t ht,Y];rfl);have D:st1.get M.er=some (a8 (.d ty c)):=B.get (aH w3 hv);refine⟨st1,I,by rw[B.hp,p.hp];grind[enc],λk l y hy=>B.fr k y ?_,?_⟩;.grind[cR]
       .cases want with|true=>exact f st1 _ _ A (λ_=>D) λe=>by grind|false=>exact f st1 _ _ A (λe=>by grind) λ_=>D
      grind
     have off:b≠want->av=c->(∃st1,Sys P (dX.er (some (t,want))) st st1/\st1.hp=st.hp/\(∀k,lk s.fr k≠none->∀y,Av.look (enc s).fr k=some y->Av.look st1.fr k=some y)/\jh P st1 (EZ t want M.er alt.er) λy=>y=a8 (.d ty c)):=λC el=>by
      subst el
      obtain⟨st1,I,B,F,_⟩:=Cx (P:=P) dX (t,want) [] st b2 ⟨_,ph,λe=>C (av_ e)⟩ (λk l=>by grind) ht
      have A:Av.look st1.fr t=some (.v (.bool b)):=by grind
      have z:∀k,lk s.fr k≠none->∀y,Av.look (enc s).fr k=some y->Av.look st1.fr k=some y:=λk l y hy=>by rw[F k λe=>l (w k e)];exact p.fr k y hy
      have D:st1.get alt.er=some (a8 (.d ty av)):=by have:=aH w4 E;cases alt with|tm k=>have h0:lk s.fr k=some (.d ty av):=E;exact z k (by grind) _ this|_=>exact this
      refine⟨st1,I,B,z,?_⟩
      cases want with|true=>exact f st1 _ _ A (λe=>absurd e C) λ_=>D|false=>exact f st1 _ _ A (λ_=>D) λe=>absurd e C
     grind
    obtain⟨st1,q1,q2,q3,q4⟩:=N;have u:∀n a,g=some (n,a)->lk s.fr n=some (.d .bool a)/\n∉dX.fx/\n≠dst/\n∉rest.fx:=λn a e=>by subst e;obtain⟨g1,Q⟩:=hg;simp only[RC.fx,f_,E_,not_or]at Q;grind
    have rg:fK P ⟨some dst,(EZ t want M.er alt.er),g⟩ st1 (a8 (.d ty c)):=by cases g with|none=>exact q4|some g=>obtain⟨n,a⟩:=g;obtain⟨A,_⟩:=u n a rfl;have:Av.look st1.fr n=some (.v (.bool a)):=q3 n (by grind) _ (by rw[cR,A];rfl);exact⟨_,this,_,rfl,λ_=>q4,λe=>absurd rfl e⟩
    have U:Ext (st1.aF (some dst) (a8 (.d ty c))) (enc (s.put dst (.d ty c))):=by
     refine⟨by show st1.hp=(enc s).hp;rw[q2,p.hp],λk y l=>?_⟩;rw[fw];rw[cR]at l;have e:=wT s (some dst) (.d ty c) k;rw[show s.aF (some dst) (.d ty c)=s.put dst (.d ty c)from rfl]at e;rw[e]at l;by_cases hd:some dst=some k;.grind
     .rw[if_neg hd]at l⊢;grind[cR]
    have ur:∀k,lk (s.put dst (.d ty c)).fr k=if some dst=some k then some (.d ty c)else lk s.fr k:=λk=>wT s (some dst) (.d ty c) k;obtain⟨s',j,I,B,F,k4,k5⟩:=J1 hO rest R (s.put dst (.d ty c)) κ kp r g _ w5 hp.2 b4 h2 U (by cases g with|none=>trivial|some g=>obtain⟨n,a⟩:=g;obtain⟨A,D,e3,e4⟩:=u n a rfl;exact⟨by grind,e4⟩)
    refine⟨s',j,q1.app (.cons _ _ _ j _ rg I),B,F,k4,λk l=>?_⟩;simp only[RC.fx,f_,E_,not_or]at l;grind
   grind
  grind
def RC.IZ(m:Nat):RC->Bool
 | .nil=>true
 | .op _ _ rest=>rest.IZ m
 | .lZ l rest=>C6 m l&&rest.IZ m
 | .gb _ _ _ _ _ _ _ rest=>rest.IZ m
theorem JN{A:List Nat}{s s':S}(h:∀k,k∉A->lk s'.fr k=lk s.fr k):aP A s s':=λk a=>by grind
theorem Ji:∀(a:RC) (g g':Option (Nat×Bool)),(a.er g).length=(a.er g').length
 | .nil,_,_=>rfl
 | .op d o rest,g,g'=>by simp only[RC.er,aH_,Ji rest g g']
 | .lZ _ rest,g,g'=>by simp only[RC.er,Ji rest g g']
 | .gb t want dX ty r alt dst rest,g,g'=>by simp only[RC.er,ac_,aH_,Ji rest g g']
theorem Vw(hO:cD P O){t:Nat}{want:Bool}{dX rest:RC}{ty:Ty}{b alt:X}{dst:Nat}{R:Type}{s:S}{κ kp:S->Option R}{r:R}{st:St}(d:(RC.gb t want dX ty b alt dst rest).wf P=true)(k:(RC.gb t want dX ty b alt dst rest).NR=true) (h:Dz O R (.gb t want dX ty b alt dst rest) s κ kp=some r) (c:Ext st (enc s)):∃s' a,Sys P (dX.er (some (t,want))++[⟨some dst,(EZ t want b.er alt.er),none⟩]) st a/\Ext a (enc s')/\Dz O R rest s' κ kp=some r/\aP (dX.fx++[dst]) s s':=by simp only[RC.wf]at d;obtain⟨s',a,e,f,g,l,j⟩:=J1 hO (.gb t want dX ty b alt dst .nil) R s (λs'=>Dz O R rest s' κ kp) kp r none st (by grind[RC.wf]) (by grind[RC.lU]) (by grind[RC.NR]) h c trivial;exact⟨s',a,e,f,g,JN j⟩
theorem iL(hO:cD P O){m:Nat}:∀(p:RC) (R:Type) (s:S) (κ kp:S->Option R) (r:R) (K KP:St->Prop),p.wf P=true->p.NR=true->p.IZ m=true->Dz O R p s κ kp=some r->
 (∀s',aP p.fx s s'->κ s'=some r->W m K (enc s'))->(∀s',aP p.fx s s'->kp s'=some r->KP (enc s'))->j0 P m (p.er none) (enc s) K KP
 | .nil,R,s,κ,kp,r,K,KP,_,_,_,h,c,_=>c s (aP.refl _ _) h
 | .lZ l rest,R,s,κ,kp,r,K,KP,g,n,j,h,c,e=>by simp only[Dz]at h;simp only[RC.IZ,a_]at j;obtain⟨u,y,h⟩:=xv h;.obtain⟨D,A⟩:=qK j.1 y;exact iR D (iL hO rest R u κ kp r K KP g n j.2 h (λs' a f=>c s' ((A _).trans a) f) λs' a f=>e s' ((A _).trans a) f)
 | .op d o rest,R,s,κ,kp,r,K,KP,g,n,j,h,c,e=>by
  simp only[RC.wf,a_]at g;refine W.mk ?_;simp only[iD];have b:∀k,k∈f9 d\/k∈rest.fx->k∈(RC.op d o rest).fx:=λk a=>by simp only[RC.fx,uh,f_];exact a
  refine nQ (Dy hO g.1 h) (λz ⟨u,h1,h2,x⟩=>?_) λz ⟨u,h1,h2,x⟩=>?_;.have v:=h2.sub (B:=(RC.op d o rest).fx) λk a=>b k (.inl a);exact iR h1.rS (iL hO rest R u κ kp r K KP g.2 n j x (λs' a f=>c s' (v.trans (a.sub λk a=>b k (.inr a))) f) λs' a f=>e s' (v.trans (a.sub λk a=>b k (.inr a))) f)
  .rw[h1];exact e u (h2.sub λk a=>b k (.inl a)) x
 | .gb t want dX ty C alt dst rest,R,s,κ,kp,r,K,KP,g,n,j,h,c,e=>by
  obtain⟨u,st1,E,F,H,I⟩:=Vw hO g n h (Ext.refl _);simp only[RC.wf,a_]at g;simp only[RC.NR,a_]at n;have b:∀k,k∈dX.fx++[dst]\/k∈rest.fx->k∈(RC.gb t want dX ty C alt dst rest).fx:=λk a=>by simp only[RC.fx,f_,E_,List.not_mem_nil,or_false]at a⊢;grind
  have w:=I.sub (B:=(RC.gb t want dX ty C alt dst rest).fx) λk a=>b k (.inl a);have:=E.j0 (L:=rest.er none) (iR F.rS (iL hO rest R u κ kp r K KP g.2 n.2 j H (λs' a f=>c s' (w.trans (a.sub λk a=>b k (.inr a))) f) λs' a f=>e s' (w.trans (a.sub λk a=>b k (.inr a))) f));rw[af_]at this;exact this
def RC.drB:Nat->RC->Bool
 |0,_=>true
 |k+1,.op _ o rest=>o.lU&&rest.drB k
 |k+1,.gb _ _ dX _ _ _ _ rest=>J_ (dX.er none).length k&&rest.drB (k - (dX.er none).length)
 |_,_=>false
theorem SB(hO:cD P O){m:Nat}:∀(n:RC) (k:Nat) (R:Type) (s:S) (κ kp:S->Option R) (r:R) (K KP:St->Prop) (st:St),n.drB k=true->n.wf P=true->n.NR=true->n.IZ m=true->Dz O R n s κ kp=some r->Ext st (enc s)->(∀s',aP n.fx s s'->κ s'=some r->W m K (enc s'))->(∀s',aP n.fx s s'->kp s'=some r->KP (enc s'))->y5 P m k (n.er none) st K KP:=by
 intro n;induction n with
 |nil=>intro k R s κ kp r K KP st hd f g p h j e c;cases k with|zero=>exact iR j.rS (iL hO .nil R s κ kp r K KP f g p h e c)|succ k=>cases hd
 |lZ l rest _=>intro k R s κ kp r K KP st hd f g p h j e c;cases k with|zero=>have:=iR j.rS (iL hO (.lZ l rest) R s κ kp r K KP f g p h e c);generalize RC.er none (RC.lZ l rest)=L at this⊢;cases L<;>exact this|succ k=>cases hd
 |op d o rest z=>
  intro k R s κ kp r K KP st hd f g p h j e c;cases k with
  |zero=>exact iR j.rS (iL hO (.op d o rest) R s κ kp r K KP f g p h e c)|succ k=>
   simp only[RC.drB,a_]at hd;simp only[RC.wf,a_]at f;have a:∀k,k∈f9 d\/k∈rest.fx->k∈(RC.op d o rest).fx:=λk b=>by simp only[RC.fx,f_];exact b
   obtain⟨v,h1,h2⟩:=pZ hO f.1 hd.1 h;have w:=(aP.put s d v).sub λk b=>a k (.inl b);exact⟨a8 v,RS j h1,z k R (s.aF d v) κ kp r K KP _ hd.2 f.2 g p h2 (by rw[gx];exact j.put d _) (λs' b u=>e s' (w.trans (b.sub λk b=>a k (.inr b))) u) λs' b u=>c s' (w.trans (b.sub λk b=>a k (.inr b))) u⟩
 |gb t want dX ty y alt dst rest _ z=>
  intro k R s κ kp r K KP st hd f g p h j e c;cases k with
  |zero=>have:=iR j.rS (iL hO (.gb t want dX ty y alt dst rest) R s κ kp r K KP f g p h e c);generalize RC.er none (RC.gb t want dX ty y alt dst rest)=L at this⊢;cases L<;>exact this|succ k=>
   simp only[RC.drB,a_]at hd;have A:=c_ hd.1;obtain⟨F,st1,B,C,D,E⟩:=Vw hO f g h j;simp only[RC.wf,a_]at f;simp only[RC.NR,a_]at g;have a:∀k,k∈dX.fx++[dst]\/k∈rest.fx->k∈(RC.gb t want dX ty y alt dst rest).fx:=λk b=>by simp only[RC.fx]at b⊢;grind
   have x:=E.sub λk b=>a k (.inl b);have hl:=Ji dX (some (t,want)) none;have:=B.y5 (z _ R F κ kp r K KP st1 hd.2 f.2 g.2 p D C (λs' b u=>e s' (x.trans (b.sub λk b=>a k (.inr b))) u) λs' b u=>c s' (x.trans (b.sub λk b=>a k (.inr b))) u);rw[af_]at this;rw[show(dX.er (some (t,want))++[(⟨some dst,EZ t want y.er alt.er,none⟩:bc)]).length+(k - (dX.er none).length)=k+1 by grind]at this
   exact this
end
def QX{l:List Nat}{x:Nat}:kJ l x=true↔x∈l:=by unfold kJ;simp
theorem AF{l:List Nat}{x:Nat}(h:(!kJ l x)=true):x∉l:=λa=>by rw[QX.2 a]at h;cases h
theorem z6(v:V):v.Bp=(aU v).kids:=by
 cases v<;>try rfl
 rename_i c;have a:∀i,i∉(aU (.raw c)).kids:=λi b=>by have:=BV.qm b;grind[aU,wm]
 exact(List.eq_nil_iff_forall_not_mem.2 a).symm
def Ew(vs:List V):vs.flatMap V.Bp=(vs.map aU).flatMap BV.kids:=by induction vs with|nil=>rfl|cons v vs a=>grind[z6]
def ux(v:V):v.kids=(a8 v).kids:=by
 cases a:v.HR
 .rw[kU a];have:v.kids=v.Bp:=by cases v<;>first|rfl|cases a
  rw[this];exact z6 v
 .cases v with|agg vs=>exact Ew vs|dP vs=>exact Ew vs|_=>cases a
def z8(o:Ob):o.kids=(b8 o).kids:=by
 cases o with
 |box t cs=>exact Ew cs|tree e k t xs h=>cases h with|none=>rfl|some q=>obtain⟨i,j,v⟩:=q;exact z6 v
 |_=>rfl
theorem uQ(s:S)(p:PO):touch (enc s) p.so=FE s p.so.rd p.o.er.kY:=by unfold touch FE;congr 1;grind[cR,nh]
def zbt{o:lz}:o.er.hf=true↔∃x,o= .mv x:=by cases o<;>simp[lz.er,fv.hf]
def FD(s:S)(p:PO)(h2:p.rd=p.so.rd)(c:p.kY=p.o.er.kY):me s p=(match p.b with|true=>ez (enc s) p.so|false=>touch (enc s) p.so):=by
 unfold me;cases d:p.b with
 |false=>grind[uQ]|true=>
  simp only[ez];by_cases a:(∃x,p.o= .mv x)/\p.g=none;.obtain⟨⟨x,b⟩,hg⟩:=a;have:p.so.op.hf=true/\p.so.gd=none:=⟨by show p.o.er.hf=true;rw[b];rfl,hg⟩;grind
  .have:¬(p.so.op.hf=true/\p.so.gd=none):=λh=>a ⟨zbt.1 h.1,h.2⟩;rw[uQ];grind
def QD{r:Av.Rec}{T:List Nat}{p:PO}(h:Vb r T p.so.rd p.o.er.kY p.d p.b=true):comm r T p.so p.b:=by
 unfold Vb at h;simp only[a_]at h;obtain⟨⟨⟨h1,h2⟩,d⟩,a⟩:=h;refine⟨λt ht=>?_,λt ht=>?_,λt ht=>?_,λb t ht=>?_,λb=>?_⟩;.rw[ht]at h1;simp only[a_]at h1;refine⟨AF h1.1,λe=>?_⟩;have c:p.d=some t:=e;grind[W_]
 .have c:p.d=some t:=ht;grind[AF]
 .grind[AF]
 .rw[b]at a;exact AF (e_.1 a t ht)
 grind[AF]
def PO.wf(P:Program)(p:PO):Bool:=p.o.wf P&&decide (p.rd=p.so.rd)&&decide (p.kY=p.o.er.kY)&&(match p.b with
 |true=>p.d.isSome&&(p.o.lU||(p.o.zcr&&p.g.isNone))
 |false=>p.o.exB)
def P5(a:List (List Nat)):List PO->Bool
 |[]=>true
 |p::l=>l.all (λq=>(a.getD q.j []).contains p.j||kJ q.us p.j)&&P5 a l
def m9(l:List PO):List Nat:=l.flatMap λp=>match p.d with|some d=>[d]|none=>[]
section
variable {R:Type} {P:Program} {O:bi}
theorem Xs(after:List (List Nat)):∀l,P5 (Ga after) l=P5 (gw [] after) l
 |[]=>rfl
 |p::l=>by simp only[P5,Ck,Xs after l]
theorem tT{s:S}{t:Nat}{v:V}(h:lk s.fr t=some v)(k:Nat):lk (s.put t v).fr k=lk s.fr k:=by show lk ((t,v)::s.fr) k=_;grind[lk,b_]
theorem CF{s:S}{t:Nat}{v:V}(h:lk s.fr t=some v):KX (enc (s.put t v)) (enc s):=⟨rfl,λk=>by rw[cR,cR,tT h]⟩
theorem mY{s:S}{t:Nat}{v:V}(h:lk s.fr t=some v)(A:List Nat):aP A s (s.put t v):=λk _=>by grind[tT]
def ldS(F:List Nat)(ld:Option (Ty×Nat×Nat×V))(hp:List aM):Prop:=∃t id off v,ld=some (t,id,off,v)/\∃s':S,hp=s'.hp.map b8/\(∀j∈Eo s' id,j∈F)/\Fb s'.hp t id off=some v
def M5(a:qI):Av.Rec×(List aM->Prop):=(a.r,ldS a.r.F a.ld)
theorem W9{k:Option R}{r:R}{v a:V}(h:W8 k v a=some r):v=a/\k=some r:=by
 unfold W8 at h;split at h
 .split at h;.grind[Jg,bE]
  grind
 .grind[b_]
 .grind[b_]
 grind
theorem uL{T us:List Nat}{s':S}{k:Option R}{r:R}:∀{A:List qI},reL T us s' k A=some r->k=some r/\∀a∈A,kJ us a.r.i=true->(∀i∈T,i∉a.r.F)\/ldS a.r.F a.ld (s'.hp.map b8)
 |[],h=>⟨h,λa p=>by grind⟩
 |a::A,h=>by
  unfold reL at h;cases hc:(!kJ us a.r.i||T.all (λt=> !kJ a.r.F t))
  .rw[hc]at h;simp only[cond_false]at h;split at h
   .rename_i t id off v hl;split at h
    .rename_i s n;obtain⟨h1,h2⟩:=aY h;obtain⟨rfl,f⟩:=W9 h2;obtain⟨d,g⟩:=uL f;refine⟨d,λb c e=>?_⟩;rcases E_.1 c with rfl|c;.exact .inr ⟨t,id,off,v,hl,s',rfl,λj l=>QX.1 (e_.1 h1 j l),n⟩
     grind
    grind
   grind
  .rw[hc]at h;simp only[cond_true]at h;obtain⟨d,g⟩:=uL h;refine⟨d,λb c e=>?_⟩;rcases E_.1 c with rfl|c;.simp only[e,ak_,aj_]at hc;grind[AF,e_]
   grind
theorem zao(s:S)(hp:List Ob)(x:X):S.get ⟨s.fr,hp⟩ x=s.get x:=by cases x<;>rfl
theorem Ph{d:Option Nat}{t:Ty}{x:X}{s:S}{hp:List Ob}{id off:Nat}{v:V}{kp:S->Option S}(b:s.get x=some (.ptr id off))(a:Fb hp t id off=some v): aX O d (.load t x) ⟨s.fr,hp⟩ (λs=>some s) kp=some (S.aF ⟨s.fr,hp⟩ d v):=by simp only[aX,zao,loadT];grind[Fb]
theorem SD(hO:cD P O){C:List (List Nat)}{K:St->Prop}{KC:Prop}:∀(l:List PO) (A:List qI) (s:S) (κ kp:S->Option R) (r:R),l.all (PO.wf P)=true->P5 C l=true->(∀a∈A,∀q∈l,(C.getD q.j []).contains a.r.i=true\/kJ q.us a.r.i=true)->TU O A l s κ kp=some r->(∀s',aP (m9 l) s s'->κ s'=some r->K (enc s'))->(∀s',aP (m9 l) s s'->kp s'=some r->KC)->rO P (λi j=> !(C.getD j []).contains i) K KC (A.map M5) (l.map λp=>(p.j,p.b,p.so)) (enc s):=by
 intro l;induction l with
 |nil=>intro A s κ kp r _ _ _ h H _;exact⟨_,KX.refl _,H s (aP.refl _ _) h⟩|cons p l ih=>
  intro A s0 κ kp r hw hu hA h Bx Bk;simp only[r_,a_]at hw;obtain⟨Hx,At⟩:=hw;simp only[P5,a_,e_,K_]at hu;obtain⟨SM,wr⟩:=hu;simp only[PO.wf,a_,decide_eq_true_eq]at Hx;obtain⟨⟨⟨w1,w2⟩,w3⟩,w4⟩:=Hx;have f:∀k,k∈f9 p.d\/k∈m9 l->k∈m9 (p::l):=λk c=>by unfold m9 at c⊢;rw[ah_,f_];refine c.imp (λh=>?_) id;cases hd:p.d<;>rw[hd]at h<;>exact h
  have DH:∀a∈A,∀q∈l,(C.getD q.j []).contains a.r.i=true\/kJ q.us a.r.i=true:=λa F q I=>hA a F q (x_ _ I);have z:∀{X:Av.Rec×(List aM->Prop)->Prop},(∀a∈A,X (M5 a))->∀r∈A.map M5,X r:=λh r hr=>by grind
  have Fr:∀a∈A,(!(C.getD p.j []).contains a.r.i)=true->kJ p.us a.r.i=true:=λa F Q=>by grind
  have Fm:∀s:S,(p.g=none\/∃t want,p.g=some (t,want)/\lk s.fr t=some (.d .bool want))->zP A s p=true->aX O p.d p.o s (λs'=>To A s s' p (TU O (vu A s s' p) l s' κ kp)) kp=some r->(∀s',aP (m9 (p::l)) s s'->κ s'=some r->K (enc s'))->(∀s',aP (m9 (p::l)) s s'->kp s'=some r->KC)->rO P (λi j=> !(C.getD j []).contains i) K KC (A.map M5) ((p::l).map λp=>(p.j,p.b,p.so)) (enc s):=by
   intro s hg h1 h2 H L;simp only[zP,a_]at h1;obtain⟨⟨⟨c1,c2⟩,c3⟩,c4⟩:=h1;rw[w2,w3]at c1;simp only[vu,To,w2,w3]at h2;have hT:=FD s p w2 w3;have g:∀a∈A,(!(C.getD p.j []).contains a.r.i)=true->comm a.r (match p.b with|true=>ez (enc s) p.so|false=>touch (enc s) p.so) p.so p.b:=λa F Q=>by
    have:=e_.1 c1 a F;simp only[K_]at this;rcases hA a F p (w_ ..)with h3|h3;.grind
    .rw[h3]at this;rcases this with h4|h4;.grind
     .rw[<-hT];exact QD h4
   have PB:∀{X X':St->Prop},cN P p.d p.o.er (enc s) X X'->iD P p.so (enc s) X X':=fun{X X'} hx=>by
    unfold iD;rcases hg with hg|⟨t,want,hg,hl⟩;.rw[show p.so.gd=none from hg];exact hx
    .rw[show p.so.gd=some (t,want)from hg];exact⟨_,by rw[cR,hl];rfl,_,rfl,λ_=>hx,λM=>absurd rfl M⟩
   have PJ:∀{x:AV},jh P (enc s) p.o.er (λy=>y=x)->fK P p.so (enc s) x:=fun{x} hx=>by
    unfold fK;rcases hg with hg|⟨t,want,hg,hl⟩;.rw[show p.so.gd=none from hg];exact hx
    .rw[show p.so.gd=some (t,want)from hg];exact⟨_,by rw[cR,hl];rfl,_,rfl,λ_=>hx,λM=>absurd rfl M⟩
   cases hb:p.b with
   |false=>
    rw[hb]at w4 h2 g;simp only[cond_false]at h2;simp only[n_,hb];refine⟨z g,?_⟩;have hx:=ON hO w1 w4 c3 h2;refine PB (nQ hx (λRK ⟨s',e1,T,U⟩=>?_) λRK ⟨s',e1,T,U⟩=>L s' (T.sub λk c=>f k (.inl c)) U);rw[e1];obtain⟨U,e9⟩:=uL U;refine⟨z λa F Q=>?_,?_⟩;.rw[uQ];exact e9 a F (Fr a F Q)
    exact ih A s' κ kp r At wr DH U (λB c D=>H B ((T.sub λk c=>f k (.inl c)).trans (c.sub λk c=>f k (.inr c))) D) λB c D=>L B ((T.sub λk c=>f k (.inl c)).trans (c.sub λk c=>f k (.inr c))) D
   |true=>
    rw[hb]at w4 h2 g c2 hT;simp only at g hT;simp only[a_]at w4;obtain⟨Nd,PA⟩:=w4;obtain⟨dk,rg⟩:=am_.1 Nd;simp only[cond_true]at h2;simp only[ak_,aj_]at c2;simp only[n_,hb];have Pc:∃E v s',rq P p.so (enc s) E/\E.x=a8 v/\E.slot.map (·.1)=xk p.o/\enc s'=(enc s).app p.d E/\lk s'.fr dk=some v/\aP (f9 p.d) s s'/\TU O (A++[⟨⟨p.j,p.d,p.so.rd,xk p.o,M4 s s' p.d (me s p),Tp s s' p.so.rd p.d⟩,JO s s' p⟩]) l s' κ kp=some r:=by
     rcases Bool.or_eq_true_iff.1 PA with N|Y
     .obtain⟨v,e1,T⟩:=pZ hO w1 N h2;have ur:xk p.o=none:=by cases I:p.o<;>first|rfl|(rw[I]at N;cases N)
      refine⟨⟨a8 v,none⟩,v,s.aF p.d v,PJ e1,rfl,by grind,gx _ _ _,?_,aP.put _ _ _,T⟩;rw[rg];simp[wT,if_true]
     .simp only[a_]at Y;obtain⟨Y,el⟩:=Y;have el:=R_.1 el;cases I:p.o<;>(try (rw[I]at Y;cases Y;done))
      rename_i k op;rw[I]at h2 w1;obtain⟨ob,v,e1,T⟩:=Qq (P:=P) (k:=k) (op:=op) w1 h2;refine⟨⟨a8 v,some (k,b8 ob)⟩,v,_,?_,rfl,rfl,?_,?_,(aP.fr (s':=⟨s.fr,setAt s.hp k ob⟩) rfl).trans (aP.put _ p.d v),T⟩
      .have:p.so=⟨p.d,.uj k op.er,none⟩:=by unfold PO.so;rw[I,el];rfl
       grind
      .rw[gx,gH];rfl
      .rw[rg];simp[wT,if_true]
    obtain⟨E,v,s',e1,T,U,e4,e5,e6,e7⟩:=Pc;have RT:QV s' p.d=v.kids:=by unfold QV;grind
    have DS:∀i∈E.x.kids,i∈M4 s s' p.d (me s p):=λi n=>by rw[T,<-ux]at n;exact f_.2 (.inr (by grind))
    have DM:∀t∈p.so.rd,∀y,Av.look (enc s).fr t=some y->∀i∈y.kids,i∈Tp s s' p.so.rd p.d:=λt ht y J i n=>by rw[cR]at J;refine f_.2 (.inl (F_.2 ⟨t,ht,?_⟩));cases hl:lk s.fr t with|none=>grind|some w=>rw[hl]at J;simp only[Z_,h_]at J;rw[<-J,<-ux]at n;omega
    have MT:zbl (A.map M5) (ldS (M4 s s' p.d (me s p)) (JO s s' p)) (Tp s s' p.so.rd p.d) E:=λk ob c=>by
     have Dg:xk p.o=some k:=by rw[<-U,c];rfl
     refine⟨λj hj=>?_,λhp D=>?_,z λa F hp hf D=>?_⟩;.unfold rq at e1;rw[c]at e1;obtain⟨_,u,hu,hm⟩:=e1;obtain⟨t,ht,y,J,Pb⟩:=Xg (ob:=ob) (nR hm λo m h=>h) j hj;exact DM t (by unfold bc.rd;rw[hu];exact f_.2 (.inl ht)) y J j Pb
     .obtain⟨t,id,off,v,hl,_⟩:=D;cases I:p.o<;>rw[I]at Dg<;>try (cases Dg;done)
      unfold JO at hl;rw[I]at hl;cases hl
     .obtain⟨t,id,off,v,hl,B,CD,gc,qr⟩:=D;have M:id≠k:=λe=>by unfold ZW at c4;rw[Dg]at c4;have:=e_.1 c4 a F;rw[hl,e]at this;simp at this
      have DP:(B.hp.set k .free)[id]? =B.hp[id]? :=t_ M.symm;refine⟨t,id,off,v,hl,⟨B.fr,B.hp.set k .free⟩,?_,?_,?_⟩
      .have:(hp.set k ob).set k .free=hp:=by
        rw[List.set_set];refine ag_ λi=>?_;by_cases n:k=i;.subst n;rw[A_ (l_.1 hf).1,hf]
        .rw[t_ n]
       rw[Q_,<-CD];exact this.symm
      .unfold Eo at gc⊢;rw[DP];omega
      .unfold Fb at qr⊢;rw[DP];omega
    refine⟨z g,E,M4 s s' p.d (me s p),Tp s s' p.so.rd p.d,ldS (M4 s s' p.d (me s p)) (JO s s' p),e1,⟨λi n=>?_,DS⟩,⟨λi n=>?_,DM⟩,λKK hS BT=>?_,MT,?_⟩;.rw[<-hT]at n;have CT:=e_.1 c2 i n;have ph:i<s.hp.length:=c_ CT;refine⟨f_.2 (.inl (f_.2 (.inl n))),_,by rw[bT,g_ ph];rfl,λj hj=>?_⟩;rw[<-z8]at hj;refine f_.2 (.inl (f_.2 (.inr (F_.2 ⟨i,n,?_⟩))));unfold Eo;grind
    .rw[T,<-ux]at n;exact f_.2 (.inr (by grind))
    .obtain⟨t,id,off,v2,hl,B,CD,gc,qr⟩:=hS;unfold JO at hl;split at hl;case h_2=>grind
     rename_i t' x d ho el hd;split at hl;case h_2=>grind
     rename_i SW RM Th hx GS;cases hl;rw[rg]at hd;cases hd;rw[e5]at GS;cases GS;have ur:E.slot=none:=by rw[ho]at U;cases hs:E.slot with|none=>rfl|some q=>rw[hs]at U;cases U
     have DB:p.so=⟨some dk,.load t.sz t.ag x.er,none⟩:=by unfold PO.so;rw[ho,el,rg];rfl
     rw[ho]at w1;obtain⟨v3,g1,g2⟩:=pZ (P:=P) (O:=O) hO w1 (by rfl) (Ph (O:=O) (d:=some dk) (t:=t) (kp:=λ_=>none) hx qr);have Rg:v3=v:=by have:=congrArg (λs:S=>lk s.fr dk) (av_ g2);simpa only[wT,if_true,h_]using this
     subst Rg;have Pa:∀i∈ez KK p.so,i=id:=λi n=>by
      rw[DB]at n;unfold ez at n;rw[if_neg (λh=>by grind)]at n;unfold touch at n;simp only[fv.kY,au_]at n;obtain⟨k,c,h0⟩:=F_.1 n;have DQ:k∈x.er.rd:=by simpa[bc.rd,fv.rd]using c
      rw[BT k (by grind),cR]at h0;cases x with
      |tm k0=>
       have:k=k0:=by simpa[X.er,SX.rd]using DQ
       subst this;rw[show lk s.fr k=some (.ptr id off)from hx]at h0;exact D_.1 h0
      |_=>cases DQ
     refine⟨?_,λi n=>?_,DS⟩;.unfold rq;rw[ur,DB,T];refine y7 ⟨λk c y J=>?_,λk c y J i n ob Fk=>by rw[CD];exact Fk⟩ g1;rw[BT k (by rw[DB];exact f_.2 (.inl c))];exact J
     .have h1:=n;rw[qz BT,<-hT]at h1;have:=Pa i n;subst this;refine⟨f_.2 (.inl (f_.2 (.inl h1))),?_⟩;unfold Fb at qr;split at qr;case h_2=>grind
      rename_i tid cs Fk;refine⟨b8 (.box tid cs),by grind,λj hj=>gc j ?_⟩;rw[<-z8]at hj;unfold Eo;grind
    .rw[U];have:=ih _ s' κ kp r At wr (λa F q I=>?_) e7 (λB c D=>H B ((e6.sub λk c=>f k (.inl c)).trans (c.sub λk c=>f k (.inr c))) D) λB c D=>L B ((e6.sub λk c=>f k (.inl c)).trans (c.sub λk c=>f k (.inr c))) D;.rw[v_,e4]at this;exact this
     grind
  have DA:∀(s:S) t want b,p.g=some (t,want)->lk s.fr t=some (.d .bool b)->(want==b)=false->zP A s p=true->To A s (s.aF p.d (.raw Go.undef)) p (TU O (vu A s (s.aF p.d (.raw Go.undef)) p) l (s.aF p.d (.raw Go.undef)) κ kp)=some r->(∀s',aP (m9 (p::l)) s s'->κ s'=some r->K (enc s'))->(∀s',aP (m9 (p::l)) s s'->kp s'=some r->KC)->rO P (λi j=> !(C.getD j []).contains i) K KC (A.map M5) ((p::l).map λp=>(p.j,p.b,p.so)) (enc s):=by
   intro s t want b hg hl M h1 h2 H L;simp only[zP,a_]at h1;obtain⟨⟨⟨c1,c2⟩,c3⟩,c4⟩:=h1;rw[w2,w3]at c1;simp only[vu,To,w2,w3]at h2;have hT:=FD s p w2 w3;have g:∀a∈A,(!(C.getD p.j []).contains a.r.i)=true->comm a.r (match p.b with|true=>ez (enc s) p.so|false=>touch (enc s) p.so) p.so p.b:=λa F Q=>by
    have:=e_.1 c1 a F;simp only[K_]at this;rcases hA a F p (w_ ..)with h3|h3;.grind
    .rw[h3]at this;rcases this with h4|h4;.grind
     .rw[<-hT];exact QD h4
   have JT:yv (.bool b)≠some want:=λe=>by
    have:b=want:=by simpa[yv]using e
    grind
   have e4:enc (s.aF p.d (.raw Go.undef))=(enc s).aF p.d (.v Go.undef):=gx _ _ _;have e6:aP (f9 p.d) s (s.aF p.d (.raw Go.undef)):=aP.put _ _ _;cases hb:p.b with
   |false=>
    rw[hb]at h2 g;simp only[cond_false]at h2;simp only[n_,hb];refine⟨z g,?_⟩;unfold iD;rw[show p.so.gd=some (t,want)from hg];obtain⟨h2,e9⟩:=uL h2;refine⟨_,by rw[cR,hl];rfl,_,rfl,λhe=>absurd he JT,λ_=>?_⟩;show UM _ _ _ _ ((enc s).aF p.d (.v Go.undef)).hp/\rO P _ K KC (A.map M5) _ ((enc s).aF p.d (.v Go.undef));rw[<-e4];refine⟨z λa F Q=>?_,?_⟩;.rw[uQ];exact e9 a F (Fr a F Q)
    exact ih A _ κ kp r At wr DH h2 (λB c D=>H B ((e6.sub λk c=>f k (.inl c)).trans (c.sub λk c=>f k (.inr c))) D) λB c D=>L B ((e6.sub λk c=>f k (.inl c)).trans (c.sub λk c=>f k (.inr c))) D
   |true=>
    rw[hb]at w4 h2 g c2 hT;simp only at g hT;simp only[a_]at w4;simp only[cond_true]at h2;simp only[ak_,aj_]at c2;simp only[n_,hb];have ur:xk p.o=none:=by
     have N:p.o.lU=true:=by grind
     cases I:p.o<;>first|rfl|(rw[I]at N;cases N)
    have So:JO s (s.aF p.d (.raw Go.undef)) p=none:=by unfold JO;grind
    refine⟨z g,⟨.v Go.undef,none⟩,M4 s (s.aF p.d (.raw Go.undef)) p.d (me s p),Tp s (s.aF p.d (.raw Go.undef)) p.so.rd p.d,ldS (M4 s (s.aF p.d (.raw Go.undef)) p.d (me s p)) (JO s (s.aF p.d (.raw Go.undef)) p),?_,⟨λi n=>?_,λi n=>?_⟩,⟨λi n=>(by cases n),λt ht y J i n=>?_⟩,λKK hS=>?_,λk ob e=>(by cases e),?_⟩;.show fK P p.so (enc s) (.v Go.undef);unfold fK;rw[show p.so.gd=some (t,want)from hg];exact⟨_,by rw[cR,hl];rfl,_,rfl,λhe=>absurd he JT,λ_=>rfl⟩
    .rw[<-hT]at n;have CT:=e_.1 c2 i n;have ph:i<s.hp.length:=c_ CT;refine⟨f_.2 (.inl (f_.2 (.inl n))),_,by rw[bT,g_ ph];rfl,λj hj=>?_⟩;rw[<-z8]at hj;refine f_.2 (.inl (f_.2 (.inr (F_.2 ⟨i,n,?_⟩))));unfold Eo;grind
    .cases n
    .rw[cR]at J;refine f_.2 (.inl (F_.2 ⟨t,ht,?_⟩));cases hl:lk s.fr t with|none=>grind|some w=>rw[hl]at J;simp only[Z_,h_]at J;rw[<-J,<-ux]at n;omega
    .obtain⟨_,_,_,_,hl,_⟩:=hS;grind
    .have:=ih _ _ κ kp r At wr (λa F q I=>?_) h2 (λB c D=>H B ((e6.sub λk c=>f k (.inl c)).trans (c.sub λk c=>f k (.inr c))) D) λB c D=>L B ((e6.sub λk c=>f k (.inl c)).trans (c.sub λk c=>f k (.inr c))) D;.rw[v_,e4]at this;show rO P _ K KC (A.map M5++[(⟨p.j,p.d,p.so.rd,none,_,_⟩,_)]) _ ((enc s).aF p.d (.v Go.undef));rw[<-ur];exact this
     grind
  simp only[TU]at h;cases hg:p.g with
  |none=>grind|some q=>
   obtain⟨t,want⟩:=q;rw[hg]at h;simp only at h;split at h
   .rename_i b hl;rcases DE:(want==b)with _|_
    .rw[DE]at h;have hb:b= !want:=by cases b<;>cases want<;>first|rfl|grind
     subst hb;obtain⟨h1,h2⟩:=aY h;refine qx _ _ _ _ (CF hl) ?_;exact DA _ t want _ hg (by rw[tT hl];omega) DE h1 h2 (λs' c=>Bx s' ((mY hl _).trans c)) λs' c=>Bk s' ((mY hl _).trans c)
    .rw[DE]at h;have:want=b:=by grind
     subst this;obtain⟨h1,h2⟩:=aY h;refine qx _ _ _ _ (CF hl) ?_;exact Fm _ (.inr ⟨t,want,hg,by rw[tT hl];omega⟩) h1 h2 (λs' c=>Bx s' ((mY hl _).trans c)) λs' c=>Bk s' ((mY hl _).trans c)
   grind
theorem Ab(hO:cD P O){m:Nat}{K KP:St->Prop}:∀(l:List PO) (s:S) (κ kp:S->Option R) (r:R),l.all (λp=>p.o.wf P)=true->TT O l s κ kp=some r->
 (∀s',aP (m9 l) s s'->κ s'=some r->W m K (enc s'))->(∀s',aP (m9 l) s s'->kp s'=some r->KP (enc s'))->j0 P m (l.map PO.so) (enc s) K KP
 |[],s,κ,kp,r,_,h,j,_=>j s (aP.refl _ _) h
 |p::l,s0,κ,kp,r,z,h,v,u=>by
  rw[r_,a_]at z;have f:∀k,k∈f9 p.d\/k∈m9 l->k∈m9 (p::l):=λk d=>by simp only[m9,ah_,f_];exact d
  have F:∀(s:S),(∀s',aP (m9 (p::l)) s s'->κ s'=some r->W m K (enc s'))->(∀s',aP (m9 (p::l)) s s'->kp s'=some r->KP (enc s'))->aX O p.d p.o s (λs'=>TT O l s' κ kp) kp=some r->cN P p.d p.o.er (enc s) (λst=>j0 P m (l.map PO.so) st K KP) KP:=by
   intro s j n h
   refine nQ (Dy hO z.1 h) (λy ⟨E,h1,h2,A⟩=>?_) λy ⟨E,h1,h2,A⟩=>?_
   .have g:=h2.sub (B:=m9 (p::l)) λk d=>f k (.inl d);exact iR h1.rS (Ab hO l E κ kp r z.2 A (λs' d x=>j s' (g.trans (d.sub λk d=>f k (.inr d))) x) λs' d x=>n s' (g.trans (d.sub λk d=>f k (.inr d))) x)
   .rw[h1];exact n E (h2.sub λk d=>f k (.inl d)) A
  have skip:∀(s:S),(∀s',aP (m9 (p::l)) s s'->κ s'=some r->W m K (enc s'))->(∀s',aP (m9 (p::l)) s s'->kp s'=some r->KP (enc s'))->TT O l (s.aF p.d (.raw Go.undef)) κ kp=some r->j0 P m (l.map PO.so) ((enc s).aF p.d (.v Go.undef)) K KP:=by
   intro s j n h
   have J:enc (s.aF p.d (.raw Go.undef))=(enc s).aF p.d (.v Go.undef):=gx _ _ _
   have L:aP (f9 p.d) s (s.aF p.d (.raw Go.undef)):=aP.put _ _ _
   have g:=L.sub (B:=m9 (p::l)) λk d=>f k (.inl d)
   rw[<-J]
   exact Ab hO l _ κ kp r z.2 h (λs' d x=>j s' (g.trans (d.sub λk d=>f k (.inr d))) x) λs' d x=>n s' (g.trans (d.sub λk d=>f k (.inr d))) x
  show W m (λst=>iD P p.so st (λy=>j0 P m (l.map PO.so) y K KP) KP) (enc s0);simp only[TT]at h;split at h;.rename_i hg;refine W.mk ?_;unfold iD;rw[show p.so.gd=none from hg];exact F s0 v u h
  .rename_i t want hg;split at h
   .rename_i b hl;have e:f8 m (enc s0) (enc (s0.put t (.d .bool b))):=λc a w _ hr=>i8.congr (CF hl).1 (CF hl).2 hr;refine W.to _ e ?_;unfold iD;rw[show p.so.gd=some (t,want)from hg];have D:Av.look (enc (s0.put t (.d .bool b))).fr t=some (.b (.pv (.sc (.bool b)))):=by rw[cR,tT hl,hl];rfl
    have H:∀s',aP (m9 (p::l)) (s0.put t (.d .bool b)) s'->κ s'=some r->W m K (enc s'):=λs' d=>v s' ((mY hl _).trans d);have I:∀s',aP (m9 (p::l)) (s0.put t (.d .bool b)) s'->kp s'=some r->KP (enc s'):=λs' d=>u s' ((mY hl _).trans d);refine⟨_,D,.bool b,rfl,λC=>?_,λC=>?_⟩;.cases b<;>cases want<;>first|(exact F _ H I h)|(exact absurd C (by decide))
    .cases b<;>cases want<;>first|(exact skip _ H I h)|(exact absurd rfl C)
   grind
theorem Iu{m:Nat}{s:S}:∀(r:Nat),f8 m (enc s) (enc ⟨s.fr,s.hp++O_ r .free⟩)
 |0=>by simp[List.replicate_zero,au_,f8.refl]
 |r+1=>by
  refine(Iu r).trans ?_;rintro c a w _ ⟨θ,D,b⟩;refine⟨θ++[.no],D,?_⟩;have:=b.push (l:=.no) (o:=.free) trivial λg hg=>by cases hg
  rw[List.replicate_succ',<-af_];have e:=tg ⟨s.fr,s.hp++O_ r .free⟩ .free;simp only at e;rw[e];exact this
theorem VN{pre:List PO}(hn:(pre.map (·.j)).Nodup){p:PO}(hp:p∈pre)(a:p.j<pre.length)(tl:List bc):(GZ pre++tl).getD p.j default=p.so:=by
 have hl:(GZ pre).length=pre.length:=by simp[GZ]
 have b:pre.find? (λq=>i_ q.j p.j)=some p:=by
  clear hl a;induction pre with
  |nil=>grind|cons q pre c=>
   rcases E_.1 hp with rfl|hp;.simp
   grind[b_]
 grind[GZ]
end
def zbf(xs:List (Nat×Sh)):Bool:=xs.all λx=>x.2.zp
def TC.wf(P:Program)(m:Nat):TC->Bool
 | .region ops=>ops.wf P&&ops.NR&&ops.IZ m
 | .draw k ops _=>ops.wf P&&ops.NR&&ops.IZ m&&ops.drB k
 | .ke _ pre tl af=>tl.wf P&&tl.NR&&tl.IZ m&&pre.all (PO.wf P)&&P5 (Ga af) pre&&decide (pre.map (·.j)).Nodup&&pre.all (λp=>decide (p.j<pre.length))
 | .G3 pre=>pre.all λp=>p.o.wf P
 | .seq a b=>a.wf P m&&b.wf P m
 | .cond x a b=>x.wf&&a.wf P m&&b.wf P m
 | .block _ a=>a.wf P m
 | .loop sh xs a=>sh.zp&&zbf xs&&a.wf P m
 | .lZ l a=>C6 m l&&a.wf P m
 | .after a l=>C6 m l&&a.wf P m
 | .cut xs a=>zbf xs&&a.wf P m
 |_=>true
section
variable {P:Program} {O:bi} {n m:Nat}
theorem UW{x:AC}{Q:AE->St->Prop}:∀{a b:St},f8 m a b->Ky P m x Q b->Ky P m x Q a:=by induction x generalizing Q with|skip=>exact λh k=>W.from h k|region f=>exact λh k=>iR h k|draw k f af=>exact λh k=>W.from h k|ke ord f af=>exact λh k=>W.from h k|seq a b d e=>exact λh k=>d h k|cond c a b d e=>exact λh k=>W.from h k|block id a d=>exact λh k=>d h k|loop a d=>exact λh k=>W.from h k|exit id=>exact λh k=>W.from h k|ret=>exact λh k=>W.from h k
theorem jO{fr:List (Nat×V)}:∀{l:List Nat} {k:Nat} {v:V},lk (ei fr l) k=some v->k∈l/\lk fr k=some v/\v.ri=true
 |[],k,v,h=>by cases h
 |j::l,k,v,h=>by
  simp only[ei]at h;split at h
  .rename_i u b;cases hd:u.ri;.rw[hd]at h;obtain⟨h1,h2⟩:=jO h;grind
   .rw[hd]at h;simp only[cond_true,lk,fR]at h;by_cases a:k=j;.grind
    .rw[decide_eq_false a]at h;obtain⟨h1,h2⟩:=jO h;grind
  .obtain⟨h1,h2⟩:=jO h;grind
theorem lx:∀(l:List Slot) (c:HL l) (b:S) (k:Nat),(∀t,Slot.tm k t∉l)->lk (unpack l c b).fr k=lk b.fr k
 |[],_,_,_,_=>rfl
 | .tm j t::l,c,b,k,h=>by have:=lx l c.2 ⟨(j,.d t c.1)::b.fr,b.hp⟩ k λt ht=>h t (x_ _ ht);grind[lk,unpack,fR]
 | .cell _ _ _::l,c,b,k,h=>lx l c.2 _ k λt ht=>h t (x_ _ ht)
 | .vec _ _ _::l,c,b,k,h=>lx l c.2 _ k λt ht=>h t (x_ _ ht)
 | .map _ _ _ _ _::l,c,b,k,h=>lx l c.2 _ k λt ht=>h t (x_ _ ht)
 | .tree _ _ _ _::l,c,b,k,h=>lx l c.2 _ k λt ht=>h t (x_ _ ht)
 | .iE _ _ _ _ _ _::l,c,b,k,h=>lx l c.2 _ k λt ht=>h t (x_ _ ht)
theorem O3{A:List Nat}{fr:List (Nat×V)}{k:Nat}(h:mI A fr k=true):k∈A\/∃v,lk fr k=some v/\v.ri=false:=by simp only[mI]at h;grind[yg]
theorem za5{fr:List (Nat×V)}{k:Nat}(h:lk fr k≠none):∃v,(k,v)∈fr:=by cases a:lk fr k with|none=>grind|some v=>exact⟨v,ru a⟩
structure X1(sh:Sh)(A:List Nat)(s:S):Prop where
 keep:∀k∈sh.keep,k∉A
 tm:∀k t,Slot.tm k t∈sh.sl->mI A s.fr k=true
 sk:∀x∈sh.sk.fr,mI A s.fr x.1=true
theorem Rh{sh:Sh}{A:List Nat}{s:S}(h:sh.MN A s=true):X1 sh A s:=by simp only[Sh.MN,a_,e_]at h;refine⟨λk a e=>?_,λk t a=>h.1.2 _ a,h.2⟩;grind[yg]
theorem UX{sh:Sh}{A:List Nat}{s:S}(d:X1 sh A s)(c:HL sh.sl){k:Nat}(h:k∉A):(∀v,lk s.fr k=some v->v.ri=true->lk (unpack sh.sl c (sh.base s)).fr k=lk (ei s.fr sh.keep) k)/\(lk s.fr k=none->lk (unpack sh.sl c (sh.base s)).fr k=none):=by
 have a:(∀v,lk s.fr k=some v->v.ri=true)->mI A s.fr k≠true:=λhd e=>by grind[O3]
 have step:(∀v,lk s.fr k=some v->v.ri=true)->lk (unpack sh.sl c (sh.base s)).fr k=lk (ei s.fr sh.keep) k:=λhd=>by
  rw[lx _ _ _ _ λt ht=>a hd (d.tm k t ht)];show lk (ei s.fr sh.keep++sh.sk.fr) k=_;rw[HY];have:lk sh.sk.fr k=none:=ad_ λe=>by obtain⟨v,f⟩:=za5 e;exact a hd (d.sk _ f)
  grind
 refine⟨λv f hd=>step λu g=>by grind,λhn=>?_⟩;rw[step λu g=>by grind];cases b:lk (ei s.fr sh.keep) k with|none=>rfl|some v=>have:=(jO b).2.1;grind
theorem Dd{sh:Sh}{A:List Nat}{s:S}(d:X1 sh A s)(c:HL sh.sl):aP A s (unpack sh.sl c (sh.base s)):=λk b=>by obtain⟨h1,h2⟩:=UX d c b;refine⟨λv e hd=>?_,h2⟩;rw[h1 v e hd];cases a:lk (ei s.fr sh.keep) k with|none=>simp|some u=>have:=(jO a).2.1;grind
theorem kept{sh:Sh}{A:List Nat}{s s':S}{c:HL sh.sl}(e:X1 sh A s)(d:aP A s s')(hp:pack sh s'=some c):∀k v,lk (ei s.fr sh.keep) k=some v->lk s'.fr k=some v:=λk v h=>by
 obtain⟨h1,h2,a⟩:=jO h;rcases(d k (e.keep k h1)).1 v h2 a with b|b;.omega
 .unfold pack at hp;split at hp;.grind[VB]
  grind
theorem yh{R:Type}{s s':S}{κ:Nat->S->Option R}{r:R}:∀{xs:List (Nat×Sh)} {key:Nat} {c:XT xs},inj xs key s'=some c->jb s κ xs c=some r->∃sh,(key,sh)∈xs/\∃d:HL sh.sl,pack sh s'=some d/\κ key (unpack sh.sl d (sh.base s))=some r
 |[],key,c,h,_=>by grind
 |[(k,sh)],key,c,h,hd=>by
  simp only[inj,fR]at h;by_cases e:k=key;.subst e;rw[decide_eq_true rfl]at h;exact⟨sh,w_ ..,c,h,hd⟩
  grind
 |(k,sh)::a::l,key,c,h,hd=>by
  simp only[inj,fR]at h;by_cases e:k=key
  .subst e;rw[decide_eq_true rfl]at h;simp only[cond_true]at h;split at h;.rename_i d b;cases h;exact⟨sh,w_ ..,d,b,hd⟩
   grind
  .rw[decide_eq_false e]at h;simp only[cond_false]at h;split at h;.rename_i d b;cases h;obtain⟨f,h1,h2⟩:=yh (xs:=a::l) b hd;grind
   grind
structure BK(D2:Prop)(m:Nat)(A:List Nat)(s:S){R:Type}(Q:AE->St->Prop)(kn:S->Option R)(kx:Nat->S->Option R)(kr kp:S->Option R)(r:R):Prop where
 n:∀s',aP A s s'->kn s'=some r->W m (Q .normal) (enc s')
 x:∀i s',aP A s s'->kx i s'=some r->W m (Q (.exit i)) (enc s')
 rt:∀s',aP A s s'->kr s'=some r->W m (Q .ret) (enc s')
 p:∀s',aP A s s'->kp s'=some r->Q .jv (enc s')
 c:∀st,W m (Q .jv) st->Q .jv st
 d:D2->∀st st',Q .jv st->Q .jv st'
theorem BK.sub{D2:Prop}{A B:List Nat}{s:S}{R:Type}{Q:AE->St->Prop}{kn:S->Option R}{kx:Nat->S->Option R}{kr kp:S->Option R}{r:R}(h:BK D2 m A s Q kn kx kr kp r)(hs:∀k∈B,k∈A):BK D2 m B s Q kn kx kr kp r:=⟨λs' C=>h.n s' (C.sub hs),λi s' C=>h.x i s' (C.sub hs),λs' C=>h.rt s' (C.sub hs),λs' C=>h.p s' (C.sub hs),h.c,h.d⟩
theorem BK.from{D2:Prop}{A:List Nat}{s H:S}{R:Type}{Q:AE->St->Prop}{kn:S->Option R}{kx:Nat->S->Option R}{kr kp:S->Option R}{r:R}(h:BK D2 m A s Q kn kx kr kp r)(C:aP A s H):BK D2 m A H Q kn kx kr kp r:=⟨λs' E=>h.n s' (C.trans E),λi s' E=>h.x i s' (C.trans E),λs' E=>h.rt s' (C.trans E),λs' E=>h.p s' (C.trans E),h.c,h.d⟩
theorem OE{D2:Prop}{A:List Nat}{s s':S}{R:Type}{Q:AE->St->Prop}{kn:S->Option R}{kx:Nat->S->Option R}{kr kp:S->Option R}{r:R}{xs:List (Nat×Sh)}{c:XT xs}{key:Nat}(a:BK D2 m A s Q kn kx kr kp r)(j:zbf xs=true)(h:xs.all (λx=>x.2.MN A s)=true) (n:aP A s s') (l:inj xs key s'=some c) (hd:jb s (λkey s=>match key with|0=>kn s|1=>kr s|2=>kp s|i+3=>kx i s) xs c=some r): match key with|0=>W m (Q .normal) (enc s')|1=>W m (Q .ret) (enc s')|2=>Q .jv (enc s')|i+3=>W m (Q (.exit i)) (enc s'):=by
 obtain⟨sh,h1,k,h2,b⟩:=yh l hd
 have f:=Rh (e_.1 h _ h1)
 have g:sh.zp=true:=e_.1 j _ h1
 have e:=(J4 (s0:=s) g h2 (kept f n h2)).rS (m:=m)
 have d:=Dd f k
 match key,b with|0,b=>exact W.from e (a.n _ d b)|1,b=>exact W.from e (a.rt _ d b)|2,b=>exact a.c _ (W.to _ e (a.p _ d b))|i+3,b=>exact W.from e (a.x i _ d b)
theorem uz{D2:Prop}(hO:cD P O):∀(M:TC) (R:Type) (s:S) (kn:S->Option R) (kx:Nat->S->Option R) (kr kp:S->Option R) (r:R) (Q:AE->St->Prop),M.wf P m=true->(M.wV=false->D2)->BM O n R M s kn kx kr kp=some r->BK D2 m M.fx s Q kn kx kr kp r->Ky P m M.er Q (enc s):=by
 intro M;induction M with
 |skip=>intro R s kn kx kr kp r Q _ _ h hp;exact hp.n s (aP.refl _ _) h|region ops=>intro R s kn kx kr kp r Q g y h hp;simp only[TC.wf,a_]at g;exact iL hO ops R s kn kp r _ _ g.1.1 g.1.2 g.2 h (λs' d f=>hp.n s' d f) λs' d f=>hp.p s' d f|draw k ops af=>intro R s kn kx kr kp r Q g y h hp;simp only[TC.wf,a_]at g;exact W.mk (SB hO ops k R s kn kp r _ _ _ g.2 g.1.1.1 g.1.1.2 g.1.2 h (Ext.refl _) (λs' d f=>hp.n s' d f) λs' d f=>hp.p s' d f)|ke r0 pre tl af=>
  intro R s kn kx kr kp r Q g y h hp;simp only[TC.wf,Xs,a_,decide_eq_true_eq]at g;obtain⟨⟨⟨⟨⟨⟨w1,w2⟩,w3⟩,w4⟩,w5⟩,w6⟩,w7⟩:=g;have B:∀k,k∈m9 pre\/k∈tl.fx->k∈(TC.ke r0 pre tl af).fx:=λk d=>f_.2 d;refine W.to _ (Iu (s:=s) r0) ?_;have hl:(GZ pre).length=pre.length:=by simp[GZ]
  have hd:(GZ pre++tl.er none).drop (pre.map λp=>(p.j,p.b)).length=tl.er none:=by grind
  have hm:((pre.map λp=>(p.j,p.b)).map λu=>(u.1,u.2,(GZ pre++tl.er none).getD u.1 default))=pre.map λp=>(p.j,p.b,p.so):=by rw[j_];refine k_ λp qr=>?_;simp only[Function.comp];grind[VN]
  show rO P _ (λst=>j0 P m ((GZ pre++tl.er none).drop (pre.map λp=>(p.j,p.b)).length) st (Q .normal) (Q .jv)) _ [] _ _;rw[hm,hd];have k0:∀{A:List Nat} {s':S},aP A ⟨s.fr,s.hp++O_ r0 .free⟩ s'->aP A s s':=λd=>(aP.fr (s':=⟨s.fr,s.hp++O_ r0 .free⟩) rfl).trans d;refine SD hO pre [] _ _ kp r w4 w5 (λa ph=>by grind) h (λs' d f=>?_) λs' d f=>?_;.exact iL hO tl R s' kn kp r _ _ w1 w2 w3 f (λs2 H F=>hp.n s2 (((k0 d).sub λk d=>B k (.inl d)).trans (H.sub λk d=>B k (.inr d))) F) λs2 H F=>hp.p s2 (((k0 d).sub λk d=>B k (.inl d)).trans (H.sub λk d=>B k (.inr d))) F
  .exact λst=>hp.d (y rfl) _ _ (hp.p s' ((k0 d).sub λk d=>B k (.inl d)) f)
 |G3 pre=>intro R s kn kx kr kp r Q g y h hp;exact Ab hO pre s kn kp r g h (λs' d f=>hp.n s' d f) λs' d f=>hp.p s' d f|seq a b j L=>intro R s kn kx kr kp r Q g y h hp;simp only[TC.wf,a_]at g;have B:∀k∈a.fx,k∈(TC.seq a b).fx:=λk d=>H_ _ d;have hb:∀k∈b.fx,k∈(TC.seq a b).fx:=λk d=>M_ _ d;refine j R s _ kx kr kp r (AE.then m (Ky P m b.er Q) Q) g.1 (λe=>y (by grind[TC.wV])) h ⟨λs' d f=>?_,λi s' d f=>hp.x i s' (d.sub B) f,λs' d f=>hp.rt s' (d.sub B) f,λs' d f=>hp.p s' (d.sub B) f,hp.c,hp.d⟩;exact W.mk (W.mk (L R s' kn kx kr kp r Q g.2 (λe=>y (by rw[TC.wV,e,aL_])) f ((hp.from (d.sub B)).sub hb)))|cond x a b j L=>
  intro R s kn kx kr kp r Q g y h hp;simp only[TC.wf,a_]at g;have B:∀k∈a.fx,k∈(TC.cond x a b).fx:=λk d=>H_ _ d;have hb:∀k∈b.fx,k∈(TC.cond x a b).fx:=λk d=>M_ _ d;simp only[BM]at h;split at h
  .rename_i t hx;refine W.mk ⟨_,aH g.1.1 hx,_,rfl,t,rfl,λe=>?_,λe=>?_⟩;.subst e;exact j R s kn kx kr kp r Q g.1.2 (λe=>y (by grind[TC.wV])) h (hp.sub B)
   .subst e;exact L R s kn kx kr kp r Q g.2 (λe=>y (by rw[TC.wV,e,aL_])) h (hp.sub hb)
  grind
 |block id a j=>
  intro R s kn kx kr kp r Q g y h hp;refine j R s kn _ kr kp r (AE.inBlock id Q) g y h ⟨hp.n,λi s' d f=>?_,hp.rt,hp.p,hp.c,hp.d⟩;have C:(bif i_ i id then kn s' else kx i s')=some r:=f;rw[fR]at C;show W m (λst=>if i=id then Q .normal st else Q (.exit i) st) (enc s');by_cases hi:i=id;.subst hi;rw[decide_eq_true rfl]at C;simp only[if_true];exact hp.n s' d C
  .rw[decide_eq_false hi]at C;simp only[if_neg hi];exact hp.x i s' d C
 |loop sh xs a j=>
  intro R s kn kx kr kp r Q g y h hp;simp only[TC.wf,a_]at g;obtain⟨⟨U,J⟩,el⟩:=g;simp only[BM]at h;split at h
  .rename_i c hc;obtain⟨w,h2⟩:=aY h;simp only[a_]at w;have E:=Rh w.1;obtain⟨t,ht,hd⟩:=cW h2;have T:f8 m (enc s) (enc (unpack sh.sl c (sh.base s))):=(J4 (s0:=s) U hc λk v d=>(jO d).2.1).rS;refine W.to _ T ⟨n,?_⟩;have key:∀(N:Nat) (c:HL sh.sl),gr N (λc=>BM O n (HL sh.sl⊕XT xs) a (unpack sh.sl c (sh.base s)) (λs=>match pack sh s with|some c=>some (.inl c)|none=>none) (λi s=>match inj xs (i+3) s with|some c=>some (.inr c)|none=>none) (λs=>match inj xs 1 s with|some c=>some (.inr c)|none=>none) (λs=>match inj xs 2 s with|some c=>some (.inr c)|none=>none)) c=some t->La m (Ky P m a.er) Q N (enc (unpack sh.sl c (sh.base s))):=by
    intro N
    induction N with
    |zero=>intro c h;cases h|succ N gc=>
     intro c h;simp only[gr]at h;obtain⟨o,ho,h1⟩:=cW h;have D:=Dd E c;refine j _ (unpack sh.sl c (sh.base s)) _ _ _ _ o (AE.then m (La m (Ky P m a.er) Q N) Q) el y ho ⟨λs' d f=>?_,λi s' d f=>?_,λs' d f=>?_,λs' d f=>?_,hp.c,hp.d⟩
     .split at f;.rename_i Y z;cases f;exact W.mk (W.to _ (J4 (s0:=s) U z (kept E (D.trans d) z)).rS (gc Y h1))
      grind
     .split at f;.rename_i Y z;cases f;cases h1;exact OE hp J w.2 (D.trans d) z hd
      grind
     .split at f;.rename_i Y z;cases f;cases h1;exact OE hp J w.2 (D.trans d) z hd
      grind
     .split at f;.rename_i Y z;cases f;cases h1;exact OE hp J w.2 (D.trans d) z hd
      grind
   exact key n c ht
  grind
 |exit id=>intro R s kn kx kr kp r Q _ _ h hp;exact hp.x id s (aP.refl _ _) h|ret=>intro R s kn kx kr kp r Q _ _ h hp;exact hp.rt s (aP.refl _ _) h|lZ l a j=>intro R s kn kx kr kp r Q g y h hp;simp only[TC.wf,a_]at g;simp only[BM]at h;obtain⟨s1,I,h⟩:=xv h;obtain⟨e1,e2⟩:=qK g.1 I;exact UW e1 (j R s1 kn kx kr kp r Q g.2 y h (hp.from (e2 _)))
 |after a l j=>intro R s kn kx kr kp r Q g y h hp;simp only[TC.wf,a_]at g;refine j R s _ kx kr kp r Q g.2 y h ⟨λs' d f=>?_,hp.x,hp.rt,hp.p,hp.c,hp.d⟩;obtain⟨s1,I,f⟩:=xv f;obtain⟨e1,e2⟩:=qK g.1 I;exact W.from e1 (hp.n s1 (d.trans (e2 _)) f)
 |cut xs a j=>intro R s kn kx kr kp r Q g y h hp;simp only[TC.wf,a_]at g;simp only[BM]at h;obtain⟨w,h2⟩:=aY h;obtain⟨t,ht,hd⟩:=cW h2;exact j _ s _ _ _ _ t Q g.2 y ht ⟨λs' d f=>OE hp g.1 w d f hd,λi s' d f=>OE hp g.1 w d f hd,λs' d f=>OE hp g.1 w d f hd,λs' d f=>OE hp g.1 w d f hd,hp.c,hp.d⟩
end
def xpZ{α:Type}{a:α}(b:α)(h:a=b:=by kernel_rfl):a=b:=h
def Wp{α:Type}(m:Nat->Option α)(Q:α->Prop):Prop:=∃a,Q a/\∃b,∀n,b<=n->m n=some a
def Conv(tbl:Nat->Option gv)(f:Nat)(ars:List V)(os:List Ob)(Q:Option S->Prop):Prop:=Wp (λn=>rY tbl n f ars os) Q
section
variable {α β:Type}
theorem aa{a:α}{Q:α->Prop}(h:Q a):Wp (λ_=>some a) Q:=⟨a,h,0,λ_ _=>rfl⟩
theorem ae{m:Nat->Option α}{f:Nat->α->Option β}{Q:β->Prop}(h:Wp m λa=>Wp (λn=>f n a) Q):Wp (λn=>P_ (m n) (f n)) Q:=by obtain⟨a,⟨b,c,e,h1⟩,d,g⟩:=h;refine⟨b,c,max d e,λn hn=>?_⟩;grind
theorem wp_mono{m:Nat->Option α}{Q b:α->Prop}(h:Wp m Q)(d:∀a,Q a->b a):Wp m b:=let⟨a,c,r⟩:=h;⟨a,d a c,r⟩
theorem ao{b:Bool}{m:Nat->Option α}{Q:α->Prop}(a:b=true)(h:Wp m Q):Wp (λn=>ci b (m n)) Q:=by subst a;exact h
theorem au{b:Bool}{m k:Nat->Option α}{Q:α->Prop}(ht:b=true->Wp m Q)(a:b=false->Wp k Q):Wp (λn=>bif b then m n else k n) Q:=by cases b;all_goals grind
theorem bH{xs:List α}{i:Int}{f:Nat->α->Option β}{Q:β->Prop}{x:α}(a:0<=i)(b:xs[i.toNat]? =some x)(h:Wp (λn=>f n x) Q):Wp (λn=>P_ (nv xs i) (f n)) Q:=by
 have:nv xs i=some x:=by simp[nv,a,b]
 grind
theorem aZ{xs:List α}{i:Nat}{f:Nat->α->Option β}{Q:β->Prop}{x:α}(a:xs[i]? =some x)(h:Wp (λn=>f n x) Q):Wp (λn=>P_ xs[i]? (f n)) Q:=by grind
theorem wp_loop{σ τ:Type}{body:Nat->σ->Option (σ⊕τ)}{s0:σ}{Q:τ->Prop}(I:σ->Prop)(b:σ->Nat)(c:I s0) (h:∀s,I s->Wp (λn=>body n s) λr=>match r with| .inl s'=>I s'/\b s'<b s| .inr t=>Q t):Wp (λn=>gr n (body n) s0) Q:=by
 have key:∀(k:Nat) (s:σ),I s->b s<=k->∃t,Q t/\∃a,∀n m,a<=n->k+1<=m->gr m (body n) s=some t:=by
  intro k;induction k with
  |zero=>intro s hs d;obtain⟨r,hr,a,hn⟩:=h s hs;cases r with|inl s'=>omega|inr t=>refine⟨t,hr,a,λn m h1 h2=>?_⟩;obtain⟨m',rfl⟩:∃m',m=m'+1:=⟨m - 1,by omega⟩;simp only[gr];grind
  |succ k g=>
   intro s hs d;obtain⟨r,hr,a,hn⟩:=h s hs;cases r with
   |inl s'=>obtain⟨t,ht,j,f⟩:=g s' hr.1 (by omega);refine⟨t,ht,max a j,λn m h1 h2=>?_⟩;obtain⟨m',rfl⟩:∃m',m=m'+1:=⟨m - 1,by omega⟩;simp only[gr];grind
   |inr t=>refine⟨t,hr,a,λn m h1 h2=>?_⟩;obtain⟨m',rfl⟩:∃m',m=m'+1:=⟨m - 1,by omega⟩;simp only[gr];grind
 obtain⟨t,ht,a,hn⟩:=key (b s0) s0 c (ai_ _);exact⟨t,ht,max a (b s0+1),λn e=>hn n n (by omega) (by omega)⟩
end
section
variable {tbl:Nat->Option gv}
theorem QE{f:Nat}{c:TF}{ars:List V}{os:List Ob}{G:bi->Nat->Option (Option S)}{Q:Option S->Prop}(ht:tbl f=some (.code c))(hl:(i_ os.length c.m&&J_ ars.length c.ntmps)=true)(e:∀O n,OJ O n c ars os=G O n)(h:Wp (λn=>G (rY tbl n) n) Q):Conv tbl f ars os Q:=by obtain⟨a,b,d,hn⟩:=h;refine⟨a,b,d+1,λn h1=>?_⟩;obtain⟨m,rfl⟩:∃m,n=m+1:=⟨n - 1,by omega⟩;simp only[rY,ht,hl,cond_true];grind
theorem Ve{f:Nat}{d:TD}{ars:List V}{G:bi->Nat->Option (Option S)}{Q:Option S->Prop}(ht:tbl f=some (.Yq d))(hl:J_ ars.length d.c.ntmps=true)(g:∀O n,Vq O n d ars=G O n)(h:Wp (λn=>G (rY tbl n) n) Q):Conv tbl f ars [] Q:=by
 obtain⟨a,c,e,hn⟩:=h;refine⟨a,c,e+1,λn h1=>?_⟩;obtain⟨m,rfl⟩:∃m,n=m+1:=⟨n - 1,by omega⟩;have b:(i_ ([]:List Ob).length 0&&J_ ars.length d.c.ntmps)=true:=by rw[hl];rfl
 simp only[rY,ht,b,cond_true];grind
def yz(sh:Sh)(s:S):Option (HL sh.sl):=bif i_ s.fr.length sh.n&&MP sh.n s.fr then pack sh s else none
def aB(tbl:Nat->Option gv)(f:Nat)(ars:List V)(os:List Ob)(sh:Sh)(c:HL sh.sl):Prop:=∃a,∀n,a<=n->gm (rY tbl n) f ars os sh=some c
theorem na{f:Nat}{ars:List V}{os:List Ob}{sh:Sh}{c:HL sh.sl}(hp:yz sh (fW sh c)=some c)(h:Conv tbl f ars os (·=some (fW sh c))):aB tbl f ars os sh c:=by obtain⟨o,rfl,a,hn⟩:=h;refine⟨a,λn h1=>?_⟩;have e:rY tbl n f ars os=some (some (fW sh c)):=hn n h1;unfold gm;rw[e];exact hp
theorem aj{f:Nat}{ars:List V}{os:List Ob}{sh:Sh}{β:Type}{k:Nat->HL sh.sl->Option β}{Q:β->Prop}{c:HL sh.sl}(h:aB tbl f ars os sh c)(a:Wp (λn=>k n c) Q):Wp (λn=>P_ (gm (rY tbl n) f ars os sh) (k n)) Q:=by obtain⟨b,hn⟩:=h;exact ae ⟨c,a,b,hn⟩
theorem zY{f:Nat}{ars:List V}{os:List Ob}{Q a:Option S->Prop}(h:Conv tbl f ars os Q)(b:∀o,Q o->a o):Conv tbl f ars os a:=wp_mono h b
end
def RX.er:RX->RV
 | .tm t=>.tm t
 | .cell a t=>.cell a t.sz t.ag
structure Entry(P:Program)(f:Nat)(c:TF):Prop where
 body:∃fn,P.funcs[f]? =some fn/\fn.ntmps=c.ntmps/\fn.body.bind (cw P fn.ntmps)=some c.code.er.canon/\fn.results.toList.mapM (ka P)=some (c.res.map RX.er)
 ok:(c.code.er.okB&&c.code.wf P c.m&&c.sh.zp&&J_ c.m c.sh.sk.hp.length)=true
section
variable {P:Program} {O:bi} {n:Nat}
theorem t6{s:S}:∀{l:List RX} {vs:List V},Fi s l=some vs->(l.map RX.er).mapM (G4 (enc s))=some (vs.map a8)
 |[],vs,h=>by cases h;rfl
 | .tm t::l,vs,h=>by
  simp only[Fi]at h;split at h
  .rename_i v c;split at h
   .rename_i us b;cases h;rw[n_,o_,t6 b];have:G4 (enc s) (RX.tm t).er=some (a8 v):=by show Av.look (enc s).fr t=_;grind[cR]
    grind
   grind
  grind
 | .cell a t::l,vs,h=>by
  simp only[Fi]at h;split at h
  .rename_i id off c;split at h
   .rename_i tid cs d;obtain⟨h1,h2⟩:=aY h;have e:=c_ h1;split at h2
    .rename_i us b;cases h2;rw[n_,o_,t6 b];have:G4 (enc s) (RX.cell a t).er=some (a8 (whole t ((cs.drop off).take t.sz))):=by
      show(Av.look (enc s).fr a).bind _=_;rw[cR,c];show(match(enc s).hp[id]? with
       |some (.box _ cs)=>if off+t.sz<=cs.length/\(t.ag=false->t.sz=1)then some (mJ t.ag ((cs.drop off).take t.sz))else none
       |_=>none)=_
      rw[bT,d];show(if off+t.sz<=(cs.map aU).length/\(t.ag=false->t.sz=1)then some (mJ t.ag (((cs.map aU).drop off).take t.sz))else none)=_;rw[if_pos ⟨by grind,fL⟩,AZ,X_,al_];grind[AD,fL]
     grind
    grind
   grind
  grind
theorem pG:∀(vs:List V) (k:Nat),(dR k vs).map (λx=>(x.1,a8 x.2))=sU k (vs.map a8)
 |[],_=>rfl
 |v::vs,k=>by simp only[dR,n_,sU,pG vs (k+1)]
theorem Bt:∀(vs:List V) (k i:Nat),lk (dR k vs) (k+i)=vs[i]?
 |[],_,_=>by simp[dR,lk]
 |v::vs,k,i=>by simp only[dR,lk,fR];cases i with|zero=>simp|succ i=>rw[decide_eq_false (by simp:¬k+(i+1)=k)];simp only[cond_false,List.getElem?_cons_succ];rw[show k+(i+1)=(k+1)+i by omega];exact Bt vs (k+1) i
theorem jF:∀(l:List Slot) (c:HL l) (b:S),(unpack l c b).fr.length=b.fr.length+(l.filter λx=>match x with| .tm _ _=>true|_=>false).length
 |[],_,_=>rfl
 | .tm j t::l,c,b=>by show(unpack l c.2 ⟨(j,.d t c.1)::b.fr,b.hp⟩).fr.length=_;rw[jF l];grind
 | .cell id j t::l,c,b=>by show(unpack l c.2 ⟨b.fr,_⟩).fr.length=_;rw[jF l];simp
 | .vec _ _ _::l,c,b=>by show(unpack l c.2 ⟨b.fr,_⟩).fr.length=_;rw[jF l];simp
 | .map _ _ _ _ _::l,c,b=>by show(unpack l c.2 ⟨b.fr,_⟩).fr.length=_;rw[jF l];simp
 | .tree _ _ _ _::l,c,b=>by show(unpack l c.2 ⟨b.fr,_⟩).fr.length=_;rw[jF l];simp
 | .iE _ _ _ _ _ _::l,c,b=>by show(unpack l c.2 ⟨b.fr,_⟩).fr.length=_;rw[jF l];simp
theorem Wt(sh:Sh)(c:HL sh.sl):(fW sh c).fr.length=sh.n:=by unfold fW;rw[jF,base_nil];rfl
def J2(v:V):BV:=match v with
 | .agg vs=>.pv ((a8 (.agg vs)).bG.getD .any)
 |v=>aU v
theorem Rj{v:V}(h:v.one=true):a8 v= .b (J2 v)\/∃p,(a8 v).bG=some p/\J2 v= .pv p:=by
 cases v with
 |agg vs=>
  obtain⟨cs,hcs⟩:=uq vs h;have:(a8 (.agg vs)).bG=some (.agg cs):=by show((vs.map aU).mapM BV.bG).map PV.agg=_;grind
  grind[J2]
 |dP vs=>cases h|_=>exact .inl rfl
theorem Wr{v:V}(h:v.one=true):∀i∈(J2 v).ids,i∈v.ids:=λi a=>by
 rw[nh];rcases Rj h with e|⟨p,_,e⟩;.rw[e];exact a
 .rw[e]at a;cases a
theorem zaG{v d:V}(h:v.one=true)(a:IQ (a8 v) (a8 d)):K0 (J2 v) (aU d):=by
 cases g:v.HR
 .have e:J2 v=aU v:=by cases v<;>first|rfl|cases g
  grind[kU,ZM]
 .cases v with
  |agg vs=>
   obtain⟨cs,hcs⟩:=uq vs h;have ht:(AV.agg (vs.map aU)).bG=some (.agg cs):=by show((vs.map aU).mapM BV.bG).map PV.agg=_;grind
   have e:J2 (.agg vs)= .pv (.agg cs):=by show BV.pv ((AV.agg (vs.map aU)).bG.getD .any)=_;grind
   rw[e];cases c:d.HR;.rw[kU c]at a;generalize aU d=z at a⊢;have b:IQ (.agg (vs.map aU)) (.b z):=a;cases b with|data _ q f=>rw[ht]at f;cases f;exact .refl _|any=>exact .any _
   .cases d with|agg vs=>exact .any _|dP vs=>exact .any _|_=>cases c
  |dP vs=>cases h|_=>cases g
theorem AN{L:Nat}{x:BV}(h:∀i∈x.ids,i<L):x.eV ((T_ L).idxOf ·)=x:=by
 have key:∀i,i<L->(T_ L).idxOf i=i:=λi b=>by grind[yf]
 cases x<;>simp only[BV.eV]<;>simp only[BV.ids]at h<;>first
  |rfl
  |grind
  |skip
 congr 1;have:∀l:List Nat,(∀i∈l,i<L)->l.map ((T_ L).idxOf ·)=l:=by intro l hl;induction l with|nil=>rfl|cons a l c=>grind
 grind
theorem rK{L:Nat}:∀{xs:List BV},(∀i∈xs.flatMap BV.ids,i<L)->xs.map (BV.eV ((T_ L).idxOf ·))=xs
 |[],_=>rfl
 |x::xs,h=>by rw[n_,AN λi a=>h i (by grind),rK λi a=>h i (by grind)]
theorem Pn{L:Nat}{x:AV}(h:∀i∈x.ids,i<L):x.eV ((T_ L).idxOf ·)=x:=by cases x with|b x=>simp only[AV.eV,AN h]|agg xs=>simp only[AV.eV,rK h]|dP xs=>simp only[AV.eV,rK h]
theorem Po{L:Nat}{o:aM}(h:∀i∈o.ids,i<L):o.eV ((T_ L).idxOf ·)=o:=by
 cases o with
 |box t cs=>simp only[aM.eV,rK h]|tree e sz k xs hole=>cases hole with|none=>rfl|some q=>obtain⟨i,j,b⟩:=q;simp only[aM.eV,JV,AN (h)]
 |_=>rfl
theorem TQ{m L T:Nat}{r:AV}{hp:List aM}(g:L<=hp.length)(h:m<=L)(hr:∀i∈r.ids,i<L)(e:∀o∈hp.take L,∀i∈o.ids,i<L):f8 m ⟨[(T,r)],hp⟩ ⟨[(T,r)],hp.take L⟩:=by
 refine NH (T_ L) List.nodup_range (λk b=>by grind) (λk y b=>⟨y,b,λi d=>?_,?_⟩) (by grind) λj o' f=>?_;.grind[Av.look]
 .simp only[Av.look]at b;split at b;.cases b;rw[Pn hr]
  grind
 .have c:(hp.take L)[j]? =some o':=f;have a:=y_ c;refine⟨j,o',by grind,?_,λi d=>U_.2 (e o' a i d),(Po (e o' a)).symm⟩;grind
def Hi(o:Option S)(a:C3):Prop:=match o with
 |some s=>a=some (a8 (res s.fr.length s.fr),s.hp.map b8)
 |none=>a=none
theorem kX{c:TF}{s:S}{o:Option S}{m:Nat}(hw:c.sh.zp=true)(hm:m<=c.sh.sk.hp.length)(h:Eg c s=some o):W m (Bm m (c.res.map RX.er) (Hi o) .normal) (enc s):=by
 unfold Eg at h;split at h
 .rename_i vs N;obtain⟨h1,h2⟩:=aY h;simp only[a_,e_,K_]at h1;obtain⟨⟨⟨⟨U,Y⟩,g3⟩,g4⟩,g5⟩:=h1;have hL:=c_ U;have hn:=b_ g4;generalize el:c.sh.sk.hp.length=L at*;split at h2
  .rename_i x hx;unfold pL at h2;cases h2;have J:∀k v,lk (ei (⟨[],[]⟩:S).fr c.sh.keep) k=some v->lk (dR 0 vs) k=some v:=by intro k v e;have:=(jO e).2.1;cases this
   have B:=EY (s0:=⟨[],[]⟩) hw hx J;have hS:=B.le;have gc:∀i,lk (dR 0 vs) i=vs[i]? :=λi=>by have:=Bt vs 0 i;grind
   have P:(fW c.sh x).hp.length=L:=by have:(s.hp.take L).length=(fW c.sh x).hp.length:=B.len;grind
   obtain⟨r,r1,r2,r3⟩:∃r:AV,Md (vs.map a8) r/\(∀i∈r.ids,i<L)/\IQ r (a8 (res (fW c.sh x).fr.length (fW c.sh x).fr)):=by
    rw[Wt,hn];have g:∀v∈vs,∀i∈v.ids,i<L:=λv e i l=>c_ (g3 v e i l);have d:vs.length≠1->∃r:AV,(∃E:List BV,r= .dP E/\E.length=(vs.map a8).length/\∀(i:Nat) (x:AV) (b:BV),(vs.map a8)[i]? =some x->E[i]? =some b->x= .b b\/∃p,x.bG=some p/\b= .pv p)/\(∀i∈r.ids,i<L)/\IQ r (a8 (res vs.length (fW c.sh x).fr)):=by
     intro ph;have A:∀v∈vs,v.one=true:=λv e=>by grind[absurd,b_]
     refine⟨.dP (vs.map J2),⟨_,rfl,by simp,λi y b Q f=>?_⟩,λi l=>?_,?_⟩;.simp only[m_,d_]at Q f;obtain⟨v,e,rfl⟩:=Q;obtain⟨D,qr,rfl⟩:=f;grind[Rj,y_]
     .obtain⟨b,f,H⟩:=F_.1 (show i∈(vs.map J2).flatMap BV.ids from l);obtain⟨v,e,rfl⟩:=s_.1 f;exact g v e i (Wr (A v e) i H)
     .unfold res;have:i_ vs.length 1=false:=by grind[fR]
      rw[this];refine .dP _ _ (by simp[vz]) λi a b C f=>?_;simp only[vz,m_,d_]at C f;obtain⟨v,e,rfl⟩:=C;obtain⟨w,⟨j,O,rfl⟩,rfl⟩:=f;have I:=(l_.1 e).1;rw[List.getElem?_range I]at O;cases O;cases hl:lk (fW c.sh x).fr i with|none=>exact .any _|some D=>obtain⟨u,hu,M⟩:=B.fr i D hl;grind[lk,dR,zaG,y_]
    match vs,d with
    |[R],_=>refine⟨a8 R,rfl,λi l=>g R (by simp) i (by grind[nh]),?_⟩;show IQ _ (a8 ((lk (fW c.sh x).fr 0).getD .any));cases hl:lk (fW c.sh x).fr 0 with|none=>exact .any _|some D=>obtain⟨u,hu,M⟩:=B.fr 0 D hl;grind
    |[],d=>exact d (by simp)|_::_::_,d=>exact d (by simp)
   refine W.mk (W.mk ⟨_,r,t6 N,r1,_,_,λT=>?_,rfl,by grind⟩);have F:L<=(enc s).hp.length:=by grind[l8]
   refine(TQ F hm r2 λo ho i l=>?_).trans (NP.rS ⟨λk y hk=>?_,?_,λi a b C f=>hS.hp i a b ?_ f⟩);.have z:o∈(s.hp.map b8).take L:=ho;rw[<-X_]at z;obtain⟨o1,h3,rfl⟩:=s_.1 z;rw[<-Du]at l;exact c_ (Y o1 h3 i l)
   .grind[Av.look]
   .grind
   .have n:((s.hp.map b8).take L)[i]? =some a:=C;rw[<-X_]at n;exact n
  grind
 grind
theorem OK(v:P.follows .mixedOrders=true)(hO:cD P O){f:Nat}{c:TF}{ars:List V}{os:List Ob}{o:Option S}(k:Entry P f c)(w:os.length=c.m)(l:ars.length<=c.ntmps)(h:OJ O n c ars os=some o):eN P f (ars.map a8) (os.map b8) (Hi o):=by
 obtain⟨fn,h1,A,e,u⟩:=k.body;obtain⟨code,h2,s⟩:=p_.1 e;have d:=k.ok;simp only[a_]at d;obtain⟨⟨⟨x,y⟩,p⟩,z⟩:=d;have r:=c_ z;have j:(os.map b8).length=c.m:=by grind
 have b:(⟨sU 0 (ars.map a8),os.map b8⟩:St)=enc ⟨dR 0 ars,os⟩:=by simp[enc,pG]
 refine Sf v h1 h2 s x u (by grind) ?_;rw[b,j];refine uz hO c.code (Option S) _ _ _ _ _ o _ y (λ_=>trivial) h ⟨λs' _ a=>kX p r a,λi s' _ a=>(by grind),λs' _ a=>kX p r a,λs' _ a=>?_,λ_ ⟨_,_,g⟩=>g,λ_ _ _ g=>g⟩;cases a;exact rfl
structure IN(P:Program)(f:Nat)(d:TD):Prop where
 body:∃fn CA CB CH h j y3 p3 a3 y4 p4 a4,P.funcs[f]? =some fn/\fn.ntmps=d.c.ntmps/\
  fn.body=some (.seq CA (.seq (.region j #[⟨some d.t8,.makeFunc (.func h) #[] #[.tmp d.ta,.tmp d.tb],y3,p3,a3,none⟩,⟨none,.defer {callee:=.value (.tmp d.t8),args:= #[],argTypes:= #[]},y4,p4,a4,none⟩] false) CB))/\
  cw P fn.ntmps CA=some d.a.er.canon/\cw P fn.ntmps CB=some d.c.code.er.canon/\Catch P h CH/\cw P 5 CH=some d.h.er.canon/\fn.results.toList.mapM (ka P)=some (d.c.res.map RX.er)
 ok:(d.a.er.okB&&d.a.wf P 0&&d.c.code.er.okB&&d.c.code.wf P 2&&d.h.er.okB&&d.h.wf P 2&&d.c.sh.zp&&J_ (d.t8+1) d.c.ntmps&&d.c.code.wV)=true
theorem yk{s:S}{t i:Nat}(h:vM s t i=true):Av.look (enc s).fr t=some (.b (.ptr i 0)):=by
 unfold vM at h;split at h;.rename_i j o a;rw[a_]at h;rw[cR,a,b_ h.1,b_ h.2];rfl
 grind
theorem zaB{s:S}{t:Nat}(h:noT s t=true):Av.look (enc s).fr t=none:=by grind[noT,cR]
theorem rb{a:List RV}{K:C3->Prop}{st:St}(h:W 0 (Bm 0 a K .normal) st):Bm 0 a K .normal st:=let⟨_,b,h1⟩:=h;W.from b h1
theorem OL(I:P.follows .mixedOrders=true)(hO:cD P O){f:Nat}{d:TD}{ars:List V}{o:Option S}(r:IN P f d)(s:ars.length<=d.c.ntmps)(h:Vq O n d ars=some o):eN P f (ars.map a8) [] (Hi o):=by
 obtain⟨fn,Y,CB,CH,a,j,y3,p3,a3,y4,p4,a4,h1,h2,B,C,D,E,F,H⟩:=r.body;have c:=r.ok;simp only[a_]at c;obtain⟨⟨⟨⟨⟨⟨⟨⟨J,L⟩,M⟩,N⟩,Q⟩,R⟩,g⟩,T⟩,k9⟩:=c;have b:(⟨sU 0 (ars.map a8),[]⟩:St)=enc ⟨dR 0 ars,[]⟩:=by simp[enc,pG]
 refine N6 I h1 B C J D M F Q E H (by grind) (by rw[h2];exact c_ T) ?_;rw[b];refine uz hO d.a (Option S) _ _ _ _ _ o _ L (λ_=>trivial) h ⟨λU _ a=>?_,λi s' _ a=>(by grind),λs' _ a=>(by grind),λs' _ a=>(by grind),λ_ ⟨_,_,l,_⟩=>(by grind),λ_ _ _ ⟨l,_⟩=>(by grind)⟩;obtain⟨p,z⟩:=aY a;simp only[a_]at p;obtain⟨⟨⟨u,v⟩,w⟩,b4⟩:=p;refine W.mk ⟨rfl,⟨zaB w,yk u,yk v,by grind[l8,b_]⟩,(uz (D2:=False) hO d.c.code (Option S) _ _ _ _ _ o _ N (λe=>by grind) z ⟨λs' _ a=>?_,λi s' _ a=>(by grind),λs' _ a=>?_,λs2 _ a=>?_,λst ⟨U,x,y⟩=>W.from x y,λh=>h.elim⟩)⟩;.exact W.mk (rb (kX g (I_ _) a))
 .exact W.mk (rb (kX g (I_ _) a))
 .obtain⟨k,A⟩:=aY a;simp only[a_]at k;exact W.mk ⟨yk k.1,yk k.2,(uz hO d.h (Option S) _ _ _ _ _ o _ R (λ_=>trivial) A ⟨λs' _ a=>W.mk ⟨.inl rfl,rb (kX g (I_ _) a)⟩,λi s' _ a=>(by grind),λs' _ a=>W.mk ⟨.inr rfl,rb (kX g (I_ _) a)⟩,λs' _ a=>(by grind),λ_ ⟨_,_,l,_⟩=>(by grind),λ_ _ _ ⟨l,_⟩=>(by grind)⟩)⟩
def UI(P:Program)(f:Nat)(g:List V->Option S):Prop:=∀ars s,g ars=some s->eN P f (ars.map a8) [] (Hi (some s))
structure K3(P:Program)(tbl:Nat->Option gv):Prop where
 code:∀f c,tbl f=some (.code c)->Entry P (f%10000) c
 nat:∀f g,tbl f=some (.nat g)->UI P (f%10000) g
 Yq:∀f d,tbl f=some (.Yq d)->IN P (f%10000) d
theorem H4(k:P.follows .mixedOrders=true){tbl:Nat->Option gv}(j:K3 P tbl):∀n,cD P (rY tbl n):=by
 have key:∀n f ars os o,rY tbl n f ars os=some o->eN P (f%10000) (ars.map a8) (os.map b8) (Hi o):=by
  intro n;induction n with
  |zero=>intro f ars os o h;cases h|succ n l=>
   intro f ars os o h;have hO:cD P (rY tbl n):=⟨λf ars os s b=>l f ars os (some s) b,λf ars os b=>l f ars os none b⟩;simp only[rY]at h;split at h;.rename_i c hc;obtain⟨a,e⟩:=aY h;rw[a_]at a;exact OK k hO (j.code f c hc) (b_ a.1) (c_ a.2) e
   .rename_i d hd;obtain⟨a,e⟩:=aY h;rw[a_]at a;obtain rfl:=List.eq_nil_of_length_eq_zero (b_ a.1);exact OL k hO (j.Yq f d hd) (c_ a.2) e
   .rename_i g hg;split at h
    .split at h;.rename_i s hs;cases h;exact j.nat f g hg ars s hs
     grind
    grind
   grind
 exact λn=>⟨λf ars os s b=>key n f ars os (some s) b,λf ars os b=>key n f ars os none b⟩
theorem K4(c:P.follows .mixedOrders=true){tbl:Nat->Option gv}(b:K3 P tbl){f:Nat}{ars:List V}{os:List Ob}{Q:Option S->Prop}(h:Conv tbl f ars os Q):∃o,Q o/\eN P (f%10000) (ars.map a8) (os.map b8) (Hi o):=by obtain⟨o,d,a,hn⟩:=h;have h1:=hn a (ai_ _);refine⟨o,d,?_⟩;cases o with|some s=>exact(H4 c b a).ret f ars os s h1|none=>exact(H4 c b a).jv f ars os h1
def Mr:List (Nat×gv)->Nat->Option gv
 |[],_=>none
 |(k,e)::l,f=>bif i_ f k then some e else Mr l f
def OkE(P:Program)(k:Nat):gv->Prop
 | .code c=>Entry P (k%10000) c
 | .Yq d=>IN P (k%10000) d
 | .nat g=>UI P (k%10000) g
def lD(P:Program):List (Nat×gv)->Prop
 |[]=>True
 |(k,e)::l=>OkE P k e/\lD P l
theorem lD.get{l:List (Nat×gv)}(h:lD P l){f:Nat}{e:gv}(C:Mr l f=some e):OkE P f e:=by
 induction l with
 |nil=>cases C|cons x l H=>
  obtain⟨k,I⟩:=x;simp only[Mr,fR]at C;by_cases E:f=k;.subst E;rw[decide_eq_true rfl]at C;cases C;exact h.1
  .rw[decide_eq_false E]at C;exact H h.2 C
theorem lD.tbl{l:List (Nat×gv)}(h:lD P l):K3 P (Mr l):=⟨λ_ _ C=>h.get C,λ_ _ C=>h.get C,λ_ _ C=>h.get C⟩
end
open Go Go.RowKit Go.Av Go.Deep Go.WideShapes
mutual
def Wo:Rx->Prop
 | .mk k l h ks=>(IntKind.i64.min<=k/\k<=IntKind.i64.max)/\(IntKind.i64.min<=l/\l<=IntKind.i64.max)/\(IntKind.i64.min<=h/\h<=IntKind.i64.max)/\ks.length<=maxLen/\MO ks
def MO:List Rx->Prop
 |[]=>True
 |r::a=>Wo r/\MO a
end
def okD:(t:Ty)->t.den->Prop
 | .int k,x=>k.min<=x/\x<=k.max
 | .bool,_=>True
 | .str,x=>ay_ x<=maxLen
 | .list t,x=>ay_ x<=maxLen/\∀y∈x,okD t y
 | .unit,_=>True
 | .pair a b,x=>okD a x.1/\okD b x.2
 | .rx,x=>Wo x
def AI:∀(l:List Rx),MO l↔∀r∈l,Wo r
 |[]=>by simp[MO]
 |r::a=>by simp[MO,AI a]
def eT:(t:Ty)->t.den->Nat
 | .int _,_=>1
 | .bool,_=>1
 | .str,x=>ay_ x+1
 | .list t,x=>(aT_ (eT t) x).sum+1
 | .unit,_=>0
 | .pair a b,x=>eT a x.1+eT b x.2
 | .rx,_=>1
section
variable {H:Type}
mutual
def d4:DataW H->Nat
 | .lit (.string bytes)=>bytes.length+1
 | .lit _=>1
 | .nil=>1
 | .ptr d=>d4 d+1
 | .slice b c=>iU b+iU c+1
 | .agg parts=>iU parts+1
 | .iface _ d=>d4 d+1
 | .map a=>Dh a+1
 | .held _=>1
def iU:List (DataW H)->Nat
 |[]=>0
 |d::r=>d4 d+iU r
def Dh:List (Lit×DataW H)->Nat
 |[]=>0
 |x::r=>On x+Dh r
def On:Lit×DataW H->Nat
 |(.string bytes,d)=>bytes.length+d4 d+1
 |(_,d)=>d4 d+1
end
def uo(d:DataW H):1<=d4 d:=by cases d with|lit l=>cases l<;>simp[d4]|nil=>simp[d4]|ptr d=>simp[d4]|slice b c=>simp[d4]|agg parts=>simp[d4]|iface t d=>simp[d4]|map a=>simp[d4]|held h=>simp[d4]
def Lt{α β:Type}{f:α->Nat}{g:β->DataW H}:∀(xs:List α) (ds:List β),xs.length=ds.length->(∀(i:Nat) (x:α),xs[i]? =some x->∃d:β,ds[i]? =some d/\f x<=d4 (g d))->(xs.map f).sum<=iU (ds.map g)
 |[],[],_,_=>ai_ _
 |x::xs,d::ds,hl,h=>by obtain⟨a,h1,h2⟩:=h 0 x rfl;cases h1;have:=Lt xs ds (by grind) λi x b=>h (i+1) x (by grind);grind[iU]
 |[],_::_,h,_=>(by simp)
 |_::_,[],h,_=>(by grind)
end
def rxB(P:Program)(t:TypeId):Bool:=match P.underlying t with
 |some (.struct d)=>match d.toList with
  |[a,b,f2,c]=>(match P.underlying a.type,P.underlying b.type,P.underlying f2.type,P.underlying c.type with
   |some (.int .i64),some (.int .i64),some (.int .i64),some (.slice e)=>i_ e t
   |_,_,_,_=>false)&&i_ a.offset 0&&i_ b.offset 1&&i_ f2.offset 2&&i_ c.offset 3&&
    i_ (P.cellsOf a.type) 1&&i_ (P.cellsOf b.type) 1&&i_ (P.cellsOf f2.type) 1&&i_ (P.cellsOf c.type) 1&&i_ (P.cellsOf t) 4
  |_=>false
 |_=>false
def fsB(P:Program)(c:TypeId->Ty->Bool):List Field->Nat->Ty->Bool
 |[],_,.unit=>true
 |f::l,off,.pair a b=>i_ f.offset off&&i_ (P.cellsOf f.type) a.sz&&c f.type a&&fsB P c l (off+a.sz) b
 |_,_,_=>false
def arB(P:Program)(c:TypeId->Ty->Bool)(e:TypeId):Nat->Ty->Bool
 |0,.unit=>true
 |n+1,.pair a b=>i_ (P.cellsOf e) a.sz&&c e a&&arB P c e n b
 |_,_=>false
def nq(P:Program):Nat->TypeId->Ty->Bool
 |0,_,_=>false
 |d+1,t,u=>match u with
  | .rx=>rxB P t
  | .bool=>(match P.underlying t with|some .bool=>true|_=>false)
  | .int k=>(match P.underlying t with|some (.int c)=>decide (k=c)|_=>false)
  | .str=>(match P.underlying t with|some .string=>true|_=>false)
  | .list a=>(match P.underlying t with|some (.slice e)=>i_ (P.cellsOf e) a.sz&&J_ 1 a.sz&&nq P d e a|_=>false)
  |u=>(match P.underlying t with
   |some (.struct b)=>i_ (P.cellsOf t) u.sz&&fsB P (nq P d) b.toList 0 u
   |some (.array n e)=>i_ (P.cellsOf t) u.sz&&arB P (nq P d) e n u
   |_=>false)
def Q8{α:Type}{p:Nat->α->Prop}:∀(n:Nat),(∀i,i<n->∃x,p i x)->∃xs:List α,xs.length=n/\∀i x,xs[i]? =some x->p i x
 |0,_=>⟨[],rfl,λi x h=>by grind⟩
 |n+1,h=>by obtain⟨xs,h1,h2⟩:=Q8 (p:=p) n λi a=>h i (by omega);obtain⟨x,b⟩:=h n (by simp);refine⟨xs++[x],by grind,λi y c=>?_⟩;grind
section
variable {H:Type} {enc:TypeId×Value->H} {P:Program} {w:World}
abbrev Rd(w:World)(u:Ty)(cs:List Value)(x:u.den):Prop:=okD u x/\cs.length=u.sz/\∀(j:Nat) (y:PV),(aO u x)[j]? =some y->∃c,cs[j]? =some c/\aW (λb=>b<w.heap.size) w c y
theorem JK{k:IntKind}{n:Int}(b:(Lit.int k n).wf=true):Rd w (.int k) [.int k n] n:=by
 refine⟨?_,rfl,λj y a=>?_⟩;.show k.min<=n/\n<=k.max;grind[Lit.wf]
 .match j,a with|0,a=>cases a;exact⟨_,rfl,.sc _⟩
theorem Ni{a:Ty}{e:TypeId}{n:Nat}{cs:List Value}{x:DataW H×List MemPlace}{t:TypeId}(ht:P.underlying t=some (.slice e))(C:P.cellsOf e=a.sz)(I:1<=a.sz) (ih:∀(m:Nat) (cs:List Value) (d:DataW H) (ps:List MemPlace),m<n->DataW.trod enc P w 0 (λ_=>true) true m e cs=some (d,ps)->(∀p∈ps,p.block<w.heap.size)->∃x:a.den,Rd w a cs x/\eT a x<=d4 d) (h:DataW.trod enc P w 0 (λ_=>true) true n t cs=some x) (U:∀p∈x.2,p.block<w.heap.size):∃xs:List a.den,Rd w (.list a) cs xs/\eT (.list a) xs<=d4 x.1:=by
 have h':=DataW.trod_slice ht h;obtain⟨X,hX⟩:∃X,X=x:=⟨_,rfl⟩;rcases open_slice ht h with⟨rfl,_⟩|⟨B,len,cap,m,n',D,Pl,rfl,_,hl,hm,F,rfl,J⟩
 .refine⟨[],⟨⟨I_ _,λy l=>by grind⟩,rfl,λj y l=>?_⟩,uo _⟩
  match j,l with|0,l=>cases l;exact⟨_,rfl,.nil none 0⟩
 .simp only[if_true]at F;subst F;obtain⟨k,rest,A,Y,L,E,s⟩:∃(k rest:List (DataW H×List MemPlace)) (A:Nat),A<n/\X=(.slice (k.map (·.1)) (rest.map (·.1)),MemPlace.row B ((k.length+rest.length)*P.cellsOf e)++(k++rest).flatMap (·.2))/\k.length=len/\∀i,i<len->(w.cells? 0 (B.add (i*P.cellsOf e)) (P.cellsOf e)).bind (DataW.trod enc P w 0 (λ_=>true) true A e)=k[i]? :=by
   rcases h' with⟨hc,_⟩|⟨a',ph,gc,k,rest,A,rfl,hc,L,_,_,_,E,s,_⟩
   .grind
   .simp only[List.cons.injEq,Value.slice.injEq,h_,and_true]at hc;obtain⟨rfl,rfl,rfl⟩:=hc;exact⟨k,rest,A,by simp,hX.trans L,E,s⟩
  have step:∀i,i<len->∃x:a.den,(∃d,k[i]? =some d/\eT a x<=d4 d.1)/\∃r,w.cells? 0 (B.add (i*a.sz)) a.sz=some r/\Rd w a r x:=by
   intro i hi;have N:=s i hi;rw[g_ (by omega)]at N;obtain⟨r,h5,O⟩:=p_.1 N;rw[C]at h5;obtain⟨y,l,hb⟩:=ih A r _ _ Y O λp hp=>by grind
   grind
  obtain⟨xs,wr,z⟩:=Q8 len step;have Q:eT (.list a) xs<=d4 (DataW.slice (H:=H) (k.map (·.1)) (rest.map (·.1))):=by have:=Lt (f:=eT a) (g:=λd:DataW H×List MemPlace=>d.1) xs k (by omega) λi x J=>(z i x J).1;simp only[eT,d4];omega
  refine⟨xs,⟨⟨by omega,λy l=>?_⟩,rfl,λj y l=>?_⟩,by grind⟩;.obtain⟨i,hi⟩:=Y_ l;grind
  .rw[eZ (t:=.list a) xs rfl]at l
   match j,l with
   |0,l=>
    cases l;refine⟨_,rfl,?_⟩;have u:(xs.map (aN a)).length=len:=by grind
    show aW _ w (.slice (some B) len m) (kZ a.sz (xs.map (aN a)));rw[<-u];refine gu (by omega) λhp=>?_;rw[u]at hp;obtain⟨x0,el⟩:∃x0,xs[0]? =some x0:=⟨xs[0]'(by omega),g_ (by omega)⟩;obtain⟨_,qr,R,ur⟩:=z 0 x0 el;obtain⟨b,off,M⟩:=B;have v:M=none:=by obtain⟨_,rg,T⟩:=World.cells?_some R;have h1:=T 0 (by omega);rw[g_ (by omega)]at h1;simpa[Addr.add]using World.cell?_spot h1
    subst v;refine⟨b,off,rfl,?_,λp hp=>?_,λi j x y J l=>?_⟩;.refine U (.cell b off) (H_ _ (MemPlace.mem_row.2 ⟨0,?_,by simp⟩));rw[C];exact Nat.mul_pos (by omega) I
    .obtain⟨q,_,rfl⟩:=s_.1 hp;simp[aR]
    .rw[m_]at J;obtain⟨q,hq,rfl⟩:=d_.1 J;obtain⟨_,r,h1,h2,h3,N⟩:=z i q hq;obtain⟨c,h5,O⟩:=N j y l;refine⟨c,?_,O⟩;have hj:j<a.sz:=by grind
     have h7:=(World.cells?_some h1).2.2 j hj;rw[add_plain,add_plain]at h7;grind
theorem ZJ{n d:Nat}{cs:List Value}(C:∀(t:TypeId) (u:Ty) (cs:List Value) (v:DataW H) (D:List MemPlace),nq P d t u=true->DataW.trod enc P w 0 (λ_=>true) true n t cs=some (v,D)->(∀p∈D,p.block<w.heap.size)->∃x:u.den,Rd w u cs x/\eT u x<=d4 v):
 ∀(l:List Field) (k:List (DataW H×List MemPlace)) (off:Nat) (u:Ty),fsB P (nq P d) l off u=true->k.length=l.length->(∀(i:Nat) (f:Field),l[i]? =some f->∃d:DataW H×List MemPlace,k[i]? =some d/\DataW.trod enc P w 0 (λ_=>true) true n f.type ((cs.drop f.offset).take (P.cellsOf f.type))=some d/\∀p∈d.2,p.block<w.heap.size)->∃x:u.den,okD u x/\eT u x<=iU (k.map (·.1))/\∀(j:Nat) (y:PV),(aO u x)[j]? =some y->∃c,cs[off+j]? =some c/\aW (λb=>b<w.heap.size) w c y
 |[],_,off,u,e,_,_=>by
  cases u<;>simp only[fsB]at e<;>try cases e
  exact⟨(),trivial,I_ _,λj y B=>by simp[aO,aN,PV.cells]at B⟩
 |f::l,[],_,_,_,h,_=>by simp at h
 |f::l,s::k,off,u,e,M,hl=>by
  cases u<;>simp only[fsB]at e<;>try cases e
  rename_i a b;simp only[a_]at e;obtain⟨⟨⟨h1,h2⟩,I⟩,J⟩:=e;have E:=b_ h1;have F:=b_ h2;obtain⟨d1,r,A,L⟩:=hl 0 f rfl;cases r;rw[E,F]at A;obtain⟨x,⟨N,Q,R⟩,T⟩:=C f.type a _ s.1 s.2 I A L;obtain⟨z,O,Y,U⟩:=ZJ C l k (off+a.sz) b J (by grind) λi g hg=>by simpa using hl (i+1) g (by simpa using hg)
  refine⟨(x,z),⟨N,O⟩,by grind[eT,iU],λj y B=>?_⟩;have hc:aO (.pair a b) (x,z)=aO a x++aO b z:=rfl;grind[aR]
theorem Zw{n d:Nat}{e:TypeId}{cs:List Value}(C:∀(t:TypeId) (u:Ty) (cs:List Value) (v:DataW H) (D:List MemPlace),nq P d t u=true->DataW.trod enc P w 0 (λ_=>true) true n t cs=some (v,D)->(∀p∈D,p.block<w.heap.size)->∃x:u.den,Rd w u cs x/\eT u x<=d4 v):
 ∀(k g:Nat) (l:List (DataW H×List MemPlace)) (u:Ty),arB P (nq P d) e k u=true->l.length=k->(∀(i:Nat),i<k->∃d:DataW H×List MemPlace,l[i]? =some d/\DataW.trod enc P w 0 (λ_=>true) true n e ((cs.drop ((g+i)*P.cellsOf e)).take (P.cellsOf e))=some d/\∀p∈d.2,p.block<w.heap.size)->∃x:u.den,okD u x/\eT u x<=iU (l.map (·.1))/\∀(j:Nat) (y:PV),(aO u x)[j]? =some y->∃c,cs[g*P.cellsOf e+j]? =some c/\aW (λb=>b<w.heap.size) w c y
 |0,g,_,u,f,_,_=>by
  cases u<;>simp only[arB]at f<;>try cases f
  exact⟨(),trivial,I_ _,λj y B=>by simp[aO,aN,PV.cells]at B⟩
 |k+1,_,[],_,_,h,_=>by simp at h
 |k+1,g,s::l,u,f,J,hl=>by
  cases u<;>simp only[arB]at f<;>try cases f
  rename_i a b;simp only[a_]at f;obtain⟨⟨h2,E⟩,F⟩:=f;have N:=b_ h2;obtain⟨d1,r,A,I⟩:=hl 0 (by omega);cases r;rw[aC_]at A;obtain⟨x,⟨L,Q,R⟩,T⟩:=C e a _ s.1 s.2 E A I;obtain⟨z,M,Y,U⟩:=Zw C k (g+1) l b F (by grind) λi O=>by have:=hl (i+1) (by omega);rw[show g+(i+1)=g+1+i by omega]at this;simpa using this
  refine⟨(x,z),⟨L,M⟩,by grind[eT,iU],λj y B=>?_⟩;have hc:aO (.pair a b) (x,z)=aO a x++aO b z:=rfl;grind[aR]
theorem Y9:∀(n:Nat) (d:Nat) (t:TypeId) (u:Ty) (cs:List Value) (B:DataW H) (r:List MemPlace),nq P d t u=true->DataW.trod enc P w 0 (λ_=>true) true n t cs=some (B,r)->(∀p∈r,p.block<w.heap.size)->∃x:u.den,Rd w u cs x/\eT u x<=d4 B:=by
 intro n;induction n using Nat.strongRecOn with|ind n N=>
 intro d t u cs B r g h A;cases d with|zero=>cases g|succ d=>
 have agg:(∀a b,u= .pair a b->True)->u.ag=true->u≠.rx->(match P.underlying t with
  |some (.struct F)=>i_ (P.cellsOf t) u.sz&&fsB P (nq P d) F.toList 0 u
  |some (.array n e)=>i_ (P.cellsOf t) u.sz&&arB P (nq P d) e n u
  |_=>false)=true->∃x:u.den,Rd w u cs x/\eT u x<=d4 B:=by
  intro _ _ _ g
  split at g
  .rename_i F ht;rw[a_]at g;have e1:=b_ g.1;obtain⟨xs,m,rfl,D,I,C,E⟩:=DataW.trod_struct ht h;simp only[as_.injEq]at D;obtain⟨rfl,rfl⟩:=D;obtain⟨x,x1,xb,x2⟩:=ZJ (n:=m) (cs:=cs) (λt u cs B r g h A=>N m (by simp) d t u cs B r g h A) F.toList xs 0 u g.2 (by omega) λi f hi=>by
    have ph:F[i]? =some f:=by grind
    have h1:=E i f ph;have qr:i<xs.length:=by grind
    rw[g_ qr]at h1;grind
   grind[d4]
  .rename_i k e ht;rw[a_]at g;have e1:=b_ g.1;obtain⟨xs,m,rfl,D,I,C,E⟩:=DataW.trod_array ht h;simp only[as_.injEq]at D;obtain⟨rfl,rfl⟩:=D;obtain⟨x,x1,xb,x2⟩:=Zw (n:=m) (cs:=cs) (e:=e) (λt u cs B r g h A=>N m (by simp) d t u cs B r g h A) k 0 xs u g.2 C λi hi=>by grind
   grind[d4]
  grind
 cases u with
 |bool=>
  simp only[nq]at g;split at g
  .rename_i ht;obtain⟨b,rfl,_⟩:=DataW.trod_bool ht h;refine⟨b,⟨trivial,rfl,λj y l=>?_⟩,uo _⟩
   match j,l with|0,l=>cases l;exact⟨_,rfl,.sc _⟩
  grind
 |int k=>
  simp only[nq]at g;split at g
  .rename_i k' ht;have:k=k':=by grind
   subst this;obtain⟨z,rfl,_,hw⟩:=DataW.trod_int ht h;exact⟨z,JK hw,uo _⟩
  grind
 |str=>
  simp only[nq]at g;split at g
  .rename_i ht;obtain⟨s,rfl,U,hs⟩:=DataW.trod_string ht h;refine⟨s.data.toList,⟨by simpa[okD]using hs,rfl,λj y l=>?_⟩,by cases U;exact ai_ _⟩
   match j,l with
   |0,l=>
    cases l;refine⟨_,rfl,?_⟩;show aW _ w (.string s) (.sc (.string ⟨s.data.toList.toArray⟩));have:(⟨s.data.toList.toArray⟩:ByteArray)=s:=by simp
    rw[this];exact .sc _
  grind
 |list a=>
  simp only[nq]at g;split at g;.rename_i e ht;simp only[a_]at g;exact Ni ht (b_ g.1.1) (c_ g.1.2) (λm cs O r hm h hl=>N m hm d e a cs O r g.2 h hl) h A
  grind
 |unit=>exact agg (λ_ _ h=>by simp) rfl (by simp) g|pair a b=>exact agg (λ_ _ _=>trivial) rfl (by simp) g|rx=>
  have el:rxB P t=true:=g;have v:=el;unfold rxB at v;split at v
  .rename_i F ht;split at v
   .rename_i Q R f2 T Bk;simp only[a_]at v;obtain⟨⟨⟨⟨⟨⟨⟨⟨⟨hu,o0⟩,o1⟩,o2⟩,o3⟩,c0⟩,c1⟩,c2⟩,c3⟩,c4⟩:=v;split at hu
    .rename_i e u0 u1 u2 u3;have Y:=b_ hu;subst Y;obtain⟨xs,m,rfl,D,I,C,E⟩:=DataW.trod_struct ht h;simp only[as_.injEq]at D;obtain⟨rfl,rfl⟩:=D;have gc:F= #[Q,R,f2,T]:=by grind
     subst gc;have h4:xs.length=4:=C;have e4:=b_ c4;have get:∀(i:Nat) (f:Field),(#[Q,R,f2,T]:Array Field)[i]? =some f->P.cellsOf f.type=1->∃B r,DataW.trod enc P w 0 (λ_=>true) true m f.type ((cs.drop f.offset).take 1)=some (B,r)/\∀p∈r,p.block<w.heap.size:=by grind
     obtain⟨d0,p0,g0,_⟩:=get 0 Q rfl (b_ c0);obtain⟨d1,p1,g1,_⟩:=get 1 R rfl (b_ c1);obtain⟨d2,p2,g2,_⟩:=get 2 f2 rfl (b_ c2);obtain⟨d3,p3,g3,l3⟩:=get 3 T rfl (b_ c3);rw[b_ o0]at g0;rw[b_ o1]at g1;rw[b_ o2]at g2;rw[b_ o3]at g3;obtain⟨z0,J,_,w0⟩:=DataW.trod_int u0 g0;obtain⟨z1,L,_,w1⟩:=DataW.trod_int u1 g1;obtain⟨z2,M,_,w2⟩:=DataW.trod_int u2 g2;obtain⟨ks,⟨k1,k2,k3⟩,_⟩:=Ni (a:=.rx) u3 e4 (by decide) (λm' cs O r hm h hl=>N m' (by omega) (d+1) e .rx cs O r g h hl) g3 l3
     match cs,(show cs.length=4 by omega)with
     |[q0,q1,q2,q3],_=>
      simp only[List.drop_zero,List.drop_succ_cons,List.take_succ_cons,aO_,List.cons.injEq,and_true]at J L M
      subst J;subst L;subst M
      have ur:=(JK (w:=w) w0).1
      have wr:=(JK (w:=w) w1).1
      have At:=(JK (w:=w) w2).1
      refine⟨.mk z0 z1 z2 ks,⟨⟨ur,wr,At,k1.1,(AI ks).2 k1.2⟩,rfl,λj y l=>?_⟩,uo _⟩
      rw[qv]at l
      match j,l with|0,l=>cases l;exact⟨_,rfl,.sc _⟩|1,l=>cases l;exact⟨_,rfl,.sc _⟩|2,l=>cases l;exact⟨_,rfl,.sc _⟩|3,l=>have rg:some (aN (.list .rx) ks)=some y:=l;cases rg;obtain⟨c,e1,e2⟩:=k3 0 (aN (.list .rx) ks) (by rw[eZ (t:=.list .rx) ks rfl];rfl);grind
    grind
   grind
  grind
end
open Go Go.RowKit Go.Av Go.WideShapes
@[reducible] def HD:List Ty->Type
 |[]=>Unit
 |t::l=>t.den×HD l
def vK:(us:List Ty)->HD us->List V
 |[],_=>[]
 |t::l,x=>.d t x.1::vK l x.2
def Wl:(us:List Ty)->HD us->Prop
 |[],_=>True
 |t::l,x=>okD t x.1/\Wl l x.2
def Cn:(us:List Ty)->HD us->Nat
 |[],_=>0
 |t::l,x=>eT t x.1+Cn l x.2
def fitAll(P:Program):List TypeId->List Ty->Bool
 |[],[]=>true
 |t::ts,u::us=>nq P 64 t u&&fitAll P ts us
 |_,_=>false
def ZV(P:Program)(ts:List TypeId):Bool:=ts.all λt=>P.readableRec t&&decide (t<P.types.size)
section
variable {H:Type} {enc:TypeId×Value->H} {P:Program} {w:World}
theorem WV{d:Nat}{t:TypeId}{u:Ty}{r:Reach}{F:Nat}{v:Value}{A:DataW H}{C:List MemPlace}(f:nq P d t u=true)(j:Value.okWide P w r F t v)(h:DataW.Trod enc P w 0 (λ_=>true) true t v A C)(B:∀p∈C,p.block<w.heap.size): ∃x:u.den,(okD u x/\aW (λb=>b<w.heap.size) w v (aN u x))/\eT u x<=d4 A:=by
 obtain⟨n,hn⟩:=h;obtain⟨x,⟨I,D,E⟩,J⟩:=Y9 n d t u _ A C f hn B;refine⟨x,⟨I,?_⟩,J⟩;have one:u.ag=false->v.cells= #[v]->aW (λb=>b<w.heap.size) w v (aN u x):=λz hc=>by obtain⟨c,L,M⟩:=E 0 (aN u x) (by rw[eZ x z];rfl);grind
 have g:u.ag=true->(∃cs,v= .agg cs)->aW (λb=>b<w.heap.size) w v (aN u x):=λz ⟨cs,hc⟩=>by subst hc;rw[eY x z];have e:(Value.agg cs).cells=cs:=rfl;rw[e]at D E;refine .agg cs _ (by rw[aR,<-D];simp) λi a y z N=>?_;grind
 cases d with
 |zero=>simp[nq]at f|succ d=>
  cases u with
  |bool=>
   simp only[nq]at f;split at f;.rename_i ht;obtain⟨b,rfl⟩:=okWide_bool ht j;exact one rfl rfl
   grind
  |int k=>
   simp only[nq]at f;split at f;.rename_i ht;obtain⟨b,rfl⟩:=okWide_int ht j;exact one rfl rfl
   grind
  |str=>
   simp only[nq]at f;split at f;.rename_i ht;obtain⟨b,rfl⟩:=okWide_string ht j;exact one rfl rfl
   grind
  |list a=>
   simp only[nq]at f;split at f;.rename_i ht;obtain⟨a,l,c,rfl⟩:=okWide_slice ht j;exact one rfl rfl
   grind
  |unit=>
   simp only[nq]at f;refine g rfl ?_;split at f;.rename_i ht;simp only[Value.okWide,ht]at j;grind
   .rename_i ht;simp only[Value.okWide,ht]at j;grind
   grind
  |pair a b=>
   simp only[nq]at f;refine g rfl ?_;split at f;.rename_i ht;simp only[Value.okWide,ht]at j;grind
   .rename_i ht;simp only[Value.okWide,ht]at j;grind
   grind
  |rx=>
   have s:rxB P t=true:=f;refine g rfl ?_;unfold rxB at s;split at s;.rename_i ht;simp only[Value.okWide,ht]at j;grind
   grind
theorem M3:∀(ts:List TypeId) (us:List Ty) (vs:List Value) (ds:List (DataW H)) (f:List MemPlace),fitAll P ts us=true->DataW.TrodAll enc P w 0 (λ_=>true) true ts vs ds f->(∀(j:Nat) (t:TypeId) (v:Value),ts[j]? =some t->vs[j]? =some v->∃r l,Value.okWide P w r l t v)->(∀p∈f,p.block<w.heap.size)->
 ∃xs:HD us,(Wl us xs/\Cn us xs<=iU ds)/\vs.length=(vK us xs).length/\∀(i:Nat) (v:Value) (x:AV),vs[i]? =some v->((vK us xs).map a8)[i]? =some x->RelA [] (λb=>b<w.heap.size) w v x
 |[],[],[],[],f,_,_,_,_=>⟨(),⟨trivial,ai_ _⟩,rfl,λi v x k=>by grind⟩
 |t::ts,u::us,v::vs,d::ds,f,g,n,k,e=>by simp only[fitAll,a_]at g;obtain⟨p,q,h1,h2,rfl⟩:=n;obtain⟨r,l,s⟩:=k 0 t v rfl rfl;obtain⟨x,⟨A,B⟩,F⟩:=WV g.1 s h1 λy c=>e y (H_ _ c);obtain⟨xs,⟨C,I⟩,D,E⟩:=M3 ts us vs ds q g.2 h2 (λj t v ht a=>k (j+1) t v (by grind) (by grind)) λy c=>e y (M_ _ c);refine⟨(x,xs),⟨⟨A,C⟩,by simp only[Cn,iU];omega⟩,by simp[vK,D],λi z y a c=>?_⟩;cases i with|zero=>simp only[ao_,h_]at a;simp only[vK,n_,ao_,h_]at c;subst a;subst c;exact B|succ i=>exact E i z y (by grind) (by simpa[vK]using c)
 |[],[],_::_,_,_,_,h,_,_=>(by cases h)
 |[],[],[],_::_,_,_,h,_,_=>(by cases h)
 |_::_,_::_,[],_,_,_,h,_,_=>(by cases h)
 |_::_,_::_,_::_,[],_,_,h,_,_=>(by cases h)
 |[],_::_,_,_,_,h,_,_,_=>(by cases h)
 |_::_,[],_,_,_,h,_,_,_=>(by cases h)
theorem vU(hl:laidOutB P=true){W f:World}(g:Below W.heap.size W f):∀(ts:List TypeId) (vs:List Value) (ds:List (DataW H)) (c:List MemPlace),ZV P ts=true->DataW.TrodAll enc P W 0 (λ_=>true) true ts vs ds c->(∀p∈c,p.block<W.heap.size)->
 DataW.TrodAll enc P f 0 (λb=>decide (b<W.heap.size)) true ts vs ds c
 |[],[],[],_,_,h,_=>h
 |t::ts,v::vs,d::ds,c,hr,h,a=>by simp only[ZV,r_,a_,decide_eq_true_eq]at hr;obtain⟨p,q,h1,h2,rfl⟩:=h;exact⟨p,q,Below.trod hl hr.1.1 hr.1.2 h1 g λy e=>a y (H_ _ e),vU hl g ts vs ds q hr.2 h2 λy e=>a y (M_ _ e),rfl⟩
 |[],_::_,_,_,_,h,_=>(by cases h)
 |[],[],_::_,_,_,h,_=>(by cases h)
 |_::_,[],_,_,_,h,_=>(by cases h)
 |_::_,_::_,[],_,_,h,_=>(by cases h)
theorem BA{a:Nat}{sp:Nat->Bool}{hd:Bool}:∀(ts:List TypeId) (vs:List Value) (ds:List (DataW H)) (b:List MemPlace),DataW.TrodAll enc P w a sp hd ts vs ds b->ds.length=ts.length
 |[],[],[],_,_=>rfl
 |_::ts,_::vs,_::ds,_,⟨_,_,_,h,_⟩=>by simp[BA ts vs ds _ h]
 |[],_::_,_,_,h=>(by cases h)
 |[],[],_::_,_,h=>(by cases h)
 |_::_,[],_,_,h=>(by cases h)
 |_::_,_::_,[],_,h=>(by cases h)
theorem SL(E:P.follows .mixedOrders=true){tbl:Nat->Option gv}(B:K3 P tbl){W:World}(A:GT W){N:Nat}{us:List Ty}{xs:HD us}{vs:List Value}(hl:vs.length=(vK us xs).length) (c:∀(i:Nat) (v:Value) (x:AV),vs[i]? =some v->((vK us xs).map a8)[i]? =some x->RelA [] (λb=>b<W.heap.size) W v x) {s:S} (z:Conv tbl N (vK us xs) [] (·=some s)) (hs:a8 (res s.fr.length s.fr)= .b (.pv (.sc (.bool true)))): Calls P (N%10000) vs.toArray W λe d=>e= .returned (.bool true)/\Below W.heap.size W d:=by
 obtain⟨o,rfl,y⟩:=K4 E B z;refine(y W [] (λb=>b<W.heap.size) vs (GW.of A) ⟨rfl,λb h=>h,λi j li H g f=>(by simp),λi l g f=>(by grind),λi l o f=>(by simp)⟩ (by grind) c).mono λe d C=>?_;rcases C with⟨v,r,n,θ',D',h1,h2,p,_,a,_⟩|⟨F,_,_,h2,_⟩;.have u:some (r,n)=some (a8 (res s.fr.length s.fr),s.hp.map b8):=h2;simp only[h_,as_.injEq]at u;rw[u.1,hs]at p;have w:aW D' d v (.sc (.bool true)):=p;cases w;refine⟨h1,a.os,a.tape,a.output,a.size,λk D=>a.block k D ?_⟩;rintro⟨i,l,f,_⟩;grind
 .cases h2
end
theorem wrap_i64{n:Int}(a: -9223372036854775808<=n:=by omega)(h1:n<=9223372036854775807:=by omega):G_ .i64 n=n:=by simp only[G_,aq_,ab_];grind
theorem wrap_u8(n:Int):G_ .u8 n=n%256:=by simp[G_,aq_,ab_]
def wrap_u32(n:Int):G_ .u32 n=n%4294967296:=by simp[G_,aq_,ab_]
theorem wrap_u64(n:Int):G_ .u64 n=n%18446744073709551616:=by simp[G_,aq_,ab_]
theorem ak{i:Nat}{n:Nat}(a:i<n)(hn:n<=9223372036854775807:=by omega):G_ .i64 ((i:Int)+1)=((i+1:Nat):Int):=by rw[wrap_i64 (by omega) (by omega)];rfl
section
variable {α β γ σ τ:Type}
theorem L4{xs:List α}(i:Nat):nv xs (i:Int)=xs[i]? :=by simp[nv]
theorem cO{m:Nat->Option α}{Q:α->Prop}{a:α}(h:∀n,m n=some a)(b:Q a):Wp m Q:=⟨a,b,0,λn _=>h n⟩
theorem Wp.imp{m:Nat->Option α}{Q C:α->Prop}(h:Wp m Q)(E:∀r,Q r->C r):Wp m C:=wp_mono h E
theorem aK{N:Nat}{body:Nat->σ->Option (σ⊕τ)}{s0:σ}{Q:τ->Prop}(I:Nat->σ->Prop)(d:I 0 s0) (b:∀i s,i<N->I i s->Wp (λn=>body n s) λr=>match r with| .inl s'=>I (i+1) s'| .inr t=>Q t) (c:∀s,I N s->Wp (λn=>body n s) λr=>match r with| .inl _=>False| .inr t=>Q t):Wp (λn=>gr n (body n) s0) Q:=by
 have key:∀(k:Nat) (i:Nat) (s:σ),i+k=N->I i s->∃t,Q t/\∃a,∀n m,a<=n->k+1<=m->gr m (body n) s=some t:=by
  intro k;induction k with
  |zero=>
   intro i s e hs;have:i=N:=by omega
   subst this;obtain⟨r,hr,a,hn⟩:=c s hs;cases r with|inl s'=>grind|inr t=>refine⟨t,hr,a,λn m h1 h2=>?_⟩;obtain⟨m',rfl⟩:∃m',m=m'+1:=⟨m - 1,by omega⟩;simp only[gr];grind
  |succ k h=>
   intro i s e hs;obtain⟨r,hr,a,hn⟩:=b i s (by omega) hs;cases r with
   |inl s'=>obtain⟨t,ht,j,g⟩:=h (i+1) s' (by omega) hr;refine⟨t,ht,max a j,λn m h1 h2=>?_⟩;obtain⟨m',rfl⟩:∃m',m=m'+1:=⟨m - 1,by omega⟩;simp only[gr];grind
   |inr t=>refine⟨t,hr,a,λn m h1 h2=>?_⟩;obtain⟨m',rfl⟩:∃m',m=m'+1:=⟨m - 1,by omega⟩;simp only[gr];grind
 obtain⟨t,ht,a,hn⟩:=key N 0 s0 (by simp) d;exact⟨t,ht,max a (N+1),λn f=>hn n n (by omega) (by omega)⟩
theorem R5{xs:List α}{p:α->Bool}{g:α->β}{e:γ}{body:Nat->(Int×Unit)->Option ((Int×Unit)⊕β⊕γ)}{Q:β⊕γ->Prop} (h:∀(i:Nat) (x:α),xs[i]? =some x->Wp (λn=>body n ((i:Int),())) λr=>r=if p x then .inr (.inl (g x))else .inl (((i+1:Nat):Int),())) (b:Wp (λn=>body n ((xs.length:Int),())) λr=>r= .inr (.inr e)) (d:Q (match xs.find? p with|some x=>.inl (g x)|none=>.inr e)):Wp (λn=>gr n (body n) ((0:Int),())) Q:=by
 refine aK (N:=xs.length) (I:=λi s=>s=((i:Int),())/\xs.find? p=(xs.drop i).find? p) ⟨rfl,by simp⟩ (λi s a hs=>?_) λs hs=>?_;.obtain⟨rfl,hd⟩:=hs;have c:=g_ a;refine wp_mono (h i _ c) λr hr=>?_;rw[ae_ a,List.find?_cons]at hd;grind
 .obtain⟨rfl,hd⟩:=hs;refine wp_mono b λr hr=>?_;grind
end
section
variable {α β σ τ:Type}
theorem aD{b:Bool}{m k:Nat->Option α}{Q:α->Prop}(a:b=true)(h:Wp m Q):Wp (λn=>bif b then m n else k n) Q:=by subst a;exact h
theorem ap{b:Bool}{m k:Nat->Option α}{Q:α->Prop}(a:b=false)(h:Wp k Q):Wp (λn=>bif b then m n else k n) Q:=by subst a;exact h
theorem bq{a b:Bool}{m:Nat->Option Bool}{Q:Bool->Prop}(h:a=false->Wp m λr=>r=b)(c:Q (a||b)):Wp (λn=>bif a then some true else m n) Q:=by
 cases a;.exact wp_mono (h rfl) λr hr=>by grind
 .exact aa c
theorem bh{a b:Bool}{m:Nat->Option Bool}{Q:Bool->Prop}(h:a=true->Wp m λr=>r=b)(c:Q (a&&b)):Wp (λn=>bif a then m n else some false) Q:=by
 cases a;.exact aa c
 .exact wp_mono (h rfl) λr hr=>by grind
end
section
variable {tbl:Nat->Option gv}
theorem s5{f:Nat}{ars:List V}{os:List Ob}{sh:Sh}{R:HL sh.sl->Prop}(hp:∀c,yz sh (fW sh c)=some c)(h:Conv tbl f ars os λo=>∃c,o=some (fW sh c)/\R c):∃c,R c/\aB tbl f ars os sh c:=by obtain⟨o,⟨c,rfl,hr⟩,a,hn⟩:=h;exact⟨c,hr,na (hp c) ⟨_,rfl,a,hn⟩⟩
theorem Ss{f:Nat}{g:List V->Option S}{ars:List V}{sh:Sh}{c:HL sh.sl}(ht:tbl f=some (.nat g))(hg:g ars=some (fW sh c))(hp:yz sh (fW sh c)=some c):aB tbl f ars [] sh c:=by refine na hp ⟨_,rfl,1,λn hn=>?_⟩;obtain⟨m,rfl⟩:∃m,n=m+1:=⟨n - 1,by omega⟩;simp only[rY,ht,hg]
end
section
variable {α β γ σ τ:Type}
theorem YD{xs:List α}{i:Nat}(h:i<xs.length):nv xs (i:Int)=some xs[i]:=by rw[L4];exact g_ h
theorem aA{xs:List α}{i:Nat}{f:Nat->α->Option β}{Q:β->Prop}(h:i<xs.length)(a:Wp (λn=>f n xs[i]) Q):Wp (λn=>P_ (nv xs (i:Int)) (f n)) Q:=by rw[YD h];grind
theorem bg{xs:List α}{i:Int}{f:Nat->α->Option β}{Q:β->Prop}(a:0<=i)(h:i.toNat<xs.length)(b:Wp (λn=>f n xs[i.toNat]) Q):Wp (λn=>P_ (nv xs i) (f n)) Q:=by obtain⟨k,rfl⟩:=an_ a;exact aA (by omega) b
theorem aQ{i N:Nat}{m k:Nat->Option α}{Q:α->Prop}(h:i<N)(a:Wp m Q):Wp (λn=>bif decide ((i:Int)<(N:Int))then m n else k n) Q:=by rw[show decide ((i:Int)<(N:Int))=true from decide_eq_true (by omega)];grind
theorem aJ{N:Nat}{m k:Nat->Option α}{Q:α->Prop}(a:Wp k Q):Wp (λn=>bif decide ((N:Int)<(N:Int))then m n else k n) Q:=by grind
theorem pM{N:Nat}{good:Nat->Prop}{e:β}{g:γ}{body:Nat->(Int×Unit)->Option ((Int×Unit)⊕β⊕γ)}{Q:β⊕γ->Prop} (h:∀i,i<N->Wp (λn=>body n ((i:Int),())) λr=>(good i/\r= .inl (((i+1:Nat):Int),()))\/(¬good i/\r= .inr (.inl e))) (a:Wp (λn=>body n ((N:Int),())) λr=>r= .inr (.inr g)) (hg:(∀i,i<N->good i)->Q (.inr g)) (d:(∃i,i<N/\¬good i)->Q (.inl e)):Wp (λn=>gr n (body n) ((0:Int),())) Q:=by
 refine aK (N:=N) (I:=λi s=>s=((i:Int),())/\∀j,j<i->good j) ⟨rfl,λj c=>absurd c (by simp)⟩ (λi s b hs=>?_) λs hs=>?_;.obtain⟨rfl,hd⟩:=hs;refine wp_mono (h i b) λr hr=>?_;grind
 .obtain⟨rfl,hd⟩:=hs;refine wp_mono a λr hr=>?_;grind
theorem dn{b:Bool}{good:Prop}{e:β}{s' a:σ}(c:b=true↔¬good)(hs:s'=a):Wp (λ_=>bif b then(some (.inr (.inl e)):Option (σ⊕β⊕γ))else some (.inl s')) (λr=>(good/\r= .inl a)\/(¬good/\r= .inr (.inl e))):=by
 subst hs;cases b;.exact aa (.inl ⟨ad_ λh=>by grind,rfl⟩)
 .exact aa (.inr ⟨c.1 rfl,rfl⟩)
theorem X9{xs:List α}{P:α->Prop}:(∀i,i<xs.length->∀x,xs[i]? =some x->P x)↔∀x∈xs,P x:=by
 constructor;.intro h x b;obtain⟨i,a,rfl⟩:=List.mem_iff_getElem.1 b;exact h i a _ (g_ a)
 grind
theorem mQ{xs:List α}{P:α->Prop}{e:β}{g:γ}{body:Nat->(Int×Unit)->Option ((Int×Unit)⊕β⊕γ)}{Q:β⊕γ->Prop} (h:∀i (a:i<xs.length),Wp (λn=>body n ((i:Int),())) λr=>(P xs[i]/\r= .inl (((i+1:Nat):Int),()))\/(¬P xs[i]/\r= .inr (.inl e))) (c:Wp (λn=>body n ((xs.length:Int),())) λr=>r= .inr (.inr g)) (hg:(∀x∈xs,P x)->Q (.inr g)) (b:(¬∀x∈xs,P x)->Q (.inl e)):Wp (λn=>gr n (body n) ((0:Int),())) Q:=by refine pM (N:=xs.length) (good:=λi=>∀x,xs[i]? =some x->P x) (λi a=>?_) c (λh=>hg (X9.1 h)) (fun⟨i,a,hn⟩=>b λh=>hn λx d=>h x (y_ d));refine wp_mono (h i a) λr hr=>?_;grind
def El(f:σ->α->σ⊕β):σ->List α->σ⊕β
 |s,[]=>.inl s
 |s,x::xs=>match f s x with
  | .inl s'=>El f s' xs
  | .inr b=>.inr b
end
section
variable {α β γ σ τ:Type}
theorem io{xs:List α}{i:Nat}{x:α}{f:Nat->α->Option β}{Q:β->Prop}(h:xs[i]? =some x)(a:Wp (λn=>f n x) Q):Wp (λn=>P_ (nv xs (i:Int)) (f n)) Q:=by rw[L4,h];grind
theorem zi{ρ:Type}{xs:List α}{f:σ->α->σ⊕β}{s0:σ}{Inv:Nat->σ->Prop}{enc:Nat->σ->ρ}{oE:σ->τ}{oB:β->τ}{body:Nat->ρ->Option (ρ⊕τ)}{Q:τ->Prop}(d:Inv 0 s0) (h:∀i (a:i<xs.length) s,Inv i s->Wp (λn=>body n (enc i s)) λr=>match f s xs[i]with| .inl s'=>Inv (i+1) s'/\r= .inl (enc (i+1) s')| .inr b=>r= .inr (oB b)) (g:∀s,Inv xs.length s->Wp (λn=>body n (enc xs.length s)) λr=>r= .inr (oE s)) (e:∀r,El f s0 xs=r->(∀s,r= .inl s->Inv xs.length s)->Q (match r with| .inl s=>oE s| .inr b=>oB b)):Wp (λn=>gr n (body n) (enc 0 s0)) Q:=by
 refine aK (N:=xs.length) (I:=λi t=>∃s,t=enc i s/\Inv i s/\El f s0 xs=El f s (xs.drop i)) ⟨s0,rfl,d,by simp⟩ (λi t a ht=>?_) λt ht=>?_;.obtain⟨s,rfl,hs,hd⟩:=ht;refine wp_mono (h i a s hs) λr hr=>?_;rw[ae_ a]at hd;simp only[El]at hd;grind
 .obtain⟨s,rfl,hs,hd⟩:=ht;refine wp_mono (g s hs) λr hr=>?_;subst hr;rw[List.drop_length]at hd;exact e _ hd λs' c=>by cases c;omega
end
def wc{α:Type}(b:Bool)(x y:α):α:=cond b x y
def wlt(a b:Int):Bool:=decide (a<b)
def wle(a b:Int):Bool:=decide (a<=b)
def wgt(a b:Int):Bool:=decide (a>b)
def wge(a b:Int):Bool:=decide (a>=b)
def weq(a b:Int):Bool:=a==b
def wne(a b:Int):Bool:=a != b
def za8(m:Int):Bool:=decide (m=0)
def wbq(a b:Bool):Bool:=a==b
def wsq(a b:List UInt8):Bool:=a==b
def wn(a:Bool):Bool:= !a
def wo(a b:Bool):Bool:=a||b
def zcc(a b:Bool):Bool:=a&&b
def wx(a b:Bool):Bool:=a ^^ b
def za7(a b:Int):Int:=a+b
def Xy(a b:Int):Int:=a - b
def zba(a b:Int):Int:=a*b
def zbb(a b:Int):Int:=a.tdiv b
def zbc(a b:Int):Int:=a.tmod b
def zbd(k:IntKind)(a b:Int):Int:=a*2^(min b.toNat k.bits)
def zbe(k:IntKind)(a b:Int):Int:=a.fdiv (2^(min b.toNat k.bits))
def Ba{α:Type}(l:List α):Nat:=l.length
def wln{α:Type}(l:List α):Int:=(l.length:Int)
def wi(n:Nat):Int:=(n:Int)
def wt(n:Int):Nat:=Int.toNat n
def w8(c:UInt8):Int:=(c.toNat:Int)
def wE{α:Type}(l:List α)(i:Nat):Option α:=l[i]?
def Xx{α:Type}(l:List α)(i:Nat)(x:α):List α:=l.set i x
def wap{α:Type}(l m:List α):List α:=l++m
def wtd{α:Type}(l:List α)(h d:Nat):List α:=(l.take h).drop d
def Zm{α:Type}(n:Int)(x:α):List α:=O_ n.toNat x
def Xw{α:Type}(l m:List α)(b:Nat):Bool:=decide ((l.length+m.length)*b<=140737488355328)
def BB{α:Type}(l:List α)(b:Nat):Bool:=decide (l.length*b<=140737488355328)
def wms(l c:Int)(bytes:Nat):Bool:=decide (0<=l)&&decide (l<=c)&&decide (c<=9223372036854775807)&&decide (bytes*c<=281474976710656)
def wsl(l h m n:Nat):Bool:=decide (l<=h)&&decide (h<=m)&&decide (m<=n)
def wss(l h n:Nat):Bool:=decide (l<=h)&&decide (h<=n)
def wfl(b:Bool)(h m:Nat):Bool:=b&&decide (h=m)
def wix(n:Nat)(m:Int):Bool:=decide (0<=m)&&decide (m<n)
def wml{α:Type}(l:List α):Bool:=decide (l.length<maxLen)
def wst(a b:List UInt8):Bool:=decide (a.length+b.length<=9223372036854775807)
def wcp{α:Type}(ys xs:List α):List α:=ys.take xs.length++xs.drop ys.length
def za9{α:Type}(xs ys:List α):Int:=(min xs.length ys.length:Nat)
def wmx(a b:Int):Int:=max a b
def wmi(a b:Int):Int:=min a b
def oMM(mx:Bool):List Int->Int->Int
 |[],n=>n
 |m::l,n=>oMM mx l (match mx with|true=>wmx n m|false=>wmi n m)
def wbs(l:List Int):List UInt8:=l.map fun(n:Int)=>UInt8.ofNat n.toNat
def wnq(a b:Nat):Bool:=i_ a b
def wB{α β:Type}(x:Option α)(f:α->Option β):Option β:=P_ x f
def wG{α:Type}(b:Bool)(x:Option α):Option α:=ci b x
def wI{α:Type}(l:List α)(i:Int):Option α:=nv l i
def wL{σ τ:Type}(n:Nat)(f:σ->Option (σ⊕τ))(s:σ):Option τ:=gr n f s
def wK(O:bi)(f:FuncId)(a:List V)(o:List Ob)(sh:Sh):Option (HL sh.sl):=gm O f a o sh
def wP(O:bi)(f:FuncId)(a:List V)(o:List Ob)(sh:Sh):Option (Option (HL sh.sl)):=pX O f a o sh
def wO{α R:Type}(o:Option α)(p:Option R)(k:α->Option R):Option R:=zbM o p k
def wR{sh:Sh}(c:HL sh.sl):Option (Option S):=pL sh c
def wS{α β γ:Type}(f:α->γ)(g:β->γ)(x:α⊕β):γ:=Sum.elim f g x
def wkg(a b:Ty)(l:List (a.den×b.den))(x:a.den):Option b.den:=dA a b l x
def wks(a b:Ty)(l:List (a.den×b.den))(x:a.den)(y:b.den):List (a.den×b.den):=fh a b l x y
def ww(k:IntKind)(n:Int):Int:=k.wrap n
def wrw(t:Ty)(n:Nat)(v:V)(i:Int):Option t.den:=rowAt t n v i
def wqD(t:Ty)(x y:t.den):Bool:=gI t x y
def wbt(k:IntKind)(o:BinOp)(a b:Int):Int:=lE k o a b
def wz(t:Ty):t.den:=t.zero
def wbl(a b:List UInt8):Bool:=Op.bytesLess a b
def w1{α β:Type}(x:α×β):α:=x.1
def w2{α β:Type}(x:α×β):β:=x.2
def Hb(x:Rx):Nh.den:=x.out
def Zl{α:Type}{x:α}:α:=x
def wch(n:Nat):UInt8:=UInt8.ofNat n
def wis{α:Type}(o:Option α):Bool:=o.isSome
def wgd{α:Type}(o:Option α)(d:α):α:=o.getD d
attribute [irreducible] wc wlt wle wgt wge weq wne za8 wbq wsq wn wo zcc wx za7 Xy zba zbb zbc zbd zbe Ba wln wi wt w8 wE Xx wap wtd Zm Xw BB wms wsl wss wfl wix wml wst wcp za9 wmx wmi wbs wnq wB wG wI wL wK wP wO wR wS wkg wks ww wrw wqD wbt wz wbl w1 w2 Hb Zl wch wis wgd
def zcN(t:Ty):t.den->t.den->Bool:=match t with
 | .int _=>λx y=>weq x y
 |t=>λx y=>wqD t x y
def oA1:V->V
 | .d t x=>.d t (@Zl _ x)
 | .nil t=>.nil t
 | .dp t x=>.dp t (@Zl _ x)
 | .full t x=>.full t (@Zl _ x)
 | .HK f cs=>.HK f (cs.map λc=>⟨c.1, @Zl _ c.2⟩)
 |v=>v
def oA:V->V
 | .agg vs=>.agg (vs.map oA1)
 | .dP vs=>.dP (vs.map oA1)
 |v=>oA1 v
def oAO:Ob->Ob
 | .box t cs=>.box t (cs.map oA)
 | .vec t u xs=>.vec t u (@Zl _ xs)
 | .map a b c d e=>.map a b c d (@Zl _ e)
 | .tree a b c d e=>.tree a b c (@Zl _ d) e
 |o=>o
def ER:(t:Ty)->(off:Nat)->(u:Ty)->t.den->Option u.den
 | .pair a b,off,u,x=>bif (decide (Ty.pair a b=u)&&i_ off 0)then bE (.pair a b) u x else bif J_ (off+1) a.sz then ER a off u (w1 x)else ER b (off - a.sz) u (w2 x)
 | .rx,off,u,x=>match off with
  |0=>bif decide (u= .rx)then bE .rx u x else bE tI u (w1 (Hb x))
  |1=>bE tI u (w1 (w2 (Hb x)))
  |2=>bE tI u (w1 (w2 (w2 (Hb x))))
  |_=>bE (.list .rx) u (w1 (w2 (w2 (w2 (Hb x)))))
 |t,_,u,x=>bE t u x
def Wc:(t:Ty)->(off:Nat)->(u:Ty)->t.den->u.den->Option t.den
 | .pair a b,off,u,x,y=>bif (decide (Ty.pair a b=u)&&i_ off 0)then bE u (.pair a b) y else bif J_ (off+1) a.sz then(match Wc a off u (w1 x) y with|some z=>some (z,w2 x)|none=>none)else(match Wc b (off - a.sz) u (w2 x) y with|some z=>some (w1 x,z)|none=>none)
 |t,_,u,_,y=>bE u t y
def JY:(t:Ty)->t.den->List V
 | .unit,_=>[]
 | .pair a b,x=>JY a (w1 x)++JY b (w2 x)
 | .rx,x=>[.d tI (w1 (Hb x)),.d tI (w1 (w2 (Hb x))),.d tI (w1 (w2 (w2 (Hb x)))),.d (.list .rx) (w1 (w2 (w2 (w2 (Hb x)))))]
 |t,x=>[.d t x]
def O6:V->List V
 | .d t x=>JY t x
 | .agg vs=>vs
 |v=>[v]
def zbF(t:Ty)(y:t.den):Nat->List V->Int->Option (List V)
 |n+1,vs,m=>match Oe t vs with
  |some (x,l)=>match zbF t y n l (Xy m 1)with
   |some r=>some (JY t (wc (za8 m) y x)++r)
   |none=>none
  |none=>none
 |0,vs,_=>some vs
noncomputable def oN{R:Type}(n:Nat)(k:Nat->R):R:=Nat.rec (motive:=λ_=>R) (k 0) (λm _=>k (Nat.succ m)) n
noncomputable def oL{α R:Type}(f:α->(α->R)->R)(l:List α):(List α->R)->R:=List.rec (motive:=λ_=>(List α->R)->R) (λk=>k []) (λx _ a k=>f x λx=>a λl=>k (x::l)) l
def oV1{R:Type}(v:V)(k:V->R):R:=match v with
 | .d t x=>k (.d t x)
 | .nil t=>k (.nil t)
 | .agg vs=>k (.agg vs)
 | .dP vs=>k (.dP vs)
 | .sl i=>k (.sl i)
 | .ptr i o=>k (.ptr i o)
 | .i6 i j o=>k (.i6 i j o)
 | .dp t x=>k (.dp t x)
 | .kT f g=>k (.kT f g)
 | .HK f cs=>k (.HK f cs)
 | .mp i=>k (.mp i)
 | .full t x=>k (.full t x)
 | .KG a b c d e=>k (.KG a b c d e)
 | .raw v=>k (.raw v)
 | .any=>k .any
 | .KF=>k .KF
 | .lit a b c=>k (.lit a b c)
noncomputable def oV{R:Type}(v:V)(k:V->R):R:=match v with
 | .agg vs=>oL oV1 vs λvs=>k (.agg vs)
 | .dP vs=>oL oV1 vs λvs=>k (.dP vs)
 |v=>oV1 v k
noncomputable def oO{R:Type}(o:Ob)(k:Ob->R):R:=match o with
 | .gone=>k .gone
 | .free=>k .free
 | .box t cs=>oL oV cs λcs=>k (.box t cs)
 | .vec t u xs=>k (.vec t u xs)
 | .map a b c d e=>k (.map a b c d e)
 | .tree a b c d e=>k (.tree a b c d e)
noncomputable def oH{R:Type}(hp:List Ob)(k:List Ob->R):R:=oL oO hp k
noncomputable def oS{R:Type}(s:S)(k:S->R):R:=match s with
 |⟨fr,hp⟩=>oL (λx k=>match x with|(a,v)=>oV v λv=>k (a,v)) fr λfr=>oH hp λhp=>k ⟨fr,hp⟩
noncomputable def oU{R:Type}:(sl:List Slot)->HL sl->S->(S->R)->R
 |[],_,s,κ=>oS s κ
 | .iE id e k t j kid::l,c,s,κ=>oH (setAt s.hp id (.tree e k t (w1 (w1 c)) (some (wt (w2 (w1 c)),j,.sl kid)))) λhp=>oU l (w2 c) ⟨s.fr,hp⟩ κ
 |x::l,c,s,κ=>oH (unpack [x] (w1 c,()) s).hp λhp=>oU l (w2 c) ⟨(unpack [x] (w1 c,()) s).fr,hp⟩ κ
section
variable {R:Type}
noncomputable def oPk(s:S):(sl:List Slot)->Option (HL sl)
 |[]=>some ()
 | .iE id _ _ t _ _::l=>match s.hp[id]?,oPk s l with
  |some (.tree _ _ u xs (some (i,_,_))),some r=>match bE (.list u) (.list t) xs with
   |some xs=>some ((xs,wi i),r)
   |none=>none
  |_,_=>none
 |x::l=>match R0 s x,oPk s l with
  |some c,some r=>some (c,r)
  |_,_=>none
noncomputable def oP(sh:Sh)(s:S):Option (HL sh.sl):=oPk s sh.sl
noncomputable def oI:(xs:List (Nat×Sh))->Nat->S->Option (XT xs)
 |[],_,_=>none
 |[(k,sh)],key,s=>bif i_ k key then oP sh s else none
 |(k,sh)::a::l,key,s=>bif i_ k key then(match oP sh s with|some c=>some (.inl c)|none=>none)else(match oI (a::l) key s with|some c=>some (.inr c)|none=>none)
noncomputable def oD(s:S)(κ:Nat->S->Option R):(xs:List (Nat×Sh))->XT xs->Option R
 |[],_=>none
 |[(k,sh)],c=>oU sh.sl c (sh.sW s) (κ k)
 |(k,sh)::a::l,c=>wS (λc=>oU sh.sl c (sh.sW s) (κ k)) (λc=>oD s κ (a::l) c) c
noncomputable def oG(s:S)(x:X):Option V:=match x with
 | .tm k=>FO s.fr k
 | .k .str x=>some (.d .str (x.map λc=>wch c.toNat))
 |x=>s.get x
def zcx(op:BinOp)(k:IntKind)(a b:Int)(κ:V->Option R):Option R:=match op with
 | .shl=>wG (wle 0 b) (κ (.d (.int k) (ww k (zbd k a b))))
 | .shr=>wG (wle 0 b) (κ (.d (.int k) (zbe k a b)))
 | .add=>κ (.d (.int k) (ww k (za7 a b)))
 | .sub=>κ (.d (.int k) (ww k (Xy a b)))
 | .mul=>κ (.d (.int k) (ww k (zba a b)))
 | .quo=>wG (wne b 0) (κ (.d (.int k) (ww k (zbb a b))))
 | .rem=>wG (wne b 0) (κ (.d (.int k) (zbc a b)))
 | .and=>κ (.d (.int k) (wbt k .and a b))
 | .or=>κ (.d (.int k) (wbt k .or a b))
 | .xor=>κ (.d (.int k) (wbt k .xor a b))
 | .andNot=>κ (.d (.int k) (wbt k .andNot a b))
 | .eql=>κ (.d .bool (weq a b))
 | .neq=>κ (.d .bool (wne a b))
 | .lss=>κ (.d .bool (wlt a b))
 | .leq=>κ (.d .bool (wle a b))
 | .gtr=>κ (.d .bool (wgt a b))
 | .geq=>κ (.d .bool (wge a b))
def zbC(op:BinOp)(a b:List UInt8)(κ:V->Option R):Option R:=match op with
 | .add=>wG (wst a b) (κ (.d .str (wap a b)))
 | .eql=>κ (.d .bool (wsq a b))
 | .neq=>κ (.d .bool (wn (wsq a b)))
 | .lss=>κ (.d .bool (wbl a b))
 | .leq=>κ (.d .bool (wo (wbl a b) (wsq a b)))
 | .gtr=>κ (.d .bool (wn (wo (wbl a b) (wsq a b))))
 | .geq=>κ (.d .bool (wn (wbl a b)))
 |_=>none
noncomputable def EQ(s:S)(x:Option X)(a:Nat)(κ:Nat->Option R):Option R:=match x with
 |none=>κ a
 |some x=>intOf (oG s x) λn=>wG (wle 0 n) (κ (wt n))
def zbE(hp:List Ob)(t:Ty)(v:Option V)(κ:V->Option R):Option R:=match v with
 |some (.dp u x)=>match bE u t x with
  |some x=>κ (.d t x)
  |none=>none
 |some (.ptr id off)=>match hp[id]? with
  |some (.box _ cs)=>κ (whole t ((cs.drop off).take t.sz))
  |_=>none
 |some (.KG id off n u m)=>match hp[id]? with
  |some (.box _ cs)=>wB (wrw t n (.agg ((cs.drop off).take (n*u.sz))) m) λx=>κ (.d t x)
  |_=>none
 |some (.i6 id i off)=>match hp[id]? with
  |some (.vec _ u xs)=>wB (wE xs i) λx=>(match ER u off t x with
   |some y=>κ (.d t y)
   |none=>none)
  |some (.tree _ k u xs hole)=>bif k.mh off t.sz then wB (wE xs i) λx=>(match ER u off t x with
   |some y=>κ (.d t y)
   |none=>none)else(match hole with
    |some (a,_,v)=>wB (wE xs i) λ_=>wG (wnq a i) (κ v)
    |none=>none)
  |_=>none
 |_=>none
def zaE(s:S)(t:Ty)(a:Option V)(v:Option V)(κ:S->Option R):Option R:=match a,v with
 |some (.ptr id off),some v=>match s.hp[id]? with
  |some (.box tid cs)=>κ ⟨s.fr,setAt s.hp id (.box tid (fP cs off (O6 v)))⟩
  |_=>none
 |some (.KG id off n u m),some v=>match s.hp[id]?,cA t v with
  |some (.box tid cs),some y=>match zbF t y n ((cs.drop off).take (n*u.sz)) m with
   |some vs=>wG (wix n m) (κ ⟨s.fr,setAt s.hp id (.box tid (fP cs off vs))⟩)
   |none=>none
  |_,_=>none
 |some (.i6 id i off),some v=>match s.hp[id]?,cA t v with
  |some (.vec e u xs),some y=>wB (wE xs i) λx=>(match Wc u off t x y with
   |some z=>κ ⟨s.fr,setAt s.hp id (.vec e u (Xx xs i z))⟩
   |none=>none)
  |some (.tree e k u xs hole),some y=>wB (wE xs i) λx=>(match Wc u off t x y with
   |some z=>κ ⟨s.fr,setAt s.hp id (.tree e k u (Xx xs i z) hole)⟩
   |none=>none)
  |some (.tree e k u xs (some (b,c,_))),none=>(match v with
   | .sl kid=>wB (wE xs i) λ_=>wG (wnq b i) (κ ⟨s.fr,setAt s.hp id (.tree e k u xs (some (b,c,.sl kid)))⟩)
   |_=>none)
  |_,_=>none
 |_,_=>none
noncomputable def V9(s:S)(d:Option Nat)(B:List Nat)(sh:Sh)(κ:S->Option R)(c:HL sh.sl):Option R:=
 oU sh.sl c (sh.sW ⟨[],[]⟩) λr=>oS ((s.back B r.hp).aF d (ju (V.eV (Hr B s.hp.length)) (res sh.n r.fr))) κ
noncomputable def Wb(jv:Bool)(O:bi)(s:S)(d:Option Nat)(B:List Nat)(f:FuncId)(ars:List V)(sh:Sh)(κ kp:S->Option R):Option R:=match MM s B with
 |some os=>match jv with
  |false=>wB (wK O f (ars.map (ju (V.eV (Es B)))) (os.map (rz (V.eV (Es B)))) sh) (V9 s d B sh κ)
  |true=>wB (wP O f (ars.map (ju (V.eV (Es B)))) (os.map (rz (V.eV (Es B)))) sh) λo=>wO o (kp (s.back B (os.map λ_=>.gone))) (V9 s d B sh κ)
 |none=>none
noncomputable def Wa(s:S)(cs:List V):List (Nat×Nat×X)->(List V->Option R)->Option R
 |[],κ=>κ cs
 |(off,_,x)::l,κ=>match oG s x with
  |some v=>Wa s (fP cs off (O6 v)) l κ
  |none=>none
noncomputable def oMk(O:bi)(s:S)(op:lz)(κ:Ob->(Nat->V)->Option R):Option R:=match op with
 | .alloc tid zero=>κ (.box tid zero) λn=>.ptr n 0
 | .box tid x=>match oG s x with
  |some v=>κ (.box tid (O6 v)) λn=>.ptr n 0
  |none=>none
 | .bQ true tid t _ parts=>aX.listT s t parts λxs=>κ (.vec tid t xs) .sl
 | .cU tid t bytes l c=>intOf (oG s l) λl=>intOf (oG s c) λc=>wG (wms l c bytes) (κ (.vec tid t (Zm l (wz t))) .sl)
 | .append tid t bytes x y=>iV s.hp t (oG s y) λys=>match oG s x with
  |some (.nil _)=>wG (BB ys bytes) (κ (.vec tid t ys) .sl)
  |some (.full _ _)=>wG (BB ys bytes) (κ (.vec tid t ys) .sl)
  |_=>none
 | .ik k e a b=>κ (.map k e a b []) .mp
 | .d6 tid k u bytes l c=>intOf (oG s l) λl=>intOf (oG s c) λc=>wG (wms l c bytes) (κ (.tree tid k (.list u) (Zm l []) none) .sl)
 |_=>none
noncomputable def oOp(O:bi)(d:Option Nat)(op:lz)(s:S)(κ kp:S->Option R):Option R:=match op with
 | .mv x=>match oG s x with
  |some v=>κ (s.aF d v)
  |none=>none
 | .pick c a b=>match oG s c,oG s a,oG s b with
  |some (.d .bool c),some (.d t x),some (.d u y)=>match bE u t y with
   |some y=>κ (s.aF d (.d t (wc c x y)))
   |none=>none
  |some (.d .bool c),some (.raw _),some (.d u y)=>wc c none (κ (s.aF d (.d u y)))
  |some (.d .bool c),some (.d t x),some (.raw _)=>wc c (κ (s.aF d (.d t x))) none
  |_,_,_=>none
 | .bin op x y=>match oG s x,oG s y with
  |some (.d (.int k) a),some (.d (.int _) b)=>zcx op k a b λv=>κ (s.aF d v)
  |some (.d .str a),some (.d .str b)=>zbC op a b λv=>κ (s.aF d v)
  |_,_=>none
 | .Gf neg x y=>match oG s x,oG s y with
  |some (.d .bool a),some (.d .bool b)=>κ (s.aF d (.d .bool (wx neg (wbq a b))))
  |_,_=>none
 | .sy neg _ t x y=>match oG s x,oG s y with
  |some v,some u=>match cA t v,cA t u with
   |some a,some b=>κ (s.aF d (.d .bool (wx neg (wqD t a b))))
   |_,_=>none
  |_,_=>none
 | .un op x=>match op,oG s x with
  | .not,some (.d .bool a)=>κ (s.aF d (.d .bool (wn a)))
  | .neg,some (.d (.int k) a)=>κ (s.aF d (.d (.int k) (ww k (Xy 0 a))))
  |_,_=>none
 | .len _ x=>match oG s x with
  |some (.d .str a)=>κ (s.aF d (.d (.int .i64) (wln a)))
  |some (.d (.list _) a)=>κ (s.aF d (.d (.int .i64) (wln a)))
  |some (.nil _)=>κ (s.aF d (.d (.int .i64) 0))
  |some (.sl id)=>match s.hp[id]? with
   |some (.vec _ _ xs)=>κ (s.aF d (.d (.int .i64) (wln xs)))
   |some (.tree _ _ _ xs _)=>κ (s.aF d (.d (.int .i64) (wln xs)))
   |_=>none
  |_=>none
 | .ol _ _ x=>match oG s x with
  |some (.mp id)=>match s.hp[id]? with
   |some (.map _ _ _ _ kvs)=>κ (s.aF d (.d (.int .i64) (wln kvs)))
   |_=>none
  |_=>none
 | .ql x i=>match oG s x with
  |some (.d .str a)=>intOf (oG s i) λn=>wB (wI a n) λc=>κ (s.aF d (.d (.int .u8) (w8 c)))
  |_=>none
 | .pB n t x i=>match oG s x with
  |some v=>intOf (oG s i) λm=>wB (wrw t n v m) λc=>κ (s.aF d (.d t c))
  |none=>none
 | .qj t x i=>match oG s x with
  |some (.sl id)=>match s.hp[id]? with
   |some (.vec _ _ xs)=>intOf (oG s i) λn=>wB (wI xs n) λ_=>κ (s.aF d (.i6 id (wt n) 0))
   |some (.tree _ _ _ xs _)=>intOf (oG s i) λn=>wB (wI xs n) λ_=>κ (s.aF d (.i6 id (wt n) 0))
   |_=>none
  |some (.d (.list u) xs)=>match bE (.list u) (.list t) xs with
   |some xs=>intOf (oG s i) λn=>wB (wI xs n) λx=>κ (s.aF d (.dp t x))
   |none=>none
  |_=>none
 | .qk n t x i=>match oG s x,i with
  |some (.ptr id off),.k (.int _) m=>wG (wix n m) (κ (s.aF d (.ptr id (off+m.toNat*t.sz))))
  |some (.ptr id off),i=>intOf (oG s i) λm=>wG (wix n m) (κ (s.aF d (.KG id off n t m)))
  |some (.dp u y),i=>intOf (oG s i) λm=>wB (wrw t n (.d u y) m) λc=>κ (s.aF d (.dp t c))
  |_,_=>none
 | .load t x=>zbE s.hp t (oG s x) λv=>κ (s.aF d v)
 | .store t x v=>zaE s t (oG s x) (oG s v) κ
 | .bQ false _ t _ parts=>aX.listT s t parts λxs=>κ (s.aF d (.d (.list t) xs))
 | .append tid t bytes x y=>iV s.hp t (oG s y) λys=>match oG s x with
  |some (.sl id)=>match s.hp[id]? with
   |some (.vec e u xs)=>match bE (.list u) (.list t) xs with
    |some xs=>wG (Xw xs ys bytes) (oS ((s.fD id (.vec e t (wap xs ys))).aF d (.sl id)) κ)
    |none=>none
   |_=>none
  |some (.nil _)=>wG (BB ys bytes) (κ (S.aF ⟨s.fr,s.hp++[.vec tid t ys]⟩ d (.sl s.hp.length)))
  |some (.full _ _)=>wG (BB ys bytes) (κ (S.aF ⟨s.fr,s.hp++[.vec tid t ys]⟩ d (.sl s.hp.length)))
  |_=>none
 | .Im full t x lo g mx=>match oG s x with
  |some (.sl id)=>match s.hp[id]? with
   |some (.tree _ _ _ xs _)=>EQ s lo 0 λl=>EQ s g (Ba xs) λh=>EQ s mx (Ba xs) λm=>
    wG (wsl l h m (Ba xs)) (wG (wnq h l) (κ (s.aF d (.d (.list t) []))))
   |some (.vec _ u xs)=>match bE (.list u) (.list t) xs with
    |some xs=>EQ s lo 0 λl=>EQ s g (Ba xs) λh=>EQ s mx (Ba xs) λm=>
     wG (wsl l h m (Ba xs)) (match full with
      |false=>κ (s.aF d (.d (.list t) (wtd xs h l)))
      |true=>wG (wfl mx.isSome h m) (κ (s.aF d (.full t (wtd xs h l)))))
    |none=>none
   |_=>none
  |v=>iV s.hp t v λxs=>EQ s lo 0 λl=>EQ s g (Ba xs) λh=>EQ s mx (Ba xs) λm=>
   wG (wsl l h m (Ba xs)) (match full with
    |false=>κ (s.aF d (.d (.list t) (wtd xs h l)))
    |true=>wG (wfl mx.isSome h m) (κ (s.aF d (.full t (wtd xs h l)))))
 | .qw x lo g=>match oG s x with
  |some (.d .str a)=>EQ s lo 0 λl=>EQ s g (Ba a) λh=>wG (wss l h (Ba a)) (κ (s.aF d (.d .str (wtd a h l))))
  |_=>none
 | .call bor f args sh=>match Ho s bor args with
  |some ars=>wB (wK O f ars [] sh) λc=>oU sh.sl c (sh.sW ⟨[],[]⟩) λr=>κ (s.aF d (res sh.n r.fr))
  |none=>none
 | .gF jv bor B f args sh=>match kQ s bor B args with
  |some ars=>Wb jv O s d B f ars sh κ kp
  |none=>none
 | .fz jv bor B num x args sh=>match oG s x,kQ s bor B args with
  |some (.kT _ ids),some ars=>Wb jv O s d B num (ars++ids.map λi=>.ptr i 0) sh κ kp
  |some (.HK _ cs),some ars=>Wb jv O s d B num (ars++cs.map λc=>.dp c.1 c.2) sh κ kp
  |_,_=>none
 | .hZ bor num x args sh=>match oG s x,kQ s bor [] args with
  |some (.HK _ cs),some ars=>wB (wK O num (ars++cs.map λc=>.dp c.1 c.2) [] sh) λc=>oU sh.sl c (sh.sW ⟨[],[]⟩) λr=>κ (s.aF d (res sh.n r.fr))
  |_,_=>none
 | .Gb x=>iV s.hp (.int .u8) (oG s x) λl=>κ (s.aF d (.d .str (wbs l)))
 | .gY _ _ a b m x v=>match oG s m,oG s x,oG s v with
  |some (.mp id),some u,some w=>match s.hp[id]?,cA a u,cA b w with
   |some (.map A p j b' kvs),some y,some z=>match bE (.list (.pair j b')) (.list (.pair a b)) kvs with
    |some kvs=>wG (wml kvs) (κ ⟨s.fr,setAt s.hp id (.map A p a b (wks a b kvs y z))⟩)
    |none=>none
   |_,_,_=>none
  |_,_,_=>none
 | .copy _ t x y=>match oG s x with
  |some (.sl id)=>iV s.hp t (oG s y) λys=>match s.hp[id]? with
   |some (.vec e u xs)=>match bE (.list u) (.list t) xs with
    |some xs=>κ (S.aF ⟨s.fr,setAt s.hp id (.vec e t (wcp ys xs))⟩ d (.d (.int .i64) (za9 xs ys)))
    |none=>none
   |_=>none
  |_=>none
 | .mb mx k x ys=>match oG s x with
  |some (.d (.int _) n)=>aX.intsOf s k ys λC=>κ (s.aF d (.d (.int k) (oMM mx C n)))
  |_=>none
 | .pi _ t bytes x y=>iV s.hp t (oG s y) λys=>match oG s x with
  |some (.nil _)=>wG (BB ys bytes) (κ (s.aF d (.d (.list t) ys)))
  |some (.full u xs)=>match bE (.list u) (.list t) xs with
   |some xs=>wG (Xw xs ys bytes) (κ (s.aF d (.d (.list t) (wap xs ys))))
   |none=>none
  |_=>none
 | .pj tid k t bytes x y=>match oG s y with
  |some (.lit _ u ys)=>match bE (.list u) (.list t) ys with
   |some ys=>match oG s x with
    |some (.sl id)=>match s.hp[id]? with
     |some (.tree e _ D xs none)=>match bE (.list D) (.list t) xs with
      |some xs=>wG (Xw xs ys bytes) (oS ((s.fD id (.tree e k t (wap xs ys) none)).aF d (.sl id)) κ)
      |none=>none
     |_=>none
    |some (.nil _)=>wG (BB ys bytes) (κ (S.aF ⟨s.fr,s.hp++[.tree tid k t ys none]⟩ d (.sl s.hp.length)))
    |_=>none
   |none=>none
  |_=>none
 | .uj k op=>oMk O s op λo v=>κ (S.aF ⟨s.fr,setAt s.hp k o⟩ d (v k))
 | .cU tid t bytes l c=>oMk O s (.cU tid t bytes l c) λo v=>κ (S.aF ⟨s.fr,s.hp++[o]⟩ d (v s.hp.length))
 | .d6 tid k u bytes l c=>oMk O s (.d6 tid k u bytes l c) λo v=>κ (S.aF ⟨s.fr,s.hp++[o]⟩ d (v s.hp.length))
 | .pY k x=>match oG s x with
  |some (.d (.int _) n)=>κ (s.aF d (.d (.int k) (ww k n)))
  |_=>none
 | .lookup _ _ ok a b m x=>match oG s m,oG s x with
  |some (.mp id),some v=>match s.hp[id]?,cA a v with
   |some (.map _ _ j b' kvs),some y=>match bE (.list (.pair j b')) (.list (.pair a b)) kvs with
    |some kvs=>(match ok with
     |true=>κ (s.aF d (.dP [.d b (wgd (wkg a b kvs y) (wz b)),.d .bool (wis (wkg a b kvs y))]))
     |false=>κ (s.aF d (.d b (wgd (wkg a b kvs y) (wz b)))))
    |none=>none
   |_,_=>none
  |_,_=>none
 | .oj off t x=>match oG s x with
  |some (.dp u y)=>match ER u off t y with
   |some z=>κ (s.aF d (.dp t z))
   |none=>none
  |some (.ptr id o)=>κ (s.aF d (.ptr id (o+off)))
  |some (.i6 id i o)=>κ (s.aF d (.i6 id i (o+off)))
  |_=>none
 | .HJ off t x=>match oG s x with
  |some (.d u y)=>match ER u off t y with
   |some z=>κ (s.aF d (.d t z))
   |none=>none
  |some (.agg vs)=>κ (s.aF d (whole t ((vs.drop off).take t.sz)))
  |_=>none
 | .box tid x=>oMk O s (.box tid x) λo v=>κ (S.aF ⟨s.fr,s.hp++[o]⟩ d (v s.hp.length))
 | .build zero parts=>Wa s zero parts λcs=>κ (s.aF d (.agg cs))
 |op=>aX O d op s κ kp
noncomputable def zcy(hp:List Ob)(l:List Nat):(List Ob->Option R)->Option R:=List.rec (motive:=λ_=>(List Ob->Option R)->Option R) (λk=>k []) (λi _ a k=>match hp[i]? with|some o=>a λos=>k (o::os)|none=>none) l
noncomputable def oFr(fr:List (Nat×V))(l:List Nat):(List (Nat×V)->Option R)->Option R:=List.rec (motive:=λ_=>(List (Nat×V)->Option R)->Option R) (λk=>k []) (λi _ a k=>match FO fr i with|some v=>a λos=>k ((i,v)::os)|none=>none) l
noncomputable def zcw(a:BE)(s:S)(κ:S->Option R):Option R:=match a with
 | .sel ids ks=>zcy s.hp ids λos=>oFr s.fr ks λfr=>oS ⟨fr.map λx=>(x.1,ju (V.eV (Es ids)) x.2),os.map (rz (V.eV (Es ids)))⟩ κ
 | .focus id k j u=>match lk s.fr k,s.hp[id]? with
  |some (.d (.int _) n),some (.tree e kk t xs none)=>match kk.at j with
   |some (b,_,c)=>wG (wle 0 n) (wB (wE xs (wt n)) λx=>(match ER t j (.list u) x with
    |some L=>oS ⟨s.fr,setAt s.hp id (.tree e kk t xs (some (wt n,j,.sl s.hp.length)))++[rh b c u L]⟩ κ
    |none=>none))
   |none=>none
  |_,_=>none
 | .close id=>match s.hp[id]? with
  |some (.tree e kk t xs (some (i,j,.sl kid)))=>match kk.at j,s.hp[kid]?,Vf t j with
   |some (b,_,c),some o,some u=>match yx b c u o with
    |some L=>wB (wE xs i) λx=>(match Wc t j (.list u) x L with
     |some y=>oS (let s':=s.fD kid .gone;⟨s'.fr,setAt s'.hp id (.tree e kk t (Xx xs i y) none)⟩) κ
     |none=>none)
    |none=>none
   |_,_,_=>none
  |_=>none
 |a=>match lZ a s with
  |some s=>oS s κ
  |none=>none
noncomputable def V8(l:List BE):S->(S->Option R)->Option R:=List.rec (motive:=λ_=>S->(S->Option R)->Option R) (λs κ=>κ s) (λa _ b s κ=>zcw a s λs=>b s κ) l
end
noncomputable def oR(O:bi):(R:Type)->RC->S->(S->Option R)->(S->Option R)->Option R
 |_,.nil,s,κ,_=>oS s κ
 |R,.op d o rest,s,κ,kp=>oOp O d o s (λs'=>oR O R rest s' κ kp) kp
 |R,.lZ l rest,s,κ,kp=>V8 l s λs=>oR O R rest s κ kp
 |R,.gb t want dX ty r alt dst rest,s,κ,kp=>match FO s.fr t,s.lL alt with
  |some (.d .bool b),some a=>match cA ty a with
   |some alt=>wB (match want with
    |true=>wc b (oR O ty.den dX s (λs'=>match s'.lL r with|some v=>cA ty v|none=>none) (λ_=>none)) (some alt)
    |false=>wc b (some alt) (oR O ty.den dX s (λs'=>match s'.lL r with|some v=>cA ty v|none=>none) (λ_=>none)))
    λc=>oR O R rest (s.put dst (.d ty c)) κ kp
   |none=>none
  |_,_=>none
def zbG{R:Type}(k:Option R):V->V->Option R
 | .d t x,.d u y=>(match bE u t y with
  |some z=>wc (zcN t x z) k none
  |none=>none)
 |_,_=>k
def oRe{R:Type}(T us:List Nat)(s':S)(k:Option R):List qI->Option R
 |[]=>k
 |a::A=>bif !kJ us a.r.i||T.all (λt=> !kJ a.r.F t)then oRe T us s' k A else(match a.ld with
  |some (t,id,off,v)=>(match Fb s'.hp t id off with
   |some b=>zbG (oRe T us s' k A) v b
   |none=>none)
  |none=>none)
def zaC{R:Type}(A:List qI)(s s':S)(p:PO)(k:Option R):Option R:=bif p.b then k else oRe (FE s p.rd p.kY) p.us s' k A
noncomputable def zaD{R:Type}(r:qI)(k:qI->R):R:=match r with
 |⟨⟨i,d,rd,s,F,G⟩,ld⟩=>oL oN F λF=>match ld with
  |none=>k ⟨⟨i,d,rd,s,F,G⟩,none⟩
  |some (a,b,c,v)=>oV v λv=>k ⟨⟨i,d,rd,s,F,G⟩,some (a,b,c,v)⟩
def oKn:List (Nat×Bool)->Nat->Option Bool
 |[],_=>none
 |(k,b)::l,t=>bif i_ k t then some b else oKn l t
noncomputable def oPs{R:Type}(O:bi)(l:List PO):List (Nat×Bool)->List qI->S->(S->Option R)->(S->Option R)->Option R:=List.rec (motive:=λ_=>List (Nat×Bool)->List qI->S->(S->Option R)->(S->Option R)->Option R) (λ_ _ s κ _=>κ s) (λp _ a K A s κ kp=>
 match p.g with
 |none=>oOp O p.d p.o s (λs'=>oS s' λs'=>zaC A s s' p (oL zaD (vu A s s' p) λA=>a K A s' κ kp)) kp
 |some (t,want)=>match FO s.fr t with
  |some (.d .bool b)=>c want (oKn K t) b
   (oOp O p.d p.o (s.put t (.d .bool want)) (λs'=>oS s' λs'=>zaC A (s.put t (.d .bool want)) s' p (oL zaD (vu A (s.put t (.d .bool want)) s' p) λA=>a ((t,want)::K) A s' κ kp)) kp)
   (zaC A (s.put t (.d .bool (!want))) ((s.put t (.d .bool (!want))).aF p.d (.raw Go.undef)) p (oL zaD (vu A (s.put t (.d .bool (!want))) ((s.put t (.d .bool (!want))).aF p.d (.raw Go.undef)) p) λA=>a ((t,!want)::K) A ((s.put t (.d .bool (!want))).aF p.d (.raw Go.undef)) κ kp))
  |_=>none) l
where
 c (want:Bool) (k:Option Bool) (b:Bool) (x y:Option R):Option R:=match k with
  |none=>wc (wbq want b) x y
  |some true=>(match want with|true=>x|false=>y)
  |some false=>(match want with|true=>y|false=>x)
noncomputable def oLs{R:Type}(O:bi)(l:List PO):List (Nat×Bool)->S->(S->Option R)->(S->Option R)->Option R:=List.rec (motive:=λ_=>List (Nat×Bool)->S->(S->Option R)->(S->Option R)->Option R) (λ_ s κ _=>κ s) (λp _ a K s κ kp=>
 match p.g with
 |none=>oOp O p.d p.o s (λs'=>oS s' λs'=>a K s' κ kp) kp
 |some (t,want)=>match FO s.fr t with
  |some (.d .bool b)=>(match want with
   |true=>c (oKn K t) b (oOp O p.d p.o (s.put t (.d .bool true)) (λs'=>oS s' λs'=>a ((t,true)::K) s' κ kp) kp) (a ((t,false)::K) ((s.put t (.d .bool false)).aF p.d (.raw Go.undef)) κ kp)
   |false=>c (oKn K t) b (a ((t,true)::K) ((s.put t (.d .bool true)).aF p.d (.raw Go.undef)) κ kp) (oOp O p.d p.o (s.put t (.d .bool false)) (λs'=>oS s' λs'=>a ((t,false)::K) s' κ kp) kp))
  |_=>none) l
where
 c (k:Option Bool) (b:Bool) (x y:Option R):Option R:=match k with
  |none=>wc b x y
  |some true=>x
  |some false=>y
noncomputable def oC(O:bi)(n:Nat):(R:Type)->TC->S->(kn:S->Option R)->(kx:Nat->S->Option R)->(kr kp:S->Option R)->Option R
 |_,.skip,s,kn,_,_,_=>kn s
 |R,.region ops,s,kn,_,_,kp=>oR O R ops s kn kp
 |R,.draw _ ops _,s,kn,_,_,kp=>oR O R ops s kn kp
 |_,.G3 pre,s,kn,_,_,kp=>oLs O pre [] s kn kp
 |R,.ke r pre tl _,s,kn,_,_,kp=>oPs O pre [] [] ⟨s.fr,s.hp++O_ r .free⟩ (λs=>oR O R tl s kn kp) kp
 |R,.seq a b,s,kn,kx,kr,kp=>oC O n R a s (λs=>oC O n R b s kn kx kr kp) kx kr kp
 |R,.cond x a b,s,kn,kx,kr,kp=>match s.lL x with
  |some (.d .bool t)=>wc t (oC O n R a s kn kx kr kp) (oC O n R b s kn kx kr kp)
  |_=>none
 |R,.block id a,s,kn,kx,kr,kp=>oC O n R a s kn (λi s=>bif i_ i id then kn s else kx i s) kr kp
 |_,.exit id,s,_,kx,_,_=>kx id s
 |_,.ret,s,_,_,kr,_=>kr s
 |R,.lZ l a,s,kn,kx,kr,kp=>V8 l s λs=>oC O n R a s kn kx kr kp
 |R,.cut xs a,s,kn,kx,kr,kp=>wB (oC O n (XT xs) a s (λs=>oI xs 0 s) (λi s=>oI xs (i+3) s) (λs=>oI xs 1 s) (λs=>oI xs 2 s))
  (oD s (λkey s=>match key with|0=>kn s|1=>kr s|2=>kp s|i+3=>kx i s) xs)
 |R,.loop sh xs a,s,kn,kx,kr,kp=>match oP sh s with
  |some c=>wB (wL n (λc=>oU sh.sl c (sh.sW s) λs=>oC O n (HL sh.sl⊕XT xs) a s (λs=>match oP sh s with|some c=>some (.inl c)|none=>none)
   (λi s=>match oI xs (i+3) s with|some c=>some (.inr c)|none=>none) (λs=>match oI xs 1 s with|some c=>some (.inr c)|none=>none) (λs=>match oI xs 2 s with|some c=>some (.inr c)|none=>none)) c)
   (oD s (λkey s=>match key with|0=>kn s|1=>kr s|2=>kp s|i+3=>kx i s) xs)
  |none=>none
 |R,.after a l,s,kn,kx,kr,kp=>oC O n R a s (λs=>V8 l s kn) kx kr kp
noncomputable def zbD(sh:Sh)(r:List RX)(s:S):Option (Option S):=match Fi s r with
 |some vs=>match oP sh ⟨dR 0 vs,s.hp.take sh.sk.hp.length⟩with
  |some x=> @wR sh x
  |none=>none
 |none=>none
noncomputable def oF(sh:Sh)(O:bi)(n:Nat)(c:TF)(ars:List V)(os:List Ob):Option (Option S):=
 oC O n (Option S) c.code ⟨dR 0 (ars.map oA),os.map oAO⟩ (zbD sh c.res) (λ_ _=>none) (zbD sh c.res) (λ_=>some none)
abbrev Dm{α:Type}(_ _:α):Prop:=True
def dmI{α:Type}{a:α}:Dm a a:=trivial
def Fd(tbl:Nat->Option gv)(f:Nat)(sh:Sh)(ars:List V)(os:List Ob)(G:bi->Nat->Option (Option S)):Prop:=∃c,tbl f=some (.code c)/\(i_ os.length c.m&&J_ ars.length c.ntmps)=true/\∀O n,OJ O n c ars os=G O n
def fdZ{tbl:Nat->Option gv}{f:Nat}{c:TF}{sh:Sh}{ars:List V}{os:List Ob}{G:bi->Nat->Option (Option S)}(ht:tbl f=some (.code c):=by exact rfl) (hl:(i_ os.length c.m&&J_ ars.length c.ntmps)=true:=by rfl)
 (hg:∀O n,Dm (oF sh O n c ars os) (G O n):=by
  intro O n;conv=>lhs;reduce
  (try delta w1 w2 Hb)
  (try dsimp only[Int.reduceOfNat,Int.reduceNegSucc,UInt8.reduceOfNat,HL,XT,Slot.ty,Ty.den])
  delta wc wlt wle wgt wge weq wne za8 wbq wsq wn wo zcc wx za7 Xy zba zbb zbc zbd zbe Ba wln wi wt w8 wE Xx wap wtd Zm Xw BB wms wsl wss wfl wix wml wst wcp za9 wmx wmi wbs wnq wB wG wI wL wK wP wO wR wS wkg wks ww wrw wqD wbt wz wbl Zl wch wis wgd;exact dmI)
 (a:∀O n,OJ O n c ars os=G O n:=by intro O n;kernel_rfl):Fd tbl f sh ars os G:=⟨c,ht,hl,a⟩
def Fd.conv{tbl:Nat->Option gv}{f:Nat}{sh:Sh}{ars:List V}{os:List Ob}{G:bi->Nat->Option (Option S)}{Q:Option S->Prop}(hd:Fd tbl f sh ars os G)(h:Wp (λn=>G (rY tbl n) n) Q):Conv tbl f ars os Q:=by obtain⟨c,ht,hl,C⟩:=hd;exact QE ht hl C h
def QB{tbl:Nat->Option gv}{f:Nat}(sh:Sh){ars:List V}{os:List Ob}{G:bi->Nat->Option (Option S)}{Q:Option S->Prop}(h:Wp (λn=>G (rY tbl n) n) Q)(hd:Fd tbl f sh ars os G:=by exact fdZ):Conv tbl f ars os Q:=hd.conv h
def cm{tbl:Nat->Option gv}{f:Nat}{sh:Sh}{ars:List V}{os:List Ob}{x:HL sh.sl}{G:bi->Nat->Option (Option S)}(h:Wp (λn=>G (rY tbl n) n) (·=some (fW sh x))) (hp:yz sh (fW sh x)=some x:=by first|rfl|kernel_rfl) (hd:Fd tbl f sh ars os G:=by exact fdZ):aB tbl f ars os sh x:=na hp (hd.conv h)
def KB{tbl:Nat->Option gv}{f:Nat}{sh:Sh}{ars:List V}{os:List Ob}{R:HL sh.sl->Prop}{G:bi->Nat->Option (Option S)}(h:Wp (λn=>G (rY tbl n) n) (λo=>∃c,o=some (fW sh c)/\R c)) (hp:∀c,yz sh (fW sh c)=some c:=by intro c;first|rfl|kernel_rfl) (hd:Fd tbl f sh ars os G:=by exact fdZ):∃c,R c/\aB tbl f ars os sh c:=s5 hp (hd.conv h)
def crZ{tbl:Nat->Option gv}{f:Nat}{c:TF}{q:Sh}{ars:List V}{os:List Ob}{x:HL q.sl}(ht:tbl f=some (.code c):=by exact rfl)(hp:yz q (fW q x)=some x:=by first|rfl|kernel_rfl) (hl:(i_ os.length c.m&&J_ ars.length c.ntmps)=true:=by rfl) (a:∀O n,OJ O n c ars os=pL q x:=by intro O n;kernel_rfl):aB tbl f ars os q x:=na hp (QE ht hl a (aa rfl))
def bo{P:Program}{f:Nat}{c:TF}(h:(P.funcs[f]?.map λfn=>(fn.ntmps,fn.body.bind (cw P fn.ntmps),fn.results.toList.mapM (ka P),(c.code.er.okB&&c.code.wf P c.m&&c.sh.zp&&J_ c.m c.sh.sk.hp.length)))=some (c.ntmps,some c.code.er.canon,some (c.res.map RX.er),true):=by kernel_rfl):Entry P f c:=by obtain⟨fn,a,h⟩:=d_.1 h;simp only[as_.injEq]at h;exact⟨⟨fn,a,h.1,h.2.1,h.2.2.1⟩,h.2.2.2⟩
def lD.app{P:Program}{l m:List (Nat×gv)}(h1:lD P l)(h2:lD P m):lD P (l++m):=by induction l with|nil=>exact h2|cons x l C=>exact⟨h1.1,C h1.2⟩
abbrev cZ(n:Nat)(c:TF):Nat×gv:=(n,.code c)
end Go.Ev
